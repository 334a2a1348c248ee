/- Layer 8 (tilde): the number of a backup's name: Index of the program, index of the statements. -/
import Derived.Test.YtegiknfnhgjhfaaTilN
namespace Go.Proofs.Ytegiknfnhgjhfaa
open Go.ChangeShapes Go.WideShapes Go.ChangeAt Go.RowKit

open Classical in
/-- The number from 1 to 999999999 whose digits these are, else 0. -/
noncomputable def idxV (l : List UInt8) : Int := if h : ∃ n : Int, 1 ≤ n ∧ n ≤ 999999999 ∧ decI n = l then h.choose else 0
theorem idxV_yes {l : List UInt8} {n : Int} (h1 : 1 ≤ n) (h2 : n ≤ 999999999) (h : decI n = l) : idxV l = n := by
  have he : ∃ n : Int, 1 ≤ n ∧ n ≤ 999999999 ∧ decI n = l := ⟨n, h1, h2, h⟩
  unfold idxV
  rw [dif_pos he]
  have := he.choose_spec
  exact decI_inj ⟨by omega, by omega⟩ ⟨by omega, by omega⟩ (this.2.2.trans h.symm)
theorem idxV_no {l : List UInt8} (h : ∀ n : Int, 1 ≤ n → n ≤ 999999999 → decI n ≠ l) : idxV l = 0 := by
  unfold idxV
  rw [dif_neg]
  rintro ⟨n, h1, h2, h3⟩
  exact h n h1 h2 h3
theorem parse_idx (l : List UInt8) : ∃ (n : Int) (b : Bool), parseV l = .tuple #[.int .i64 n, .bool b] ∧ ((b = false ∧ idxV l = 0) ∨ (b = true ∧ n < 1 ∧ idxV l = 0) ∨ (b = true ∧ ¬ n < 1 ∧ 999999999 < n ∧ idxV l = 0) ∨ (b = true ∧ ¬ n < 1 ∧ ¬ 999999999 < n ∧ idxV l = n)) := by
  by_cases h : ∃ n, I64 n ∧ decI n = l
  · obtain ⟨n, hn, hd⟩ := h
    refine ⟨n, true, parseV_yes hn hd, .inr ?_⟩
    by_cases h1 : n < 1
    · exact .inl ⟨rfl, h1, idxV_no fun m a1 a2 hm => by have := decI_inj hn ⟨by omega, by omega⟩ (hd.trans hm.symm); omega⟩
    · by_cases h2 : 999999999 < n
      · exact .inr (.inl ⟨rfl, h1, h2, idxV_no fun m a1 a2 hm => by have := decI_inj hn ⟨by omega, by omega⟩ (hd.trans hm.symm); omega⟩)
      · exact .inr (.inr ⟨rfl, h1, h2, idxV_yes (by omega) (by omega) hd⟩)
  · have h' : ∀ n, I64 n → decI n ≠ l := fun n hn hd => h ⟨n, hn, hd⟩
    exact ⟨0, false, parseV_no h', .inl ⟨rfl, idxV_no fun n a1 a2 => h' n ⟨by omega, by omega⟩⟩⟩
open Classical in
noncomputable def indexI (base s : List UInt8) : Int := if h : base ≠ [] ∧ ∃ m, s = base ++ ([46, 126] ++ (m ++ [126])) then idxV h.2.choose else 0
theorem indexI_yes {base s m : List UInt8} (h0 : base ≠ []) (h : s = base ++ ([46, 126] ++ (m ++ [126]))) : indexI base s = idxV m := by
  have he : base ≠ [] ∧ ∃ m, s = base ++ ([46, 126] ++ (m ++ [126])) := ⟨h0, m, h⟩
  unfold indexI
  rw [dif_pos he]
  have this := he.2.choose_spec
  generalize he.2.choose = c at this ⊢
  rw [h] at this
  have h1 := List.append_cancel_left (List.append_cancel_left this)
  rw [← List.append_cancel_right h1]
theorem indexI_empty (s : List UInt8) : indexI [] s = 0 := by
  unfold indexI; rw [dif_neg]; exact fun h => h.1 rfl
theorem indexI_no {base s : List UInt8} (h : ∀ m, s ≠ base ++ ([46, 126] ++ (m ++ [126]))) : indexI base s = 0 := by
  unfold indexI; rw [dif_neg]; exact fun ⟨_, m, hm⟩ => h m hm
theorem trim_of {s A : List UInt8} (h : Lib.hasPrefix s A = true) : s = A ++ Lib.trimPrefix s A := by
  unfold Lib.trimPrefix
  rw [if_pos h]
  unfold Lib.hasPrefix at h
  obtain ⟨t, rfl⟩ := List.isPrefixOf_iff_prefix.1 h
  simp
theorem trims_of {s A : List UInt8} (h : Lib.hasSuffix s A = true) : s = Lib.trimSuffix s A ++ A := by
  unfold Lib.trimSuffix
  rw [if_pos h]
  unfold Lib.hasSuffix at h
  obtain ⟨t, rfl⟩ := List.isSuffixOf_iff_suffix.1 h
  simp
theorem has_pre (A t : List UInt8) : Lib.hasPrefix (A ++ t) A = true := by
  unfold Lib.hasPrefix; exact List.isPrefixOf_iff_prefix.2 ⟨t, rfl⟩
theorem has_suf (A t : List UInt8) : Lib.hasSuffix (t ++ A) A = true := by
  unfold Lib.hasSuffix; exact List.isSuffixOf_iff_suffix.2 ⟨t, rfl⟩
theorem trim_app (A t : List UInt8) : Lib.trimPrefix (A ++ t) A = t := by
  unfold Lib.trimPrefix; rw [if_pos (has_pre A t)]; simp
theorem til_yes {l s A : List UInt8} (hA : A = l ++ [46, 126]) (h1 : Lib.hasPrefix s A = true) (h2 : Lib.hasSuffix (Lib.trimPrefix s A) [126] = true) : s = l ++ ([46, 126] ++ (Lib.trimSuffix (Lib.trimPrefix s A) [126] ++ [126])) := by
  rw [← trims_of h2, ← List.append_assoc, ← hA]
  exact trim_of h1
theorem til_no1 {l s A : List UInt8} (hA : A = l ++ [46, 126]) (h1 : Lib.hasPrefix s A = false) : ∀ m, s ≠ l ++ ([46, 126] ++ (m ++ [126])) := by
  rintro m rfl
  rw [← List.append_assoc, ← hA, has_pre] at h1
  cases h1
theorem til_no2 {l s A : List UInt8} (hA : A = l ++ [46, 126]) (h2 : Lib.hasSuffix (Lib.trimPrefix s A) [126] = false) : ∀ m, s ≠ l ++ ([46, 126] ++ (m ++ [126])) := by
  rintro m rfl
  rw [← List.append_assoc, ← hA, trim_app, has_suf] at h2
  cases h2
set_option maxRecDepth 100000 in
set_option maxHeartbeats 4000000 in
theorem pindex_any (l : List UInt8) (s : ByteArray) (hl : l.length ≤ 1000000) (hs : s.size ≤ 1000000) (w : World) : Calls Try.prog 35 #[.string (bs l), .string s] w (Ret w (.int .i64 (indexI l s.data.toList))) := by
  obtain ⟨A, hA⟩ : ∃ A, A = l ++ [46, 126] := ⟨_, rfl⟩
  have a1 : bs l ++ ⟨#[46, 126]⟩ = bs A := by rw [hA]; exact bs_append l [46, 126]
  have z0 : (bs l).size = l.length := bs_size _
  have zA : (bs A).size = l.length + 2 := by rw [bs_size, hA]; simp
  have hls : s.data.toList.length = s.size := by simp
  obtain ⟨o1, ho1⟩ : ∃ o1, Lib.hasPrefix s.data.toList A = o1 := ⟨_, rfl⟩
  obtain ⟨t1, ht1⟩ : ∃ t1, Lib.trimPrefix s.data.toList A = t1 := ⟨_, rfl⟩
  obtain ⟨o2, ho2⟩ : ∃ o2, Lib.hasSuffix t1 [126] = o2 := ⟨_, rfl⟩
  obtain ⟨t2, ht2⟩ : ∃ t2, Lib.trimSuffix t1 [126] = t2 := ⟨_, rfl⟩
  have zt : t1.length ≤ s.size := by rw [← ht1, ← hls]; exact Lib.trimPrefix_le _ _
  have O1 : Hid (Lib.hasPrefix s.data.toList (bs A).data.toList = o1) := by show _ = _; rw [bs_list]; exact ho1
  have H1 : Hid ((⟨(Lib.trimPrefix s.data.toList (bs A).data.toList).toArray⟩ : ByteArray) = bs t1) := by show _ = _; rw [bs_list, ht1]; rfl
  have O2 : Hid (Lib.hasSuffix (bs t1).data.toList (⟨#[126]⟩ : ByteArray).data.toList = o2) := by show _ = _; rw [bs_list]; exact ho2
  have H2 : Hid ((⟨(Lib.trimSuffix (bs t1).data.toList (⟨#[126]⟩ : ByteArray).data.toList).toArray⟩ : ByteArray) = bs t2) := by show _ = _; rw [bs_list]; show bs (Lib.trimSuffix t1 [126]) = _; rw [ht2]
  have Z1 : Hid ((bs t1).size ≤ 9223372036854775807) := by show _ ≤ _; rw [bs_size]; omega
  obtain ⟨n, b, hv, hcases⟩ := parse_idx t2
  have HV : Hid (parseV (bs t2).data.toList = .tuple #[.int .i64 n, .bool b]) := by show _ = _; rw [bs_list]; exact hv
  have HA := Lib.hid hA
  have E1 := Lib.hid ho1
  have E2 := Lib.hid ht1
  have E3 := Lib.hid ho2
  have E4 := Lib.hid ht2
  have L := Lib.hid hls
  clear hA ho1 ht1 ho2 ht2 hv hls
  by_cases h0 : l = []
  · have hf : Hid (indexI l s.data.toList = 0) := by show _ = _; rw [h0]; exact indexI_empty _
    have e0 : (bs l).toList.isEmpty = true := by rw [bs_toList, h0]; rfl
    clear h0 hcases
    go_enter Try.func35, Try.ntmps35
    go_wp2_with fail
    refine (Try.strings_CutPrefix _ _ _).mono ?_
    rintro e w1 ⟨rfl, rfl⟩
    rw [H1.out, O1.out]
    go_wp2_with fail
    refine (Try.strings_CutSuffix _ _ _ Z1.out).mono ?_
    rintro e w1 ⟨rfl, rfl⟩
    rw [H2.out, O2.out]
    go_wp2_with fail
    refine (pparse_any _ _).mono ?_
    rintro e w1 ⟨rfl, b1⟩
    rw [HV.out]
    go_wp2_with fail
    go_ret
    exact Ret.mk (ret_int (by rw [hf.out])) b1
  · have e0 : (bs l).toList.isEmpty = false := by rw [bs_toList, List.isEmpty_eq_false_iff]; exact h0
    have H0 : Hid (l ≠ []) := h0
    clear h0
    cases o1 with
    | false =>
      have hf : Hid (indexI l s.data.toList = 0) := indexI_no (til_no1 HA.out E1.out)
      clear hcases
      go_enter Try.func35, Try.ntmps35
      go_wp2_with fail
      refine (Try.strings_CutPrefix _ _ _).mono ?_
      rintro e w1 ⟨rfl, rfl⟩
      rw [H1.out, O1.out]
      go_wp2_with fail
      refine (Try.strings_CutSuffix _ _ _ Z1.out).mono ?_
      rintro e w1 ⟨rfl, rfl⟩
      rw [H2.out, O2.out]
      go_wp2_with fail
      refine (pparse_any _ _).mono ?_
      rintro e w1 ⟨rfl, b1⟩
      rw [HV.out]
      go_wp2_with fail
      go_ret
      exact Ret.mk (ret_int (by rw [hf.out])) b1
    | true =>
      cases o2 with
      | false =>
        have hf : Hid (indexI l s.data.toList = 0) := indexI_no (til_no2 HA.out (by rw [E2.out, E3.out]))
        clear hcases
        go_enter Try.func35, Try.ntmps35
        go_wp2_with fail
        refine (Try.strings_CutPrefix _ _ _).mono ?_
        rintro e w1 ⟨rfl, rfl⟩
        rw [H1.out, O1.out]
        go_wp2_with fail
        refine (Try.strings_CutSuffix _ _ _ Z1.out).mono ?_
        rintro e w1 ⟨rfl, rfl⟩
        rw [H2.out, O2.out]
        go_wp2_with fail
        refine (pparse_any _ _).mono ?_
        rintro e w1 ⟨rfl, b1⟩
        rw [HV.out]
        go_wp2_with fail
        go_ret
        exact Ret.mk (ret_int (by rw [hf.out])) b1
      | true =>
        have hi : indexI l s.data.toList = idxV t2 := indexI_yes H0.out (by
          have := til_yes HA.out E1.out (by rw [E2.out, E3.out])
          rw [E2.out, E4.out] at this
          exact this)
        rcases hcases with ⟨rfl, hx⟩ | ⟨rfl, h1, hx⟩ | ⟨rfl, h1, h2, hx⟩ | ⟨rfl, h1, h2, hx⟩
        all_goals
          rw [hx] at hi
          have hf := Lib.hid hi
          clear hi hx
          go_enter Try.func35, Try.ntmps35
          go_wp2_with fail
          refine (Try.strings_CutPrefix _ _ _).mono ?_
          rintro e w1 ⟨rfl, rfl⟩
          rw [H1.out, O1.out]
          go_wp2_with fail
          refine (Try.strings_CutSuffix _ _ _ Z1.out).mono ?_
          rintro e w1 ⟨rfl, rfl⟩
          rw [H2.out, O2.out]
          go_wp2_with fail
          refine (pparse_any _ _).mono ?_
          rintro e w1 ⟨rfl, b1⟩
          rw [HV.out]
          go_wp2_with fail
          go_ret
          exact Ret.mk (ret_int (by rw [hf.out])) b1

theorem slice_str0 {P : Program} {t : TypeId} (ht : P.underlying t = some .string) (s : ByteArray) (j : Int) (b : Nat) (hj : j = b) (hb : b ≤ s.size) (r : ByteArray) (hr : s.extract 0 b = r) (w : World) :
    (Instr.slice t (.string s) none (some (.int .i64 j)) none).run P w = .ok (.string r) w := by
  subst hj; subst hr
  rw [run_slice_string_to_if (P := P) w t s .i64 (b : Int) ht, if_pos (by omega)]
  simp

/-! ### index of the statements -/
theorem last_at (s : ByteArray) (h : 0 < s.size) : s.data.toList = s.data.toList.take (s.size - 1) ++ [s[s.size - 1]] := by
  have h1 := take_snoc s (s.size - 1) (by omega)
  rw [Nat.sub_add_cancel h, List.take_of_length_le (by simp)] at h1
  exact h1
theorem cut_shape {l s : List UInt8} (h : l.length + 4 ≤ s.length) (c : UInt8) (h1 : s.take (l.length + 2) = l ++ [46, 126]) (h2 : s = s.take (s.length - 1) ++ [c]) : s = l ++ ([46, 126] ++ ((s.drop (l.length + 2)).take (s.length - 1 - (l.length + 2)) ++ [c])) := by
  have e1 : s.take (s.length - 1) = s.take (l.length + 2) ++ (s.drop (l.length + 2)).take (s.length - 1 - (l.length + 2)) := by
    rw [← List.take_add]; congr 1; omega
  rw [e1, h1] at h2
  rw [← List.append_assoc, ← List.append_assoc]
  exact h2
theorem til_take {l s m : List UInt8} (h : s = l ++ ([46, 126] ++ (m ++ [126]))) : s.take (l.length + 2) = l ++ [46, 126] := by
  have e : l.length + 2 = (l ++ [46, 126]).length := by simp
  rw [h, ← List.append_assoc, e, List.take_left]
theorem til_last {l s m : List UInt8} {p : List UInt8} {c : UInt8} (h : s = l ++ ([46, 126] ++ (m ++ [126]))) (h2 : s = p ++ [c]) : c = 126 := by
  have h3 : s = (l ++ ([46, 126] ++ m)) ++ [126] := by rw [h]; simp
  rw [h2] at h3
  have := List.append_inj_right' h3 rfl
  simpa using this
theorem til_len {l s m : List UInt8} (h : s = l ++ ([46, 126] ++ (m ++ [126]))) : s.length = l.length + 2 + m.length + 1 := by rw [h]; simp; omega
theorem idxV_nil : idxV [] = 0 := idxV_no fun n a1 a2 h => by
  have := (decI_short (n := n) ⟨by omega, by omega⟩).1
  rw [h] at this; simp at this
theorem indexI_short {l s : List UInt8} (h : s.length < l.length + 4) : indexI l s = 0 := by
  by_cases h0 : l = []
  · rw [h0]; exact indexI_empty _
  by_cases hx : ∃ m, s = l ++ ([46, 126] ++ (m ++ [126]))
  · obtain ⟨m, hm⟩ := hx
    have := til_len hm
    have e : m = [] := List.eq_nil_of_length_eq_zero (by omega)
    rw [indexI_yes h0 hm, e, idxV_nil]
  · exact indexI_no fun m hm => hx ⟨m, hm⟩
set_option maxRecDepth 100000 in
set_option maxHeartbeats 4000000 in
theorem rindex_any (l : List UInt8) (s : ByteArray) (hl : l.length ≤ 1000000) (hs : s.size ≤ 1000000) (w : World) : Calls Try.prog 36 #[.string (bs l), .string s] w (Ret w (.int .i64 (indexI l s.data.toList))) := by
  have z0 : (bs l).size = l.length := bs_size _
  have hls : s.data.toList.length = s.size := by simp
  by_cases h0 : l = []
  · have hf : Hid (indexI l s.data.toList = 0) := by show _ = _; rw [h0]; exact indexI_empty _
    have e0 : (bs l).toList.isEmpty = true := by rw [bs_toList, h0]; rfl
    clear h0 hls
    go_enter Try.func36, Try.ntmps36
    go_wp2_with fail
    go_ret
    exact Ret.mk (ret_int (by rw [hf.out])) (Ext.refl _)
  · have e0 : (bs l).toList.isEmpty = false := by rw [bs_toList, List.isEmpty_eq_false_iff]; exact h0
    have H0 : Hid (l ≠ []) := h0
    clear h0
    by_cases hlen : s.size < l.length + 4
    · have hf : Hid (indexI l s.data.toList = 0) := indexI_short (by omega)
      have hlen' : (s.size : Int) < (l.length : Int) + 2 + 2 := by omega
      clear hls
      go_enter Try.func36, Try.ntmps36
      go_wp2_with fail
      go_ret
      exact Ret.mk (ret_int (by rw [hf.out])) (Ext.refl _)
    · have hlen' : ¬ ((s.size : Int) < (l.length : Int) + 2 + 2) := by omega
      obtain ⟨A, hA⟩ : ∃ A, A = l ++ [46, 126] := ⟨_, rfl⟩
      have a1 : bs l ++ ⟨#[46, 126]⟩ = bs A := by rw [hA]; exact bs_append l [46, 126]
      have zA : (bs A).size = l.length + 2 := by rw [bs_size, hA]; simp
      obtain ⟨P, hP⟩ : ∃ P, P = s.data.toList.take (l.length + 2) := ⟨_, rfl⟩
      have hx1 : s.extract 0 (l.length + 2) = bs P := by
        rw [hP]
        have := bs_extract s.data.toList 0 (l.length + 2)
        rw [bs_self] at this
        rw [this]; simp
      have hs1 := fun w => slice_str0 (P := Try.prog) Try.underlying9 s ((l.length : Int) + 2) (l.length + 2) (by omega) (by omega) _ hx1 w
      have HA := Lib.hid hA
      have HP := Lib.hid hP
      clear hA hP
      by_cases hp : P = A
      · have hpe : ((bs P).toList == (bs A).toList) = true := by rw [hp]; exact beq_self_eq_true _
        have HPA : Hid (P = A) := hp
        clear hp hx1
        have hlst := last_at s (by omega)
        have hcb : (s[s.size - 1].toNat : Int) < 256 := by have := (s[s.size - 1]).toNat_lt; omega
        have hsub : (s.size : Int) - 1 = ((s.size - 1 : Nat) : Int) := by omega
        by_cases hc : s[s.size - 1] = 126
        · have hc' : ((s[s.size - 1].toNat : Int) == 126) = true := by rw [hc]; rfl
          obtain ⟨M, hM⟩ : ∃ M, M = (s.data.toList.drop (l.length + 2)).take (s.size - 1 - (l.length + 2)) := ⟨_, rfl⟩
          have hx2 : s.extract (l.length + 2) (s.size - 1) = bs M := by
            rw [hM]
            have := bs_extract s.data.toList (l.length + 2) (s.size - 1)
            rw [bs_self] at this
            exact this
          have hs2 := fun w => slice_str (P := Try.prog) Try.underlying9 s ((l.length : Int) + 2) ((s.size - 1 : Nat) : Int) (l.length + 2) (s.size - 1) (by omega) rfl (by omega) (by omega) _ hx2 w
          have hshape := cut_shape (l := l) (s := s.data.toList) (by omega) 126 (by rw [← HP.out, HPA.out, HA.out]) (by rw [hls, ← hc]; exact hlst)
          rw [hls, ← hM] at hshape
          have hi : indexI l s.data.toList = idxV M := indexI_yes H0.out hshape
          obtain ⟨n, b, hv, hcases⟩ := parse_idx M
          have HV : Hid (parseV (bs M).data.toList = .tuple #[.int .i64 n, .bool b]) := by show _ = _; rw [bs_list]; exact hv
          clear hM hx2 hshape hv hlst hc
          rcases hcases with ⟨rfl, hx⟩ | ⟨rfl, h1, hx⟩ | ⟨rfl, h1, h2, hx⟩ | ⟨rfl, h1, h2, hx⟩
          all_goals
            rw [hx] at hi
            have hf := Lib.hid hi
            clear hi hx
            go_enter Try.func36, Try.ntmps36
            go_wp2_with fail
            refine (rparse_any _ _).mono ?_
            rintro e w1 ⟨rfl, b1⟩
            rw [HV.out]
            go_wp2_with fail
            go_ret
            exact Ret.mk (ret_int (by rw [hf.out])) b1
        · have hc' : ((s[s.size - 1].toNat : Int) == 126) = false := by
            rw [beq_eq_false_iff_ne]
            exact fun h => hc (UInt8.toNat_inj.1 (by show _ = 126; omega))
          have hf : Hid (indexI l s.data.toList = 0) := indexI_no fun m hm => hc (til_last hm hlst)
          clear hc hlst
          go_enter Try.func36, Try.ntmps36
          go_wp2_with fail
          go_ret
          exact Ret.mk (ret_int (by rw [hf.out])) (Ext.refl _)
      · have hpe : ((bs P).toList == (bs A).toList) = false := by rw [bs_toList, bs_toList]; exact beq_eq_false_iff_ne.2 hp
        have hf : Hid (indexI l s.data.toList = 0) := indexI_no fun m hm => hp (by rw [HP.out, HA.out]; exact til_take hm)
        clear hp hx1 hls
        go_enter Try.func36, Try.ntmps36
        go_wp2_with fail
        go_ret
        exact Ret.mk (ret_int (by rw [hf.out])) (Ext.refl _)
end Go.Proofs.Ytegiknfnhgjhfaa
