/- Layer 2 (name): the program's Path, tail, Slash, Last. -/
import Derived.Test.YtmppjbimdonfmaaDoorNamR
import Derived.Test.YtmppjbimdonfmaaDoorNamC
import Derived.Lib.LastIndexByte
namespace Go.Proofs.YtmppjbimdonfmaaDoor
open Go.ChangeShapes Go.WideShapes Go.ChangeAt Go.RowKit

noncomputable def lastI (l : List UInt8) : Int := Lib.lastIndexByte (bs l) 47
theorem bs_bang (l : List UInt8) (j : Nat) (h : j < l.length) : (bs l).data[j]! = l[j] := by
  simp [bs, h]
theorem lastI_cases (l : List UInt8) : (lastI l = -1 ∧ 47 ∉ l) ∨ ∃ i : Nat, i < l.length ∧ lastI l = i ∧ l[i]? = some 47 ∧ 47 ∉ l.drop (i + 1) := by
  rcases Lib.lastIndexByte_spec (bs l) 47 with ⟨h1, h2⟩ | ⟨i, hi, h1, h2, h3⟩
  · refine .inl ⟨h1, fun hm => ?_⟩
    obtain ⟨j, hj, hx⟩ := List.mem_iff_getElem.1 hm
    have := h2 j (by rw [bs_size]; exact hj)
    rw [bs_bang l j hj, hx] at this
    exact this rfl
  · rw [bs_size] at hi
    refine .inr ⟨i, hi, h1, ?_, fun hm => ?_⟩
    · rw [bs_bang l i hi] at h2
      rw [List.getElem?_eq_getElem hi, Option.some.injEq]
      exact UInt8.toNat_inj.1 (by have : (47 : UInt8).toNat = 47 := rfl; omega)
    · obtain ⟨j, hj, hx⟩ := List.mem_iff_getElem.1 hm
      rw [List.length_drop] at hj
      have := h3 (i + 1 + j) (by omega) (by rw [bs_size]; omega)
      rw [bs_bang l _ (by omega)] at this
      rw [List.getElem_drop] at hx
      rw [hx] at this
      exact this rfl
theorem afterLast_app (a b : List UInt8) (h : 47 ∉ b) : afterLast (a ++ 47 :: b) = b := by
  unfold afterLast
  have h1 : b.reverse.takeWhile (fun x : UInt8 => decide (x ≠ 47)) = b.reverse := by
    rw [tw_iff]
    intro x hx
    have : x ≠ 47 := by rintro rfl; exact h (List.mem_reverse.1 hx)
    simpa using this
  rw [List.reverse_append, List.reverse_cons, List.append_assoc, List.takeWhile_append, h1, if_pos rfl, List.singleton_append, List.takeWhile_cons, if_neg (by decide)]
  simp
theorem afterLast_all (b : List UInt8) (h : 47 ∉ b) : afterLast b = b := by
  unfold afterLast
  have h1 : b.reverse.takeWhile (fun x : UInt8 => decide (x ≠ 47)) = b.reverse := by
    rw [tw_iff]
    intro x hx
    have : x ≠ 47 := by rintro rfl; exact h (List.mem_reverse.1 hx)
    simpa using this
  rw [h1, List.reverse_reverse]
theorem split_here {l : List UInt8} {k : Nat} (hk : l[k]? = some 47) : l = l.take k ++ 47 :: l.drop (k + 1) := by
  have h : k < l.length := by
    rcases Nat.lt_or_ge k l.length with h | h
    · exact h
    · rw [List.getElem?_eq_none h] at hk; cases hk
  have h2 : l[k] = 47 := by rw [List.getElem?_eq_getElem h] at hk; exact Option.some.inj hk
  have h3 := List.drop_eq_getElem_cons h
  rw [h2] at h3
  rw [← h3, List.take_append_drop]
theorem tail_plain (l : List UInt8) : ∃ k : Nat, k ≤ l.length ∧ lastI l = (k : Int) - 1 ∧ l.drop k = lastP l := by
  rw [lastP_eq]
  rcases lastI_cases l with ⟨h1, h2⟩ | ⟨i, hi, h1, h2, h3⟩
  · exact ⟨0, Nat.zero_le _, by omega, by rw [afterLast_all l h2]; rfl⟩
  · refine ⟨i + 1, hi, by omega, ?_⟩
    have h4 := split_here h2
    have h5 := afterLast_app (l.take i) (l.drop (i + 1)) h3
    rw [← h4] at h5
    exact h5.symm
set_option maxRecDepth 100000 in
set_option maxHeartbeats 1000000 in
theorem ptail_any (l : List UInt8) (w : World) (hlen : l.length ≤ 1000000) : Calls Tryd.prog 75 #[.string (bs l)] w (Ret w (.string (bs (lastP l)))) := by
  obtain ⟨k, hk, hi, hd⟩ := tail_plain l
  have z0 : (bs l).size = l.length := bs_size l
  have hsl := slice_from (P := Tryd.prog) Tryd.underlying9 (bs l) (k : Int) k rfl (by omega) (bs (lastP l)) (by rw [bs_from, hd])
  have hw : IntKind.i64.wrap (k : Int) = k := wrap_i64_in (by omega) (by omega)
  obtain ⟨T, hT⟩ : ∃ T, T = bs (lastP l) := ⟨_, rfl⟩
  rw [← hT] at hsl ⊢
  have HI : Hid (Lib.lastIndexByte (bs l) 47 = (k : Int) - 1) := hi
  clear hi hd hT
  go_enter Tryd.func75, Tryd.ntmps75
  go_wp2_with fail
  refine (Tryd.strings_LastIndexByte _ 47 (by omega) _).mono ?_
  rintro e w1 ⟨rfl, rfl⟩
  rw [HI.out]
  go_wp2_with fail
  go_ret
  exact Ret.mk rfl (Ext.refl _)
set_option maxRecDepth 100000 in
set_option maxHeartbeats 1000000 in
theorem pslash_any (l : List UInt8) (w : World) (hlen : l.length ≤ 1000000) : Calls Tryd.prog 24 #[.string (bs l)] w (Ret w (.bool (slashB l))) := by
  have hS : Hid (slashB l = (lastP l == [] || lastP l == [46] || lastP l == [46, 46])) := rfl
  obtain ⟨t0, t1, t2, t3⟩ := txt_tests (p := lastP l)
  obtain ⟨X, hX⟩ : ∃ X, X = bs (lastP l) := ⟨_, rfl⟩
  rw [← hX] at t0 t1 t2 t3
  have HX := Lib.hid hX
  clear hX
  obtain ⟨B0, hB0⟩ : ∃ B0, B0 = (lastP l == []) := ⟨_, rfl⟩
  obtain ⟨B1, hB1⟩ : ∃ B1, B1 = (lastP l == [46]) := ⟨_, rfl⟩
  obtain ⟨B2, hB2⟩ : ∃ B2, B2 = (lastP l == [46, 46]) := ⟨_, rfl⟩
  rw [← hB0, ← hB1, ← hB2] at hS
  rw [← hB0] at t0 t3
  rw [← hB1] at t1
  rw [← hB2] at t2
  clear hB0 hB1 hB2
  go_enter Tryd.func24, Tryd.ntmps24
  go_wp2_with fail
  refine (ptail_any l _ hlen).mono ?_
  rintro e w1 ⟨rfl, hE1⟩
  rw [← HX.out]
  cases B0 <;> cases B1 <;> cases B2
  all_goals
    go_wp2_with fail
    go_ret
    exact Ret.mk (ret_bool (by rw [hS.out]; rfl)) hE1
theorem cutN_len (l : List UInt8) : (cutN l).length ≤ l.length := by
  unfold cutN
  rw [List.length_reverse]
  have := (List.dropWhile_sublist (fun x : UInt8 => x == 47) (l := l.reverse)).length_le
  simpa using this
theorem cutN_cut (l : List UInt8) : cutN (cutN l) = cutN l := by
  rcases snoc_cases (cutN l) with h | ⟨a, c, h⟩
  · rw [h]; rfl
  · by_cases hc : c = 47
    · exfalso
      have h2 : (cutN l).reverse = 47 :: a.reverse := by rw [h, hc]; simp
      unfold cutN at h2
      rw [List.reverse_reverse] at h2
      have h3 := List.head?_dropWhile_not (fun x : UInt8 => x == 47) l.reverse
      rw [h2] at h3
      simp at h3
    · rw [h]; exact cutN_stop hc
set_option maxRecDepth 100000 in
set_option maxHeartbeats 1000000 in
theorem plast_any (l : List UInt8) (w : World) (hlen : l.length ≤ 1000000) : Calls Tryd.prog 26 #[.string (bs l)] w (Ret w (.string (bs (lastN l)))) := by
  have z0 : (bs l).size = l.length := bs_size l
  have hcl := cutN_len l
  obtain ⟨m, hm⟩ : ∃ m, m = cutN l := ⟨_, rfl⟩
  have hf := lastN_cut (m := m) (l := l) (by rw [hm, cutN_cut]) (by rw [hm, cutN_cut])
  have hTr : Hid (Lib.trimRightB l 47 = m) := hm.symm
  rw [← hm] at hcl
  obtain ⟨T, hT⟩ : ∃ T, T = bs (lastP m) := ⟨_, rfl⟩
  obtain ⟨_, t1, t2, _⟩ := txt_tests (p := lastP m)
  obtain ⟨B1, hB1⟩ : ∃ B1, B1 = (lastP m == [46]) := ⟨_, rfl⟩
  obtain ⟨B2, hB2⟩ : ∃ B2, B2 = (lastP m == [46, 46]) := ⟨_, rfl⟩
  rw [← hT, ← hB1] at t1
  rw [← hT, ← hB2] at t2
  rw [← hB1, ← hB2, ← hT] at hf
  have HT := Lib.hid hT
  have HF := Lib.hid hf
  clear hT hB1 hB2 hm hf
  go_enter Tryd.func26, Tryd.ntmps26
  go_wp2_with fail
  refine (Tryd.strings_TrimRight_one _ 47 (by decide) _ (by omega)).mono ?_
  rintro e w1 ⟨rfl, rfl⟩
  rw [bs_list, hTr.out]
  go_wp2_with fail
  refine (ptail_any m _ (by omega)).mono ?_
  rintro e w2 ⟨rfl, hE1⟩
  rw [← HT.out]
  cases B1 <;> cases B2
  all_goals
    go_wp2_with fail
    go_ret
    exact Ret.mk (ret_str (by rw [HF.out]; rfl)) hE1
set_option maxRecDepth 100000 in
set_option maxHeartbeats 1000000 in
theorem ppath_any (l : List UInt8) (w : World) (hlen : l.length ≤ 1000000) : Calls Tryd.prog 20 #[.string (bs l)] w (Ret w (.int .i64 (pathN l))) := by
  have z0 : (bs l).size = l.length := bs_size l
  have hb : Hid ((bs l).data.toList = l) := bs_list l
  have hs : (bs l).size ≤ 1000000 := by omega
  cases l with
  | nil =>
    have e : (bs []).toList = [] := bs_toList []
    go_enter Tryd.func20, Tryd.ntmps20
    go_wp2_with fail
    go_ret
    exact Ret.mk rfl (Ext.refl _)
  | cons c t =>
    have hp := pathN_no (l := c :: t) (by simp)
    have e0 : (bs (c :: t)).toList.isEmpty = false := by rw [bs_toList]; rfl
    have hks : 0 < (bs (c :: t)).size := by rw [bs_size]; simp
    have hg : (bs (c :: t))[0] = c := rfl
    by_cases hc : c = 47
    · have hs2 : (((bs (c :: t))[0].toNat : Int) != 47) = false := by rw [hg, hc]; rfl
      cases hz : hasB (c :: t) 0 with
      | true =>
        have hf : Hid (pathN (c :: t) = 1) := by show _ = _; rw [hp, if_pos (.inr hz)]
        have HZ := Lib.hid hz
        obtain ⟨X, hX⟩ : ∃ X, X = bs (c :: t) := ⟨_, rfl⟩
        clear hp hg hc hz
        go_enter Tryd.func20, Tryd.ntmps20
        go_wp2_with fail
        refine (Tryd.strings_Contains_one _ 0 _).mono ?_
        rintro e w1 ⟨rfl, rfl⟩
        rw [hb.out, hasB_index, HZ.out]
        go_wp2_with fail
        go_ret
        exact Ret.mk (ret_int (by rw [hf.out])) (Ext.refl _)
      | false =>
        have HZ := Lib.hid hz
        have hf : Hid (pathN (c :: t) = if 4096 < t.length + 1 then 13 else 0) := by
          show _ = _
          rw [hp, if_neg (by rw [hz, hc]; simp)]; rfl
        by_cases h : 4096 < t.length + 1
        · rw [if_pos h] at hf
          clear hp hg hc hz
          go_enter Tryd.func20, Tryd.ntmps20
          go_wp2_with fail
          refine (Tryd.strings_Contains_one _ 0 _).mono ?_
          rintro e w1 ⟨rfl, rfl⟩
          rw [hb.out, hasB_index, HZ.out]
          go_wp2_with fail
          go_ret
          exact Ret.mk (ret_int (by rw [hf.out])) (Ext.refl _)
        · rw [if_neg h] at hf
          clear hp hg hc hz
          go_enter Tryd.func20, Tryd.ntmps20
          go_wp2_with fail
          refine (Tryd.strings_Contains_one _ 0 _).mono ?_
          rintro e w1 ⟨rfl, rfl⟩
          rw [hb.out, hasB_index, HZ.out]
          go_wp2_with fail
          go_ret
          exact Ret.mk (ret_int (by rw [hf.out])) (Ext.refl _)
    · have hs2 : (((bs (c :: t))[0].toNat : Int) != 47) = true := by
        have := (u8_eq (c := c) (d := 47)).trans (beq_eq_false_iff_ne.2 hc)
        rw [hg, bne, show ((c.toNat : Int) == 47) = false from this]; rfl
      have hf : Hid (pathN (c :: t) = 1) := by show _ = _; rw [hp, if_pos (.inl (by simpa using hc))]
      clear hp hg hc
      go_enter Tryd.func20, Tryd.ntmps20
      go_wp2_with fail
      go_ret
      exact Ret.mk (ret_int (by rw [hf.out])) (Ext.refl _)
end Go.Proofs.YtmppjbimdonfmaaDoor
