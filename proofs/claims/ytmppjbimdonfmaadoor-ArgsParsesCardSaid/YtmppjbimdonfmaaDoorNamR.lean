/- Layer 2 (name): the reference: Pieces, Parts, Slash, Last, Same, Path. -/
import Derived.Test.YtmppjbimdonfmaaDoorNamP
import Derived.Test.YtmppjbimdonfmaaDoorTxt
import Derived.Test.YtmppjbimdonfmaaDoorTilP
import Derived.Test.YtmppjbimdonfmaaDoorStrC
import Derived.BigQuiet
import Derived.StillTailTactics
import Derived.RangeFuncBox
namespace Go.Proofs.YtmppjbimdonfmaaDoor
open Go.ChangeShapes Go.WideShapes Go.ChangeAt Go.RowKit

theorem OwnT.base {w : World} {b b' : Nat} {v : Value} {l : List Txt} (h : OwnT w b v l) (hb : b' ≤ b) : OwnT w b' v l := by
  obtain ⟨h1, h2⟩ := h
  refine ⟨h1, ?_⟩
  rcases h2 with h2 | ⟨g, cap, cur, hv, hg, hr⟩
  · exact .inl h2
  · exact .inr ⟨g, cap, cur, hv, Nat.le_trans hb hg, hr⟩
def TxtR (w : World) (l : List Txt) (e : Ending) (w' : World) : Prop := ∃ v, e = .returned v ∧ OwnT w' w.heap.size v l ∧ Ext w w'
set_option maxRecDepth 100000 in
set_option maxHeartbeats 1000000 in
theorem pieces_any (l : List UInt8) (w : World) (hlen : l.length ≤ 1000000) : Calls Tryd.prog 74 #[.string (bs l)] w (TxtR w (pc [] l)) := by
  have hsz : ((bs l).size : Int) = l.length := by rw [bs_size]
  obtain ⟨i0, hi, hz0, hz1, hz2⟩ := info_parts infoStr
  go_enter Tryd.func74, Tryd.ntmps74
  go_wp2_with fail
  go_loopw [3, 4] (fun u i wr => ∃ k : Nat, k ≤ l.length ∧ i = .int .i64 k ∧ (∃ D cur, pc [] l = D ++ pc cur (l.drop k) ∧ D.length ≤ k ∧ cur.length ≤ k ∧ OwnT wr w.heap.size u (D ++ [cur])) ∧ Ext w wr) (fun _ i _ => l.length - (intOf i).toNat)
  case atStart =>
    refine ⟨0, Nat.zero_le _, rfl, ⟨[], [], by simp, by simp, by simp, ?_⟩, (Ext.refl _).alloc _⟩
    exact World.ownsRow_lit w #[.string (bs [])] 1 (Nat.le_refl _) (by decide) rfl
  case round =>
    obtain ⟨k, hk, rfl, ⟨D, cur, hd, hD, hcl0, hown⟩, hE⟩ := hrel
    by_cases hlt : (k : Int) < l.length
    · have hkl : k < l.length := by omega
      have hks : k < (bs l).size := by rw [bs_size]; exact hkl
      have hg : (bs l)[k] = l[k] := bs_get l k hks hkl
      obtain ⟨c, hc⟩ : ∃ c, c = l[k] := ⟨_, rfl⟩
      have hdk : l.drop k = c :: l.drop (k + 1) := by rw [hc]; exact List.drop_eq_getElem_cons hkl
      rw [hdk, pc] at hd
      rw [← hc] at hg
      have hx1 : (bs l).extract k (k + 1) = bs [c] := by rw [ext_one (bs l) k hks, hg]
      have hcb : (c.toNat : Int) < 256 := by have := c.toNat_lt; omega
      have HG := Lib.hid hg
      have HC := Lib.hid hc
      by_cases hs : c = 47
      · rw [if_pos hs] at hd
        have hs2 : (((bs l)[k].toNat : Int) == 47) = true := by rw [hg, hs]; rfl
        have HD := Lib.hid hd
        clear hs hd hdk hg hc hx1
        obtain ⟨M, hM⟩ : ∃ M, M = D ++ [cur] := ⟨_, rfl⟩
        rw [← hM] at hown
        have HM := Lib.hid hM
        have hMl : M.length ≤ k + 1 := by rw [hM]; simp; omega
        clear hM
        unfold OwnT at hown
        go_wp2_with (at_builtin; refine wpList_append_own _ rfl _ _ 24 rfl w.heap.size 9 i0 (.string ⟨#[]⟩) 1 16 Tryd.underlying24 hi hz0 hz1 hz2 rfl (by decide) _ _ _ rfl (hown.alloc _) ⟨wr.heap.size, 0, none⟩ 1 1 (txtCells [[]]) rfl rfl (txt_news wr []) (txtCells_one [[]]) (by unfold maxLen; omega) (by omega) (by have := hE.size; simp; omega) ?_)
        intro v' w2 hown2 hgrow _
        obtain ⟨ho2, hE2⟩ := txt_app hown hE hown2 hgrow
        clear hown2 hgrow
        have HO2 := Lib.hid ho2
        clear ho2
        go_wp2_with fail
        go_roundw
        case rel => exact ⟨k + 1, by omega, by go_num, ⟨M, [], by rw [HD.out, HM.out]; simp, by omega, by simp, HO2.out⟩, hE2⟩
        case measure => simp [intOf]; omega
      · rw [if_neg hs] at hd
        have hs2 : (((bs l)[k].toNat : Int) == 47) = false := by
          rw [hg, beq_eq_false_iff_ne]
          intro h
          exact hs (UInt8.toNat_inj.1 (by have : (47 : UInt8).toNat = 47 := rfl; omega))
        have HD := Lib.hid hd
        clear hs hd hdk hg hc
        unfold OwnT at hown
        obtain ⟨n, hn⟩ : ∃ n, n = D.length := ⟨_, rfl⟩
        have hl1 : (D ++ [cur]).length = n + 1 := by rw [hn]; simp
        rw [hl1] at hown
        obtain ⟨g, cap, rfl⟩ := ownsRow_succ hown
        have hcl : wr.cell? ⟨g, n, none⟩ = some (.string (bs cur)) := by
          rw [hown.cellAt n (by omega), txtCells_get (D ++ [cur]) n (by rw [hl1]; omega)]
          simp [hn]
        have hfr := hown.frozenAt n
        have hst := hown.stored n (.string (bs (cur ++ [c])))
        have hgl := (hown.lt g rfl).1
        have hst2 : Hid (OwnT (wr.setCell ⟨g, n, none⟩ (.string (bs (cur ++ [c])))) w.heap.size (.slice (some ⟨g, 0, none⟩) (n + 1) cap) (D ++ [cur ++ [c]]) ∧ Ext w (wr.setCell ⟨g, n, none⟩ (.string (bs (cur ++ [c]))))) := by
          refine ⟨?_, hE.setCell hgl _⟩
          have h := hst.1
          have e1 : (txtCells (D ++ [cur])).set n (.string (bs (cur ++ [c]))) = txtCells (D ++ [cur ++ [c]]) := by
            rw [hn]; simp [txtCells]
          rw [e1] at h
          unfold OwnT
          have e2 : (D ++ [cur ++ [c]]).length = n + 1 := by rw [hn]; simp
          rw [e2]
          exact h
        have z1 : (bs cur).size = cur.length := bs_size _
        have z2 : (bs [c]).size = 1 := bs_size _
        have hbig : ¬ 9223372036854775807 < cur.length + 1 := by omega
        have z3 : (bs (cur ++ [c])).size = cur.length + 1 := by rw [bs_size]; simp
        have hcat : bs cur ++ bs [c] = bs (cur ++ [c]) := bs_append _ _
        have hw1 : IntKind.i64.wrap (n : Int) = n := wrap_i64_in (by omega) (by omega)
        have hw2 : IntKind.i64.wrap ((k : Int) + 1) = k + 1 := wrap_i64_in (by omega) (by omega)
        have hn0 : (0 : Int) ≤ (n : Int) := Int.natCast_nonneg _
        have hk0 : (0 : Int) ≤ (k : Int) := Int.natCast_nonneg _
        have hk1 : ((k : Int) + 1).toNat = k + 1 := by omega
        have hk2 : k + 1 ≤ (bs l).size := hks
        have hsl := slice_str (P := Tryd.prog) Tryd.underlying9 (bs l) (k : Int) ((k : Int) + 1) k (k + 1) rfl (by omega) (by omega) hk2 (bs [c]) hx1
        have hnl : (n : Int) < (n : Int) + 1 := by omega
        have hneg : decide ((n : Int) < 0) = false := decide_eq_false (by omega)
        have hge : decide ((0 : Int) ≤ (n : Int)) = true := decide_eq_true (by omega)
        have HN := Lib.hid hn
        clear hst hown hl1 hn
        go_wp2_with fail
        go_still_tail 16, (by kernel_rfl)
        change wpList _ _ _ _ _ wr.drew
        go_wp2_with fail
        go_roundw
        case rel => exact ⟨k + 1, by omega, by go_num, ⟨D, cur ++ [c], HD.out, by omega, by simp; omega, hst2.out.1⟩, hst2.out.2.drew⟩
        case measure => simp [intOf]; omega
    · obtain rfl : k = l.length := by omega
      rw [List.drop_length, pc] at hd
      rw [← hd] at hown
      have HO := Lib.hid hown
      clear hown hd
      go_wp2_with fail
      go_ret
      exact ⟨_, rfl, HO.out, hE⟩

theorem pieces_cost (l : List UInt8) : (pc [] l).length ≤ l.length + 1 := pc_len l []
/-- A text is held against short ones. -/
theorem txt_tests {p : List UInt8} : ((bs p).toList == ([] : List UInt8)) = (p == []) ∧ ((bs p).toList == [46]) = (p == [46]) ∧ ((bs p).toList == [46, 46]) = (p == [46, 46]) ∧ (bs p).toList.isEmpty = (p == []) := by
  rw [bs_toList]
  refine ⟨rfl, rfl, rfl, ?_⟩
  cases p <;> rfl
set_option maxRecDepth 100000 in
set_option maxHeartbeats 1000000 in
theorem rparts_any (l : List UInt8) (w : World) (hlen : l.length ≤ 1000000) : Calls Tryd.prog 23 #[.string (bs l)] w (TxtR w (partsN l)) := by
  obtain ⟨i0, hi, hz0, hz1, hz2⟩ := info_parts infoStr
  obtain ⟨M, hM⟩ : ∃ M, M = pc [] l := ⟨_, rfl⟩
  have hMl := pieces_cost l
  have hP : Hid (partsN l = M.filter good) := by show _ = _; rw [hM]; rfl
  rw [← hM] at hMl
  have HM := Lib.hid hM
  clear hM
  go_enter Tryd.func23, Tryd.ntmps23
  go_wp2_with fail
  refine (pieces_any l _ hlen).mono ?_
  rintro e w1 ⟨v, rfl, hv, hE1⟩
  rw [← HM.out] at hv
  obtain ⟨A, cap, rfl, hle, hcm, hat, hAn⟩ := hv.at_
  clear hv
  go_wp2_with fail
  go_loopw [3, 5] (fun u i wr => ∃ k : Nat, k ≤ M.length ∧ i = .int .i64 k ∧ OwnT wr w1.heap.size u ((M.take k).filter good) ∧ Ext w1 wr) (fun _ i _ => M.length - (intOf i).toNat)
  case atStart =>
    refine ⟨0, Nat.zero_le _, rfl, ?_, Ext.refl _⟩
    exact World.ownsRow_nil _ _ _ _
  case round =>
    obtain ⟨k, hk, rfl, hown, hE⟩ := hrel
    by_cases hlt : (k : Int) < M.length
    · have hkl : k < M.length := by omega
      obtain ⟨b, o, rfl, hb, hcl⟩ := hat.at_ hE k hkl
      have htk : Hid (M.take (k + 1) = M.take k ++ [M[k]]) := List.take_succ_eq_append_getElem hkl
      obtain ⟨p, hp⟩ : ∃ p, p = M[k] := ⟨_, rfl⟩
      rw [← hp] at hcl htk
      obtain ⟨t0, t1, _, t3⟩ := txt_tests (p := p)
      obtain ⟨X, hX⟩ : ∃ X, X = bs p := ⟨_, rfl⟩
      rw [← hX] at hcl t0 t1 t3
      have HX := Lib.hid hX
      have hgl : Hid (good p = (!(p == []) && !(p == [46]))) := rfl
      clear hp hX
      cases h0 : (p == []) with
      | true =>
        rw [h0] at t0 t3
        have hn : Hid ((M.take (k + 1)).filter good = (M.take k).filter good) := by
          show _ = _
          rw [htk.out, List.filter_append, List.filter_cons, if_neg (by rw [hgl.out, h0]; simp)]; simp
        clear h0 t1
        have HO := Lib.hid hown
        clear hown
        go_wp2_with fail
        go_roundw
        case rel => exact ⟨k + 1, by omega, by go_num, by rw [hn.out]; exact HO.out, hE⟩
        case measure => simp [intOf]; omega
      | false =>
        cases h1 : (p == [46]) with
        | true =>
          rw [h0] at t0 t3
          rw [h1] at t1
          have hn : Hid ((M.take (k + 1)).filter good = (M.take k).filter good) := by
            show _ = _
            rw [htk.out, List.filter_append, List.filter_cons, if_neg (by rw [hgl.out, h0, h1]; simp)]; simp
          clear h0 h1
          have HO := Lib.hid hown
          clear hown
          go_wp2_with fail
          go_roundw
          case rel => exact ⟨k + 1, by omega, by go_num, by rw [hn.out]; exact HO.out, hE⟩
          case measure => simp [intOf]; omega
        | false =>
          rw [h0] at t0 t3
          rw [h1] at t1
          have hn : Hid ((M.take (k + 1)).filter good = (M.take k).filter good ++ [p]) := by
            show _ = _
            rw [htk.out, List.filter_append, List.filter_cons, if_pos (by rw [hgl.out, h0, h1]; rfl)]; simp
          have hfl : ((M.take k).filter good).length ≤ k := Nat.le_trans (List.length_filter_le _ _) (by rw [List.length_take]; omega)
          obtain ⟨Q, hQ⟩ : ∃ Q, Q = (M.take k).filter good := ⟨_, rfl⟩
          rw [← hQ] at hown hfl hn
          clear h0 h1 hQ
          unfold OwnT at hown
          have hnew : ∀ j u, (txtCells [p])[j]? = some u → (wr.alloc (.cells #[.string X] 9)).cell? ((⟨wr.heap.size, 0, none⟩ : Addr).add j) = some u := by rw [HX.out]; exact txt_news wr p
          go_wp2_with (at_builtin; refine wpList_append_own _ rfl _ _ 24 rfl w1.heap.size 9 i0 (.string ⟨#[]⟩) 1 16 Tryd.underlying24 hi hz0 hz1 hz2 rfl (by decide) _ _ _ rfl (hown.alloc _) ⟨wr.heap.size, 0, none⟩ 1 1 (txtCells [p]) rfl rfl hnew (txtCells_one [p]) (by unfold maxLen; omega) (by omega) (by have := hE.size; simp; omega) ?_)
          intro v' w2 hown2 hgrow _
          obtain ⟨ho2, hE2⟩ := txt_app hown hE hown2 hgrow
          clear hown2 hgrow hnew
          have HO2 := Lib.hid ho2
          clear ho2 hown
          go_wp2_with fail
          go_roundw
          case rel => exact ⟨k + 1, by omega, by go_num, by rw [hn.out]; exact HO2.out, hE2⟩
          case measure => simp [intOf]; omega
    · obtain rfl : k = M.length := by omega
      rw [List.take_length, ← hP.out] at hown
      have HO := Lib.hid hown
      clear hown
      go_wp2_with fail
      go_ret
      exact ⟨_, rfl, OwnT.base HO.out hE1.size, hE1.trans hE⟩
/-- The last piece, in a row. -/
theorem last_in {l : List UInt8} {w : World} {A : Option Addr} (h : TxtAt w A (pc [] l)) : ∃ n b o, (pc [] l).length = n + 1 ∧ A = some ⟨b, o, none⟩ ∧ w.cell? ⟨b, o + n, none⟩ = some (.string (bs (lastP l))) := by
  obtain ⟨n, hn⟩ : ∃ n, (pc [] l).length = n + 1 := Nat.exists_eq_succ_of_ne_zero (fun e => pc_ne l [] (List.eq_nil_of_length_eq_zero e))
  obtain ⟨b, o, hA, _, hc⟩ := h.at_ (Ext.refl _) n (by omega)
  refine ⟨n, b, o, hn, hA, ?_⟩
  rw [hc]
  congr 3
  unfold lastP
  have e : (pc [] l).length - 1 = n := by omega
  rw [List.getLastD_eq_getLast?, List.getLast?_eq_getElem?, e, List.getElem?_eq_getElem (by omega)]; rfl
set_option maxRecDepth 100000 in
set_option maxHeartbeats 1000000 in
theorem rslash_any (l : List UInt8) (w : World) (hlen : l.length ≤ 1000000) : Calls Tryd.prog 25 #[.string (bs l)] w (Ret w (.bool (slashB l))) := by
  have hMl := pieces_cost l
  have hS : Hid (slashB l = (lastP l == [] || lastP l == [46] || lastP l == [46, 46])) := rfl
  obtain ⟨t0, t1, t2, t3⟩ := txt_tests (p := lastP l)
  obtain ⟨X, hX⟩ : ∃ X, X = bs (lastP l) := ⟨_, rfl⟩
  rw [← hX] at t0 t1 t2 t3
  have HX := Lib.hid hX
  clear hX
  obtain ⟨B0, hB0⟩ : ∃ B0, B0 = (lastP l == []) := ⟨_, rfl⟩
  obtain ⟨B1, hB1⟩ : ∃ B1, B1 = (lastP l == [46]) := ⟨_, rfl⟩
  obtain ⟨B2, hB2⟩ : ∃ B2, B2 = (lastP l == [46, 46]) := ⟨_, rfl⟩
  rw [← hB0, ← hB1, ← hB2] at hS
  rw [← hB0] at t0 t3
  rw [← hB1] at t1
  rw [← hB2] at t2
  clear hB0 hB1 hB2
  go_enter Tryd.func25, Tryd.ntmps25
  go_wp2_with fail
  refine (pieces_any l _ hlen).mono ?_
  rintro e w1 ⟨v, rfl, hv, hE1⟩
  obtain ⟨A, cap, rfl, hle, hcm, hat, hAn⟩ := hv.at_
  obtain ⟨n, b, o, hn, rfl, hcl⟩ := last_in hat
  rw [← HX.out] at hcl
  rw [hn] at hle hMl ⊢
  clear hv hat hAn hn
  have hw1 : IntKind.i64.wrap (n : Int) = n := wrap_i64_in (by omega) (by omega)
  have hn0 : (0 : Int) ≤ (n : Int) := Int.natCast_nonneg _
  have hnl : (n : Int) < (n : Int) + 1 := by omega
  cases B0 <;> cases B1 <;> cases B2
  all_goals
    go_wp2_with fail
    go_ret
    exact Ret.mk (ret_bool (by rw [hS.out]; rfl)) hE1
def strOf : Value → ByteArray
  | .string s => s
  | _ => ⟨#[]⟩
theorem cutN_snoc (l : List UInt8) : cutN (l ++ [47]) = cutN l := by
  unfold cutN
  rw [List.reverse_append]; simp
theorem cutN_stop {l : List UInt8} {c : UInt8} (h : c ≠ 47) : cutN (l ++ [c]) = l ++ [c] := by
  unfold cutN
  rw [List.reverse_append]
  have : (c == 47) = false := beq_eq_false_iff_ne.2 h
  simp [this]
theorem snoc_cases (l : List UInt8) : l = [] ∨ ∃ a c, l = a ++ [c] := by
  rcases List.eq_nil_or_concat l with h | ⟨a, c, h⟩
  · exact .inl h
  · exact .inr ⟨a, c, by rw [h, List.concat_eq_append]⟩

theorem lastN_cut {m l : List UInt8} (h : cutN m = m) (hc : cutN m = cutN l) : bs (lastN l) = bif lastP m == [46] || lastP m == [46, 46] then ⟨#[]⟩ else bs (lastP m) := by
  unfold lastN
  rw [← hc, h]
  by_cases h1 : lastP m = [46]
  · rw [h1]; rfl
  · by_cases h2 : lastP m = [46, 46]
    · rw [h2]; rfl
    · have e1 : (lastP m == [46]) = false := beq_eq_false_iff_ne.2 h1
      have e2 : (lastP m == [46, 46]) = false := beq_eq_false_iff_ne.2 h2
      rw [e1, e2]
      simp [h1, h2]
set_option maxRecDepth 100000 in
set_option maxHeartbeats 1000000 in
theorem rlast_any (l : List UInt8) (w : World) (hlen : l.length ≤ 1000000) : Calls Tryd.prog 27 #[.string (bs l)] w (Ret w (.string (bs (lastN l)))) := by
  go_enter Tryd.func27, Tryd.ntmps27
  go_wp2_with fail
  go_loopw [0] (fun u wr => ∃ m : List UInt8, u = .string (bs m) ∧ m.length ≤ l.length ∧ Hid (cutN m = cutN l) ∧ wr = w) (fun u _ => (strOf u).size)
  case atStart => exact ⟨l, rfl, Nat.le_refl _, rfl, rfl⟩
  case round =>
    obtain ⟨m, rfl, hm, hc, rfl⟩ := hrel
    have hMl := pieces_cost m
    obtain ⟨T, hT⟩ : ∃ T, T = bs (lastP m) := ⟨_, rfl⟩
    obtain ⟨_, t1, t2, _⟩ := txt_tests (p := lastP m)
    have hf := fun h => lastN_cut (m := m) (l := l) h hc.out
    obtain ⟨B1, hB1⟩ : ∃ B1, B1 = (lastP m == [46]) := ⟨_, rfl⟩
    obtain ⟨B2, hB2⟩ : ∃ B2, B2 = (lastP m == [46, 46]) := ⟨_, rfl⟩
    rw [← hT, ← hB1] at t1
    rw [← hT, ← hB2] at t2
    rw [← hB1, ← hB2, ← hT] at hf
    have HT := Lib.hid hT
    clear hT hB1 hB2
    have z0 : (bs m).size = m.length := bs_size m
    rcases snoc_cases m with h | ⟨a, c, h⟩
    · have HF := Lib.hid (hf (by rw [h]; rfl))
      have hm0 : m.length = 0 := by rw [h]; rfl
      clear hf h
      go_wp2_with fail
      refine (pieces_any _ _ (by omega)).mono ?_
      rintro e w1 ⟨v, rfl, hv, hE1⟩
      obtain ⟨A, cap, rfl, hle, hcm, hat, hAn⟩ := hv.at_
      obtain ⟨n, b, o, hn, rfl, hcl⟩ := last_in hat
      rw [← HT.out] at hcl
      rw [hn] at hle hMl ⊢
      clear hv hat hAn hn
      have hw1 : IntKind.i64.wrap (n : Int) = n := wrap_i64_in (by omega) (by omega)
      have hn0 : (0 : Int) ≤ (n : Int) := Int.natCast_nonneg _
      have hnl : (n : Int) < (n : Int) + 1 := by omega
      cases B1 <;> cases B2
      all_goals
        go_wp2_with fail
        go_ret
        exact Ret.mk (ret_str (by rw [HF.out]; first | rfl | exact HT.out)) hE1
    · have hml : m.length = a.length + 1 := by rw [h]; simp
      have hks : a.length < (bs m).size := by omega
      have hg : (bs m)[a.length] = c := by
        rw [bs_get m a.length hks (by omega)]
        simp [h]
      have hw1 : IntKind.i64.wrap (a.length : Int) = a.length := wrap_i64_in (by omega) (by omega)
      by_cases hcs : c = 47
      · have hs2 : (((bs m)[a.length].toNat : Int) == 47) = true := by rw [hg, hcs]; rfl
        have hn : Hid (cutN a = cutN l) := by
          show _ = _
          rw [← hc.out, h, hcs, cutN_snoc]
        have ha : (bs m).extract 0 a.length = bs a := by rw [bs_to, h]; simp
        have hsl := slice_to (P := Tryd.prog) Tryd.underlying9 (bs m) (a.length : Int) a.length rfl (by omega) (bs a) ha
        have za : (bs a).size = a.length := bs_size a
        clear hg hcs h hf ha
        go_wp2_with fail
        go_roundw
        case rel => exact ⟨a, rfl, by omega, hn, by first | trivial | rfl⟩
        case measure => simp [strOf]; omega
      · have HF := Lib.hid (hf (by rw [h]; exact cutN_stop hcs))
        have hs2 : (((bs m)[a.length].toNat : Int) == 47) = false := by
          rw [hg]
          exact (u8_eq (c := c) (d := 47)).trans (beq_eq_false_iff_ne.2 hcs)
        clear hg hcs h hf
        go_wp2_with fail
        refine (pieces_any _ _ (by omega)).mono ?_
        rintro e w1 ⟨v, rfl, hv, hE1⟩
        obtain ⟨A, cap, rfl, hle, hcm, hat, hAn⟩ := hv.at_
        obtain ⟨n, b, o, hn, rfl, hcl⟩ := last_in hat
        rw [← HT.out] at hcl
        rw [hn] at hle hMl ⊢
        clear hv hat hAn hn
        have hw1 : IntKind.i64.wrap (n : Int) = n := wrap_i64_in (by omega) (by omega)
        have hn0 : (0 : Int) ≤ (n : Int) := Int.natCast_nonneg _
        have hnl : (n : Int) < (n : Int) + 1 := by omega
        cases B1 <;> cases B2
        all_goals
          go_wp2_with fail
          go_ret
          exact Ret.mk (ret_str (by rw [HF.out]; first | rfl | exact HT.out)) hE1
set_option maxRecDepth 100000 in
set_option maxHeartbeats 1000000 in
theorem rsame_any (A A' : Option Addr) (cap cap' : Nat) (es : List Txt) (w : World) (ha : TxtAt w A es) (hb : TxtAt w A' es) (hlen : es.length ≤ 1000000) : Calls Tryd.prog 22 #[.slice A es.length cap, .slice A' es.length cap'] w (Ret w (.bool true)) := by
  go_enter Tryd.func22, Tryd.ntmps22
  go_wp2_with fail
  go_loopw [5] (fun i wr => ∃ k : Nat, k ≤ es.length ∧ i = .int .i64 k ∧ Ext w wr) (fun i _ => es.length - (intOf i).toNat)
  case atStart => exact ⟨0, Nat.zero_le _, rfl, Ext.refl _⟩
  case round =>
    obtain ⟨k, hk, rfl, hE⟩ := hrel
    by_cases hlt : (k : Int) < es.length
    · have hkl : k < es.length := by omega
      obtain ⟨b, o, rfl, hbb, hcl⟩ := ha.at_ hE k hkl
      obtain ⟨b', o', rfl, hbb', hcl'⟩ := hb.at_ hE k hkl
      obtain ⟨X, hX⟩ : ∃ X, X = bs es[k] := ⟨_, rfl⟩
      rw [← hX] at hcl hcl'
      have hk0 : (0 : Int) ≤ (k : Int) := Int.natCast_nonneg _
      have hneg : decide ((k : Int) < 0) = false := decide_eq_false (by omega)
      have hge : decide ((0 : Int) ≤ (k : Int)) = true := decide_eq_true (by omega)
      clear hX
      go_wp2_with fail
      go_quiet (fail)
      go_wp2_with fail
      go_roundw
      case rel => exact ⟨k + 1, by omega, by go_num, by first | exact hE | exact hE.drew | exact hE.drewN _⟩
      case measure => simp [intOf]; omega
    · obtain rfl : k = es.length := by omega
      go_wp2_with fail
      go_ret
      exact Ret.mk rfl hE
def pathN (l : List UInt8) : Int := if l = [] then 5 else if l.head? ≠ some 47 ∨ hasB l 0 = true then 1 else if 4096 < l.length then 13 else 0
theorem pathN_no {l : List UInt8} (h0 : ¬ l = []) : pathN l = if l.head? ≠ some 47 ∨ hasB l 0 = true then 1 else if 4096 < l.length then 13 else 0 := by
  unfold pathN; rw [if_neg h0]
set_option maxRecDepth 100000 in
set_option maxHeartbeats 1000000 in
theorem rpath_any (l : List UInt8) (w : World) (hlen : l.length ≤ 1000000) : Calls Tryd.prog 21 #[.string (bs l)] w (Ret w (.int .i64 (pathN l))) := by
  have z0 : (bs l).size = l.length := bs_size l
  have hb : Hid ((bs l).data.toList = l) := bs_list l
  have hs : (bs l).size ≤ 1000000 := by omega
  cases l with
  | nil =>
    have e : (bs []).toList = [] := bs_toList []
    go_enter Tryd.func21, Tryd.ntmps21
    go_wp2_with fail
    go_ret
    exact Ret.mk rfl (Ext.refl _)
  | cons c t =>
    have hp := pathN_no (l := c :: t) (by simp)
    have e0 : (bs (c :: t)).toList.isEmpty = false := by rw [bs_toList]; rfl
    have hks : 0 < (bs (c :: t)).size := by rw [bs_size]; simp
    have hg : (bs (c :: t))[0] = c := rfl
    by_cases hc : c = 47
    · have hs2 : (((bs (c :: t))[0].toNat : Int) != 47) = false := by rw [hg, hc]; rfl
      cases hz : hasB (c :: t) 0 with
      | true =>
        have hf : Hid (pathN (c :: t) = 1) := by show _ = _; rw [hp, if_pos (.inr hz)]
        have HZ := Lib.hid hz
        obtain ⟨X, hX⟩ : ∃ X, X = bs (c :: t) := ⟨_, rfl⟩
        clear hp hg hc hz
        go_enter Tryd.func21, Tryd.ntmps21
        go_wp2_with fail
        refine (rhas_any _ 0 _ (by rfl) hs _).mono ?_
        rintro e w1 ⟨rfl, b1⟩
        rw [hb.out, HZ.out]
        go_wp2_with fail
        go_ret
        exact Ret.mk (ret_int (by rw [hf.out])) b1
      | false =>
        have HZ := Lib.hid hz
        have hf : Hid (pathN (c :: t) = if 4096 < t.length + 1 then 13 else 0) := by
          show _ = _
          rw [hp, if_neg (by rw [hz, hc]; simp)]; rfl
        by_cases h : 4096 < t.length + 1
        · rw [if_pos h] at hf
          clear hp hg hc hz
          go_enter Tryd.func21, Tryd.ntmps21
          go_wp2_with fail
          refine (rhas_any _ 0 _ (by rfl) hs _).mono ?_
          rintro e w1 ⟨rfl, b1⟩
          rw [hb.out, HZ.out]
          go_wp2_with fail
          go_ret
          exact Ret.mk (ret_int (by rw [hf.out])) b1
        · rw [if_neg h] at hf
          clear hp hg hc hz
          go_enter Tryd.func21, Tryd.ntmps21
          go_wp2_with fail
          refine (rhas_any _ 0 _ (by rfl) hs _).mono ?_
          rintro e w1 ⟨rfl, b1⟩
          rw [hb.out, HZ.out]
          go_wp2_with fail
          go_ret
          exact Ret.mk (ret_int (by rw [hf.out])) b1
    · have hs2 : (((bs (c :: t))[0].toNat : Int) != 47) = true := by
        have := (u8_eq (c := c) (d := 47)).trans (beq_eq_false_iff_ne.2 hc)
        rw [hg, bne, show ((c.toNat : Int) == 47) = false from this]; rfl
      have hf : Hid (pathN (c :: t) = 1) := by show _ = _; rw [hp, if_pos (.inl (by simpa using hc))]
      clear hp hg hc
      go_enter Tryd.func21, Tryd.ntmps21
      go_wp2_with fail
      go_ret
      exact Ret.mk (ret_int (by rw [hf.out])) (Ext.refl _)
end Go.Proofs.YtmppjbimdonfmaaDoor
