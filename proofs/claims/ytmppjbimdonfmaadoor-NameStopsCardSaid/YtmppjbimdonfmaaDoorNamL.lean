/- Layer 2 (name): the laws' awake and few; the walk of NameTells. -/
import Derived.Test.YtmppjbimdonfmaaDoorNamU
namespace Go.Proofs.YtmppjbimdonfmaaDoor
open Go.ChangeShapes Go.WideShapes Go.ChangeAt Go.RowKit

/-- Texts that a call has just laid down. -/
theorem txt_laid (w : World) (l : List Txt) (C : Array Value) (h : C = (txtCells l).toArray) : TxtAt (w.alloc (.cells C 9)) (some ⟨w.heap.size, 0, none⟩) l := by
  refine .inr ⟨w.heap.size, 0, rfl, by simp, fun k hk => ?_⟩
  rw [Nat.zero_add, (Has.new w _).cell k, h]
  simp [txtCells, hk]
set_option maxRecDepth 100000 in
set_option maxHeartbeats 4000000 in
theorem awake2 (w : World) : Calls Tryd.prog 16 #[] w (Ret w (.bool true)) := by
  have q1 : Hid ((partsN [47, 97, 47, 47, 46, 47, 98, 47, 46, 46]).take 9 = [[97], [98], [46, 46]]) := by show _ = _; decide
  have q2 : Hid (slashB [47, 97, 47] = true) := by show _ = _; decide
  have q3 : Hid (bs (lastN [47, 97, 47]) = ⟨#[97]⟩) := by show _ = _; rw [show lastN [47, 97, 47] = [97] by decide]; rfl
  have q4 : Hid (bs (lastN [47, 97, 47, 46, 46]) = ⟨#[]⟩) := by show _ = _; rw [show lastN [47, 97, 47, 46, 46] = [] by decide]; rfl
  have q5 : Hid (checkN [46] = 1) := by show _ = _; decide
  have q6 : Hid (pathN [97] = 1) := by show _ = _; decide
  go_enter Tryd.func16, Tryd.ntmps16
  go_wp2_with fail
  refine (all_any [47, 97, 47, 47, 46, 47, 98, 47, 46, 46] 9 _ (by decide) (by decide) (by decide)).mono ?_
  rintro e w1 ⟨v, rfl, hv, hE1⟩
  rw [q1.out] at hv
  obtain ⟨A, cap, rfl, hle, hcm, hat, hAn⟩ := hv.at_
  clear hv hle hcm hAn
  go_wp2_with fail
  refine (rsame_any A (some ⟨w1.heap.size, 0, none⟩) cap 3 [[97], [98], [46, 46]] _ (hat.ext ((Ext.refl _).alloc _)) (txt_laid w1 _ _ rfl) (by decide)).mono ?_
  rintro e w2 ⟨rfl, hE2⟩
  have hE3 := (hE1.alloc _).trans hE2
  go_wp2_with fail
  refine (pslash_any [47, 97, 47] _ (by decide)).mono ?_
  rintro e w3 ⟨rfl, hE4⟩
  rw [q2.out]
  go_wp2_with fail
  refine (plast_any [47, 97, 47] _ (by decide)).mono ?_
  rintro e w4 ⟨rfl, hE5⟩
  rw [q3.out]
  go_wp2_with fail
  refine (plast_any [47, 97, 47, 46, 46] _ (by decide)).mono ?_
  rintro e w5 ⟨rfl, hE6⟩
  rw [q4.out]
  go_wp2_with fail
  refine (pcheck_any (bs [46]) _).mono ?_
  rintro e w6 ⟨rfl, hE7⟩
  rw [bs_list, q5.out]
  go_wp2_with fail
  refine (ppath_any [97] _ (by decide)).mono ?_
  rintro e w7 ⟨rfl, hE8⟩
  rw [q6.out]
  go_wp2_with fail
  go_ret
  exact Ret.mk rfl (hE3.trans (hE4.trans (hE5.trans (hE6.trans (hE7.trans hE8)))))
def fewB (n : Nat) : Bool := decide (n ≤ 400 ∨ (4000 < n ∧ n ≤ 4200))
set_option maxHeartbeats 1000000 in
theorem few_any (l : List UInt8) (w : World) : Calls Tryd.prog 15 #[.string (bs l)] w (Ret w (.bool (fewB l.length))) := by
  have z0 : (bs l).size = l.length := bs_size l
  by_cases h1 : l.length ≤ 400
  · have hf := Lib.hid (show fewB l.length = true from decide_eq_true (.inl h1))
    have hi : (l.length : Int) ≤ 400 := by omega
    go_enter Tryd.func15, Tryd.ntmps15
    go_wp2_with fail
    go_ret
    exact Ret.mk (ret_bool (by rw [hf.out])) (Ext.refl _)
  · have hi : ¬ (l.length : Int) ≤ 400 := by omega
    have hi2 : (400 : Int) < (l.length : Int) := by omega
    by_cases h2 : 4000 < l.length
    · have hj : (4000 : Int) < (l.length : Int) := by omega
      by_cases h3 : l.length ≤ 4200
      · have hf := Lib.hid (show fewB l.length = true from decide_eq_true (.inr ⟨h2, h3⟩))
        have hk : (l.length : Int) ≤ 4200 := by omega
        clear h1 h2 h3
        go_enter Tryd.func15, Tryd.ntmps15
        go_wp2_with fail
        go_ret
        exact Ret.mk (ret_bool (by rw [hf.out])) (Ext.refl _)
      · have hf := Lib.hid (show fewB l.length = false from decide_eq_false (by omega))
        have hk : ¬ (l.length : Int) ≤ 4200 := by omega
        clear h1 h2 h3
        go_enter Tryd.func15, Tryd.ntmps15
        go_wp2_with fail
        go_ret
        exact Ret.mk (ret_bool (by rw [hf.out])) (Ext.refl _)
    · have hf := Lib.hid (show fewB l.length = false from decide_eq_false (by omega))
      have hj : ¬ (4000 : Int) < (l.length : Int) := by omega
      clear h1 h2
      go_enter Tryd.func15, Tryd.ntmps15
      go_wp2_with fail
      go_ret
      exact Ret.mk (ret_bool (by rw [hf.out])) (Ext.refl _)
theorem fewB_len {n : Nat} (h : fewB n = true) : n ≤ 4200 := by
  have := of_decide_eq_true h
  omega
set_option maxRecDepth 100000 in
set_option maxHeartbeats 4000000 in
theorem nameTells_any (l : List UInt8) (w : World) : Calls Tryd.prog 3 #[.string (bs l)] w (Ret w (.bool true)) := by
  have z0 : (bs l).size = l.length := bs_size l
  cases hb : fewB l.length with
  | false =>
    have HB := Lib.hid hb
    clear hb
    go_enter Tryd.func3, Tryd.ntmps3
    go_wp2_with fail
    refine (few_any l _).mono ?_
    rintro e w1 ⟨rfl, hE1⟩
    rw [HB.out]
    go_wp2_with fail
    refine (awake2 _).mono ?_
    rintro e w2 ⟨rfl, hE2⟩
    go_wp2_with fail
    go_ret
    exact Ret.mk rfl (hE1.trans hE2)
  | true =>
    have hn := fewB_len hb
    have hl : l.length ≤ 1000000 := by omega
    have hs : (bs l).size ≤ 1000000 := by omega
    have hpl := parts_len l
    have ht : Hid ((partsN l).take 5000 = partsN l) := List.take_of_length_le (by omega)
    have HB := Lib.hid hb
    clear hb
    go_enter Tryd.func3, Tryd.ntmps3
    go_wp2_with fail
    refine (few_any l _).mono ?_
    rintro e w1 ⟨rfl, hE1⟩
    rw [HB.out]
    go_wp2_with fail
    refine (all_any l 5000 _ hl (by decide) (by decide)).mono ?_
    rintro e w2 ⟨v, rfl, hv, hE2⟩
    rw [ht.out] at hv
    obtain ⟨A, cap, rfl, hle, hcm, hat, hAn⟩ := hv.at_
    clear hv hle hcm hAn
    go_wp2_with fail
    refine (pcheck_any (bs l) _).mono ?_
    rintro e w3 ⟨rfl, hE3⟩
    rw [bs_list]
    go_wp2_with fail
    refine (rcheck_any (bs l) hs _).mono ?_
    rintro e w4 ⟨rfl, hE4⟩
    rw [bs_list]
    go_wp2_with fail
    refine (ppath_any l _ hl).mono ?_
    rintro e w5 ⟨rfl, hE5⟩
    go_wp2_with fail
    refine (rpath_any l _ hl).mono ?_
    rintro e w6 ⟨rfl, hE6⟩
    go_wp2_with fail
    refine (rparts_any l _ hl).mono ?_
    rintro e w7 ⟨v, rfl, hv, hE7⟩
    obtain ⟨A', cap', rfl, hle', hcm', hat', hAn'⟩ := hv.at_
    clear hv hle' hcm' hAn'
    have hE26 := hE3.trans (hE4.trans (hE5.trans (hE6.trans hE7)))
    go_wp2_with fail
    refine (rsame_any A A' cap cap' (partsN l) _ (hat.ext hE26) hat' (by omega)).mono ?_
    rintro e w8 ⟨rfl, hE8⟩
    go_wp2_with fail
    refine (pslash_any l _ hl).mono ?_
    rintro e w9 ⟨rfl, hE9⟩
    go_wp2_with fail
    refine (rslash_any l _ hl).mono ?_
    rintro e w10 ⟨rfl, hE10⟩
    go_wp2_with fail
    refine (plast_any l _ hl).mono ?_
    rintro e w11 ⟨rfl, hE11⟩
    go_wp2_with fail
    refine (rlast_any l _ hl).mono ?_
    rintro e w12 ⟨rfl, hE12⟩
    go_wp2_with fail
    refine (awake2 _).mono ?_
    rintro e w13 ⟨rfl, hE13⟩
    go_wp2_with fail
    go_ret
    exact Ret.mk rfl (hE1.trans (hE2.trans (hE26.trans (hE8.trans (hE9.trans (hE10.trans (hE11.trans (hE12.trans hE13))))))))
end Go.Proofs.YtmppjbimdonfmaaDoor
