/- Layer 46 (args): Write, the reference's. -/
import Derived.Test.YtmppjbimdonfmaaDoorArgA
import Derived.Test.YtmppjbimdonfmaaDoorApdT
import Derived.Lib.AppendZerosOnto
namespace Go.Proofs.YtmppjbimdonfmaaDoor
open Go.ChangeShapes Go.WideShapes Go.ChangeAt Go.RowKit

set_option maxRecDepth 100000 in
set_option maxHeartbeats 4000000 in
theorem rwrite_tt5 (k : Int) (A : Option Addr) (cap : Nat) (ps : List Txt) (a q : Int) (w : World) (hat : TxtAt w A ps) (hA : A = none → cap = 0) (_hlen : ps.length ≤ 1000) (ha : I64 a) (hq : I64 q) (hk : k = 5) : Calls Tryd.prog 71 #[.agg (cmdC k (.slice A ps.length cap) true true a q)] w (WrR w (writeC k ps true true a q)) := by
  have E0 : Ext w (w.alloc (.cells (cmdC k (.slice A ps.length cap) true true a q) 62)) := (Ext.refl _).alloc _
  have hC0 : CmdAt (w.alloc (.cells (cmdC k (.slice A ps.length cap) true true a q) 62)) w.heap.size k (.slice A ps.length cap) true true a q := Has.new _ _
  have HAT := Lib.hid hat
  have HAN := Lib.hid hA
  have HIa := Lib.hid ha
  have HIq := Lib.hid hq
  have hk5 : (k == 5) = true := by rw [hk]; rfl
  have HF : Hid ([nameN k] ++ [[45, 98]] ++ [[45, 114]] ++ [decI a, decI q] = writeC k ps true true a q) := by show _ = _; unfold writeC; rw [if_pos hk]; rfl
  clear hat hA ha hq hk
  unfold cmdC
  go_enter Tryd.func71, Tryd.ntmps71
  go_wp2_with fail
  refine (rname_any k _).mono ?_
  rintro e w1 ⟨rfl, b1⟩
  obtain ⟨wr, hwr⟩ : ∃ W, W = w1.alloc (.cells #[.string (bs (nameN k))] 9) := ⟨_, rfl⟩
  have hO : OwnT wr w.heap.size (.slice (some ⟨w1.heap.size, 0, none⟩) 1 1) [nameN k] := by rw [hwr]; exact txt_one w1 _ _ (E0.trans b1).size
  have hE : Ext w wr := by rw [hwr]; exact (E0.trans b1).alloc _
  have hC : CmdAt wr w.heap.size k (.slice A ps.length cap) true true a q := by rw [hwr]; exact Has.alloc (Has.ext hC0 b1) _
  have HV := Lib.hid hwr
  obtain ⟨c0, c1, c2, c3, c4, c5⟩ := hC.cells
  have hlC := Has.lt hC
  clear hC0 E0 hwr b1
  obtain ⟨v1, w21, hr1, hO1, hg1⟩ := app_one [45, 98] wr hO (hE.size) (by simp)
  have HR1 := Lib.hid hr1
  have hE1 : Ext w w21 := (hE.alloc _).grown hg1 (fun g hv => (World.ownsRow.lt hO g hv).1)
  have hC1 : CmdAt w21 w.heap.size k (.slice A ps.length cap) true true a q := Has.grown (Has.alloc hC _) hg1 (row_ne hO hC (by decide))
  obtain ⟨e10, e11, e12, e13, e14, e15⟩ := hC1.cells
  have hl1 := Has.lt hC1
  clear hr1 hg1
  obtain ⟨v2, w22, hr2, hO2, hg2⟩ := app_one [45, 114] w21 hO1 (hE1.size) (by simp)
  have HR2 := Lib.hid hr2
  have hE2 : Ext w w22 := (hE1.alloc _).grown hg2 (fun g hv => (World.ownsRow.lt hO1 g hv).1)
  have hC2 : CmdAt w22 w.heap.size k (.slice A ps.length cap) true true a q := Has.grown (Has.alloc hC1 _) hg2 (row_ne hO1 hC1 (by decide))
  obtain ⟨e20, e21, e22, e23, e24, e25⟩ := hC2.cells
  have hl2 := Has.lt hC2
  clear hr2 hg2
  go_wp2_with (first | rw [← HV.out] | (at_builtin; refine Lib.wpList_append_run _ rfl _ _ 24 24 rfl _ _ rfl rfl _ _ HR1.out ?_) | (at_builtin; refine Lib.wpList_append_run _ rfl _ _ 24 24 rfl _ _ rfl rfl _ _ HR2.out ?_))
  obtain ⟨x0, x1, x2, x3, x4, x5⟩ := hC2.cells
  have hxl := Has.lt hC2
  have hW1 : Ext w22 w22.drew := (Ext.refl _).drew
  have KS : Hid (∀ w', Ext w22 w' → (Ext w w' ∧ w'.cell? ⟨w.heap.size, 4, none⟩ = some (.int .i64 a) ∧ w'.cell? ⟨w.heap.size, 5, none⟩ = some (.int .i64 q))) := fun w' h => ⟨hE2.trans h, (h.cell hxl).trans x4, (h.cell hxl).trans x5⟩
  go_region_held3 (fun w' => Ext w w' ∧ w'.cell? ⟨w.heap.size, 4, none⟩ = some (.int .i64 a) ∧ w'.cell? ⟨w.heap.size, 5, none⟩ = some (.int .i64 q))
    ((first | exact KS.out _ hW1 | exact KS.out _ (hW1.trans hbd) | exact KS.out _ ((hW1.trans hbd).alloc _) | exact KS.out _ ((hW1.trans ‹Ext w22.drew _›).trans hbd) | exact KS.out _ (((hW1.trans ‹Ext w22.drew _›).trans hbd).alloc _) | exact ⟨hE9, hC9.cells.2.2.2.2.1, hC9.cells.2.2.2.2.2⟩))
    ((first | (go_at_call 87; refine (rdec_any _ _ (by first | exact HIa.out | exact HIq.out)).mono ?_; rintro e wd ⟨rfl, hbd⟩) | (refine step_append_run _ (by rfl) _ _ 24 (by rfl) _ _ (by rfl) (by rfl) (app_list (some ⟨wd.heap.size, 0, none⟩) 2 [decI a, decI q] (wd.alloc _) (OwnT.ext hO2 (((hW1.trans ‹Ext w22.drew _›).trans hbd).alloc _)) (two_at wd _ _) (by intro h; cases h) (hE2.trans (((hW1.trans ‹Ext w22.drew _›).trans hbd).alloc _)).size (by simp) (by simp)) ?_; rintro v9 w9 ⟨hO9, hg9⟩; have hC9 : CmdAt w9 w.heap.size k (.slice A ps.length cap) true true a q := Has.grown (Has.ext hC2 (((hW1.trans ‹Ext w22.drew _›).trans hbd).alloc _)) hg9 (row_ne hO2 hC2 (by decide)); have hE9 : Ext w w9 := (hE2.trans (((hW1.trans ‹Ext w22.drew _›).trans hbd).alloc _)).grown hg9 (fun g hv => (World.ownsRow.lt hO2 g hv).1))))
  go_wp2_with fail
  go_ret
  exact WrR.mk hO9 hE9 HF.out
set_option maxRecDepth 100000 in
set_option maxHeartbeats 4000000 in
theorem rwrite_ttE (k : Int) (A : Option Addr) (cap : Nat) (ps : List Txt) (a q : Int) (w : World) (hat : TxtAt w A ps) (hA : A = none → cap = 0) (hlen : ps.length ≤ 1000) (ha : I64 a) (hq : I64 q) (hk : k ≠ 5) (hp : ps = []) : Calls Tryd.prog 71 #[.agg (cmdC k (.slice A ps.length cap) true true a q)] w (WrR w (writeC k ps true true a q)) := by
  have E0 : Ext w (w.alloc (.cells (cmdC k (.slice A ps.length cap) true true a q) 62)) := (Ext.refl _).alloc _
  have hC0 : CmdAt (w.alloc (.cells (cmdC k (.slice A ps.length cap) true true a q) 62)) w.heap.size k (.slice A ps.length cap) true true a q := Has.new _ _
  have HAT := Lib.hid hat
  have HAN := Lib.hid hA
  have HIa := Lib.hid ha
  have HIq := Lib.hid hq
  have hk5 : (k == 5) = false := beq_eq_false_iff_ne.2 hk
  have hp0 : (ps.length : Int) ≤ 0 := by rw [hp]; simp
  have HF : Hid ([nameN k] ++ [[45, 98]] ++ [[45, 114]] ++ ps = writeC k ps true true a q) := by show _ = _; unfold writeC; rw [if_neg hk, hp]; rfl
  clear hat hA ha hq hk hp
  unfold cmdC
  go_enter Tryd.func71, Tryd.ntmps71
  go_wp2_with fail
  refine (rname_any k _).mono ?_
  rintro e w1 ⟨rfl, b1⟩
  obtain ⟨wr, hwr⟩ : ∃ W, W = w1.alloc (.cells #[.string (bs (nameN k))] 9) := ⟨_, rfl⟩
  have hO : OwnT wr w.heap.size (.slice (some ⟨w1.heap.size, 0, none⟩) 1 1) [nameN k] := by rw [hwr]; exact txt_one w1 _ _ (E0.trans b1).size
  have hE : Ext w wr := by rw [hwr]; exact (E0.trans b1).alloc _
  have hC : CmdAt wr w.heap.size k (.slice A ps.length cap) true true a q := by rw [hwr]; exact Has.alloc (Has.ext hC0 b1) _
  have HV := Lib.hid hwr
  obtain ⟨c0, c1, c2, c3, c4, c5⟩ := hC.cells
  have hlC := Has.lt hC
  clear hC0 E0 hwr b1
  obtain ⟨v1, w21, hr1, hO1, hg1⟩ := app_one [45, 98] wr hO (hE.size) (by simp)
  have HR1 := Lib.hid hr1
  have hE1 : Ext w w21 := (hE.alloc _).grown hg1 (fun g hv => (World.ownsRow.lt hO g hv).1)
  have hC1 : CmdAt w21 w.heap.size k (.slice A ps.length cap) true true a q := Has.grown (Has.alloc hC _) hg1 (row_ne hO hC (by decide))
  obtain ⟨e10, e11, e12, e13, e14, e15⟩ := hC1.cells
  have hl1 := Has.lt hC1
  clear hr1 hg1
  obtain ⟨v2, w22, hr2, hO2, hg2⟩ := app_one [45, 114] w21 hO1 (hE1.size) (by simp)
  have HR2 := Lib.hid hr2
  have hE2 : Ext w w22 := (hE1.alloc _).grown hg2 (fun g hv => (World.ownsRow.lt hO1 g hv).1)
  have hC2 : CmdAt w22 w.heap.size k (.slice A ps.length cap) true true a q := Has.grown (Has.alloc hC1 _) hg2 (row_ne hO1 hC1 (by decide))
  obtain ⟨e20, e21, e22, e23, e24, e25⟩ := hC2.cells
  have hl2 := Has.lt hC2
  clear hr2 hg2
  obtain ⟨v9, w9, hr9, hO9, hg9⟩ := app_list A cap ps w22 hO2 (HAT.out.ext hE2) HAN.out (hE2.size) (by simp) (by omega)
  have HR9 := Lib.hid hr9
  have hE9 : Ext w w9 := hE2.grown hg9 (fun g hv => (World.ownsRow.lt hO2 g hv).1)
  clear hr9 hg9
  go_wp2_with (first | rw [← HV.out] | (at_builtin; refine Lib.wpList_append_run _ rfl _ _ 24 24 rfl _ _ rfl rfl _ _ HR1.out ?_) | (at_builtin; refine Lib.wpList_append_run _ rfl _ _ 24 24 rfl _ _ rfl rfl _ _ HR2.out ?_) | (at_builtin; refine Lib.wpList_append_run _ rfl _ _ 24 24 rfl _ _ rfl rfl _ _ HR9.out ?_))
  go_ret
  exact WrR.mk hO9 hE9 HF.out
set_option maxRecDepth 100000 in
set_option maxHeartbeats 4000000 in
theorem rwrite_ttN (k : Int) (A : Option Addr) (cap : Nat) (ps : List Txt) (a q : Int) (w : World) (hat : TxtAt w A ps) (hA : A = none → cap = 0) (hlen : ps.length ≤ 1000) (ha : I64 a) (hq : I64 q) (hk : k ≠ 5) (hp : ps ≠ []) : Calls Tryd.prog 71 #[.agg (cmdC k (.slice A ps.length cap) true true a q)] w (WrR w (writeC k ps true true a q)) := by
  have E0 : Ext w (w.alloc (.cells (cmdC k (.slice A ps.length cap) true true a q) 62)) := (Ext.refl _).alloc _
  have hC0 : CmdAt (w.alloc (.cells (cmdC k (.slice A ps.length cap) true true a q) 62)) w.heap.size k (.slice A ps.length cap) true true a q := Has.new _ _
  have HAT := Lib.hid hat
  have HAN := Lib.hid hA
  have HIa := Lib.hid ha
  have HIq := Lib.hid hq
  have hk5 : (k == 5) = false := beq_eq_false_iff_ne.2 hk
  have hp0 : (0 : Int) < (ps.length : Int) := by have := List.length_pos_iff.2 hp; omega
  have HF : Hid ([nameN k] ++ [[45, 98]] ++ [[45, 114]] ++ [[45, 45]] ++ ps = writeC k ps true true a q) := by show _ = _; unfold writeC; rw [if_neg hk, if_neg hp]; rfl
  clear hat hA ha hq hk hp
  unfold cmdC
  go_enter Tryd.func71, Tryd.ntmps71
  go_wp2_with fail
  refine (rname_any k _).mono ?_
  rintro e w1 ⟨rfl, b1⟩
  obtain ⟨wr, hwr⟩ : ∃ W, W = w1.alloc (.cells #[.string (bs (nameN k))] 9) := ⟨_, rfl⟩
  have hO : OwnT wr w.heap.size (.slice (some ⟨w1.heap.size, 0, none⟩) 1 1) [nameN k] := by rw [hwr]; exact txt_one w1 _ _ (E0.trans b1).size
  have hE : Ext w wr := by rw [hwr]; exact (E0.trans b1).alloc _
  have hC : CmdAt wr w.heap.size k (.slice A ps.length cap) true true a q := by rw [hwr]; exact Has.alloc (Has.ext hC0 b1) _
  have HV := Lib.hid hwr
  obtain ⟨c0, c1, c2, c3, c4, c5⟩ := hC.cells
  have hlC := Has.lt hC
  clear hC0 E0 hwr b1
  obtain ⟨v1, w21, hr1, hO1, hg1⟩ := app_one [45, 98] wr hO (hE.size) (by simp)
  have HR1 := Lib.hid hr1
  have hE1 : Ext w w21 := (hE.alloc _).grown hg1 (fun g hv => (World.ownsRow.lt hO g hv).1)
  have hC1 : CmdAt w21 w.heap.size k (.slice A ps.length cap) true true a q := Has.grown (Has.alloc hC _) hg1 (row_ne hO hC (by decide))
  obtain ⟨e10, e11, e12, e13, e14, e15⟩ := hC1.cells
  have hl1 := Has.lt hC1
  clear hr1 hg1
  obtain ⟨v2, w22, hr2, hO2, hg2⟩ := app_one [45, 114] w21 hO1 (hE1.size) (by simp)
  have HR2 := Lib.hid hr2
  have hE2 : Ext w w22 := (hE1.alloc _).grown hg2 (fun g hv => (World.ownsRow.lt hO1 g hv).1)
  have hC2 : CmdAt w22 w.heap.size k (.slice A ps.length cap) true true a q := Has.grown (Has.alloc hC1 _) hg2 (row_ne hO1 hC1 (by decide))
  obtain ⟨e20, e21, e22, e23, e24, e25⟩ := hC2.cells
  have hl2 := Has.lt hC2
  clear hr2 hg2
  obtain ⟨v3, w23, hr3, hO3, hg3⟩ := app_one [45, 45] w22 hO2 (hE2.size) (by simp)
  have HR3 := Lib.hid hr3
  have hE3 : Ext w w23 := (hE2.alloc _).grown hg3 (fun g hv => (World.ownsRow.lt hO2 g hv).1)
  have hC3 : CmdAt w23 w.heap.size k (.slice A ps.length cap) true true a q := Has.grown (Has.alloc hC2 _) hg3 (row_ne hO2 hC2 (by decide))
  obtain ⟨e30, e31, e32, e33, e34, e35⟩ := hC3.cells
  have hl3 := Has.lt hC3
  clear hr3 hg3
  obtain ⟨v9, w9, hr9, hO9, hg9⟩ := app_list A cap ps w23 hO3 (HAT.out.ext hE3) HAN.out (hE3.size) (by simp) (by omega)
  have HR9 := Lib.hid hr9
  have hE9 : Ext w w9 := hE3.grown hg9 (fun g hv => (World.ownsRow.lt hO3 g hv).1)
  clear hr9 hg9
  go_wp2_with (first | rw [← HV.out] | (at_builtin; refine Lib.wpList_append_run _ rfl _ _ 24 24 rfl _ _ rfl rfl _ _ HR1.out ?_) | (at_builtin; refine Lib.wpList_append_run _ rfl _ _ 24 24 rfl _ _ rfl rfl _ _ HR2.out ?_) | (at_builtin; refine Lib.wpList_append_run _ rfl _ _ 24 24 rfl _ _ rfl rfl _ _ HR3.out ?_) | (at_builtin; refine Lib.wpList_append_run _ rfl _ _ 24 24 rfl _ _ rfl rfl _ _ HR9.out ?_))
  go_ret
  exact WrR.mk hO9 hE9 HF.out
set_option maxRecDepth 100000 in
set_option maxHeartbeats 4000000 in
theorem rwrite_tf5 (k : Int) (A : Option Addr) (cap : Nat) (ps : List Txt) (a q : Int) (w : World) (hat : TxtAt w A ps) (hA : A = none → cap = 0) (_hlen : ps.length ≤ 1000) (ha : I64 a) (hq : I64 q) (hk : k = 5) : Calls Tryd.prog 71 #[.agg (cmdC k (.slice A ps.length cap) true false a q)] w (WrR w (writeC k ps true false a q)) := by
  have E0 : Ext w (w.alloc (.cells (cmdC k (.slice A ps.length cap) true false a q) 62)) := (Ext.refl _).alloc _
  have hC0 : CmdAt (w.alloc (.cells (cmdC k (.slice A ps.length cap) true false a q) 62)) w.heap.size k (.slice A ps.length cap) true false a q := Has.new _ _
  have HAT := Lib.hid hat
  have HAN := Lib.hid hA
  have HIa := Lib.hid ha
  have HIq := Lib.hid hq
  have hk5 : (k == 5) = true := by rw [hk]; rfl
  have HF : Hid ([nameN k] ++ [[45, 98]] ++ [decI a, decI q] = writeC k ps true false a q) := by show _ = _; unfold writeC; rw [if_pos hk]; rfl
  clear hat hA ha hq hk
  unfold cmdC
  go_enter Tryd.func71, Tryd.ntmps71
  go_wp2_with fail
  refine (rname_any k _).mono ?_
  rintro e w1 ⟨rfl, b1⟩
  obtain ⟨wr, hwr⟩ : ∃ W, W = w1.alloc (.cells #[.string (bs (nameN k))] 9) := ⟨_, rfl⟩
  have hO : OwnT wr w.heap.size (.slice (some ⟨w1.heap.size, 0, none⟩) 1 1) [nameN k] := by rw [hwr]; exact txt_one w1 _ _ (E0.trans b1).size
  have hE : Ext w wr := by rw [hwr]; exact (E0.trans b1).alloc _
  have hC : CmdAt wr w.heap.size k (.slice A ps.length cap) true false a q := by rw [hwr]; exact Has.alloc (Has.ext hC0 b1) _
  have HV := Lib.hid hwr
  obtain ⟨c0, c1, c2, c3, c4, c5⟩ := hC.cells
  have hlC := Has.lt hC
  clear hC0 E0 hwr b1
  obtain ⟨v1, w21, hr1, hO1, hg1⟩ := app_one [45, 98] wr hO (hE.size) (by simp)
  have HR1 := Lib.hid hr1
  have hE1 : Ext w w21 := (hE.alloc _).grown hg1 (fun g hv => (World.ownsRow.lt hO g hv).1)
  have hC1 : CmdAt w21 w.heap.size k (.slice A ps.length cap) true false a q := Has.grown (Has.alloc hC _) hg1 (row_ne hO hC (by decide))
  obtain ⟨e10, e11, e12, e13, e14, e15⟩ := hC1.cells
  have hl1 := Has.lt hC1
  clear hr1 hg1
  go_wp2_with (first | rw [← HV.out] | (at_builtin; refine Lib.wpList_append_run _ rfl _ _ 24 24 rfl _ _ rfl rfl _ _ HR1.out ?_))
  obtain ⟨x0, x1, x2, x3, x4, x5⟩ := hC1.cells
  have hxl := Has.lt hC1
  have hW1 : Ext w21 w21.drew := (Ext.refl _).drew
  have KS : Hid (∀ w', Ext w21 w' → (Ext w w' ∧ w'.cell? ⟨w.heap.size, 4, none⟩ = some (.int .i64 a) ∧ w'.cell? ⟨w.heap.size, 5, none⟩ = some (.int .i64 q))) := fun w' h => ⟨hE1.trans h, (h.cell hxl).trans x4, (h.cell hxl).trans x5⟩
  go_region_held3 (fun w' => Ext w w' ∧ w'.cell? ⟨w.heap.size, 4, none⟩ = some (.int .i64 a) ∧ w'.cell? ⟨w.heap.size, 5, none⟩ = some (.int .i64 q))
    ((first | exact KS.out _ hW1 | exact KS.out _ (hW1.trans hbd) | exact KS.out _ ((hW1.trans hbd).alloc _) | exact KS.out _ ((hW1.trans ‹Ext w21.drew _›).trans hbd) | exact KS.out _ (((hW1.trans ‹Ext w21.drew _›).trans hbd).alloc _) | exact ⟨hE9, hC9.cells.2.2.2.2.1, hC9.cells.2.2.2.2.2⟩))
    ((first | (go_at_call 87; refine (rdec_any _ _ (by first | exact HIa.out | exact HIq.out)).mono ?_; rintro e wd ⟨rfl, hbd⟩) | (refine step_append_run _ (by rfl) _ _ 24 (by rfl) _ _ (by rfl) (by rfl) (app_list (some ⟨wd.heap.size, 0, none⟩) 2 [decI a, decI q] (wd.alloc _) (OwnT.ext hO1 (((hW1.trans ‹Ext w21.drew _›).trans hbd).alloc _)) (two_at wd _ _) (by intro h; cases h) (hE1.trans (((hW1.trans ‹Ext w21.drew _›).trans hbd).alloc _)).size (by simp) (by simp)) ?_; rintro v9 w9 ⟨hO9, hg9⟩; have hC9 : CmdAt w9 w.heap.size k (.slice A ps.length cap) true false a q := Has.grown (Has.ext hC1 (((hW1.trans ‹Ext w21.drew _›).trans hbd).alloc _)) hg9 (row_ne hO1 hC1 (by decide)); have hE9 : Ext w w9 := (hE1.trans (((hW1.trans ‹Ext w21.drew _›).trans hbd).alloc _)).grown hg9 (fun g hv => (World.ownsRow.lt hO1 g hv).1))))
  go_wp2_with fail
  go_ret
  exact WrR.mk hO9 hE9 HF.out
set_option maxRecDepth 100000 in
set_option maxHeartbeats 4000000 in
theorem rwrite_tfE (k : Int) (A : Option Addr) (cap : Nat) (ps : List Txt) (a q : Int) (w : World) (hat : TxtAt w A ps) (hA : A = none → cap = 0) (hlen : ps.length ≤ 1000) (ha : I64 a) (hq : I64 q) (hk : k ≠ 5) (hp : ps = []) : Calls Tryd.prog 71 #[.agg (cmdC k (.slice A ps.length cap) true false a q)] w (WrR w (writeC k ps true false a q)) := by
  have E0 : Ext w (w.alloc (.cells (cmdC k (.slice A ps.length cap) true false a q) 62)) := (Ext.refl _).alloc _
  have hC0 : CmdAt (w.alloc (.cells (cmdC k (.slice A ps.length cap) true false a q) 62)) w.heap.size k (.slice A ps.length cap) true false a q := Has.new _ _
  have HAT := Lib.hid hat
  have HAN := Lib.hid hA
  have HIa := Lib.hid ha
  have HIq := Lib.hid hq
  have hk5 : (k == 5) = false := beq_eq_false_iff_ne.2 hk
  have hp0 : (ps.length : Int) ≤ 0 := by rw [hp]; simp
  have HF : Hid ([nameN k] ++ [[45, 98]] ++ ps = writeC k ps true false a q) := by show _ = _; unfold writeC; rw [if_neg hk, hp]; rfl
  clear hat hA ha hq hk hp
  unfold cmdC
  go_enter Tryd.func71, Tryd.ntmps71
  go_wp2_with fail
  refine (rname_any k _).mono ?_
  rintro e w1 ⟨rfl, b1⟩
  obtain ⟨wr, hwr⟩ : ∃ W, W = w1.alloc (.cells #[.string (bs (nameN k))] 9) := ⟨_, rfl⟩
  have hO : OwnT wr w.heap.size (.slice (some ⟨w1.heap.size, 0, none⟩) 1 1) [nameN k] := by rw [hwr]; exact txt_one w1 _ _ (E0.trans b1).size
  have hE : Ext w wr := by rw [hwr]; exact (E0.trans b1).alloc _
  have hC : CmdAt wr w.heap.size k (.slice A ps.length cap) true false a q := by rw [hwr]; exact Has.alloc (Has.ext hC0 b1) _
  have HV := Lib.hid hwr
  obtain ⟨c0, c1, c2, c3, c4, c5⟩ := hC.cells
  have hlC := Has.lt hC
  clear hC0 E0 hwr b1
  obtain ⟨v1, w21, hr1, hO1, hg1⟩ := app_one [45, 98] wr hO (hE.size) (by simp)
  have HR1 := Lib.hid hr1
  have hE1 : Ext w w21 := (hE.alloc _).grown hg1 (fun g hv => (World.ownsRow.lt hO g hv).1)
  have hC1 : CmdAt w21 w.heap.size k (.slice A ps.length cap) true false a q := Has.grown (Has.alloc hC _) hg1 (row_ne hO hC (by decide))
  obtain ⟨e10, e11, e12, e13, e14, e15⟩ := hC1.cells
  have hl1 := Has.lt hC1
  clear hr1 hg1
  obtain ⟨v9, w9, hr9, hO9, hg9⟩ := app_list A cap ps w21 hO1 (HAT.out.ext hE1) HAN.out (hE1.size) (by simp) (by omega)
  have HR9 := Lib.hid hr9
  have hE9 : Ext w w9 := hE1.grown hg9 (fun g hv => (World.ownsRow.lt hO1 g hv).1)
  clear hr9 hg9
  go_wp2_with (first | rw [← HV.out] | (at_builtin; refine Lib.wpList_append_run _ rfl _ _ 24 24 rfl _ _ rfl rfl _ _ HR1.out ?_) | (at_builtin; refine Lib.wpList_append_run _ rfl _ _ 24 24 rfl _ _ rfl rfl _ _ HR9.out ?_))
  go_ret
  exact WrR.mk hO9 hE9 HF.out
set_option maxRecDepth 100000 in
set_option maxHeartbeats 4000000 in
theorem rwrite_tfN (k : Int) (A : Option Addr) (cap : Nat) (ps : List Txt) (a q : Int) (w : World) (hat : TxtAt w A ps) (hA : A = none → cap = 0) (hlen : ps.length ≤ 1000) (ha : I64 a) (hq : I64 q) (hk : k ≠ 5) (hp : ps ≠ []) : Calls Tryd.prog 71 #[.agg (cmdC k (.slice A ps.length cap) true false a q)] w (WrR w (writeC k ps true false a q)) := by
  have E0 : Ext w (w.alloc (.cells (cmdC k (.slice A ps.length cap) true false a q) 62)) := (Ext.refl _).alloc _
  have hC0 : CmdAt (w.alloc (.cells (cmdC k (.slice A ps.length cap) true false a q) 62)) w.heap.size k (.slice A ps.length cap) true false a q := Has.new _ _
  have HAT := Lib.hid hat
  have HAN := Lib.hid hA
  have HIa := Lib.hid ha
  have HIq := Lib.hid hq
  have hk5 : (k == 5) = false := beq_eq_false_iff_ne.2 hk
  have hp0 : (0 : Int) < (ps.length : Int) := by have := List.length_pos_iff.2 hp; omega
  have HF : Hid ([nameN k] ++ [[45, 98]] ++ [[45, 45]] ++ ps = writeC k ps true false a q) := by show _ = _; unfold writeC; rw [if_neg hk, if_neg hp]; rfl
  clear hat hA ha hq hk hp
  unfold cmdC
  go_enter Tryd.func71, Tryd.ntmps71
  go_wp2_with fail
  refine (rname_any k _).mono ?_
  rintro e w1 ⟨rfl, b1⟩
  obtain ⟨wr, hwr⟩ : ∃ W, W = w1.alloc (.cells #[.string (bs (nameN k))] 9) := ⟨_, rfl⟩
  have hO : OwnT wr w.heap.size (.slice (some ⟨w1.heap.size, 0, none⟩) 1 1) [nameN k] := by rw [hwr]; exact txt_one w1 _ _ (E0.trans b1).size
  have hE : Ext w wr := by rw [hwr]; exact (E0.trans b1).alloc _
  have hC : CmdAt wr w.heap.size k (.slice A ps.length cap) true false a q := by rw [hwr]; exact Has.alloc (Has.ext hC0 b1) _
  have HV := Lib.hid hwr
  obtain ⟨c0, c1, c2, c3, c4, c5⟩ := hC.cells
  have hlC := Has.lt hC
  clear hC0 E0 hwr b1
  obtain ⟨v1, w21, hr1, hO1, hg1⟩ := app_one [45, 98] wr hO (hE.size) (by simp)
  have HR1 := Lib.hid hr1
  have hE1 : Ext w w21 := (hE.alloc _).grown hg1 (fun g hv => (World.ownsRow.lt hO g hv).1)
  have hC1 : CmdAt w21 w.heap.size k (.slice A ps.length cap) true false a q := Has.grown (Has.alloc hC _) hg1 (row_ne hO hC (by decide))
  obtain ⟨e10, e11, e12, e13, e14, e15⟩ := hC1.cells
  have hl1 := Has.lt hC1
  clear hr1 hg1
  obtain ⟨v2, w22, hr2, hO2, hg2⟩ := app_one [45, 45] w21 hO1 (hE1.size) (by simp)
  have HR2 := Lib.hid hr2
  have hE2 : Ext w w22 := (hE1.alloc _).grown hg2 (fun g hv => (World.ownsRow.lt hO1 g hv).1)
  have hC2 : CmdAt w22 w.heap.size k (.slice A ps.length cap) true false a q := Has.grown (Has.alloc hC1 _) hg2 (row_ne hO1 hC1 (by decide))
  obtain ⟨e20, e21, e22, e23, e24, e25⟩ := hC2.cells
  have hl2 := Has.lt hC2
  clear hr2 hg2
  obtain ⟨v9, w9, hr9, hO9, hg9⟩ := app_list A cap ps w22 hO2 (HAT.out.ext hE2) HAN.out (hE2.size) (by simp) (by omega)
  have HR9 := Lib.hid hr9
  have hE9 : Ext w w9 := hE2.grown hg9 (fun g hv => (World.ownsRow.lt hO2 g hv).1)
  clear hr9 hg9
  go_wp2_with (first | rw [← HV.out] | (at_builtin; refine Lib.wpList_append_run _ rfl _ _ 24 24 rfl _ _ rfl rfl _ _ HR1.out ?_) | (at_builtin; refine Lib.wpList_append_run _ rfl _ _ 24 24 rfl _ _ rfl rfl _ _ HR2.out ?_) | (at_builtin; refine Lib.wpList_append_run _ rfl _ _ 24 24 rfl _ _ rfl rfl _ _ HR9.out ?_))
  go_ret
  exact WrR.mk hO9 hE9 HF.out
set_option maxRecDepth 100000 in
set_option maxHeartbeats 4000000 in
theorem rwrite_ft5 (k : Int) (A : Option Addr) (cap : Nat) (ps : List Txt) (a q : Int) (w : World) (hat : TxtAt w A ps) (hA : A = none → cap = 0) (_hlen : ps.length ≤ 1000) (ha : I64 a) (hq : I64 q) (hk : k = 5) : Calls Tryd.prog 71 #[.agg (cmdC k (.slice A ps.length cap) false true a q)] w (WrR w (writeC k ps false true a q)) := by
  have E0 : Ext w (w.alloc (.cells (cmdC k (.slice A ps.length cap) false true a q) 62)) := (Ext.refl _).alloc _
  have hC0 : CmdAt (w.alloc (.cells (cmdC k (.slice A ps.length cap) false true a q) 62)) w.heap.size k (.slice A ps.length cap) false true a q := Has.new _ _
  have HAT := Lib.hid hat
  have HAN := Lib.hid hA
  have HIa := Lib.hid ha
  have HIq := Lib.hid hq
  have hk5 : (k == 5) = true := by rw [hk]; rfl
  have HF : Hid ([nameN k] ++ [[45, 114]] ++ [decI a, decI q] = writeC k ps false true a q) := by show _ = _; unfold writeC; rw [if_pos hk]; rfl
  clear hat hA ha hq hk
  unfold cmdC
  go_enter Tryd.func71, Tryd.ntmps71
  go_wp2_with fail
  refine (rname_any k _).mono ?_
  rintro e w1 ⟨rfl, b1⟩
  obtain ⟨wr, hwr⟩ : ∃ W, W = w1.alloc (.cells #[.string (bs (nameN k))] 9) := ⟨_, rfl⟩
  have hO : OwnT wr w.heap.size (.slice (some ⟨w1.heap.size, 0, none⟩) 1 1) [nameN k] := by rw [hwr]; exact txt_one w1 _ _ (E0.trans b1).size
  have hE : Ext w wr := by rw [hwr]; exact (E0.trans b1).alloc _
  have hC : CmdAt wr w.heap.size k (.slice A ps.length cap) false true a q := by rw [hwr]; exact Has.alloc (Has.ext hC0 b1) _
  have HV := Lib.hid hwr
  obtain ⟨c0, c1, c2, c3, c4, c5⟩ := hC.cells
  have hlC := Has.lt hC
  clear hC0 E0 hwr b1
  obtain ⟨v1, w21, hr1, hO1, hg1⟩ := app_one [45, 114] wr hO (hE.size) (by simp)
  have HR1 := Lib.hid hr1
  have hE1 : Ext w w21 := (hE.alloc _).grown hg1 (fun g hv => (World.ownsRow.lt hO g hv).1)
  have hC1 : CmdAt w21 w.heap.size k (.slice A ps.length cap) false true a q := Has.grown (Has.alloc hC _) hg1 (row_ne hO hC (by decide))
  obtain ⟨e10, e11, e12, e13, e14, e15⟩ := hC1.cells
  have hl1 := Has.lt hC1
  clear hr1 hg1
  go_wp2_with (first | rw [← HV.out] | (at_builtin; refine Lib.wpList_append_run _ rfl _ _ 24 24 rfl _ _ rfl rfl _ _ HR1.out ?_))
  obtain ⟨x0, x1, x2, x3, x4, x5⟩ := hC1.cells
  have hxl := Has.lt hC1
  have hW1 : Ext w21 w21.drew := (Ext.refl _).drew
  have KS : Hid (∀ w', Ext w21 w' → (Ext w w' ∧ w'.cell? ⟨w.heap.size, 4, none⟩ = some (.int .i64 a) ∧ w'.cell? ⟨w.heap.size, 5, none⟩ = some (.int .i64 q))) := fun w' h => ⟨hE1.trans h, (h.cell hxl).trans x4, (h.cell hxl).trans x5⟩
  go_region_held3 (fun w' => Ext w w' ∧ w'.cell? ⟨w.heap.size, 4, none⟩ = some (.int .i64 a) ∧ w'.cell? ⟨w.heap.size, 5, none⟩ = some (.int .i64 q))
    ((first | exact KS.out _ hW1 | exact KS.out _ (hW1.trans hbd) | exact KS.out _ ((hW1.trans hbd).alloc _) | exact KS.out _ ((hW1.trans ‹Ext w21.drew _›).trans hbd) | exact KS.out _ (((hW1.trans ‹Ext w21.drew _›).trans hbd).alloc _) | exact ⟨hE9, hC9.cells.2.2.2.2.1, hC9.cells.2.2.2.2.2⟩))
    ((first | (go_at_call 87; refine (rdec_any _ _ (by first | exact HIa.out | exact HIq.out)).mono ?_; rintro e wd ⟨rfl, hbd⟩) | (refine step_append_run _ (by rfl) _ _ 24 (by rfl) _ _ (by rfl) (by rfl) (app_list (some ⟨wd.heap.size, 0, none⟩) 2 [decI a, decI q] (wd.alloc _) (OwnT.ext hO1 (((hW1.trans ‹Ext w21.drew _›).trans hbd).alloc _)) (two_at wd _ _) (by intro h; cases h) (hE1.trans (((hW1.trans ‹Ext w21.drew _›).trans hbd).alloc _)).size (by simp) (by simp)) ?_; rintro v9 w9 ⟨hO9, hg9⟩; have hC9 : CmdAt w9 w.heap.size k (.slice A ps.length cap) false true a q := Has.grown (Has.ext hC1 (((hW1.trans ‹Ext w21.drew _›).trans hbd).alloc _)) hg9 (row_ne hO1 hC1 (by decide)); have hE9 : Ext w w9 := (hE1.trans (((hW1.trans ‹Ext w21.drew _›).trans hbd).alloc _)).grown hg9 (fun g hv => (World.ownsRow.lt hO1 g hv).1))))
  go_wp2_with fail
  go_ret
  exact WrR.mk hO9 hE9 HF.out
set_option maxRecDepth 100000 in
set_option maxHeartbeats 4000000 in
theorem rwrite_ftE (k : Int) (A : Option Addr) (cap : Nat) (ps : List Txt) (a q : Int) (w : World) (hat : TxtAt w A ps) (hA : A = none → cap = 0) (hlen : ps.length ≤ 1000) (ha : I64 a) (hq : I64 q) (hk : k ≠ 5) (hp : ps = []) : Calls Tryd.prog 71 #[.agg (cmdC k (.slice A ps.length cap) false true a q)] w (WrR w (writeC k ps false true a q)) := by
  have E0 : Ext w (w.alloc (.cells (cmdC k (.slice A ps.length cap) false true a q) 62)) := (Ext.refl _).alloc _
  have hC0 : CmdAt (w.alloc (.cells (cmdC k (.slice A ps.length cap) false true a q) 62)) w.heap.size k (.slice A ps.length cap) false true a q := Has.new _ _
  have HAT := Lib.hid hat
  have HAN := Lib.hid hA
  have HIa := Lib.hid ha
  have HIq := Lib.hid hq
  have hk5 : (k == 5) = false := beq_eq_false_iff_ne.2 hk
  have hp0 : (ps.length : Int) ≤ 0 := by rw [hp]; simp
  have HF : Hid ([nameN k] ++ [[45, 114]] ++ ps = writeC k ps false true a q) := by show _ = _; unfold writeC; rw [if_neg hk, hp]; rfl
  clear hat hA ha hq hk hp
  unfold cmdC
  go_enter Tryd.func71, Tryd.ntmps71
  go_wp2_with fail
  refine (rname_any k _).mono ?_
  rintro e w1 ⟨rfl, b1⟩
  obtain ⟨wr, hwr⟩ : ∃ W, W = w1.alloc (.cells #[.string (bs (nameN k))] 9) := ⟨_, rfl⟩
  have hO : OwnT wr w.heap.size (.slice (some ⟨w1.heap.size, 0, none⟩) 1 1) [nameN k] := by rw [hwr]; exact txt_one w1 _ _ (E0.trans b1).size
  have hE : Ext w wr := by rw [hwr]; exact (E0.trans b1).alloc _
  have hC : CmdAt wr w.heap.size k (.slice A ps.length cap) false true a q := by rw [hwr]; exact Has.alloc (Has.ext hC0 b1) _
  have HV := Lib.hid hwr
  obtain ⟨c0, c1, c2, c3, c4, c5⟩ := hC.cells
  have hlC := Has.lt hC
  clear hC0 E0 hwr b1
  obtain ⟨v1, w21, hr1, hO1, hg1⟩ := app_one [45, 114] wr hO (hE.size) (by simp)
  have HR1 := Lib.hid hr1
  have hE1 : Ext w w21 := (hE.alloc _).grown hg1 (fun g hv => (World.ownsRow.lt hO g hv).1)
  have hC1 : CmdAt w21 w.heap.size k (.slice A ps.length cap) false true a q := Has.grown (Has.alloc hC _) hg1 (row_ne hO hC (by decide))
  obtain ⟨e10, e11, e12, e13, e14, e15⟩ := hC1.cells
  have hl1 := Has.lt hC1
  clear hr1 hg1
  obtain ⟨v9, w9, hr9, hO9, hg9⟩ := app_list A cap ps w21 hO1 (HAT.out.ext hE1) HAN.out (hE1.size) (by simp) (by omega)
  have HR9 := Lib.hid hr9
  have hE9 : Ext w w9 := hE1.grown hg9 (fun g hv => (World.ownsRow.lt hO1 g hv).1)
  clear hr9 hg9
  go_wp2_with (first | rw [← HV.out] | (at_builtin; refine Lib.wpList_append_run _ rfl _ _ 24 24 rfl _ _ rfl rfl _ _ HR1.out ?_) | (at_builtin; refine Lib.wpList_append_run _ rfl _ _ 24 24 rfl _ _ rfl rfl _ _ HR9.out ?_))
  go_ret
  exact WrR.mk hO9 hE9 HF.out
set_option maxRecDepth 100000 in
set_option maxHeartbeats 4000000 in
theorem rwrite_ftN (k : Int) (A : Option Addr) (cap : Nat) (ps : List Txt) (a q : Int) (w : World) (hat : TxtAt w A ps) (hA : A = none → cap = 0) (hlen : ps.length ≤ 1000) (ha : I64 a) (hq : I64 q) (hk : k ≠ 5) (hp : ps ≠ []) : Calls Tryd.prog 71 #[.agg (cmdC k (.slice A ps.length cap) false true a q)] w (WrR w (writeC k ps false true a q)) := by
  have E0 : Ext w (w.alloc (.cells (cmdC k (.slice A ps.length cap) false true a q) 62)) := (Ext.refl _).alloc _
  have hC0 : CmdAt (w.alloc (.cells (cmdC k (.slice A ps.length cap) false true a q) 62)) w.heap.size k (.slice A ps.length cap) false true a q := Has.new _ _
  have HAT := Lib.hid hat
  have HAN := Lib.hid hA
  have HIa := Lib.hid ha
  have HIq := Lib.hid hq
  have hk5 : (k == 5) = false := beq_eq_false_iff_ne.2 hk
  have hp0 : (0 : Int) < (ps.length : Int) := by have := List.length_pos_iff.2 hp; omega
  have HF : Hid ([nameN k] ++ [[45, 114]] ++ [[45, 45]] ++ ps = writeC k ps false true a q) := by show _ = _; unfold writeC; rw [if_neg hk, if_neg hp]; rfl
  clear hat hA ha hq hk hp
  unfold cmdC
  go_enter Tryd.func71, Tryd.ntmps71
  go_wp2_with fail
  refine (rname_any k _).mono ?_
  rintro e w1 ⟨rfl, b1⟩
  obtain ⟨wr, hwr⟩ : ∃ W, W = w1.alloc (.cells #[.string (bs (nameN k))] 9) := ⟨_, rfl⟩
  have hO : OwnT wr w.heap.size (.slice (some ⟨w1.heap.size, 0, none⟩) 1 1) [nameN k] := by rw [hwr]; exact txt_one w1 _ _ (E0.trans b1).size
  have hE : Ext w wr := by rw [hwr]; exact (E0.trans b1).alloc _
  have hC : CmdAt wr w.heap.size k (.slice A ps.length cap) false true a q := by rw [hwr]; exact Has.alloc (Has.ext hC0 b1) _
  have HV := Lib.hid hwr
  obtain ⟨c0, c1, c2, c3, c4, c5⟩ := hC.cells
  have hlC := Has.lt hC
  clear hC0 E0 hwr b1
  obtain ⟨v1, w21, hr1, hO1, hg1⟩ := app_one [45, 114] wr hO (hE.size) (by simp)
  have HR1 := Lib.hid hr1
  have hE1 : Ext w w21 := (hE.alloc _).grown hg1 (fun g hv => (World.ownsRow.lt hO g hv).1)
  have hC1 : CmdAt w21 w.heap.size k (.slice A ps.length cap) false true a q := Has.grown (Has.alloc hC _) hg1 (row_ne hO hC (by decide))
  obtain ⟨e10, e11, e12, e13, e14, e15⟩ := hC1.cells
  have hl1 := Has.lt hC1
  clear hr1 hg1
  obtain ⟨v2, w22, hr2, hO2, hg2⟩ := app_one [45, 45] w21 hO1 (hE1.size) (by simp)
  have HR2 := Lib.hid hr2
  have hE2 : Ext w w22 := (hE1.alloc _).grown hg2 (fun g hv => (World.ownsRow.lt hO1 g hv).1)
  have hC2 : CmdAt w22 w.heap.size k (.slice A ps.length cap) false true a q := Has.grown (Has.alloc hC1 _) hg2 (row_ne hO1 hC1 (by decide))
  obtain ⟨e20, e21, e22, e23, e24, e25⟩ := hC2.cells
  have hl2 := Has.lt hC2
  clear hr2 hg2
  obtain ⟨v9, w9, hr9, hO9, hg9⟩ := app_list A cap ps w22 hO2 (HAT.out.ext hE2) HAN.out (hE2.size) (by simp) (by omega)
  have HR9 := Lib.hid hr9
  have hE9 : Ext w w9 := hE2.grown hg9 (fun g hv => (World.ownsRow.lt hO2 g hv).1)
  clear hr9 hg9
  go_wp2_with (first | rw [← HV.out] | (at_builtin; refine Lib.wpList_append_run _ rfl _ _ 24 24 rfl _ _ rfl rfl _ _ HR1.out ?_) | (at_builtin; refine Lib.wpList_append_run _ rfl _ _ 24 24 rfl _ _ rfl rfl _ _ HR2.out ?_) | (at_builtin; refine Lib.wpList_append_run _ rfl _ _ 24 24 rfl _ _ rfl rfl _ _ HR9.out ?_))
  go_ret
  exact WrR.mk hO9 hE9 HF.out
set_option maxRecDepth 100000 in
set_option maxHeartbeats 4000000 in
theorem rwrite_ff5 (k : Int) (A : Option Addr) (cap : Nat) (ps : List Txt) (a q : Int) (w : World) (hat : TxtAt w A ps) (hA : A = none → cap = 0) (_hlen : ps.length ≤ 1000) (ha : I64 a) (hq : I64 q) (hk : k = 5) : Calls Tryd.prog 71 #[.agg (cmdC k (.slice A ps.length cap) false false a q)] w (WrR w (writeC k ps false false a q)) := by
  have E0 : Ext w (w.alloc (.cells (cmdC k (.slice A ps.length cap) false false a q) 62)) := (Ext.refl _).alloc _
  have hC0 : CmdAt (w.alloc (.cells (cmdC k (.slice A ps.length cap) false false a q) 62)) w.heap.size k (.slice A ps.length cap) false false a q := Has.new _ _
  have HAT := Lib.hid hat
  have HAN := Lib.hid hA
  have HIa := Lib.hid ha
  have HIq := Lib.hid hq
  have hk5 : (k == 5) = true := by rw [hk]; rfl
  have HF : Hid ([nameN k] ++ [decI a, decI q] = writeC k ps false false a q) := by show _ = _; unfold writeC; rw [if_pos hk]; rfl
  clear hat hA ha hq hk
  unfold cmdC
  go_enter Tryd.func71, Tryd.ntmps71
  go_wp2_with fail
  refine (rname_any k _).mono ?_
  rintro e w1 ⟨rfl, b1⟩
  obtain ⟨wr, hwr⟩ : ∃ W, W = w1.alloc (.cells #[.string (bs (nameN k))] 9) := ⟨_, rfl⟩
  have hO : OwnT wr w.heap.size (.slice (some ⟨w1.heap.size, 0, none⟩) 1 1) [nameN k] := by rw [hwr]; exact txt_one w1 _ _ (E0.trans b1).size
  have hE : Ext w wr := by rw [hwr]; exact (E0.trans b1).alloc _
  have hC : CmdAt wr w.heap.size k (.slice A ps.length cap) false false a q := by rw [hwr]; exact Has.alloc (Has.ext hC0 b1) _
  have HV := Lib.hid hwr
  obtain ⟨c0, c1, c2, c3, c4, c5⟩ := hC.cells
  have hlC := Has.lt hC
  clear hC0 E0 hwr b1
  go_wp2_with (first | rw [← HV.out])
  obtain ⟨x0, x1, x2, x3, x4, x5⟩ := hC.cells
  have hxl := Has.lt hC
  have hW1 : Ext wr wr.drew := (Ext.refl _).drew
  have KS : Hid (∀ w', Ext wr w' → (Ext w w' ∧ w'.cell? ⟨w.heap.size, 4, none⟩ = some (.int .i64 a) ∧ w'.cell? ⟨w.heap.size, 5, none⟩ = some (.int .i64 q))) := fun w' h => ⟨hE.trans h, (h.cell hxl).trans x4, (h.cell hxl).trans x5⟩
  go_region_held3 (fun w' => Ext w w' ∧ w'.cell? ⟨w.heap.size, 4, none⟩ = some (.int .i64 a) ∧ w'.cell? ⟨w.heap.size, 5, none⟩ = some (.int .i64 q))
    ((first | exact KS.out _ hW1 | exact KS.out _ (hW1.trans hbd) | exact KS.out _ ((hW1.trans hbd).alloc _) | exact KS.out _ ((hW1.trans ‹Ext wr.drew _›).trans hbd) | exact KS.out _ (((hW1.trans ‹Ext wr.drew _›).trans hbd).alloc _) | exact ⟨hE9, hC9.cells.2.2.2.2.1, hC9.cells.2.2.2.2.2⟩))
    ((first | (go_at_call 87; refine (rdec_any _ _ (by first | exact HIa.out | exact HIq.out)).mono ?_; rintro e wd ⟨rfl, hbd⟩) | (refine step_append_run _ (by rfl) _ _ 24 (by rfl) _ _ (by rfl) (by rfl) (app_list (some ⟨wd.heap.size, 0, none⟩) 2 [decI a, decI q] (wd.alloc _) (OwnT.ext hO (((hW1.trans ‹Ext wr.drew _›).trans hbd).alloc _)) (two_at wd _ _) (by intro h; cases h) (hE.trans (((hW1.trans ‹Ext wr.drew _›).trans hbd).alloc _)).size (by simp) (by simp)) ?_; rintro v9 w9 ⟨hO9, hg9⟩; have hC9 : CmdAt w9 w.heap.size k (.slice A ps.length cap) false false a q := Has.grown (Has.ext hC (((hW1.trans ‹Ext wr.drew _›).trans hbd).alloc _)) hg9 (row_ne hO hC (by decide)); have hE9 : Ext w w9 := (hE.trans (((hW1.trans ‹Ext wr.drew _›).trans hbd).alloc _)).grown hg9 (fun g hv => (World.ownsRow.lt hO g hv).1))))
  go_wp2_with fail
  go_ret
  exact WrR.mk hO9 hE9 HF.out
set_option maxRecDepth 100000 in
set_option maxHeartbeats 4000000 in
theorem rwrite_ffE (k : Int) (A : Option Addr) (cap : Nat) (ps : List Txt) (a q : Int) (w : World) (hat : TxtAt w A ps) (hA : A = none → cap = 0) (hlen : ps.length ≤ 1000) (ha : I64 a) (hq : I64 q) (hk : k ≠ 5) (hp : ps = []) : Calls Tryd.prog 71 #[.agg (cmdC k (.slice A ps.length cap) false false a q)] w (WrR w (writeC k ps false false a q)) := by
  have E0 : Ext w (w.alloc (.cells (cmdC k (.slice A ps.length cap) false false a q) 62)) := (Ext.refl _).alloc _
  have hC0 : CmdAt (w.alloc (.cells (cmdC k (.slice A ps.length cap) false false a q) 62)) w.heap.size k (.slice A ps.length cap) false false a q := Has.new _ _
  have HAT := Lib.hid hat
  have HAN := Lib.hid hA
  have HIa := Lib.hid ha
  have HIq := Lib.hid hq
  have hk5 : (k == 5) = false := beq_eq_false_iff_ne.2 hk
  have hp0 : (ps.length : Int) ≤ 0 := by rw [hp]; simp
  have HF : Hid ([nameN k] ++ ps = writeC k ps false false a q) := by show _ = _; unfold writeC; rw [if_neg hk, hp]; rfl
  clear hat hA ha hq hk hp
  unfold cmdC
  go_enter Tryd.func71, Tryd.ntmps71
  go_wp2_with fail
  refine (rname_any k _).mono ?_
  rintro e w1 ⟨rfl, b1⟩
  obtain ⟨wr, hwr⟩ : ∃ W, W = w1.alloc (.cells #[.string (bs (nameN k))] 9) := ⟨_, rfl⟩
  have hO : OwnT wr w.heap.size (.slice (some ⟨w1.heap.size, 0, none⟩) 1 1) [nameN k] := by rw [hwr]; exact txt_one w1 _ _ (E0.trans b1).size
  have hE : Ext w wr := by rw [hwr]; exact (E0.trans b1).alloc _
  have hC : CmdAt wr w.heap.size k (.slice A ps.length cap) false false a q := by rw [hwr]; exact Has.alloc (Has.ext hC0 b1) _
  have HV := Lib.hid hwr
  obtain ⟨c0, c1, c2, c3, c4, c5⟩ := hC.cells
  have hlC := Has.lt hC
  clear hC0 E0 hwr b1
  obtain ⟨v9, w9, hr9, hO9, hg9⟩ := app_list A cap ps wr hO (HAT.out.ext hE) HAN.out (hE.size) (by simp) (by omega)
  have HR9 := Lib.hid hr9
  have hE9 : Ext w w9 := hE.grown hg9 (fun g hv => (World.ownsRow.lt hO g hv).1)
  clear hr9 hg9
  go_wp2_with (first | rw [← HV.out] | (at_builtin; refine Lib.wpList_append_run _ rfl _ _ 24 24 rfl _ _ rfl rfl _ _ HR9.out ?_))
  go_ret
  exact WrR.mk hO9 hE9 HF.out
set_option maxRecDepth 100000 in
set_option maxHeartbeats 4000000 in
theorem rwrite_ffN (k : Int) (A : Option Addr) (cap : Nat) (ps : List Txt) (a q : Int) (w : World) (hat : TxtAt w A ps) (hA : A = none → cap = 0) (hlen : ps.length ≤ 1000) (ha : I64 a) (hq : I64 q) (hk : k ≠ 5) (hp : ps ≠ []) : Calls Tryd.prog 71 #[.agg (cmdC k (.slice A ps.length cap) false false a q)] w (WrR w (writeC k ps false false a q)) := by
  have E0 : Ext w (w.alloc (.cells (cmdC k (.slice A ps.length cap) false false a q) 62)) := (Ext.refl _).alloc _
  have hC0 : CmdAt (w.alloc (.cells (cmdC k (.slice A ps.length cap) false false a q) 62)) w.heap.size k (.slice A ps.length cap) false false a q := Has.new _ _
  have HAT := Lib.hid hat
  have HAN := Lib.hid hA
  have HIa := Lib.hid ha
  have HIq := Lib.hid hq
  have hk5 : (k == 5) = false := beq_eq_false_iff_ne.2 hk
  have hp0 : (0 : Int) < (ps.length : Int) := by have := List.length_pos_iff.2 hp; omega
  have HF : Hid ([nameN k] ++ [[45, 45]] ++ ps = writeC k ps false false a q) := by show _ = _; unfold writeC; rw [if_neg hk, if_neg hp]; rfl
  clear hat hA ha hq hk hp
  unfold cmdC
  go_enter Tryd.func71, Tryd.ntmps71
  go_wp2_with fail
  refine (rname_any k _).mono ?_
  rintro e w1 ⟨rfl, b1⟩
  obtain ⟨wr, hwr⟩ : ∃ W, W = w1.alloc (.cells #[.string (bs (nameN k))] 9) := ⟨_, rfl⟩
  have hO : OwnT wr w.heap.size (.slice (some ⟨w1.heap.size, 0, none⟩) 1 1) [nameN k] := by rw [hwr]; exact txt_one w1 _ _ (E0.trans b1).size
  have hE : Ext w wr := by rw [hwr]; exact (E0.trans b1).alloc _
  have hC : CmdAt wr w.heap.size k (.slice A ps.length cap) false false a q := by rw [hwr]; exact Has.alloc (Has.ext hC0 b1) _
  have HV := Lib.hid hwr
  obtain ⟨c0, c1, c2, c3, c4, c5⟩ := hC.cells
  have hlC := Has.lt hC
  clear hC0 E0 hwr b1
  obtain ⟨v1, w21, hr1, hO1, hg1⟩ := app_one [45, 45] wr hO (hE.size) (by simp)
  have HR1 := Lib.hid hr1
  have hE1 : Ext w w21 := (hE.alloc _).grown hg1 (fun g hv => (World.ownsRow.lt hO g hv).1)
  have hC1 : CmdAt w21 w.heap.size k (.slice A ps.length cap) false false a q := Has.grown (Has.alloc hC _) hg1 (row_ne hO hC (by decide))
  obtain ⟨e10, e11, e12, e13, e14, e15⟩ := hC1.cells
  have hl1 := Has.lt hC1
  clear hr1 hg1
  obtain ⟨v9, w9, hr9, hO9, hg9⟩ := app_list A cap ps w21 hO1 (HAT.out.ext hE1) HAN.out (hE1.size) (by simp) (by omega)
  have HR9 := Lib.hid hr9
  have hE9 : Ext w w9 := hE1.grown hg9 (fun g hv => (World.ownsRow.lt hO1 g hv).1)
  clear hr9 hg9
  go_wp2_with (first | rw [← HV.out] | (at_builtin; refine Lib.wpList_append_run _ rfl _ _ 24 24 rfl _ _ rfl rfl _ _ HR1.out ?_) | (at_builtin; refine Lib.wpList_append_run _ rfl _ _ 24 24 rfl _ _ rfl rfl _ _ HR9.out ?_))
  go_ret
  exact WrR.mk hO9 hE9 HF.out
theorem rwrite_any (k : Int) (A : Option Addr) (cap : Nat) (ps : List Txt) (b d : Bool) (a q : Int) (w : World) (hat : TxtAt w A ps) (hA : A = none → cap = 0) (hlen : ps.length ≤ 1000) (ha : I64 a) (hq : I64 q) : Calls Tryd.prog 71 #[.agg (cmdC k (.slice A ps.length cap) b d a q)] w (WrR w (writeC k ps b d a q)) := by
  by_cases hk : k = 5
  · cases b <;> cases d
    · exact rwrite_ff5 k A cap ps a q w hat hA hlen ha hq hk
    · exact rwrite_ft5 k A cap ps a q w hat hA hlen ha hq hk
    · exact rwrite_tf5 k A cap ps a q w hat hA hlen ha hq hk
    · exact rwrite_tt5 k A cap ps a q w hat hA hlen ha hq hk
  · by_cases hp : ps = []
    · cases b <;> cases d
      · exact rwrite_ffE k A cap ps a q w hat hA hlen ha hq hk hp
      · exact rwrite_ftE k A cap ps a q w hat hA hlen ha hq hk hp
      · exact rwrite_tfE k A cap ps a q w hat hA hlen ha hq hk hp
      · exact rwrite_ttE k A cap ps a q w hat hA hlen ha hq hk hp
    · cases b <;> cases d
      · exact rwrite_ffN k A cap ps a q w hat hA hlen ha hq hk hp
      · exact rwrite_ftN k A cap ps a q w hat hA hlen ha hq hk hp
      · exact rwrite_tfN k A cap ps a q w hat hA hlen ha hq hk hp
      · exact rwrite_ttN k A cap ps a q w hat hA hlen ha hq hk hp
end Go.Proofs.YtmppjbimdonfmaaDoor
