/- Layer 5 (date): the program's Seconds. -/
import Derived.Test.YtanaifobmkjpaaaDoorDateF
import Derived.Deep.RegionHeld3
namespace Go.Proofs.YtanaifobmkjpaaaDoor
open Go.ChangeShapes Go.WideShapes Go.ChangeAt Go.RowKit

def Off (y m d h mi s : Int) : Prop := y < 0 ∨ 9999 < y ∨ d < 1 ∨ daysZ y m < d ∨ h < 0 ∨ 23 < h ∨ mi < 0 ∨ 59 < mi ∨ s < 0 ∨ 59 < s
def secN (y m d : Nat) (h mi s : Int) : Int := ((dayN y m d : Int) - 719468) * 86400 + h * 3600 + mi * 60 + s
/-- What Seconds gives: the seconds, and the error. -/
def SecZ (y m d h mi s n e : Int) : Prop :=
  (Off y m d h mi s ∧ n = 0 ∧ e = 2) ∨ (¬ Off y m d h mi s ∧ y < 1970 ∧ n = 0 ∧ e = 3) ∨
  (¬ Off y m d h mi s ∧ 1970 ≤ y ∧ e = 0 ∧ ∃ y' m' d' : Nat, y = y' ∧ m = m' ∧ d = d' ∧ Valid y' m' d' ∧ n = secN y' m' d' h mi s)
def SecRet (w : World) (y m d h mi s : Int) (E : Ending) (w' : World) : Prop := ∃ n e, SecZ y m d h mi s n e ∧ E = .returned (.tuple #[.int .i64 n, .int .i64 e]) ∧ Ext w w'
theorem SecRet.off {w : World} {y m d h mi s : Int} {E : Ending} {w' : World} (o : Hid (Off y m d h mi s)) (hE : E = .returned (.tuple #[.int .i64 0, .int .i64 2])) (k : Ext w w') : SecRet w y m d h mi s E w' :=
  ⟨0, 2, .inl ⟨o.out, rfl, rfl⟩, hE, k⟩
set_option maxRecDepth 100000 in
set_option maxHeartbeats 4000000 in
theorem psec_bad1 (y m d h mi s : Int) (w : World) (b : y < 0) : Calls Tryd.prog 82 #[six y m d h mi s] w (SecRet w y m d h mi s) := by
  have hoff : Hid (Off y m d h mi s) := by show Off _ _ _ _ _ _; unfold Off; omega
  have : decide (y < 0) = true := decide_eq_true (by omega)
  unfold six
  go_enter Tryd.func82, Tryd.ntmps82
  go_wp2_with fail
  go_quiet (fail)
  go_wp2_with fail
  go_returns
  exact SecRet.off hoff rfl (((Ext.refl _).alloc _).drewN _)
set_option maxRecDepth 100000 in
set_option maxHeartbeats 4000000 in
theorem psec_bad2 (y m d h mi s : Int) (w : World) (_b0 : 0 ≤ y) (b : 9999 < y) : Calls Tryd.prog 82 #[six y m d h mi s] w (SecRet w y m d h mi s) := by
  have hoff : Hid (Off y m d h mi s) := by show Off _ _ _ _ _ _; unfold Off; omega
  have : decide (y < 0) = false := decide_eq_false (by omega)
  have : decide (9999 < y) = true := decide_eq_true (by omega)
  unfold six
  go_enter Tryd.func82, Tryd.ntmps82
  go_wp2_with fail
  go_quiet (fail)
  go_wp2_with fail
  go_returns
  exact SecRet.off hoff rfl (((Ext.refl _).alloc _).drewN _)
set_option maxRecDepth 100000 in
set_option maxHeartbeats 4000000 in
theorem psec_bad3 (y m d h mi s : Int) (w : World) (b0 : 0 ≤ y) (b1 : y ≤ 9999) (b : d < 1) : Calls Tryd.prog 82 #[six y m d h mi s] w (SecRet w y m d h mi s) := by
  have hoff : Hid (Off y m d h mi s) := by show Off _ _ _ _ _ _; unfold Off; omega
  have : decide (y < 0) = false := decide_eq_false (by omega)
  have : decide (9999 < y) = false := decide_eq_false (by omega)
  have : decide (d < 1) = true := decide_eq_true (by omega)
  unfold six
  go_enter Tryd.func82, Tryd.ntmps82
  go_wp2_with fail
  go_quiet (fail)
  go_wp2_with fail
  go_returns
  exact SecRet.off hoff rfl (((Ext.refl _).alloc _).drewN _)
set_option maxRecDepth 100000 in
set_option maxHeartbeats 4000000 in
theorem psec_bad4 (y m d h mi s : Int) (w : World) (b0 : 0 ≤ y) (b1 : y ≤ 9999) (b2 : 1 ≤ d) (b : daysZ y m < d) : Calls Tryd.prog 82 #[six y m d h mi s] w (SecRet w y m d h mi s) := by
  have hoff : Hid (Off y m d h mi s) := by show Off _ _ _ _ _ _; unfold Off; omega
  obtain ⟨W0, hW0⟩ : ∃ W0, W0 = w.alloc (.cells #[.int .i64 y, .int .i64 m, .int .i64 d, .int .i64 h, .int .i64 mi, .int .i64 s] 115) := ⟨_, rfl⟩
  have A1 : Has W0 w.heap.size (.cells #[.int .i64 y, .int .i64 m, .int .i64 d, .int .i64 h, .int .i64 mi, .int .i64 s] 115) := by rw [hW0]; exact Has.new _ _
  have X1 : Ext w W0 := by rw [hW0]; exact (Ext.refl _).alloc _
  have HW := Lib.hid hW0
  clear hW0
  have : decide (y < 0) = false := decide_eq_false (by omega)
  have : decide (9999 < y) = false := decide_eq_false (by omega)
  have : decide (d < 1) = false := decide_eq_false (by omega)
  have : decide (daysZ y m < d) = true := decide_eq_true (by omega)
  unfold six
  go_enter Tryd.func82, Tryd.ntmps82
  go_wp2_with fail
  rw [← HW.out]
  clear HW
  go_region_held3 (fun w' => (Has w' w.heap.size (.cells #[.int .i64 y, .int .i64 m, .int .i64 d, .int .i64 h, .int .i64 mi, .int .i64 s] 115) ∧ Ext w w') ∧ (∀ i, w'.cell? ⟨w.heap.size, i, none⟩ = (#[.int .i64 y, .int .i64 m, .int .i64 d, .int .i64 h, .int .i64 mi, .int .i64 s] : Array Value)[i]?))
    ((first
      | exact ⟨⟨A1.ext ((Ext.refl _).drew), X1.drew⟩, fun i => (A1.ext ((Ext.refl _).drew)).cell i⟩
      | (refine held1 hb ?_; assumption)))
    ((go_at_call 101; refine (pdays_any _ _ _).mono ?_; rintro e w1 ⟨rfl, hb⟩))
  rename_i hS
  obtain ⟨⟨A2, X2⟩, -⟩ := hS
  have c0 := A2.cell 0
  have c1 := A2.cell 1
  have c2 := A2.cell 2
  have c3 := A2.cell 3
  have c4 := A2.cell 4
  have c5 := A2.cell 5
  simp at c0 c1 c2 c3 c4 c5
  go_wp2_with fail
  go_returns
  exact SecRet.off hoff rfl X2
set_option maxRecDepth 100000 in
set_option maxHeartbeats 8000000 in
theorem psec_bad5 (y m d h mi s : Int) (w : World) (b0 : 0 ≤ y) (b1 : y ≤ 9999) (b2 : 1 ≤ d) (b3 : d ≤ daysZ y m) (b : h < 0) : Calls Tryd.prog 82 #[six y m d h mi s] w (SecRet w y m d h mi s) := by
  have hoff : Hid (Off y m d h mi s) := by show Off _ _ _ _ _ _; unfold Off; omega
  obtain ⟨W0, hW0⟩ : ∃ W0, W0 = w.alloc (.cells #[.int .i64 y, .int .i64 m, .int .i64 d, .int .i64 h, .int .i64 mi, .int .i64 s] 115) := ⟨_, rfl⟩
  have A1 : Has W0 w.heap.size (.cells #[.int .i64 y, .int .i64 m, .int .i64 d, .int .i64 h, .int .i64 mi, .int .i64 s] 115) := by rw [hW0]; exact Has.new _ _
  have X1 : Ext w W0 := by rw [hW0]; exact (Ext.refl _).alloc _
  have HW := Lib.hid hW0
  clear hW0
  have : decide (y < 0) = false := decide_eq_false (by omega)
  have : decide (9999 < y) = false := decide_eq_false (by omega)
  have : decide (d < 1) = false := decide_eq_false (by omega)
  have : decide (daysZ y m < d) = false := decide_eq_false (by omega)
  have : decide (h < 0) = true := decide_eq_true (by omega)
  unfold six
  go_enter Tryd.func82, Tryd.ntmps82
  go_wp2_with fail
  rw [← HW.out]
  clear HW
  go_region_held3 (fun w' => (Has w' w.heap.size (.cells #[.int .i64 y, .int .i64 m, .int .i64 d, .int .i64 h, .int .i64 mi, .int .i64 s] 115) ∧ Ext w w') ∧ (∀ i, w'.cell? ⟨w.heap.size, i, none⟩ = (#[.int .i64 y, .int .i64 m, .int .i64 d, .int .i64 h, .int .i64 mi, .int .i64 s] : Array Value)[i]?))
    ((first
      | exact ⟨⟨A1.ext ((Ext.refl _).drew), X1.drew⟩, fun i => (A1.ext ((Ext.refl _).drew)).cell i⟩
      | (refine held1 hb ?_; assumption)))
    ((go_at_call 101; refine (pdays_any _ _ _).mono ?_; rintro e w1 ⟨rfl, hb⟩))
  rename_i hS
  obtain ⟨⟨A2, X2⟩, -⟩ := hS
  have c0 := A2.cell 0
  have c1 := A2.cell 1
  have c2 := A2.cell 2
  have c3 := A2.cell 3
  have c4 := A2.cell 4
  have c5 := A2.cell 5
  simp at c0 c1 c2 c3 c4 c5
  go_wp2_with fail
  go_returns
  exact SecRet.off hoff rfl X2
set_option maxRecDepth 100000 in
set_option maxHeartbeats 8000000 in
theorem psec_bad6 (y m d h mi s : Int) (w : World) (b0 : 0 ≤ y) (b1 : y ≤ 9999) (b2 : 1 ≤ d) (b3 : d ≤ daysZ y m) (_b4 : 0 ≤ h) (b : 23 < h) : Calls Tryd.prog 82 #[six y m d h mi s] w (SecRet w y m d h mi s) := by
  have hoff : Hid (Off y m d h mi s) := by show Off _ _ _ _ _ _; unfold Off; omega
  obtain ⟨W0, hW0⟩ : ∃ W0, W0 = w.alloc (.cells #[.int .i64 y, .int .i64 m, .int .i64 d, .int .i64 h, .int .i64 mi, .int .i64 s] 115) := ⟨_, rfl⟩
  have A1 : Has W0 w.heap.size (.cells #[.int .i64 y, .int .i64 m, .int .i64 d, .int .i64 h, .int .i64 mi, .int .i64 s] 115) := by rw [hW0]; exact Has.new _ _
  have X1 : Ext w W0 := by rw [hW0]; exact (Ext.refl _).alloc _
  have HW := Lib.hid hW0
  clear hW0
  have : decide (y < 0) = false := decide_eq_false (by omega)
  have : decide (9999 < y) = false := decide_eq_false (by omega)
  have : decide (d < 1) = false := decide_eq_false (by omega)
  have : decide (daysZ y m < d) = false := decide_eq_false (by omega)
  have : decide (h < 0) = false := decide_eq_false (by omega)
  have : decide (23 < h) = true := decide_eq_true (by omega)
  unfold six
  go_enter Tryd.func82, Tryd.ntmps82
  go_wp2_with fail
  rw [← HW.out]
  clear HW
  go_region_held3 (fun w' => (Has w' w.heap.size (.cells #[.int .i64 y, .int .i64 m, .int .i64 d, .int .i64 h, .int .i64 mi, .int .i64 s] 115) ∧ Ext w w') ∧ (∀ i, w'.cell? ⟨w.heap.size, i, none⟩ = (#[.int .i64 y, .int .i64 m, .int .i64 d, .int .i64 h, .int .i64 mi, .int .i64 s] : Array Value)[i]?))
    ((first
      | exact ⟨⟨A1.ext ((Ext.refl _).drew), X1.drew⟩, fun i => (A1.ext ((Ext.refl _).drew)).cell i⟩
      | (refine held1 hb ?_; assumption)))
    ((go_at_call 101; refine (pdays_any _ _ _).mono ?_; rintro e w1 ⟨rfl, hb⟩))
  rename_i hS
  obtain ⟨⟨A2, X2⟩, -⟩ := hS
  have c0 := A2.cell 0
  have c1 := A2.cell 1
  have c2 := A2.cell 2
  have c3 := A2.cell 3
  have c4 := A2.cell 4
  have c5 := A2.cell 5
  simp at c0 c1 c2 c3 c4 c5
  go_wp2_with fail
  go_returns
  exact SecRet.off hoff rfl X2
set_option maxRecDepth 100000 in
set_option maxHeartbeats 8000000 in
theorem psec_bad7 (y m d h mi s : Int) (w : World) (b0 : 0 ≤ y) (b1 : y ≤ 9999) (b2 : 1 ≤ d) (b3 : d ≤ daysZ y m) (b4 : 0 ≤ h) (b5 : h ≤ 23) (b : mi < 0) : Calls Tryd.prog 82 #[six y m d h mi s] w (SecRet w y m d h mi s) := by
  have hoff : Hid (Off y m d h mi s) := by show Off _ _ _ _ _ _; unfold Off; omega
  obtain ⟨W0, hW0⟩ : ∃ W0, W0 = w.alloc (.cells #[.int .i64 y, .int .i64 m, .int .i64 d, .int .i64 h, .int .i64 mi, .int .i64 s] 115) := ⟨_, rfl⟩
  have A1 : Has W0 w.heap.size (.cells #[.int .i64 y, .int .i64 m, .int .i64 d, .int .i64 h, .int .i64 mi, .int .i64 s] 115) := by rw [hW0]; exact Has.new _ _
  have X1 : Ext w W0 := by rw [hW0]; exact (Ext.refl _).alloc _
  have HW := Lib.hid hW0
  clear hW0
  have : decide (y < 0) = false := decide_eq_false (by omega)
  have : decide (9999 < y) = false := decide_eq_false (by omega)
  have : decide (d < 1) = false := decide_eq_false (by omega)
  have : decide (daysZ y m < d) = false := decide_eq_false (by omega)
  have : decide (h < 0) = false := decide_eq_false (by omega)
  have : decide (23 < h) = false := decide_eq_false (by omega)
  have : decide (mi < 0) = true := decide_eq_true (by omega)
  unfold six
  go_enter Tryd.func82, Tryd.ntmps82
  go_wp2_with fail
  rw [← HW.out]
  clear HW
  go_region_held3 (fun w' => (Has w' w.heap.size (.cells #[.int .i64 y, .int .i64 m, .int .i64 d, .int .i64 h, .int .i64 mi, .int .i64 s] 115) ∧ Ext w w') ∧ (∀ i, w'.cell? ⟨w.heap.size, i, none⟩ = (#[.int .i64 y, .int .i64 m, .int .i64 d, .int .i64 h, .int .i64 mi, .int .i64 s] : Array Value)[i]?))
    ((first
      | exact ⟨⟨A1.ext ((Ext.refl _).drew), X1.drew⟩, fun i => (A1.ext ((Ext.refl _).drew)).cell i⟩
      | (refine held1 hb ?_; assumption)))
    ((go_at_call 101; refine (pdays_any _ _ _).mono ?_; rintro e w1 ⟨rfl, hb⟩))
  rename_i hS
  obtain ⟨⟨A2, X2⟩, -⟩ := hS
  have c0 := A2.cell 0
  have c1 := A2.cell 1
  have c2 := A2.cell 2
  have c3 := A2.cell 3
  have c4 := A2.cell 4
  have c5 := A2.cell 5
  simp at c0 c1 c2 c3 c4 c5
  go_wp2_with fail
  go_returns
  exact SecRet.off hoff rfl X2
set_option maxRecDepth 100000 in
set_option maxHeartbeats 8000000 in
theorem psec_bad8 (y m d h mi s : Int) (w : World) (b0 : 0 ≤ y) (b1 : y ≤ 9999) (b2 : 1 ≤ d) (b3 : d ≤ daysZ y m) (b4 : 0 ≤ h) (b5 : h ≤ 23) (_b6 : 0 ≤ mi) (b : 59 < mi) : Calls Tryd.prog 82 #[six y m d h mi s] w (SecRet w y m d h mi s) := by
  have hoff : Hid (Off y m d h mi s) := by show Off _ _ _ _ _ _; unfold Off; omega
  obtain ⟨W0, hW0⟩ : ∃ W0, W0 = w.alloc (.cells #[.int .i64 y, .int .i64 m, .int .i64 d, .int .i64 h, .int .i64 mi, .int .i64 s] 115) := ⟨_, rfl⟩
  have A1 : Has W0 w.heap.size (.cells #[.int .i64 y, .int .i64 m, .int .i64 d, .int .i64 h, .int .i64 mi, .int .i64 s] 115) := by rw [hW0]; exact Has.new _ _
  have X1 : Ext w W0 := by rw [hW0]; exact (Ext.refl _).alloc _
  have HW := Lib.hid hW0
  clear hW0
  have : decide (y < 0) = false := decide_eq_false (by omega)
  have : decide (9999 < y) = false := decide_eq_false (by omega)
  have : decide (d < 1) = false := decide_eq_false (by omega)
  have : decide (daysZ y m < d) = false := decide_eq_false (by omega)
  have : decide (h < 0) = false := decide_eq_false (by omega)
  have : decide (23 < h) = false := decide_eq_false (by omega)
  have : decide (mi < 0) = false := decide_eq_false (by omega)
  have : decide (59 < mi) = true := decide_eq_true (by omega)
  unfold six
  go_enter Tryd.func82, Tryd.ntmps82
  go_wp2_with fail
  rw [← HW.out]
  clear HW
  go_region_held3 (fun w' => (Has w' w.heap.size (.cells #[.int .i64 y, .int .i64 m, .int .i64 d, .int .i64 h, .int .i64 mi, .int .i64 s] 115) ∧ Ext w w') ∧ (∀ i, w'.cell? ⟨w.heap.size, i, none⟩ = (#[.int .i64 y, .int .i64 m, .int .i64 d, .int .i64 h, .int .i64 mi, .int .i64 s] : Array Value)[i]?))
    ((first
      | exact ⟨⟨A1.ext ((Ext.refl _).drew), X1.drew⟩, fun i => (A1.ext ((Ext.refl _).drew)).cell i⟩
      | (refine held1 hb ?_; assumption)))
    ((go_at_call 101; refine (pdays_any _ _ _).mono ?_; rintro e w1 ⟨rfl, hb⟩))
  rename_i hS
  obtain ⟨⟨A2, X2⟩, -⟩ := hS
  have c0 := A2.cell 0
  have c1 := A2.cell 1
  have c2 := A2.cell 2
  have c3 := A2.cell 3
  have c4 := A2.cell 4
  have c5 := A2.cell 5
  simp at c0 c1 c2 c3 c4 c5
  go_wp2_with fail
  go_returns
  exact SecRet.off hoff rfl X2
set_option maxRecDepth 100000 in
set_option maxHeartbeats 8000000 in
theorem psec_bad9 (y m d h mi s : Int) (w : World) (b0 : 0 ≤ y) (b1 : y ≤ 9999) (b2 : 1 ≤ d) (b3 : d ≤ daysZ y m) (b4 : 0 ≤ h) (b5 : h ≤ 23) (b6 : 0 ≤ mi) (b7 : mi ≤ 59) (b : s < 0) : Calls Tryd.prog 82 #[six y m d h mi s] w (SecRet w y m d h mi s) := by
  have hoff : Hid (Off y m d h mi s) := by show Off _ _ _ _ _ _; unfold Off; omega
  obtain ⟨W0, hW0⟩ : ∃ W0, W0 = w.alloc (.cells #[.int .i64 y, .int .i64 m, .int .i64 d, .int .i64 h, .int .i64 mi, .int .i64 s] 115) := ⟨_, rfl⟩
  have A1 : Has W0 w.heap.size (.cells #[.int .i64 y, .int .i64 m, .int .i64 d, .int .i64 h, .int .i64 mi, .int .i64 s] 115) := by rw [hW0]; exact Has.new _ _
  have X1 : Ext w W0 := by rw [hW0]; exact (Ext.refl _).alloc _
  have HW := Lib.hid hW0
  clear hW0
  have : decide (y < 0) = false := decide_eq_false (by omega)
  have : decide (9999 < y) = false := decide_eq_false (by omega)
  have : decide (d < 1) = false := decide_eq_false (by omega)
  have : decide (daysZ y m < d) = false := decide_eq_false (by omega)
  have : decide (h < 0) = false := decide_eq_false (by omega)
  have : decide (23 < h) = false := decide_eq_false (by omega)
  have : decide (mi < 0) = false := decide_eq_false (by omega)
  have : decide (59 < mi) = false := decide_eq_false (by omega)
  have : decide (s < 0) = true := decide_eq_true (by omega)
  unfold six
  go_enter Tryd.func82, Tryd.ntmps82
  go_wp2_with fail
  rw [← HW.out]
  clear HW
  go_region_held3 (fun w' => (Has w' w.heap.size (.cells #[.int .i64 y, .int .i64 m, .int .i64 d, .int .i64 h, .int .i64 mi, .int .i64 s] 115) ∧ Ext w w') ∧ (∀ i, w'.cell? ⟨w.heap.size, i, none⟩ = (#[.int .i64 y, .int .i64 m, .int .i64 d, .int .i64 h, .int .i64 mi, .int .i64 s] : Array Value)[i]?))
    ((first
      | exact ⟨⟨A1.ext ((Ext.refl _).drew), X1.drew⟩, fun i => (A1.ext ((Ext.refl _).drew)).cell i⟩
      | (refine held1 hb ?_; assumption)))
    ((go_at_call 101; refine (pdays_any _ _ _).mono ?_; rintro e w1 ⟨rfl, hb⟩))
  rename_i hS
  obtain ⟨⟨A2, X2⟩, -⟩ := hS
  have c0 := A2.cell 0
  have c1 := A2.cell 1
  have c2 := A2.cell 2
  have c3 := A2.cell 3
  have c4 := A2.cell 4
  have c5 := A2.cell 5
  simp at c0 c1 c2 c3 c4 c5
  go_wp2_with fail
  go_returns
  exact SecRet.off hoff rfl X2
set_option maxRecDepth 100000 in
set_option maxHeartbeats 8000000 in
theorem psec_bad10 (y m d h mi s : Int) (w : World) (b0 : 0 ≤ y) (b1 : y ≤ 9999) (b2 : 1 ≤ d) (b3 : d ≤ daysZ y m) (b4 : 0 ≤ h) (b5 : h ≤ 23) (b6 : 0 ≤ mi) (b7 : mi ≤ 59) (_b8 : 0 ≤ s) (b : 59 < s) : Calls Tryd.prog 82 #[six y m d h mi s] w (SecRet w y m d h mi s) := by
  have hoff : Hid (Off y m d h mi s) := by show Off _ _ _ _ _ _; unfold Off; omega
  obtain ⟨W0, hW0⟩ : ∃ W0, W0 = w.alloc (.cells #[.int .i64 y, .int .i64 m, .int .i64 d, .int .i64 h, .int .i64 mi, .int .i64 s] 115) := ⟨_, rfl⟩
  have A1 : Has W0 w.heap.size (.cells #[.int .i64 y, .int .i64 m, .int .i64 d, .int .i64 h, .int .i64 mi, .int .i64 s] 115) := by rw [hW0]; exact Has.new _ _
  have X1 : Ext w W0 := by rw [hW0]; exact (Ext.refl _).alloc _
  have HW := Lib.hid hW0
  clear hW0
  have : decide (y < 0) = false := decide_eq_false (by omega)
  have : decide (9999 < y) = false := decide_eq_false (by omega)
  have : decide (d < 1) = false := decide_eq_false (by omega)
  have : decide (daysZ y m < d) = false := decide_eq_false (by omega)
  have : decide (h < 0) = false := decide_eq_false (by omega)
  have : decide (23 < h) = false := decide_eq_false (by omega)
  have : decide (mi < 0) = false := decide_eq_false (by omega)
  have : decide (59 < mi) = false := decide_eq_false (by omega)
  have : decide (s < 0) = false := decide_eq_false (by omega)
  have : decide (59 < s) = true := decide_eq_true (by omega)
  unfold six
  go_enter Tryd.func82, Tryd.ntmps82
  go_wp2_with fail
  rw [← HW.out]
  clear HW
  go_region_held3 (fun w' => (Has w' w.heap.size (.cells #[.int .i64 y, .int .i64 m, .int .i64 d, .int .i64 h, .int .i64 mi, .int .i64 s] 115) ∧ Ext w w') ∧ (∀ i, w'.cell? ⟨w.heap.size, i, none⟩ = (#[.int .i64 y, .int .i64 m, .int .i64 d, .int .i64 h, .int .i64 mi, .int .i64 s] : Array Value)[i]?))
    ((first
      | exact ⟨⟨A1.ext ((Ext.refl _).drew), X1.drew⟩, fun i => (A1.ext ((Ext.refl _).drew)).cell i⟩
      | (refine held1 hb ?_; assumption)))
    ((go_at_call 101; refine (pdays_any _ _ _).mono ?_; rintro e w1 ⟨rfl, hb⟩))
  rename_i hS
  obtain ⟨⟨A2, X2⟩, -⟩ := hS
  have c0 := A2.cell 0
  have c1 := A2.cell 1
  have c2 := A2.cell 2
  have c3 := A2.cell 3
  have c4 := A2.cell 4
  have c5 := A2.cell 5
  simp at c0 c1 c2 c3 c4 c5
  go_wp2_with fail
  go_returns
  exact SecRet.off hoff rfl X2
theorem SecRet.early {w : World} {y m d h mi s : Int} {E : Ending} {w' : World} (o : Hid (¬ Off y m d h mi s)) (b : y < 1970) (hE : E = .returned (.tuple #[.int .i64 0, .int .i64 3])) (k : Ext w w') : SecRet w y m d h mi s E w' :=
  ⟨0, 3, .inr (.inl ⟨o.out, b, rfl, rfl⟩), hE, k⟩
theorem SecRet.ok {w : World} {y m d : Nat} {h mi s n : Int} {E : Ending} {w' : World} (o : Hid (¬ Off y m d h mi s)) (b : 1970 ≤ (y : Int)) (b2 : 1 ≤ (d : Int)) (b3 : (d : Int) ≤ daysZ y m) (hn : n = secN y m d h mi s) (hE : E = .returned (.tuple #[.int .i64 n, .int .i64 0])) (k : Ext w w') : SecRet w y m d h mi s E w' := by
  refine ⟨n, 0, .inr (.inr ⟨o.out, b, rfl, y, m, d, rfl, rfl, rfl, ?_, hn⟩), hE, k⟩
  have hm : 1 ≤ m ∧ m ≤ 12 := by
    by_cases hm : 1 ≤ (m : Int) ∧ (m : Int) ≤ 12
    · omega
    · rw [daysZ_out hm] at b3; omega
  rw [daysZ_nat] at b3
  exact ⟨by omega, hm.1, hm.2, by omega, by omega⟩
set_option maxRecDepth 100000 in
set_option maxHeartbeats 8000000 in
theorem psec_early (y m d h mi s : Int) (w : World) (b0 : 0 ≤ y) (b1 : y ≤ 9999) (b2 : 1 ≤ d) (b3 : d ≤ daysZ y m) (b4 : 0 ≤ h) (b5 : h ≤ 23) (b6 : 0 ≤ mi) (b7 : mi ≤ 59) (b8 : 0 ≤ s) (b9 : s ≤ 59) (b : y < 1970) : Calls Tryd.prog 82 #[six y m d h mi s] w (SecRet w y m d h mi s) := by
  have hoff : Hid (¬ Off y m d h mi s) := by show ¬ Off _ _ _ _ _ _; unfold Off; omega
  obtain ⟨W0, hW0⟩ : ∃ W0, W0 = w.alloc (.cells #[.int .i64 y, .int .i64 m, .int .i64 d, .int .i64 h, .int .i64 mi, .int .i64 s] 115) := ⟨_, rfl⟩
  have A1 : Has W0 w.heap.size (.cells #[.int .i64 y, .int .i64 m, .int .i64 d, .int .i64 h, .int .i64 mi, .int .i64 s] 115) := by rw [hW0]; exact Has.new _ _
  have X1 : Ext w W0 := by rw [hW0]; exact (Ext.refl _).alloc _
  have HW := Lib.hid hW0
  clear hW0
  have : decide (y < 0) = false := decide_eq_false (by omega)
  have : decide (9999 < y) = false := decide_eq_false (by omega)
  have : decide (d < 1) = false := decide_eq_false (by omega)
  have : decide (daysZ y m < d) = false := decide_eq_false (by omega)
  have : decide (h < 0) = false := decide_eq_false (by omega)
  have : decide (23 < h) = false := decide_eq_false (by omega)
  have : decide (mi < 0) = false := decide_eq_false (by omega)
  have : decide (59 < mi) = false := decide_eq_false (by omega)
  have : decide (s < 0) = false := decide_eq_false (by omega)
  have : decide (59 < s) = false := decide_eq_false (by omega)
  have : decide (y < 1970) = true := decide_eq_true (by omega)
  unfold six
  go_enter Tryd.func82, Tryd.ntmps82
  go_wp2_with fail
  rw [← HW.out]
  clear HW
  go_region_held3 (fun w' => (Has w' w.heap.size (.cells #[.int .i64 y, .int .i64 m, .int .i64 d, .int .i64 h, .int .i64 mi, .int .i64 s] 115) ∧ Ext w w') ∧ (∀ i, w'.cell? ⟨w.heap.size, i, none⟩ = (#[.int .i64 y, .int .i64 m, .int .i64 d, .int .i64 h, .int .i64 mi, .int .i64 s] : Array Value)[i]?))
    ((first
      | exact ⟨⟨A1.ext ((Ext.refl _).drew), X1.drew⟩, fun i => (A1.ext ((Ext.refl _).drew)).cell i⟩
      | (refine held1 hb ?_; assumption)))
    ((go_at_call 101; refine (pdays_any _ _ _).mono ?_; rintro e w1 ⟨rfl, hb⟩))
  rename_i hS
  obtain ⟨⟨A2, X2⟩, -⟩ := hS
  have c0 := A2.cell 0
  have c1 := A2.cell 1
  have c2 := A2.cell 2
  have c3 := A2.cell 3
  have c4 := A2.cell 4
  have c5 := A2.cell 5
  simp at c0 c1 c2 c3 c4 c5
  go_wp2_with fail
  go_returns
  exact SecRet.early hoff b rfl X2
set_option maxRecDepth 100000 in
set_option maxHeartbeats 8000000 in
theorem psec_low (y m d : Nat) (h mi s : Int) (w : World) (b0 : 0 ≤ (y : Int)) (b1 : (y : Int) ≤ 9999) (b2 : 1 ≤ (d : Int)) (b3 : (d : Int) ≤ daysZ y m) (b4 : 0 ≤ h) (b5 : h ≤ 23) (b6 : 0 ≤ mi) (b7 : mi ≤ 59) (b8 : 0 ≤ s) (b9 : s ≤ 59) (hd : (d : Int) ≤ 31) (b : 1970 ≤ (y : Int)) (hm1 : 1 ≤ (m : Int)) (hm : (m : Int) < 3) : Calls Tryd.prog 82 #[six y m d h mi s] w (SecRet w y m d h mi s) := by
  have hoff : Hid (¬ Off y m d h mi s) := by show ¬ Off _ _ _ _ _ _; unfold Off; omega
  obtain ⟨W0, hW0⟩ : ∃ W0, W0 = w.alloc (.cells #[.int .i64 (y : Int), .int .i64 (m : Int), .int .i64 (d : Int), .int .i64 h, .int .i64 mi, .int .i64 s] 115) := ⟨_, rfl⟩
  have A1 : Has W0 w.heap.size (.cells #[.int .i64 (y : Int), .int .i64 (m : Int), .int .i64 (d : Int), .int .i64 h, .int .i64 mi, .int .i64 s] 115) := by rw [hW0]; exact Has.new _ _
  have X1 : Ext w W0 := by rw [hW0]; exact (Ext.refl _).alloc _
  have HW := Lib.hid hW0
  clear hW0
  have : decide ((y : Int) < 0) = false := decide_eq_false (by omega)
  have : decide (9999 < (y : Int)) = false := decide_eq_false (by omega)
  have : decide ((d : Int) < 1) = false := decide_eq_false (by omega)
  have : decide (daysZ y m < (d : Int)) = false := decide_eq_false (by omega)
  have : decide (h < 0) = false := decide_eq_false (by omega)
  have : decide (23 < h) = false := decide_eq_false (by omega)
  have : decide (mi < 0) = false := decide_eq_false (by omega)
  have : decide (59 < mi) = false := decide_eq_false (by omega)
  have : decide (s < 0) = false := decide_eq_false (by omega)
  have : decide (59 < s) = false := decide_eq_false (by omega)
  have : decide ((y : Int) < 1970) = false := decide_eq_false (by omega)
  unfold six
  go_enter Tryd.func82, Tryd.ntmps82
  go_wp2_with fail
  rw [← HW.out]
  clear HW
  go_region_held3 (fun w' => (Has w' w.heap.size (.cells #[.int .i64 (y : Int), .int .i64 (m : Int), .int .i64 (d : Int), .int .i64 h, .int .i64 mi, .int .i64 s] 115) ∧ Ext w w') ∧ (∀ i, w'.cell? ⟨w.heap.size, i, none⟩ = (#[.int .i64 (y : Int), .int .i64 (m : Int), .int .i64 (d : Int), .int .i64 h, .int .i64 mi, .int .i64 s] : Array Value)[i]?))
    ((first
      | exact ⟨⟨A1.ext ((Ext.refl _).drew), X1.drew⟩, fun i => (A1.ext ((Ext.refl _).drew)).cell i⟩
      | (refine held1 hb ?_; assumption)))
    ((go_at_call 101; refine (pdays_any _ _ _).mono ?_; rintro e w1 ⟨rfl, hb⟩))
  rename_i hS
  obtain ⟨⟨A2, X2⟩, -⟩ := hS
  have c0 := A2.cell 0
  have c1 := A2.cell 1
  have c2 := A2.cell 2
  have c3 := A2.cell 3
  have c4 := A2.cell 4
  have c5 := A2.cell 5
  simp at c0 c1 c2 c3 c4 c5
  go_wp2_with fail
  go_quiet (fail)
  go_wp2_with fail
  go_returns
  have ht := prog_low y m (by omega) (by omega)
  have e4 : ((y : Int) - 1) / 4 = (((y - 1) / 4 : Nat) : Int) := by omega
  have e100 : ((y : Int) - 1) / 100 = (((y - 1) / 100 : Nat) : Int) := by omega
  have e400 : ((y : Int) - 1) / 400 = (((y - 1) / 400 : Nat) : Int) := by omega
  have e5 : (153 * ((m : Int) - 3 + 12) + 2) / 5 = (((153 * (m + 9) + 2) / 5 : Nat) : Int) := by omega
  rw [e4, e100, e400, e5]
  refine SecRet.ok hoff b b2 b3 ?_ rfl (X2.drewN _)
  clear e4 e100 e400 e5
  unfold secN dayN
  generalize (y - 1) / 4 = q4 at ht ⊢
  generalize (y - 1) / 400 = q400 at ht ⊢
  have hle : (y - 1) / 100 ≤ 365 * (y - 1) := by omega
  generalize (y - 1) / 100 = q100 at ht hle ⊢
  generalize (153 * (m + 9) + 2) / 5 = r at ht ⊢
  omega
set_option maxRecDepth 100000 in
set_option maxHeartbeats 8000000 in
theorem psec_high (y m d : Nat) (h mi s : Int) (w : World) (b0 : 0 ≤ (y : Int)) (b1 : (y : Int) ≤ 9999) (b2 : 1 ≤ (d : Int)) (b3 : (d : Int) ≤ daysZ y m) (b4 : 0 ≤ h) (b5 : h ≤ 23) (b6 : 0 ≤ mi) (b7 : mi ≤ 59) (b8 : 0 ≤ s) (b9 : s ≤ 59) (hd : (d : Int) ≤ 31) (b : 1970 ≤ (y : Int)) (hm1 : 3 ≤ (m : Int)) (hm : (m : Int) ≤ 12) : Calls Tryd.prog 82 #[six y m d h mi s] w (SecRet w y m d h mi s) := by
  have hoff : Hid (¬ Off y m d h mi s) := by show ¬ Off _ _ _ _ _ _; unfold Off; omega
  obtain ⟨W0, hW0⟩ : ∃ W0, W0 = w.alloc (.cells #[.int .i64 (y : Int), .int .i64 (m : Int), .int .i64 (d : Int), .int .i64 h, .int .i64 mi, .int .i64 s] 115) := ⟨_, rfl⟩
  have A1 : Has W0 w.heap.size (.cells #[.int .i64 (y : Int), .int .i64 (m : Int), .int .i64 (d : Int), .int .i64 h, .int .i64 mi, .int .i64 s] 115) := by rw [hW0]; exact Has.new _ _
  have X1 : Ext w W0 := by rw [hW0]; exact (Ext.refl _).alloc _
  have HW := Lib.hid hW0
  clear hW0
  have : decide ((y : Int) < 0) = false := decide_eq_false (by omega)
  have : decide (9999 < (y : Int)) = false := decide_eq_false (by omega)
  have : decide ((d : Int) < 1) = false := decide_eq_false (by omega)
  have : decide (daysZ y m < (d : Int)) = false := decide_eq_false (by omega)
  have : decide (h < 0) = false := decide_eq_false (by omega)
  have : decide (23 < h) = false := decide_eq_false (by omega)
  have : decide (mi < 0) = false := decide_eq_false (by omega)
  have : decide (59 < mi) = false := decide_eq_false (by omega)
  have : decide (s < 0) = false := decide_eq_false (by omega)
  have : decide (59 < s) = false := decide_eq_false (by omega)
  have : decide ((y : Int) < 1970) = false := decide_eq_false (by omega)
  unfold six
  go_enter Tryd.func82, Tryd.ntmps82
  go_wp2_with fail
  rw [← HW.out]
  clear HW
  go_region_held3 (fun w' => (Has w' w.heap.size (.cells #[.int .i64 (y : Int), .int .i64 (m : Int), .int .i64 (d : Int), .int .i64 h, .int .i64 mi, .int .i64 s] 115) ∧ Ext w w') ∧ (∀ i, w'.cell? ⟨w.heap.size, i, none⟩ = (#[.int .i64 (y : Int), .int .i64 (m : Int), .int .i64 (d : Int), .int .i64 h, .int .i64 mi, .int .i64 s] : Array Value)[i]?))
    ((first
      | exact ⟨⟨A1.ext ((Ext.refl _).drew), X1.drew⟩, fun i => (A1.ext ((Ext.refl _).drew)).cell i⟩
      | (refine held1 hb ?_; assumption)))
    ((go_at_call 101; refine (pdays_any _ _ _).mono ?_; rintro e w1 ⟨rfl, hb⟩))
  rename_i hS
  obtain ⟨⟨A2, X2⟩, -⟩ := hS
  have c0 := A2.cell 0
  have c1 := A2.cell 1
  have c2 := A2.cell 2
  have c3 := A2.cell 3
  have c4 := A2.cell 4
  have c5 := A2.cell 5
  simp at c0 c1 c2 c3 c4 c5
  go_wp2_with fail
  go_quiet (fail)
  go_wp2_with fail
  go_returns
  have ht := prog_high y m (by omega) (by omega) (by omega)
  exact SecRet.ok hoff b b2 b3 (by unfold secN dayN; omega) rfl (X2.drewN _)
end Go.Proofs.YtanaifobmkjpaaaDoor
