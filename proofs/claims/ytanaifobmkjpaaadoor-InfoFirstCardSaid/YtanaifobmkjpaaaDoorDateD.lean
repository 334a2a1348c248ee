/- Layer 5 (date): Days of the program and of the reference. -/
import Derived.Test.YtanaifobmkjpaaaDoorDateW
namespace Go.Proofs.YtanaifobmkjpaaaDoor
open Go.ChangeShapes Go.WideShapes Go.ChangeAt Go.RowKit

def daysZ (y m : Int) : Int := if m = 2 then (if leapZ y = true then 29 else 28) else if m = 4 ∨ m = 6 ∨ m = 9 ∨ m = 11 then 30 else if 1 ≤ m ∧ m ≤ 12 then 31 else 0
theorem daysZ_out {y m : Int} (h : ¬ (1 ≤ m ∧ m ≤ 12)) : daysZ y m = 0 := by unfold daysZ; rw [if_neg (by omega), if_neg (by omega), if_neg h]
theorem daysZ_feb (y : Int) : daysZ y 2 = if leapZ y = true then 29 else 28 := rfl
set_option maxRecDepth 100000 in
set_option maxHeartbeats 4000000 in
theorem pdays_1 (y : Int) (w : World) : Calls Tryd.prog 101 #[.int .i64 y, .int .i64 1] w (Ret w (.int .i64 (daysZ y 1))) := by
  have hf : Hid (daysZ y 1 = 31) := rfl
  go_enter Tryd.func101, Tryd.ntmps101
  go_wp2_with fail
  go_ret
  exact Ret.mk (ret_int (by rw [hf.out])) (Ext.refl _)
set_option maxRecDepth 100000 in
set_option maxHeartbeats 4000000 in
theorem pdays_2 (y : Int) (w : World) : Calls Tryd.prog 101 #[.int .i64 y, .int .i64 2] w (Ret w (.int .i64 (daysZ y 2))) := by
  have hf := Lib.hid (daysZ_feb y)
  cases hl : leapZ y
  all_goals
    rw [hl] at hf
    have HL := Lib.hid hl
    clear hl
    go_enter Tryd.func101, Tryd.ntmps101
    go_wp2_with fail
    refine (pleap_any y _).mono ?_
    rintro e w1 ⟨rfl, b1⟩
    rw [HL.out]
    go_wp2_with fail
    go_ret
    first
      | exact Ret.mk (ret_int (by rw [hf.out]; rfl)) b1
      | exact Ret.mk (ret_int (by rw [hf.out]; rfl)) (b1.alloc _)
set_option maxRecDepth 100000 in
set_option maxHeartbeats 4000000 in
theorem pdays_3 (y : Int) (w : World) : Calls Tryd.prog 101 #[.int .i64 y, .int .i64 3] w (Ret w (.int .i64 (daysZ y 3))) := by
  have hf : Hid (daysZ y 3 = 31) := rfl
  go_enter Tryd.func101, Tryd.ntmps101
  go_wp2_with fail
  go_ret
  exact Ret.mk (ret_int (by rw [hf.out])) (Ext.refl _)
set_option maxRecDepth 100000 in
set_option maxHeartbeats 4000000 in
theorem pdays_4 (y : Int) (w : World) : Calls Tryd.prog 101 #[.int .i64 y, .int .i64 4] w (Ret w (.int .i64 (daysZ y 4))) := by
  have hf : Hid (daysZ y 4 = 30) := rfl
  go_enter Tryd.func101, Tryd.ntmps101
  go_wp2_with fail
  go_ret
  exact Ret.mk (ret_int (by rw [hf.out])) (Ext.refl _)
set_option maxRecDepth 100000 in
set_option maxHeartbeats 4000000 in
theorem pdays_5 (y : Int) (w : World) : Calls Tryd.prog 101 #[.int .i64 y, .int .i64 5] w (Ret w (.int .i64 (daysZ y 5))) := by
  have hf : Hid (daysZ y 5 = 31) := rfl
  go_enter Tryd.func101, Tryd.ntmps101
  go_wp2_with fail
  go_ret
  exact Ret.mk (ret_int (by rw [hf.out])) (Ext.refl _)
set_option maxRecDepth 100000 in
set_option maxHeartbeats 4000000 in
theorem pdays_6 (y : Int) (w : World) : Calls Tryd.prog 101 #[.int .i64 y, .int .i64 6] w (Ret w (.int .i64 (daysZ y 6))) := by
  have hf : Hid (daysZ y 6 = 30) := rfl
  go_enter Tryd.func101, Tryd.ntmps101
  go_wp2_with fail
  go_ret
  exact Ret.mk (ret_int (by rw [hf.out])) (Ext.refl _)
set_option maxRecDepth 100000 in
set_option maxHeartbeats 4000000 in
theorem pdays_7 (y : Int) (w : World) : Calls Tryd.prog 101 #[.int .i64 y, .int .i64 7] w (Ret w (.int .i64 (daysZ y 7))) := by
  have hf : Hid (daysZ y 7 = 31) := rfl
  go_enter Tryd.func101, Tryd.ntmps101
  go_wp2_with fail
  go_ret
  exact Ret.mk (ret_int (by rw [hf.out])) (Ext.refl _)
set_option maxRecDepth 100000 in
set_option maxHeartbeats 4000000 in
theorem pdays_8 (y : Int) (w : World) : Calls Tryd.prog 101 #[.int .i64 y, .int .i64 8] w (Ret w (.int .i64 (daysZ y 8))) := by
  have hf : Hid (daysZ y 8 = 31) := rfl
  go_enter Tryd.func101, Tryd.ntmps101
  go_wp2_with fail
  go_ret
  exact Ret.mk (ret_int (by rw [hf.out])) (Ext.refl _)
set_option maxRecDepth 100000 in
set_option maxHeartbeats 4000000 in
theorem pdays_9 (y : Int) (w : World) : Calls Tryd.prog 101 #[.int .i64 y, .int .i64 9] w (Ret w (.int .i64 (daysZ y 9))) := by
  have hf : Hid (daysZ y 9 = 30) := rfl
  go_enter Tryd.func101, Tryd.ntmps101
  go_wp2_with fail
  go_ret
  exact Ret.mk (ret_int (by rw [hf.out])) (Ext.refl _)
set_option maxRecDepth 100000 in
set_option maxHeartbeats 4000000 in
theorem pdays_10 (y : Int) (w : World) : Calls Tryd.prog 101 #[.int .i64 y, .int .i64 10] w (Ret w (.int .i64 (daysZ y 10))) := by
  have hf : Hid (daysZ y 10 = 31) := rfl
  go_enter Tryd.func101, Tryd.ntmps101
  go_wp2_with fail
  go_ret
  exact Ret.mk (ret_int (by rw [hf.out])) (Ext.refl _)
set_option maxRecDepth 100000 in
set_option maxHeartbeats 4000000 in
theorem pdays_11 (y : Int) (w : World) : Calls Tryd.prog 101 #[.int .i64 y, .int .i64 11] w (Ret w (.int .i64 (daysZ y 11))) := by
  have hf : Hid (daysZ y 11 = 30) := rfl
  go_enter Tryd.func101, Tryd.ntmps101
  go_wp2_with fail
  go_ret
  exact Ret.mk (ret_int (by rw [hf.out])) (Ext.refl _)
set_option maxRecDepth 100000 in
set_option maxHeartbeats 4000000 in
theorem pdays_12 (y : Int) (w : World) : Calls Tryd.prog 101 #[.int .i64 y, .int .i64 12] w (Ret w (.int .i64 (daysZ y 12))) := by
  have hf : Hid (daysZ y 12 = 31) := rfl
  go_enter Tryd.func101, Tryd.ntmps101
  go_wp2_with fail
  go_ret
  exact Ret.mk (ret_int (by rw [hf.out])) (Ext.refl _)
set_option maxRecDepth 100000 in
set_option maxHeartbeats 4000000 in
theorem pdays_any (y m : Int) (w : World) : Calls Tryd.prog 101 #[.int .i64 y, .int .i64 m] w (Ret w (.int .i64 (daysZ y m))) := by
  by_cases h : 1 ≤ m ∧ m ≤ 12
  · have : m = 1 ∨ m = 2 ∨ m = 3 ∨ m = 4 ∨ m = 5 ∨ m = 6 ∨ m = 7 ∨ m = 8 ∨ m = 9 ∨ m = 10 ∨ m = 11 ∨ m = 12 := by omega
    rcases this with rfl | rfl | rfl | rfl | rfl | rfl | rfl | rfl | rfl | rfl | rfl | rfl
    · exact pdays_1 y w
    · exact pdays_2 y w
    · exact pdays_3 y w
    · exact pdays_4 y w
    · exact pdays_5 y w
    · exact pdays_6 y w
    · exact pdays_7 y w
    · exact pdays_8 y w
    · exact pdays_9 y w
    · exact pdays_10 y w
    · exact pdays_11 y w
    · exact pdays_12 y w
  · have hf := Lib.hid (daysZ_out (y := y) h)
    have c1 : (m == 1) = false := beq_eq_false_iff_ne.2 (by omega)
    have c2 : (m == 2) = false := beq_eq_false_iff_ne.2 (by omega)
    have c3 : (m == 3) = false := beq_eq_false_iff_ne.2 (by omega)
    have c4 : (m == 4) = false := beq_eq_false_iff_ne.2 (by omega)
    have c5 : (m == 5) = false := beq_eq_false_iff_ne.2 (by omega)
    have c6 : (m == 6) = false := beq_eq_false_iff_ne.2 (by omega)
    have c7 : (m == 7) = false := beq_eq_false_iff_ne.2 (by omega)
    have c8 : (m == 8) = false := beq_eq_false_iff_ne.2 (by omega)
    have c9 : (m == 9) = false := beq_eq_false_iff_ne.2 (by omega)
    have c10 : (m == 10) = false := beq_eq_false_iff_ne.2 (by omega)
    have c11 : (m == 11) = false := beq_eq_false_iff_ne.2 (by omega)
    have c12 : (m == 12) = false := beq_eq_false_iff_ne.2 (by omega)
    clear h
    go_enter Tryd.func101, Tryd.ntmps101
    go_wp2_with fail
    go_ret
    exact Ret.mk (ret_int (by rw [hf.out])) (Ext.refl _)
set_option maxRecDepth 100000 in
set_option maxHeartbeats 4000000 in
theorem rdays_1 (y : Int) (w : World) : Calls Tryd.prog 99 #[.int .i64 y, .int .i64 1] w (Ret w (.int .i64 (daysZ y 1))) := by
  have hf : Hid (daysZ y 1 = 31) := rfl
  go_enter Tryd.func99, Tryd.ntmps99
  go_wp2_with fail
  go_ret
  exact Ret.mk (ret_int (by rw [hf.out])) ((Ext.refl _).alloc _)
set_option maxRecDepth 100000 in
set_option maxHeartbeats 4000000 in
theorem rdays_2 (y : Int) (w : World) : Calls Tryd.prog 99 #[.int .i64 y, .int .i64 2] w (Ret w (.int .i64 (daysZ y 2))) := by
  have hf := Lib.hid (daysZ_feb y)
  cases hl : leapZ y
  all_goals
    rw [hl] at hf
    have HL := Lib.hid hl
    clear hl
    go_enter Tryd.func99, Tryd.ntmps99
    go_wp2_with fail
    refine (rleap_any y _).mono ?_
    rintro e w1 ⟨rfl, b1⟩
    rw [HL.out]
    go_wp2_with fail
    go_ret
    first
      | exact Ret.mk (ret_int (by rw [hf.out]; rfl)) b1
      | exact Ret.mk (ret_int (by rw [hf.out]; rfl)) (b1.alloc _)
set_option maxRecDepth 100000 in
set_option maxHeartbeats 4000000 in
theorem rdays_3 (y : Int) (w : World) : Calls Tryd.prog 99 #[.int .i64 y, .int .i64 3] w (Ret w (.int .i64 (daysZ y 3))) := by
  have hf : Hid (daysZ y 3 = 31) := rfl
  go_enter Tryd.func99, Tryd.ntmps99
  go_wp2_with fail
  go_ret
  exact Ret.mk (ret_int (by rw [hf.out])) ((Ext.refl _).alloc _)
set_option maxRecDepth 100000 in
set_option maxHeartbeats 4000000 in
theorem rdays_4 (y : Int) (w : World) : Calls Tryd.prog 99 #[.int .i64 y, .int .i64 4] w (Ret w (.int .i64 (daysZ y 4))) := by
  have hf : Hid (daysZ y 4 = 30) := rfl
  go_enter Tryd.func99, Tryd.ntmps99
  go_wp2_with fail
  go_ret
  exact Ret.mk (ret_int (by rw [hf.out])) ((Ext.refl _).alloc _)
set_option maxRecDepth 100000 in
set_option maxHeartbeats 4000000 in
theorem rdays_5 (y : Int) (w : World) : Calls Tryd.prog 99 #[.int .i64 y, .int .i64 5] w (Ret w (.int .i64 (daysZ y 5))) := by
  have hf : Hid (daysZ y 5 = 31) := rfl
  go_enter Tryd.func99, Tryd.ntmps99
  go_wp2_with fail
  go_ret
  exact Ret.mk (ret_int (by rw [hf.out])) ((Ext.refl _).alloc _)
set_option maxRecDepth 100000 in
set_option maxHeartbeats 4000000 in
theorem rdays_6 (y : Int) (w : World) : Calls Tryd.prog 99 #[.int .i64 y, .int .i64 6] w (Ret w (.int .i64 (daysZ y 6))) := by
  have hf : Hid (daysZ y 6 = 30) := rfl
  go_enter Tryd.func99, Tryd.ntmps99
  go_wp2_with fail
  go_ret
  exact Ret.mk (ret_int (by rw [hf.out])) ((Ext.refl _).alloc _)
set_option maxRecDepth 100000 in
set_option maxHeartbeats 4000000 in
theorem rdays_7 (y : Int) (w : World) : Calls Tryd.prog 99 #[.int .i64 y, .int .i64 7] w (Ret w (.int .i64 (daysZ y 7))) := by
  have hf : Hid (daysZ y 7 = 31) := rfl
  go_enter Tryd.func99, Tryd.ntmps99
  go_wp2_with fail
  go_ret
  exact Ret.mk (ret_int (by rw [hf.out])) ((Ext.refl _).alloc _)
set_option maxRecDepth 100000 in
set_option maxHeartbeats 4000000 in
theorem rdays_8 (y : Int) (w : World) : Calls Tryd.prog 99 #[.int .i64 y, .int .i64 8] w (Ret w (.int .i64 (daysZ y 8))) := by
  have hf : Hid (daysZ y 8 = 31) := rfl
  go_enter Tryd.func99, Tryd.ntmps99
  go_wp2_with fail
  go_ret
  exact Ret.mk (ret_int (by rw [hf.out])) ((Ext.refl _).alloc _)
set_option maxRecDepth 100000 in
set_option maxHeartbeats 4000000 in
theorem rdays_9 (y : Int) (w : World) : Calls Tryd.prog 99 #[.int .i64 y, .int .i64 9] w (Ret w (.int .i64 (daysZ y 9))) := by
  have hf : Hid (daysZ y 9 = 30) := rfl
  go_enter Tryd.func99, Tryd.ntmps99
  go_wp2_with fail
  go_ret
  exact Ret.mk (ret_int (by rw [hf.out])) ((Ext.refl _).alloc _)
set_option maxRecDepth 100000 in
set_option maxHeartbeats 4000000 in
theorem rdays_10 (y : Int) (w : World) : Calls Tryd.prog 99 #[.int .i64 y, .int .i64 10] w (Ret w (.int .i64 (daysZ y 10))) := by
  have hf : Hid (daysZ y 10 = 31) := rfl
  go_enter Tryd.func99, Tryd.ntmps99
  go_wp2_with fail
  go_ret
  exact Ret.mk (ret_int (by rw [hf.out])) ((Ext.refl _).alloc _)
set_option maxRecDepth 100000 in
set_option maxHeartbeats 4000000 in
theorem rdays_11 (y : Int) (w : World) : Calls Tryd.prog 99 #[.int .i64 y, .int .i64 11] w (Ret w (.int .i64 (daysZ y 11))) := by
  have hf : Hid (daysZ y 11 = 30) := rfl
  go_enter Tryd.func99, Tryd.ntmps99
  go_wp2_with fail
  go_ret
  exact Ret.mk (ret_int (by rw [hf.out])) ((Ext.refl _).alloc _)
set_option maxRecDepth 100000 in
set_option maxHeartbeats 4000000 in
theorem rdays_12 (y : Int) (w : World) : Calls Tryd.prog 99 #[.int .i64 y, .int .i64 12] w (Ret w (.int .i64 (daysZ y 12))) := by
  have hf : Hid (daysZ y 12 = 31) := rfl
  go_enter Tryd.func99, Tryd.ntmps99
  go_wp2_with fail
  go_ret
  exact Ret.mk (ret_int (by rw [hf.out])) ((Ext.refl _).alloc _)
set_option maxRecDepth 100000 in
set_option maxHeartbeats 4000000 in
theorem rdays_any (y m : Int) (w : World) : Calls Tryd.prog 99 #[.int .i64 y, .int .i64 m] w (Ret w (.int .i64 (daysZ y m))) := by
  by_cases h : 1 ≤ m ∧ m ≤ 12
  · have : m = 1 ∨ m = 2 ∨ m = 3 ∨ m = 4 ∨ m = 5 ∨ m = 6 ∨ m = 7 ∨ m = 8 ∨ m = 9 ∨ m = 10 ∨ m = 11 ∨ m = 12 := by omega
    rcases this with rfl | rfl | rfl | rfl | rfl | rfl | rfl | rfl | rfl | rfl | rfl | rfl
    · exact rdays_1 y w
    · exact rdays_2 y w
    · exact rdays_3 y w
    · exact rdays_4 y w
    · exact rdays_5 y w
    · exact rdays_6 y w
    · exact rdays_7 y w
    · exact rdays_8 y w
    · exact rdays_9 y w
    · exact rdays_10 y w
    · exact rdays_11 y w
    · exact rdays_12 y w
  · have hf := Lib.hid (daysZ_out (y := y) h)
    have c1 : (m == 1) = false := beq_eq_false_iff_ne.2 (by omega)
    have c2 : (m == 2) = false := beq_eq_false_iff_ne.2 (by omega)
    have c3 : (m == 3) = false := beq_eq_false_iff_ne.2 (by omega)
    have c4 : (m == 4) = false := beq_eq_false_iff_ne.2 (by omega)
    have c5 : (m == 5) = false := beq_eq_false_iff_ne.2 (by omega)
    have c6 : (m == 6) = false := beq_eq_false_iff_ne.2 (by omega)
    have c7 : (m == 7) = false := beq_eq_false_iff_ne.2 (by omega)
    have c8 : (m == 8) = false := beq_eq_false_iff_ne.2 (by omega)
    have c9 : (m == 9) = false := beq_eq_false_iff_ne.2 (by omega)
    have c10 : (m == 10) = false := beq_eq_false_iff_ne.2 (by omega)
    have c11 : (m == 11) = false := beq_eq_false_iff_ne.2 (by omega)
    have c12 : (m == 12) = false := beq_eq_false_iff_ne.2 (by omega)
    have g : m < 1 ∨ (¬ m < 1 ∧ 12 < m) := by omega
    clear h
    rcases g with g | ⟨g, g2⟩
    all_goals
      go_enter Tryd.func99, Tryd.ntmps99
      go_wp2_with fail
      go_ret
      exact Ret.mk (ret_int (by rw [hf.out])) (Ext.refl _)
end Go.Proofs.YtanaifobmkjpaaaDoor
