/- Layer 5 (date): Leap and Days of the program and of the reference. -/
import Derived.Test.YtanaifobmkjpaaaDoorNumW
import Derived.Test.YtanaifobmkjpaaaDoorDateQ
namespace Go.Proofs.YtanaifobmkjpaaaDoor
open Go.ChangeShapes Go.WideShapes Go.ChangeAt Go.RowKit

def leapZ (y : Int) : Bool := decide (y % 4 = 0) && (!decide (y % 100 = 0) || decide (y % 400 = 0))
theorem tmod_zero (y k : Int) : (y.tmod k == 0) = decide (y % k = 0) := by
  rw [Bool.eq_iff_iff, beq_iff_eq, decide_eq_true_iff, ← Int.dvd_iff_tmod_eq_zero, Int.dvd_iff_emod_eq_zero]
theorem leapZ_nat (y : Nat) : leapZ y = leap y := by
  unfold leapZ leap
  have h4 : decide ((y : Int) % 4 = 0) = (y % 4 == 0) := by rw [Bool.eq_iff_iff, decide_eq_true_iff, beq_iff_eq]; omega
  have h100 : decide ((y : Int) % 100 = 0) = (y % 100 == 0) := by rw [Bool.eq_iff_iff, decide_eq_true_iff, beq_iff_eq]; omega
  have h400 : decide ((y : Int) % 400 = 0) = (y % 400 == 0) := by rw [Bool.eq_iff_iff, decide_eq_true_iff, beq_iff_eq]; omega
  rw [h4, h100, h400]; rfl
set_option maxHeartbeats 2000000 in
theorem pleap_any (y : Int) (w : World) : Calls Tryd.prog 117 #[.int .i64 y] w (Ret w (.bool (leapZ y))) := by
  have h4 := tmod_zero y 4
  have h100 := tmod_zero y 100
  have h100' : (y.tmod 100 != 0) = !decide (y % 100 = 0) := by rw [← h100]; rfl
  have h400 := tmod_zero y 400
  have hd : Hid (leapZ y = (decide (y % 4 = 0) && (!decide (y % 100 = 0) || decide (y % 400 = 0)))) := rfl
  generalize decide (y % 4 = 0) = a at h4 hd
  generalize decide (y % 100 = 0) = b at h100 h100' hd
  generalize decide (y % 400 = 0) = c at h400 hd
  cases a <;> cases b <;> cases c
  all_goals simp only [Bool.not_true, Bool.not_false] at h100'
  all_goals
    go_enter Tryd.func117, Tryd.ntmps117
    go_wp2_with fail
    go_ret
    exact Ret.mk (ret_bool (by rw [hd.out]; rfl)) (Ext.refl _)
set_option maxHeartbeats 2000000 in
theorem rleap_any (y : Int) (w : World) : Calls Tryd.prog 116 #[.int .i64 y] w (Ret w (.bool (leapZ y))) := by
  have h4 := tmod_zero y 4
  have h100 := tmod_zero y 100
  have h100' : (y.tmod 100 != 0) = !decide (y % 100 = 0) := by rw [← h100]; rfl
  have h400 := tmod_zero y 400
  have hd : Hid (leapZ y = (decide (y % 4 = 0) && (!decide (y % 100 = 0) || decide (y % 400 = 0)))) := rfl
  have himp : decide (y % 400 = 0) = true → decide (y % 4 = 0) = true := by rw [decide_eq_true_iff, decide_eq_true_iff]; omega
  generalize decide (y % 4 = 0) = a at h4 hd himp
  generalize decide (y % 100 = 0) = b at h100 h100' hd
  generalize decide (y % 400 = 0) = c at h400 hd himp
  cases a <;> cases b <;> cases c
  all_goals simp only [Bool.not_true, Bool.not_false] at h100'
  all_goals first
    | exact absurd (himp rfl) (by decide)
    | (clear himp
       go_enter Tryd.func116, Tryd.ntmps116
       go_wp2_with fail
       go_ret
       exact Ret.mk (ret_bool (by rw [hd.out]; rfl)) (Ext.refl _))
end Go.Proofs.YtanaifobmkjpaaaDoor
