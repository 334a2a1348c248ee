/- Layer 5 (date): Year of the reference. -/
import Derived.Test.YtanaifobmkjpaaaDoorDateD
namespace Go.Proofs.YtanaifobmkjpaaaDoor
open Go.ChangeShapes Go.WideShapes Go.ChangeAt Go.RowKit

def yearZ (y : Int) : Int := if leapZ y = true then 366 else 365
set_option maxHeartbeats 2000000 in
theorem ryear_any (y : Int) (w : World) : Calls Tryd.prog 98 #[.int .i64 y] w (Ret w (.int .i64 (yearZ y))) := by
  have hf : Hid (yearZ y = if leapZ y = true then 366 else 365) := rfl
  cases hl : leapZ y
  all_goals
    rw [hl] at hf
    have HL := Lib.hid hl
    clear hl
    go_enter Tryd.func98, Tryd.ntmps98
    go_wp2_with fail
    refine (rleap_any y _).mono ?_
    rintro e w1 ⟨rfl, b1⟩
    rw [HL.out]
    go_wp2_with fail
    go_ret
    exact Ret.mk (ret_int (by rw [hf.out]; rfl)) b1
theorem yearZ_nat (y : Nat) : yearZ y = ((if leap y then 366 else 365 : Nat) : Int) := by
  unfold yearZ; rw [leapZ_nat]; cases leap y <;> rfl
theorem daysZ_nat (y m : Nat) : daysZ y m = (days y m : Int) := by
  unfold daysZ days
  rw [leapZ_nat]
  by_cases h2 : m = 2
  · subst h2; cases leap y <;> rfl
  · rw [if_neg (by omega), if_neg h2]
    by_cases h4 : m = 4 ∨ m = 6 ∨ m = 9 ∨ m = 11
    · rw [if_pos (by omega), if_pos h4]; rfl
    · rw [if_neg (by omega), if_neg h4]
      by_cases h1 : 1 ≤ m ∧ m ≤ 12
      · rw [if_pos (by omega), if_pos h1]; rfl
      · rw [if_neg (by omega), if_neg h1]; rfl
end Go.Proofs.YtanaifobmkjpaaaDoor
