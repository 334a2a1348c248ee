/- Layer 5 (date), plain: the digits of a padded number; the text of a time. -/
import Derived.Test.YtanaifobmkjpaaaDoorNumW
namespace Go.Proofs.YtanaifobmkjpaaaDoor
def pad2 (n : Nat) : List UInt8 := [chr (n / 10), chr (n % 10)]
def pad4 (n : Nat) : List UInt8 := [chr (n / 1000), chr (n / 100 % 10), chr (n / 10 % 10), chr (n % 10)]
theorem pad2_all : ∀ n : Nat, n < 100 → List.replicate (2 - (digL 10 n).length) 48 ++ digL 10 n = pad2 n := by decide +kernel
theorem pad4_two : ∀ a : Nat, a < 100 → ∀ b : Nat, b < 100 → List.replicate (4 - (digL 10 (100 * a + b)).length) 48 ++ digL 10 (100 * a + b) = pad4 (100 * a + b) := by decide +kernel
theorem pad4_all (n : Nat) (h : n < 10000) : List.replicate (4 - (digL 10 n).length) 48 ++ digL 10 n = pad4 n := by
  have := pad4_two (n / 100) (by omega) (n % 100) (by omega)
  have e : 100 * (n / 100) + n % 100 = n := by omega
  rwa [e] at this
theorem padI_2 (n : Nat) (h : n < 100) : padI n 2 = pad2 n := by
  rw [← pad2_all n h]
  unfold padI
  rw [if_neg (by omega), decI_pos (by omega)]; rfl
theorem padI_4 (n : Nat) (h : n < 10000) : padI n 4 = pad4 n := by
  rw [← pad4_all n h]
  unfold padI
  rw [if_neg (by omega), decI_pos (by omega)]; rfl
/-- A time's text. -/
def txtL (y m d h mi s : Nat) : List UInt8 := pad4 y ++ [45] ++ pad2 m ++ [45] ++ pad2 d ++ [84] ++ pad2 h ++ [58] ++ pad2 mi ++ [58] ++ pad2 s
end Go.Proofs.YtanaifobmkjpaaaDoor
