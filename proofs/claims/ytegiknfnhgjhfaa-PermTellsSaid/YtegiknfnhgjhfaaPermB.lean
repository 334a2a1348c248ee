/- Layer 10, plain: modes below 1024 are read back from their letters. No program in sight. -/
import Derived.Test.YtegiknfnhgjhfaaPermA
namespace Go.Proofs.Ytegiknfnhgjhfaa
open Go.RowKit

def decLetters (l : List UInt8) : Nat :=
  match l with
  | [_, b, c, d, e, f, g, h, i, j] =>
    (if b == 45 then 0 else 256) + (if c == 45 then 0 else 128) + (if d == 45 then 0 else 64) + (if e == 45 then 0 else 32) + (if f == 45 then 0 else 16) + (if g == 45 then 0 else 8) + (if h == 45 then 0 else 4) + (if i == 45 then 0 else 2)
      + (if j == 116 then 513 else if j == 84 then 512 else if j == 45 then 0 else 1)
  | _ => 0
theorem dec_0 : ∀ m : Fin 1024, decLetters ((lettersOf 0 (m.val : Int)).map fun n => UInt8.ofNat n.toNat) = m.val := by decide +kernel
theorem letterAt_kind (kind kind' mode : Int) (k j : Nat) (h : j ≠ 0) : letterAt kind mode k j = letterAt kind' mode k j := by unfold letterAt; rw [if_neg h, if_neg h]
theorem dec_any (kind : Int) (m : Nat) (h : m < 1024) : decLetters ((strOfNums (lettersOf kind (m : Int))).toList) = m := by
  have h0 : decLetters ((lettersOf 0 (m : Int)).map fun n => UInt8.ofNat n.toNat) = m := dec_0 ⟨m, h⟩
  rw [ByteArray.toList_eq, strOfNums_data]
  refine Eq.trans ?_ h0
  unfold lettersOf
  split
  · simp [lettersAt, decLetters, List.range, List.range.loop, letterAt_kind kind 0]
  · simp [lettersAt, decLetters, List.range, List.range.loop, letterAt_kind kind 0]
theorem letters_inj (kind : Int) (m n : Nat) (hm : m < 1024) (hn : n < 1024) :
    ((strOfNums (lettersOf kind (m : Int))).toList == (strOfNums (lettersOf kind (n : Int))).toList) = ((m : Int) == (n : Int)) := by
  rw [Bool.eq_iff_iff, beq_iff_eq, beq_iff_eq]
  constructor
  · intro h
    have h1 := dec_any kind m hm
    rw [h, dec_any kind n hn] at h1
    rw [h1]
  · intro h
    rw [h]
theorem letters_injI (kind x y : Int) (hx : 0 ≤ x) (hx' : x < 1024) (hy : 0 ≤ y) (hy' : y < 1024) :
    ((strOfNums (lettersOf kind x)).toList == (strOfNums (lettersOf kind y)).toList) = (x == y) := by
  obtain ⟨m, rfl⟩ := Int.eq_ofNat_of_zero_le hx
  obtain ⟨n, rfl⟩ := Int.eq_ofNat_of_zero_le hy
  exact letters_inj kind m n (by omega) (by omega)
theorem lettersOf_len (kind mode : Int) : (lettersOf kind mode).length = 10 := by unfold lettersOf; split <;> simp [lettersAt]
theorem letters_size (kind mode : Int) : (strOfNums (lettersOf kind mode)).size = 10 := by rw [strOfNums_size, lettersOf_len]
end Go.Proofs.Ytegiknfnhgjhfaa
