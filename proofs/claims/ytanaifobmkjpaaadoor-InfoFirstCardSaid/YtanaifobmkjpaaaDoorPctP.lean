/- Layer 4 (pct), plain: percent signs as functions on lists of bytes. No program in sight. -/
import Derived.Test.YtanaifobmkjpaaaDoorBase
import Derived.Lib.Index
namespace Go.Proofs.YtanaifobmkjpaaaDoor
open Go.RowKit

def plainC (c : UInt8) : Bool := (97 ≤ c && c ≤ 122) || (65 ≤ c && c ≤ 90) || (48 ≤ c && c ≤ 57) || c == 45 || c == 46 || c == 95 || c == 126 || c == 47
def hexU (n : Nat) : UInt8 := if n < 10 then UInt8.ofNat (48 + n) else UInt8.ofNat (55 + n)
def encC (c : UInt8) : List UInt8 := if plainC c then [c] else [37, hexU (c.toNat / 16), hexU (c.toNat % 16)]
def encL (l : List UInt8) : List UInt8 := l.flatMap encC
/-- A digit's number; 16: it is none. -/
def digC (c : UInt8) : Nat := if 48 ≤ c ∧ c ≤ 57 then c.toNat - 48 else if 97 ≤ c ∧ c ≤ 102 then c.toNat - 87 else if 65 ≤ c ∧ c ≤ 70 then c.toNat - 55 else 16
def decL : List UInt8 → Option (List UInt8)
  | [] => some []
  | c :: r => if c ≠ 37 then (decL r).map (c :: ·) else
      match r with
      | a :: b :: r' => if digC a < 16 ∧ digC b < 16 then (decL r').map (UInt8.ofNat (16 * digC a + digC b) :: ·) else none
      | _ => none

theorem encL_nil : encL [] = [] := rfl
theorem encL_snoc (l : List UInt8) (c : UInt8) : encL (l ++ [c]) = encL l ++ encC c := by simp [encL, List.flatMap_append]
theorem encC_plain {c : UInt8} (h : plainC c = true) : encC c = [c] := by unfold encC; rw [if_pos h]
theorem encC_not {c : UInt8} (h : plainC c = false) : encC c = [37, hexU (c.toNat / 16), hexU (c.toNat % 16)] := by unfold encC; rw [if_neg (by simp [h])]
theorem encC_le (c : UInt8) : (encC c).length ≤ 3 := by unfold encC; split <;> simp
theorem encL_le (l : List UInt8) : (encL l).length ≤ 3 * l.length := by
  induction l with
  | nil => simp [encL]
  | cons c l ih =>
    have h1 : encL (c :: l) = encC c ++ encL l := rfl
    have h2 := encC_le c
    rw [h1, List.length_append, List.length_cons]; omega

/-! ### decL's equations. -/
theorem decL_cons_plain {c : UInt8} (r : List UInt8) (h : c ≠ 37) : decL (c :: r) = (decL r).map (c :: ·) := by
  match r with
  | [] => simp [decL, h]
  | [_] => simp [decL, h]
  | _ :: _ :: _ => simp only [decL, if_pos h]
theorem decL_short {r : List UInt8} (h : r.length < 2) : decL (37 :: r) = none := by
  match r, h with
  | [], _ => simp [decL]
  | [_], _ => simp [decL]
theorem decL_bad {a b : UInt8} (r : List UInt8) (h : ¬ (digC a < 16 ∧ digC b < 16)) : decL (37 :: a :: b :: r) = none := by
  simp only [decL]; rw [if_neg (by simp), if_neg h]
theorem decL_good {a b : UInt8} (r : List UInt8) (h : digC a < 16 ∧ digC b < 16) : decL (37 :: a :: b :: r) = (decL r).map (UInt8.ofNat (16 * digC a + digC b) :: ·) := by
  simp only [decL]; rw [if_neg (by simp), if_pos h]
/-! ### Back. -/
theorem dec_plain {c : UInt8} (h : plainC c = true) : c ≠ 37 := by rintro rfl; exact absurd h (by decide)
theorem dig_hex : ∀ n : Fin 16, digC (hexU n.val) = n.val := by decide
theorem decL_encC (c : UInt8) (r : List UInt8) : decL (encC c ++ r) = (decL r).map (c :: ·) := by
  cases h : plainC c with
  | true =>
    rw [encC_plain h]
    show decL (c :: r) = _
    rw [decL_cons_plain _ (dec_plain h)]
  | false =>
    rw [encC_not h]
    show decL (37 :: hexU (c.toNat / 16) :: hexU (c.toNat % 16) :: r) = _
    have hc : c.toNat < 256 := c.toNat_lt
    have h1 : digC (hexU (c.toNat / 16)) = c.toNat / 16 := dig_hex ⟨c.toNat / 16, by omega⟩
    have h2 : digC (hexU (c.toNat % 16)) = c.toNat % 16 := dig_hex ⟨c.toNat % 16, by omega⟩
    rw [decL_good _ (by omega), h1, h2, show 16 * (c.toNat / 16) + c.toNat % 16 = c.toNat from by omega, UInt8.ofNat_toNat]
theorem decL_encL (l : List UInt8) : decL (encL l) = some l := by
  induction l with
  | nil => rfl
  | cons c l ih =>
    show decL (encC c ++ encL l) = _
    rw [decL_encC, ih]; rfl
theorem encL_inj {a b : List UInt8} (h : encL a = encL b) : a = b := by
  have h1 := decL_encL a
  rw [h, decL_encL b] at h1
  exact (Option.some.inj h1).symm
/-! ### What can be seen. -/
theorem plain_vis : ∀ c : UInt8, plainC c = true → 33 ≤ c.toNat ∧ c.toNat ≤ 126 := by
  have : ∀ n : Fin 256, plainC (UInt8.ofNat n.val) = true → 33 ≤ n.val ∧ n.val ≤ 126 := by decide +kernel
  intro c h
  have := this ⟨c.toNat, c.toNat_lt⟩
  simp only [UInt8.ofNat_toNat] at this
  exact this h
theorem hex_vis : ∀ n : Fin 16, 33 ≤ (hexU n.val).toNat ∧ (hexU n.val).toNat ≤ 126 := by decide
theorem encC_vis (c : UInt8) : ∀ x ∈ encC c, 33 ≤ x.toNat ∧ x.toNat ≤ 126 := by
  intro x hx
  cases h : plainC c with
  | true =>
    rw [encC_plain h] at hx
    simp at hx; subst hx
    exact plain_vis _ h
  | false =>
    rw [encC_not h] at hx
    have hc : c.toNat < 256 := c.toNat_lt
    simp at hx
    rcases hx with rfl | rfl | rfl
    · decide
    · exact hex_vis ⟨c.toNat / 16, by omega⟩
    · exact hex_vis ⟨c.toNat % 16, by omega⟩
theorem encL_vis (l : List UInt8) : ∀ x ∈ encL l, 33 ≤ x.toNat ∧ x.toNat ≤ 126 := by
  intro x hx
  obtain ⟨c, _, h⟩ := List.mem_flatMap.1 hx
  exact encC_vis c x h
end Go.Proofs.YtanaifobmkjpaaaDoor
