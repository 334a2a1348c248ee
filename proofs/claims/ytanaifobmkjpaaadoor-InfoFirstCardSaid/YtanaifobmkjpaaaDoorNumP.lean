/- Layer 1 (num), plain: digits of a number. No program in sight. -/
import Derived.Test.YtanaifobmkjpaaaDoorBld
import Derived.Test.YtanaifobmkjpaaaDoorStr
namespace Go.Proofs.YtanaifobmkjpaaaDoor
open Go.RowKit

/-- Digits to a base, the lowest first; none of 0. -/
def low (b : Nat) : Nat → Nat → List Nat
  | 0, _ => []
  | f + 1, n => if n = 0 then [] else n % b :: low b f (n / b)
theorem low_zero (b f : Nat) : low b f 0 = [] := by cases f <;> simp [low]
theorem low_lt (b : Nat) (hb : 0 < b) : ∀ f n, ∀ d ∈ low b f n, d < b
  | 0, _, d, h => by simp [low] at h
  | f + 1, n, d, h => by
    unfold low at h
    split at h
    · simp at h
    · rcases List.mem_cons.1 h with rfl | h
      · exact Nat.mod_lt _ hb
      · exact low_lt b hb f _ d h
theorem low_len (b : Nat) : ∀ f n, (low b f n).length ≤ f
  | 0, _ => by simp [low]
  | f + 1, n => by
    unfold low
    split
    · simp
    · have := low_len b f (n / b); simp; omega
theorem low_pos (b n : Nat) (h : ¬ n = 0) : 0 < (low b 64 n).length := by
  show 0 < (low b (63 + 1) n).length
  unfold low; rw [if_neg h]; simp
def chr (d : Nat) : UInt8 := UInt8.ofNat (48 + d)
/-- Digits as a text. -/
def digL (b n : Nat) : List UInt8 := if n = 0 then [48] else ((low b 64 n).reverse).map chr
/-- Behind k rounds: what has been put out, and what is left. -/
def LowInv (b n : Nat) (pre : List Nat) (x : Nat) : Prop := ∃ f, low b 64 n = pre ++ low b f x ∧ x < b ^ f ∧ pre.length + f ≤ 64
theorem LowInv.start (b n : Nat) (h : n < b ^ 64) : LowInv b n [] n := ⟨64, by simp, h, by simp⟩
theorem LowInv.step {b n : Nat} {pre : List Nat} {x : Nat} (hb : 0 < b) (h : LowInv b n pre x) (hx : 0 < x) : LowInv b n (pre ++ [x % b]) (x / b) := by
  obtain ⟨f, h1, h2, h3⟩ := h
  cases f with
  | zero => simp at h2; omega
  | succ f =>
    refine ⟨f, ?_, ?_, by simp; omega⟩
    · rw [h1]; simp [low, Nat.ne_of_gt hx]
    · rw [Nat.div_lt_iff_lt_mul hb, ← Nat.pow_succ]; exact h2
theorem LowInv.len {b n : Nat} {pre : List Nat} {x : Nat} (h : LowInv b n pre x) : pre.length ≤ 64 := by obtain ⟨f, _, _, h3⟩ := h; omega
theorem LowInv.done {b n : Nat} {pre : List Nat} (h : LowInv b n pre 0) : pre = low b 64 n := by obtain ⟨f, h1, _⟩ := h; rw [h1, low_zero]; simp

/-! ### A list whose first k and last k are turned. -/
def turned {α : Type} [Inhabited α] (l : List α) (k : Nat) : List α := (List.range l.length).map fun p => if p < k ∨ l.length - k ≤ p then l.getD (l.length - 1 - p) default else l.getD p default
theorem turned_len {α : Type} [Inhabited α] (l : List α) (k : Nat) : (turned l k).length = l.length := by simp [turned]
theorem turned_get {α : Type} [Inhabited α] (l : List α) (k p : Nat) (h : p < l.length) : (turned l k)[p]? = some (if p < k ∨ l.length - k ≤ p then l.getD (l.length - 1 - p) default else l.getD p default) := by
  simp [turned, h]
theorem turned_zero {α : Type} [Inhabited α] (l : List α) : turned l 0 = l := by
  apply List.ext_getElem?
  intro p
  by_cases h : p < l.length
  · rw [turned_get l 0 p h, if_neg (by omega)]; simp [List.getD, List.getElem?_eq_getElem h]
  · rw [List.getElem?_eq_none (by rw [turned_len]; omega), List.getElem?_eq_none (by omega)]
theorem turned_all {α : Type} [Inhabited α] (l : List α) (k : Nat) (hk : l.length ≤ 2 * k + 1) : turned l k = l.reverse := by
  apply List.ext_getElem?
  intro p
  by_cases h : p < l.length
  · rw [turned_get l k p h, List.getElem?_reverse (by omega)]
    have hq : l.length - 1 - p < l.length := by omega
    by_cases hc : p < k ∨ l.length - k ≤ p
    · rw [if_pos hc]; simp [List.getD, List.getElem?_eq_getElem hq]
    · rw [if_neg hc]
      have : l.length - 1 - p = p := by omega
      rw [this]; simp [List.getD, List.getElem?_eq_getElem h]
  · rw [List.getElem?_eq_none (by rw [turned_len]; omega), List.getElem?_eq_none (by rw [List.length_reverse]; omega)]
theorem turned_step {α : Type} [Inhabited α] (l : List α) (k : Nat) (hk : k < l.length - 1 - k) :
    ((turned l k).set k (l.getD (l.length - 1 - k) default)).set (l.length - 1 - k) (l.getD k default) = turned l (k + 1) := by
  apply List.ext_getElem?
  intro p
  by_cases h : p < l.length
  · rw [turned_get l (k + 1) p h, List.getElem?_set, List.getElem?_set]
    by_cases h1 : l.length - 1 - k = p
    · rw [if_pos h1, if_pos (by rw [List.length_set, turned_len]; omega)]
      congr 1
      rw [if_pos (by omega)]
      congr 1; omega
    · rw [if_neg h1]
      by_cases h2 : k = p
      · rw [if_pos h2, if_pos (by rw [turned_len]; omega)]
        subst h2
        rw [if_pos (by omega)]
      · rw [if_neg h2, turned_get l k p h]
        congr 1
        by_cases h3 : p < k ∨ l.length - k ≤ p
        · rw [if_pos h3, if_pos (by omega)]
        · rw [if_neg h3, if_neg (by omega)]
  · rw [List.getElem?_eq_none (by rw [List.length_set, List.length_set, turned_len]; omega), List.getElem?_eq_none (by rw [turned_len]; omega)]
theorem turned_at {α : Type} [Inhabited α] (l : List α) (k : Nat) (hk : k < l.length - 1 - k) : (turned l k)[k]? = some (l.getD k default) ∧ (turned l k)[l.length - 1 - k]? = some (l.getD (l.length - 1 - k) default) := by
  constructor
  · rw [turned_get l k k (by omega), if_neg (by omega)]
  · rw [turned_get l k _ (by omega), if_neg (by omega)]
end Go.Proofs.YtanaifobmkjpaaaDoor
