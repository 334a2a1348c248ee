/- Layer 7 (sizes), plain (turned from the entries of layer 11): the order of texts; rising lists; what Put, Drop and Find make of them. -/
import Derived.Test.YtmppjbimdonfmaaDoorStr
namespace Go.Proofs.YtmppjbimdonfmaaDoor
abbrev bl := Go.Op.bytesLess
theorem bl_irrefl : ∀ a, bl a a = false
  | [] => rfl
  | c :: a => by simp [bl, Go.Op.bytesLess, show ¬ c < c from fun h => by exact absurd (UInt8.lt_iff_toNat_lt.1 h) (Nat.lt_irrefl _)]; exact bl_irrefl a
theorem bl_cons (c d : UInt8) (a b : List UInt8) : bl (c :: a) (d :: b) = (decide (c < d) || (c == d && bl a b)) := rfl
theorem bl_trans : ∀ {a b c : List UInt8}, bl a b = true → bl b c = true → bl a c = true
  | [], [], c, h, _ => absurd h (by decide)
  | [], b :: bs, [], _, h => absurd h (by simp [bl, Go.Op.bytesLess])
  | [], b :: bs, c :: cs, _, _ => rfl
  | a :: al, [], c, h, _ => absurd h (by simp [bl, Go.Op.bytesLess])
  | a :: al, b :: bs, [], _, h => absurd h (by simp [bl, Go.Op.bytesLess])
  | a :: al, b :: bs, c :: cs, h, k => by
    rw [bl_cons] at h k ⊢
    simp only [Bool.or_eq_true, decide_eq_true_eq, Bool.and_eq_true, beq_iff_eq] at h k ⊢
    rcases h with h | ⟨rfl, h⟩
    · rcases k with k | ⟨rfl, k⟩
      · exact .inl (UInt8.lt_trans h k)
      · exact .inl h
    · rcases k with k | ⟨rfl, k⟩
      · exact .inl k
      · exact .inr ⟨rfl, bl_trans h k⟩
theorem bl_tri : ∀ (a b : List UInt8), bl a b = true ∨ a = b ∨ bl b a = true
  | [], [] => .inr (.inl rfl)
  | [], b :: bs => .inl rfl
  | a :: al, [] => .inr (.inr rfl)
  | a :: al, b :: bs => by
    rw [bl_cons, bl_cons]
    simp only [Bool.or_eq_true, decide_eq_true_eq, Bool.and_eq_true, beq_iff_eq]
    by_cases h : a < b
    · exact .inl (.inl h)
    · by_cases h2 : b < a
      · exact .inr (.inr (.inl h2))
      · have : a = b := UInt8.le_antisymm (UInt8.not_lt.1 h2) (UInt8.not_lt.1 h)
        subst this
        rcases bl_tri al bs with g | g | g
        · exact .inl (.inr ⟨rfl, g⟩)
        · exact .inr (.inl (by rw [g]))
        · exact .inr (.inr (.inr ⟨rfl, g⟩))
theorem bl_asymm {a b : List UInt8} (h : bl a b = true) : bl b a = false := by
  cases k : bl b a
  · rfl
  · have := bl_trans h k; rw [bl_irrefl] at this; cases this
/-- A line: its name; its size, its time. -/
abbrev EntD := List UInt8 × Int × Int
def lt (x : EntD) (n : List UInt8) : Bool := bl x.1 n
def Rise (l : List EntD) : Prop := l.Pairwise fun x y => bl x.1 y.1 = true
/-- How many names are less. -/
def pos (l : List EntD) (n : List UInt8) : Nat := (l.takeWhile (lt · n)).length
def has (l : List EntD) (n : List UInt8) : Bool := l.any (·.1 == n)
theorem pos_le (l : List EntD) (n : List UInt8) : pos l n ≤ l.length := by
  unfold pos
  induction l with
  | nil => simp
  | cons x l ih => rw [List.takeWhile_cons]; split <;> simp <;> omega
theorem pos_cons (x : EntD) (l : List EntD) (n : List UInt8) : pos (x :: l) n = if lt x n = true then pos l n + 1 else 0 := by
  unfold pos; rw [List.takeWhile_cons]; split <;> simp
theorem pos_less (l : List EntD) (n : List UInt8) : ∀ k, k < pos l n → (h : k < l.length) → lt l[k] n = true := by
  induction l with
  | nil => intro k _ h; cases h
  | cons x l ih =>
    intro k hk h
    rw [pos_cons] at hk
    split at hk
    · rename_i hx
      cases k with
      | zero => exact hx
      | succ k => exact ih k (by omega) (by simpa using h)
    · omega
/-- Of a rising list: what stands from there on is not less. -/
theorem pos_not (l : List EntD) (n : List UInt8) (hr : Rise l) : ∀ k, (h : k < l.length) → pos l n ≤ k → lt l[k] n = false := by
  induction l with
  | nil => intro k h; cases h
  | cons x l ih =>
    intro k h hk
    rw [pos_cons] at hk
    have hr' := List.pairwise_cons.1 hr
    split at hk
    · cases k with
      | zero => omega
      | succ k => exact ih hr'.2 k (by simpa using h) (by omega)
    · rename_i hx
      have hx' : lt x n = false := by simpa using hx
      cases k with
      | zero => exact hx'
      | succ k =>
        have hm : l[k]'(by simpa using h) ∈ l := List.getElem_mem _
        have h1 := hr'.1 _ hm
        cases h2 : lt ((x :: l)[k + 1]'h) n
        · rfl
        · have : lt x n = true := bl_trans h1 h2
          rw [hx'] at this; cases this
/-- What the binary search finds. -/
theorem pos_unique (l : List EntD) (n : List UInt8) (hr : Rise l) (p : Nat) (hp : p ≤ l.length) (h1 : ∀ k, (h : k < l.length) → k < p → lt l[k] n = true) (h2 : ∀ k, (h : k < l.length) → p ≤ k → lt l[k] n = false) : p = pos l n := by
  rcases Nat.lt_trichotomy p (pos l n) with g | g | g
  · have hl := pos_le l n
    have a := pos_less l n p g (by omega)
    have b := h2 p (by omega) (Nat.le_refl _)
    rw [a] at b; cases b
  · exact g
  · have a := h1 (pos l n) (by omega) g
    have b := pos_not l n hr (pos l n) (by omega) (Nat.le_refl _)
    rw [a] at b; cases b
theorem has_pos (l : List EntD) (n : List UInt8) (hr : Rise l) : has l n = (if h : pos l n < l.length then (l[pos l n]'h).1 == n else false) := by
  induction l with
  | nil => rfl
  | cons x l ih =>
    have hr' := List.pairwise_cons.1 hr
    have hp := pos_cons x l n
    by_cases hx : lt x n = true
    · rw [if_pos hx] at hp
      have hne : (x.1 == n) = false := by
        rw [beq_eq_false_iff_ne]; intro e; unfold lt at hx; rw [e, bl_irrefl] at hx; cases hx
      have : has (x :: l) n = has l n := by unfold has; rw [List.any_cons, hne, Bool.false_or]
      rw [this, ih hr'.2]
      have hlen : (x :: l).length = l.length + 1 := rfl
      by_cases h : pos l n < l.length
      · rw [dif_pos h, dif_pos (by omega)]
        have : ∀ (i j : Nat) (hi : i < (x :: l).length) (hj : j < l.length), i = j + 1 → (x :: l)[i] = l[j] := by
          intro i j hi hj e; subst e; rfl
        rw [this _ _ (by omega) h hp]
      · rw [dif_neg h, dif_neg (by omega)]
    · rw [if_neg hx] at hp
      have h0 : 0 < (x :: l).length := by simp
      have e0 : ∀ (i : Nat) (hi : i < (x :: l).length), i = 0 → (x :: l)[i] = x := by intro i hi e; subst e; rfl
      rw [dif_pos (by omega), e0 _ _ hp]
      unfold has
      rw [List.any_cons]
      cases hq : (x.1 == n)
      · rw [Bool.false_or, List.any_eq_false]
        intro y hy
        have h1 := hr'.1 y hy
        intro h2
        rw [beq_iff_eq] at h2
        rw [h2] at h1
        exact hx h1
      · rfl
end Go.Proofs.YtmppjbimdonfmaaDoor
