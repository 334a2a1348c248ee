/- Layer 5 (date), plain: the program's day is valid and has the day number. -/
import Derived.Test.YtanaifobmkjpaaaDoorDateP
import Derived.Test.YtanaifobmkjpaaaDoorDateQ
namespace Go.Proofs.YtanaifobmkjpaaaDoor
theorem yoe2 (r : Nat) (h : r < 146097) : fday r / 365 = 399 ∨ r < start (fday r / 365 + 1) := by
  by_cases h399 : fday r / 365 = 399
  · exact .inl h399
  · right
    have hy := (yoe r h).1
    apply Nat.lt_of_not_le
    intro hle
    have h2 : fday (start (fday r / 365 + 1)) ≤ fday r := fday_mono hle (by omega)
    have h3 := fday_low (fday r / 365 + 1) (by omega)
    omega
theorem start_step (y : Nat) : start (y + 1) = start y + 365 + (if (y + 1) % 4 = 0 ∧ (y + 1) % 100 ≠ 0 then 1 else 0) := by
  unfold start
  split <;> omega
theorem leap_of {C y : Nat} (h : y = 399 ∨ ((y + 1) % 4 = 0 ∧ (y + 1) % 100 ≠ 0)) : leap (400 * C + y + 1) = true := by
  unfold leap
  rcases h with h | ⟨h1, h2⟩
  · subst h
    have a : (400 * C + 399 + 1) % 4 = 0 := by omega
    have b : (400 * C + 399 + 1) % 400 = 0 := by omega
    simp [a, b]
  · have a : (400 * C + y + 1) % 4 = 0 := by omega
    have b : ¬ (400 * C + y + 1) % 100 = 0 := by omega
    simp [a, b]
theorem march (C Y : Nat) (h : Y ≤ 399) : 365 * (400 * C + Y) + (400 * C + Y) / 4 - (400 * C + Y) / 100 + (400 * C + Y) / 400 = 146097 * C + start Y := by
  unfold start; omega
theorem mdays {p M : Nat} (hM : M = (5 * p + 2) / 153) (hp : p ≤ 365) (y m : Nat) (hm : m = if M + 3 ≤ 12 then M + 3 else M - 9) (hl : m = 2 → p = 365 → leap y = true) : 1 ≤ m ∧ m ≤ 12 ∧ (153 * M + 2) / 5 ≤ p ∧ p - (153 * M + 2) / 5 + 1 ≤ days y m := by
  have h11 : M ≤ 11 := by omega
  have : M = 0 ∨ M = 1 ∨ M = 2 ∨ M = 3 ∨ M = 4 ∨ M = 5 ∨ M = 6 ∨ M = 7 ∨ M = 8 ∨ M = 9 ∨ M = 10 ∨ M = 11 := by omega
  rcases this with h | h | h | h | h | h | h | h | h | h | h | h <;> subst h <;> simp at hm <;> subst hm <;> refine ⟨by omega, by omega, by omega, ?_⟩ <;> simp only [days] <;> simp <;> first
    | omega
    | (split
       · omega
       · rename_i hn
         have : p ≠ 365 := fun e => hn (hl rfl e)
         omega)
theorem prog_day {N C R Y P M D y m : Nat} (hC : C = N / 146097) (hR : R = N % 146097) (hY : Y = fday R / 365) (hP : P = R - start Y) (hM : M = (5 * P + 2) / 153) (hD : D = P - (153 * M + 2) / 5 + 1)
    (hm : m = if M + 3 ≤ 12 then M + 3 else M - 9) (hy : y = if M + 3 ≤ 12 then 400 * C + Y else 400 * C + Y + 1) (hN : 719468 ≤ N) (hN2 : N ≤ 3652364) :
    Valid y m D ∧ dayN y m D = N ∧ 1970 ≤ y ∧ y ≤ 9999 := by
  obtain ⟨a1, a2, a3⟩ := yoe R (by omega)
  have a4 := yoe2 R (by omega)
  rw [← hY] at a1 a2 a3 a4
  have hP2 : P ≤ 365 := by omega
  have hyC : 0 < 400 * C + Y := by
    rcases Nat.eq_zero_or_pos C with h | h
    · have : R = N := by omega
      have : N < 146097 := by omega
      omega
    · omega
  have hl : m = 2 → P = 365 → leap y = true := by
    intro h2 h3
    have h4 : ¬ M + 3 ≤ 12 := by intro h; rw [if_pos h] at hm; omega
    rw [if_neg h4] at hy
    rw [hy]
    apply leap_of
    rcases a4 with h | h
    · exact .inl h
    · right
      rw [start_step] at h
      split at h
      · assumption
      · omega
  obtain ⟨b1, b2, b3, b4⟩ := mdays hM hP2 y m hm hl
  have hv : Valid y m D := ⟨by rw [hy]; split <;> omega, b1, b2, by omega, by omega⟩
  have hd : dayN y m D = N := by
    have hma := march C Y a1
    by_cases h : M + 3 ≤ 12
    · rw [if_pos h] at hy hm
      subst hy
      have := prog_high (400 * C + Y) m hyC (by omega) b2
      have e : m - 3 = M := by omega
      rw [hma, e] at this
      unfold dayN; rw [← this]; omega
    · rw [if_neg h] at hy hm
      subst hy
      have := prog_low (400 * C + Y + 1) m b1 (by omega)
      have e : m + 9 = M := by omega
      rw [Nat.add_sub_cancel, hma, e] at this
      unfold dayN; rw [← this]; omega
  refine ⟨hv, hd, ?_, ?_⟩
  · have b := (dayN_bounds hv).2
    apply Nat.le_of_not_lt
    intro h
    have := jan_mono (a := y + 1) (b := 1970) (by omega) (by omega)
    rw [jan_1970] at this
    omega
  · have b := (dayN_bounds hv).1
    apply Nat.le_of_not_lt
    intro h
    have := jan_mono (a := 10000) (b := y) (by omega) (by omega)
    have e : jan 10000 = 3652365 := by decide
    omega
end Go.Proofs.YtanaifobmkjpaaaDoor
