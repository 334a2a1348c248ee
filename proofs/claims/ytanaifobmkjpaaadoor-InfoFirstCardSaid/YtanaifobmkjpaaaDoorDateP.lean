/- Layer 5 (date), plain: the year and the month of a day number. -/
namespace Go.Proofs.YtanaifobmkjpaaaDoor
def fday (r : Nat) : Nat := r - r/1460 + r/36524 - r/146096
def start (y : Nat) : Nat := 365*y + y/4 - y/100
theorem fday_mono {a b : Nat} (h : a ≤ b) (hb : b < 146097) : fday a ≤ fday b := by
  unfold fday; omega
theorem fday_low : ∀ y : Nat, y < 400 → 365*y ≤ fday (start y) := by decide +kernel
theorem fday_high : ∀ y : Nat, y < 400 → 0 < y → fday (start y - 1) < 365*y := by decide +kernel
theorem start_mono {a b : Nat} (h : a ≤ b) : start a ≤ start b := by
  obtain ⟨k, rfl⟩ := Nat.exists_eq_add_of_le h
  have h1 : a / 4 ≤ (a + k) / 4 := Nat.div_le_div_right h
  have h2 : (a + k) / 100 ≤ a / 100 + k := by omega
  unfold start; omega
theorem yoe (r : Nat) (h : r < 146097) : fday r / 365 ≤ 399 ∧ start (fday r / 365) ≤ r ∧ r - start (fday r / 365) ≤ 365 := by
  have h0 : fday r ≤ fday 146096 := fday_mono (by omega) (by omega)
  have h1 : fday 146096 = 145999 := by decide
  have hy : fday r / 365 ≤ 399 := by omega
  obtain ⟨y, e⟩ : ∃ y, y = fday r / 365 := ⟨_, rfl⟩
  rw [← e] at hy ⊢
  refine ⟨hy, ?_, ?_⟩
  · apply Nat.le_of_not_lt
    intro hlt
    have h4 : start y ≤ start 399 := start_mono hy
    have h5 : start 399 = 145731 := by decide
    have h2 : fday r ≤ fday (start y - 1) := fday_mono (by omega) (by omega)
    have h3 := fday_high y (by omega) (by unfold start at hlt; omega)
    omega
  · by_cases h399 : y = 399
    · subst h399
      have h5 : start 399 = 145731 := by decide
      omega
    · have h6 : r < start (y + 1) := by
        apply Nat.lt_of_not_le
        intro hle
        have h2 : fday (start (y + 1)) ≤ fday r := fday_mono hle (by omega)
        have h3 := fday_low (y + 1) (by omega)
        omega
      unfold start at h6 ⊢
      omega
theorem mon (r : Nat) (h : r ≤ 365) : (5*r+2)/153 ≤ 11 ∧ (153*((5*r+2)/153)+2)/5 ≤ r ∧ r - (153*((5*r+2)/153)+2)/5 ≤ 30 := by
  omega
end Go.Proofs.YtanaifobmkjpaaaDoor
