/- Layer 5 (date), plain: days of years and months; a valid date is told by its day number. -/
namespace Go.Proofs.YtanaifobmkjpaaaDoor
def leap (y : Nat) : Bool := y % 4 == 0 && (y % 100 != 0 || y % 400 == 0)
def leap' (y : Nat) : Bool := (y % 4 == 0 && y % 100 != 0) || y % 400 == 0
theorem leap_eq (y : Nat) : leap y = leap' y := by
  unfold leap leap'
  cases h : (y % 400 == 0)
  · simp
  · have : y % 4 = 0 := by simp at h; omega
    simp [this]
/-- Days of a month (1 to 12). -/
def days (y m : Nat) : Nat := if m = 2 then (if leap y then 29 else 28) else if m = 4 ∨ m = 6 ∨ m = 9 ∨ m = 11 then 30 else if 1 ≤ m ∧ m ≤ 12 then 31 else 0
/-- Days from the first of March of year 0 to the first of January of year y (y > 0). -/
def jan (y : Nat) : Nat := 365 * (y - 1) + (y - 1) / 4 - (y - 1) / 100 + (y - 1) / 400 + 306
theorem jan_step (y : Nat) (h : 0 < y) : jan (y + 1) = jan y + (if leap y then 366 else 365) := by
  obtain ⟨z, rfl⟩ : ∃ z, y = z + 1 := ⟨y - 1, by omega⟩
  unfold jan leap
  simp only [Nat.add_sub_cancel]
  by_cases h4 : (z + 1) % 4 = 0
  · by_cases h100 : (z + 1) % 100 = 0
    · by_cases h400 : (z + 1) % 400 = 0
      · simp [h4, h100, h400]; omega
      · simp [h4, h100, h400]; omega
    · have h400 : ¬ (z + 1) % 400 = 0 := by omega
      simp [h4, h100, h400]; omega
  · have h100 : ¬ (z + 1) % 100 = 0 := by omega
    have h400 : ¬ (z + 1) % 400 = 0 := by omega
    simp [h4, h100, h400]; omega
theorem jan_1970 : jan 1970 = 719468 := by decide
def mcum (y m : Nat) : Nat := (if m ≤ 1 then 0 else if m = 2 then 31 else if m = 3 then 59 else if m = 4 then 90 else if m = 5 then 120 else if m = 6 then 151 else if m = 7 then 181 else if m = 8 then 212 else if m = 9 then 243 else if m = 10 then 273 else if m = 11 then 304 else if m = 12 then 334 else 365) + (if leap y then (if 2 < m then 1 else 0) else 0)
theorem mcum_step (y m : Nat) (h1 : 1 ≤ m) (h2 : m ≤ 12) : mcum y (m + 1) = mcum y m + days y m := by
  unfold mcum days
  have : m = 1 ∨ m = 2 ∨ m = 3 ∨ m = 4 ∨ m = 5 ∨ m = 6 ∨ m = 7 ∨ m = 8 ∨ m = 9 ∨ m = 10 ∨ m = 11 ∨ m = 12 := by omega
  rcases this with rfl | rfl | rfl | rfl | rfl | rfl | rfl | rfl | rfl | rfl | rfl | rfl <;> cases leap y <;> rfl
theorem mcum_year (y : Nat) : mcum y 13 = if leap y then 366 else 365 := by
  unfold mcum; cases leap y <;> rfl
/-- The program's count of days agrees: March years. -/
theorem prog_low (y m : Nat) (h1 : 1 ≤ m) (h2 : m ≤ 2) : 365 * (y - 1) + (y - 1) / 4 - (y - 1) / 100 + (y - 1) / 400 + (153 * (m + 9) + 2) / 5 = jan y + mcum y m := by
  have : m = 1 ∨ m = 2 := by omega
  unfold jan mcum
  rcases this with rfl | rfl <;> cases leap y <;> simp <;> omega
theorem prog_high (y m : Nat) (hy : 0 < y) (h1 : 3 ≤ m) (h2 : m ≤ 12) : 365 * y + y / 4 - y / 100 + y / 400 + (153 * (m - 3) + 2) / 5 = jan y + mcum y m := by
  have h := jan_step y hy
  have e : jan (y + 1) = 365 * y + y / 4 - y / 100 + y / 400 + 306 := by unfold jan; rw [Nat.add_sub_cancel]
  have : m = 3 ∨ m = 4 ∨ m = 5 ∨ m = 6 ∨ m = 7 ∨ m = 8 ∨ m = 9 ∨ m = 10 ∨ m = 11 ∨ m = 12 := by omega
  generalize jan y = J at h ⊢
  generalize 365 * y + y / 4 - y / 100 + y / 400 = Q at e ⊢
  unfold mcum
  rcases this with rfl | rfl | rfl | rfl | rfl | rfl | rfl | rfl | rfl | rfl <;> cases hl : leap y <;> simp [hl] at h ⊢ <;> omega
theorem jan_mono {a b : Nat} (ha : 0 < a) (h : a ≤ b) : jan a ≤ jan b := by
  induction b with
  | zero => omega
  | succ n ih =>
    rcases Nat.lt_or_ge n a with h1 | h1
    · have : a = n + 1 := by omega
      rw [this]; exact Nat.le_refl _
    · have h2 := ih h1
      have h3 := jan_step n (by omega)
      omega
/-- A valid day. -/
def Valid (y m d : Nat) : Prop := 0 < y ∧ 1 ≤ m ∧ m ≤ 12 ∧ 1 ≤ d ∧ d ≤ days y m
def dayN (y m d : Nat) : Nat := jan y + mcum y m + d - 1
theorem mcum_mono (y : Nat) {a b : Nat} (ha : 1 ≤ a) (hb : b ≤ 13) (h : a ≤ b) : mcum y a ≤ mcum y b := by
  induction b with
  | zero => omega
  | succ n ih =>
    rcases Nat.lt_or_ge n a with h1 | h1
    · have : a = n + 1 := by omega
      rw [this]; exact Nat.le_refl _
    · have h2 := ih (by omega) h1
      have h3 := mcum_step y n (by omega) (by omega)
      omega
theorem dayN_bounds {y m d : Nat} (h : Valid y m d) : jan y ≤ dayN y m d ∧ dayN y m d < jan (y + 1) := by
  obtain ⟨hy, h1, h2, h3, h4⟩ := h
  have a := mcum_step y m h1 h2
  have b := mcum_mono y (a := m + 1) (b := 13) (by omega) (by omega) (by omega)
  have c := mcum_year y
  have d := jan_step y hy
  unfold dayN
  rw [← c] at d
  omega
theorem dayN_inj {y m d y' m' d' : Nat} (h : Valid y m d) (h' : Valid y' m' d') (e : dayN y m d = dayN y' m' d') : y = y' ∧ m = m' ∧ d = d' := by
  have b := dayN_bounds h
  have b' := dayN_bounds h'
  have ey : y = y' := by
    rcases Nat.lt_trichotomy y y' with g | g | g
    · have := jan_mono (a := y + 1) (b := y') (by omega) g; omega
    · exact g
    · have := jan_mono (a := y' + 1) (b := y) (by omega) g; omega
  subst ey
  obtain ⟨hy, h1, h2, h3, h4⟩ := h
  obtain ⟨_, h1', h2', h3', h4'⟩ := h'
  have s := mcum_step y m h1 h2
  have s' := mcum_step y m' h1' h2'
  unfold dayN at e
  have em : m = m' := by
    rcases Nat.lt_trichotomy m m' with g | g | g
    · have := mcum_mono y (a := m + 1) (b := m') (by omega) (by omega) g; omega
    · exact g
    · have := mcum_mono y (a := m' + 1) (b := m) (by omega) (by omega) g; omega
  subst em
  exact ⟨rfl, rfl, by omega⟩
end Go.Proofs.YtanaifobmkjpaaaDoor
