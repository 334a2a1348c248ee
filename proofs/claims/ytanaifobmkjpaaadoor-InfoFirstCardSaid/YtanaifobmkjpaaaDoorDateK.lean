/- Layer 5 (date), plain: what a text's bytes tell. -/
import Derived.Test.YtanaifobmkjpaaaDoorDateA
namespace Go.Proofs.YtanaifobmkjpaaaDoor
def isMark (k : Nat) : Bool := k == 4 || k == 7 || k == 10 || k == 13 || k == 16
def mk (k : Nat) : Int := if k = 4 ∨ k = 7 then 45 else if k = 10 then 84 else 58
def fldAt (k : Nat) : Nat := if k ≤ 4 then 0 else if k ≤ 7 then 1 else if k ≤ 10 then 2 else if k ≤ 13 then 3 else if k ≤ 16 then 4 else 5
def wdt (k : Nat) : Int := if k = 0 ∨ k = 5 ∨ k = 8 ∨ k = 11 ∨ k = 14 ∨ k = 17 then 1 else if k = 1 ∨ k = 6 ∨ k = 9 ∨ k = 12 ∨ k = 15 ∨ k = 18 then 10 else if k = 3 then 1000 else if k = 4 then 10000 else 100
def upd (f : Nat → Int) (a : Nat) (x : Int) : Nat → Int := fun j => if j = a then x else f j
def fpar (s : Nat → Int) : Nat → Nat → Int
  | 0 => fun _ => 0
  | k + 1 => if isMark k = true then fpar s k else upd (fpar s k) (fldAt k) (10 * fpar s k (fldAt k) + (s k - 48))
def okTo (s : Nat → Int) (k : Nat) : Prop := ∀ i, i < k → if isMark i = true then s i = mk i else 48 ≤ s i ∧ s i ≤ 57
theorem fldAt_mark : ∀ k : Nat, k < 19 → isMark k = true → fldAt (k + 1) = fldAt k + 1 ∧ wdt (k + 1) = 1 := by decide
theorem fldAt_digit : ∀ k : Nat, k < 19 → isMark k = false → fldAt (k + 1) = fldAt k ∧ wdt (k + 1) = 10 * wdt k ∧ wdt k ≤ 1000 := by decide
theorem fldAt_le (k : Nat) : fldAt k ≤ 5 := by unfold fldAt; split <;> (try split) <;> (try split) <;> (try split) <;> (try split) <;> omega
theorem mk_ne : ∀ k : Nat, k < 19 → isMark k = true → mk k ≠ 100 ∧ mk k ≠ 48 := by decide
theorem fpar_bd (s : Nat → Int) : ∀ k, k ≤ 19 → okTo s k → 0 ≤ fpar s k (fldAt k) ∧ fpar s k (fldAt k) < wdt k ∧ ∀ j, fldAt k < j → fpar s k j = 0
  | 0, _, _ => ⟨by simp [fpar], by simp [fpar, wdt], fun j _ => rfl⟩
  | k + 1, hk, h => by
    obtain ⟨a, b, c⟩ := fpar_bd s k (by omega) (fun i hi => h i (by omega))
    have hs := h k (by omega)
    by_cases hm : isMark k = true
    · obtain ⟨e1, e2⟩ := fldAt_mark k (by omega) hm
      unfold fpar
      rw [if_pos hm, e1, e2, c _ (by omega)]
      exact ⟨by omega, by omega, fun j hj => c j (by omega)⟩
    · rw [if_neg hm] at hs
      obtain ⟨e1, e2, e3⟩ := fldAt_digit k (by omega) (by simpa using hm)
      unfold fpar
      rw [if_neg hm, e1, e2]
      unfold upd
      rw [if_pos rfl]
      exact ⟨by omega, by omega, fun j hj => by rw [if_neg (by omega)]; exact c j hj⟩
theorem okTo_step {s : Nat → Int} {k : Nat} (h : okTo s k) (h2 : if isMark k = true then s k = mk k else 48 ≤ s k ∧ s k ≤ 57) : okTo s (k + 1) := fun i hi => by
  rcases Nat.lt_or_ge i k with g | g
  · exact h i g
  · have : i = k := by omega
    subst this; exact h2
def byteN (l : List UInt8) (k : Nat) : Int := ((l.getD k 0).toNat : Int)
theorem byteN_lt (l : List UInt8) (k : Nat) : 0 ≤ byteN l k ∧ byteN l k < 256 := by
  unfold byteN; have := (l.getD k 0).toNat_lt; omega
theorem byteN_get (s : ByteArray) (k : Nat) (h : k < s.size) : (s[k].toNat : Int) = byteN s.data.toList k := by
  unfold byteN
  have : s.data.toList.getD k 0 = s[k] := by
    rw [List.getD_eq_getElem?_getD, List.getElem?_eq_getElem (by simpa using h)]; rfl
  rw [this]
def cellsV (f : Nat → Int) : Array Value := #[.int .i64 (f 0), .int .i64 (f 1), .int .i64 (f 2), .int .i64 (f 3), .int .i64 (f 4), .int .i64 (f 5)]
theorem cellsV_set (f : Nat → Int) (a : Nat) (h : a ≤ 5) (x : Int) : (cellsV f).setIfInBounds a (.int .i64 x) = cellsV (upd f a x) := by
  have : a = 0 ∨ a = 1 ∨ a = 2 ∨ a = 3 ∨ a = 4 ∨ a = 5 := by omega
  rcases this with rfl | rfl | rfl | rfl | rfl | rfl <;> rfl
theorem cellsV_get (f : Nat → Int) (a : Nat) (h : a ≤ 5) : (cellsV f)[a]? = some (.int .i64 (f a)) := by
  have : a = 0 ∨ a = 1 ∨ a = 2 ∨ a = 3 ∨ a = 4 ∨ a = 5 := by omega
  rcases this with rfl | rfl | rfl | rfl | rfl | rfl <;> rfl
def frmP : ByteArray := ⟨#[100, 100, 100, 100, 45, 100, 100, 45, 100, 100, 84, 100, 100, 58, 100, 100, 58, 100, 100]⟩
def frmR : ByteArray := ⟨#[48, 48, 48, 48, 45, 48, 48, 45, 48, 48, 84, 48, 48, 58, 48, 48, 58, 48, 48]⟩
theorem frmP_at : ∀ k : Nat, (h : k < 19) → ((frmP[k]'h).toNat : Int) = if isMark k = true then mk k else 100 := by decide
theorem frmR_at : ∀ k : Nat, (h : k < 19) → ((frmR[k]'h).toNat : Int) = if isMark k = true then mk k else 48 := by decide
end Go.Proofs.YtanaifobmkjpaaaDoor
