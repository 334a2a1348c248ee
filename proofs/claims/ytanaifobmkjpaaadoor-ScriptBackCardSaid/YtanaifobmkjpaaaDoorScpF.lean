/- Layer 48 (script), plain: lines of a text; what Parse reads. -/
import Derived.Test.YtanaifobmkjpaaaDoorScpE
import Derived.Lib.IndexMore
import Derived.Lib.TrimByte
namespace Go.Proofs.YtanaifobmkjpaaaDoor
open Go.RowKit

def cutNl : Txt → Option (Txt × Txt)
  | [] => none
  | c :: l => if c = 10 then some ([], l) else (cutNl l).map fun p => (c :: p.1, p.2)
theorem cutNl_len : ∀ {s a r : Txt}, cutNl s = some (a, r) → s = a ++ 10 :: r ∧ 10 ∉ a
  | [], a, r, h => by cases h
  | c :: l, a, r, h => by
    unfold cutNl at h
    split at h
    · rename_i hc
      injection h with h
      injection h with h1 h2
      subst h1; subst h2; subst hc
      exact ⟨rfl, by simp⟩
    · rename_i hc
      cases hl : cutNl l with
      | none => rw [hl] at h; cases h
      | some p =>
        rw [hl] at h
        injection h with h
        injection h with h1 h2
        obtain ⟨q1, q2⟩ := cutNl_len (s := l) (a := p.1) (r := p.2) hl
        subst h1; subst h2
        refine ⟨by rw [List.cons_append, ← q1], fun hm => ?_⟩
        rcases List.mem_cons.1 hm with h | h
        · exact hc h.symm
        · exact q2 h
theorem cutNl_none : ∀ {s : Txt}, cutNl s = none ↔ 10 ∉ s
  | [] => by simp [cutNl]
  | c :: l => by
    unfold cutNl
    split
    · rename_i hc; subst hc; simp
    · rename_i hc
      have ih := cutNl_none (s := l)
      rw [Option.map_eq_none_iff, ih]
      constructor
      · intro h hm
        rcases List.mem_cons.1 hm with h' | h'
        · exact hc h'.symm
        · exact h h'
      · intro h hm; exact h (List.mem_cons_of_mem _ hm)
theorem cutNl_at (a r : Txt) (h : 10 ∉ a) : cutNl (a ++ 10 :: r) = some (a, r) := by
  induction a with
  | nil => simp [cutNl]
  | cons c l ih =>
    have hc : c ≠ 10 := by rintro rfl; exact h (List.mem_cons_self ..)
    show (if c = 10 then _ else _) = _
    rw [if_neg hc]
    show Option.map _ (cutNl (l ++ 10 :: r)) = _
    rw [ih (fun hm => h (List.mem_cons_of_mem _ hm))]; rfl
theorem cut_nl (s : Txt) : Lib.cut s [10] = match cutNl s with | some p => (p.1, p.2, true) | none => (s, [], false) := by
  have key : (match cutNl s with | some p => Lib.index s [10] = (p.1.length : Int) ∧ s = p.1 ++ 10 :: p.2 | none => Lib.index s [10] = -1) := by
    induction s with
    | nil => rfl
    | cons c l ih =>
      unfold cutNl
      have hst : Lib.index (c :: l) [10] = if ([10] : List UInt8).isPrefixOf (c :: l) then 0 else if Lib.index l [10] == -1 then -1 else Lib.index l [10] + 1 := rfl
      by_cases hc : c = 10
      · rw [if_pos hc]
        subst hc
        exact ⟨rfl, rfl⟩
      · rw [if_neg hc]
        have hp : ([10] : List UInt8).isPrefixOf (c :: l) = false := by simp [List.isPrefixOf, Ne.symm hc]
        rw [hp] at hst
        cases hl : cutNl l with
        | none =>
          rw [hl] at ih
          have ih : Lib.index l [10] = -1 := ih
          rw [ih] at hst
          exact hst
        | some p =>
          rw [hl] at ih
          obtain ⟨i1, i2⟩ : Lib.index l [10] = (p.1.length : Int) ∧ l = p.1 ++ 10 :: p.2 := ih
          rw [i1] at hst
          refine ⟨?_, by show c :: l = c :: p.1 ++ 10 :: p.2; rw [List.cons_append, ← i2]⟩
          rw [hst]
          have : ((p.1.length : Int) == -1) = false := by rw [beq_eq_false_iff_ne]; omega
          rw [this]; simp
  unfold Lib.cut
  cases hl : cutNl s with
  | none =>
    rw [hl] at key
    have key : Lib.index s [10] = -1 := key
    rw [key]; rfl
  | some p =>
    rw [hl] at key
    obtain ⟨k1, k2⟩ : Lib.index s [10] = (p.1.length : Int) ∧ s = p.1 ++ 10 :: p.2 := key
    rw [k1, if_pos (by omega)]
    show (List.take (p.1.length : Int).toNat s, List.drop ((p.1.length : Int).toNat + 1) s, true) = _
    rw [Int.toNat_natCast]
    conv => lhs; rw [k2]
    simp
theorem dropWhile_nil {p : UInt8 → Bool} : ∀ {l : Txt}, l.dropWhile p = [] ↔ ∀ x ∈ l, p x = true
  | [] => by simp
  | c :: l => by
    rw [List.dropWhile_cons]
    by_cases hc : p c = true
    · rw [if_pos hc, dropWhile_nil (l := l)]
      simp [hc]
    · rw [if_neg hc]; simp [hc]
theorem dropWhile_first {p : UInt8 → Bool} : ∀ {l : Txt} {x : UInt8} {r : Txt}, l.dropWhile p = x :: r → p x = false ∧ ∃ m, l = m ++ x :: r
  | [], x, r, h => by simp at h
  | c :: l, x, r, h => by
    rw [List.dropWhile_cons] at h
    by_cases hc : p c = true
    · rw [if_pos hc] at h
      obtain ⟨h1, m, h2⟩ := dropWhile_first (l := l) h
      exact ⟨h1, c :: m, by rw [h2]; rfl⟩
    · rw [if_neg hc] at h
      injection h with h1 h2
      subst h1; subst h2
      exact ⟨by simpa using hc, [], rfl⟩
theorem trim_blank (l : Txt) : (Lib.trimB l 32 = []) ↔ blankB l = true := by
  unfold blankB
  rw [List.all_eq_true]
  unfold Lib.trimB Lib.trimLeftB
  rw [dropWhile_nil]
  unfold Lib.trimRightB
  constructor
  · intro h
    cases hd : l.reverse.dropWhile (· == 32) with
    | nil =>
      rw [dropWhile_nil] at hd
      intro x hx; exact hd x (List.mem_reverse.2 hx)
    | cons x r =>
      exfalso
      have h2 := h x (by rw [List.mem_reverse, hd]; exact List.mem_cons_self ..)
      rw [(dropWhile_first hd).1] at h2; cases h2
  · intro h x hx
    rw [List.mem_reverse] at hx
    cases hd : l.reverse.dropWhile (· == 32) with
    | nil => rw [hd] at hx; cases hx
    | cons y r =>
      obtain ⟨_, m, hm⟩ := dropWhile_first hd
      rw [hd] at hx
      exact h x (List.mem_reverse.1 (by rw [hm]; exact List.mem_append_right _ hx))
/-- A line that says nothing. -/
def skipB (l : Txt) : Bool := blankB l || (l.head? == some 35)
/-- What Parse reads: steps; or the number of a line, and its error. -/
abbrev PRes := List StepN ⊕ (Nat × Int)
noncomputable def parseF : Nat → List StepN → Nat → Txt → PRes
  | 0, out, _, _ => .inl out
  | f + 1, out, no, s => if s = [] then .inl out else match cutNl s with
    | none => .inr (no + 1, 2)
    | some (a, r) => if skipB a = true then parseF f out (no + 1) r else match stepN a with
      | none => .inr (no + 1, 2)
      | some x => if 1000 ≤ out.length then .inr (no + 1, 3) else parseF f (out ++ [x]) (no + 1) r
noncomputable def parseS (s : Txt) : PRes := parseF (s.length + 1) [] 0 s
theorem parseF_nil (f : Nat) (out : List StepN) (no : Nat) : parseF f out no [] = .inl out := by cases f <;> simp [parseF]
theorem parseF_none {f : Nat} {out : List StepN} {no : Nat} {s : Txt} (hs : s ≠ []) (h : cutNl s = none) : parseF (f + 1) out no s = .inr (no + 1, 2) := by
  rw [parseF, if_neg hs, h]
theorem parseF_skip {f : Nat} {out : List StepN} {no : Nat} {s a r : Txt} (h : cutNl s = some (a, r)) (hk : skipB a = true) : parseF (f + 1) out no s = parseF f out (no + 1) r := by
  have hs : s ≠ [] := by rintro rfl; cases h
  rw [parseF, if_neg hs, h]; simp only; rw [if_pos hk]
theorem parseF_bad {f : Nat} {out : List StepN} {no : Nat} {s a r : Txt} (h : cutNl s = some (a, r)) (hk : skipB a = false) (hn : stepN a = none) : parseF (f + 1) out no s = .inr (no + 1, 2) := by
  have hs : s ≠ [] := by rintro rfl; cases h
  rw [parseF, if_neg hs, h]; simp only; rw [if_neg (by simp [hk]), hn]
theorem parseF_many {f : Nat} {out : List StepN} {no : Nat} {s a r : Txt} {x : StepN} (h : cutNl s = some (a, r)) (hk : skipB a = false) (hn : stepN a = some x) (hm : 1000 ≤ out.length) : parseF (f + 1) out no s = .inr (no + 1, 3) := by
  have hs : s ≠ [] := by rintro rfl; cases h
  rw [parseF, if_neg hs, h]; simp only; rw [if_neg (by simp [hk]), hn]; simp only; rw [if_pos hm]
theorem parseF_step {f : Nat} {out : List StepN} {no : Nat} {s a r : Txt} {x : StepN} (h : cutNl s = some (a, r)) (hk : skipB a = false) (hn : stepN a = some x) (hm : out.length < 1000) : parseF (f + 1) out no s = parseF f (out ++ [x]) (no + 1) r := by
  have hs : s ≠ [] := by rintro rfl; cases h
  rw [parseF, if_neg hs, h]; simp only; rw [if_neg (by simp [hk]), hn]; simp only; rw [if_neg (by omega)]
theorem skip_blank {a : Txt} (h : blankB a = true) : skipB a = true := by unfold skipB; rw [h]; rfl
theorem skip_mark {a : Txt} (h : a.head? = some 35) : skipB a = true := by unfold skipB; rw [h]; simp
theorem skip_no {a : Txt} (h : blankB a = false) (h2 : a.head? ≠ some 35) : skipB a = false := by unfold skipB; rw [h, beq_eq_false_iff_ne.2 h2]; rfl
end Go.Proofs.YtanaifobmkjpaaaDoor
