/- Layer 48 (script), plain: steps come back from their lines; many steps. -/
import Derived.Test.YtanaifobmkjpaaaDoorScpH
namespace Go.Proofs.YtanaifobmkjpaaaDoor
open Go.RowKit

theorem catS_cons (s : StepN) (L : List StepN) : catS (s :: L) = lineN (wordsS s) ++ 10 :: catS L := by
  show (lineN (wordsS s) ++ [10]) ++ catS L = _
  simp
theorem escN_nl {s : Txt} (h : 10 ∉ s) : 10 ∉ escN s := by
  induction s with
  | nil => simp [escN]
  | cons c l ih =>
    have h1 : 10 ∉ l := fun hm => h (List.mem_cons_of_mem _ hm)
    have h2 : c ≠ 10 := by rintro rfl; exact h (List.mem_cons_self ..)
    unfold escN
    split
    · simp only [List.mem_cons]
      rintro (h | h | h | h | h)
      · exact absurd h (by decide)
      · exact absurd h (by decide)
      · exact absurd h (by decide)
      · exact absurd h (by decide)
      · exact ih h1 h
    · simp only [List.mem_cons]
      rintro (h | h)
      · exact h2 h.symm
      · exact ih h1 h
theorem quoteN_nl {s : Txt} (h : 10 ∉ s) : 10 ∉ quoteN s := by
  unfold quoteN
  split
  · exact h
  · simp only [List.mem_cons, List.mem_append, List.not_mem_nil, or_false]
    rintro (h1 | h1 | h1)
    · exact absurd h1 (by decide)
    · exact escN_nl h h1
    · exact absurd h1 (by decide)
theorem lineN_nl : ∀ {l : List Txt}, (∀ s ∈ l, 10 ∉ s) → 10 ∉ lineN l
  | [], _ => by simp [lineN]
  | [s], h => by show 10 ∉ quoteN s; exact quoteN_nl (h s (List.mem_cons_self ..))
  | s :: t :: l, h => by
    show 10 ∉ quoteN s ++ 32 :: lineN (t :: l)
    simp only [List.mem_append, List.mem_cons]
    rintro (h1 | h1 | h1)
    · exact quoteN_nl (h s (List.mem_cons_self ..)) h1
    · exact absurd h1 (by decide)
    · exact lineN_nl (l := t :: l) (fun x hx => h x (List.mem_cons_of_mem _ hx)) h1
theorem lineN_head {w : Txt} {l : List Txt} {c : UInt8} {r : Txt} (hq : quoteN w = c :: r) : ∃ t, lineN (w :: l) = c :: t := by
  cases l with
  | nil => exact ⟨r, hq⟩
  | cons y l => exact ⟨r ++ 32 :: lineN (y :: l), by show quoteN w ++ _ = _; rw [hq]; rfl⟩
theorem line_plain {s : StepN} (h : mayB s = true) : 10 ∉ lineN (wordsS s) ∧ skipB (lineN (wordsS s)) = false := by
  refine ⟨lineN_nl (fun x hx => (words_safe h x hx).2), ?_⟩
  have key : ∃ c t, lineN (wordsS s) = c :: t ∧ c ≠ 32 ∧ c ≠ 35 := by
    rcases may_kinds h with ⟨hk, _⟩ | ⟨hk, _⟩ | ⟨hk, _⟩ | ⟨hk, _⟩ | ⟨hk, _⟩
    · obtain ⟨t, ht⟩ := lineN_head (w := wRun) (l := s.ws) (c := 114) (r := [117, 110]) (by decide)
      exact ⟨114, t, by unfold wordsS; rw [if_pos hk]; exact ht, by decide, by decide⟩
    · obtain ⟨t, ht⟩ := lineN_head (w := wTick) (l := [decI s.n]) (c := 116) (r := [105, 99, 107]) (by decide)
      exact ⟨116, t, by unfold wordsS; rw [hk]; exact ht, by decide, by decide⟩
    · obtain ⟨t, ht⟩ := lineN_head (w := wAs) (l := [decI s.n]) (c := 97) (r := [115]) (by decide)
      exact ⟨97, t, by unfold wordsS; rw [hk]; exact ht, by decide, by decide⟩
    · obtain ⟨t, ht⟩ := lineN_head (w := wFail) (l := [decI s.n, decI s.y]) (c := 102) (r := [97, 105, 108]) (by decide)
      exact ⟨102, t, by unfold wordsS; rw [hk]; exact ht, by decide, by decide⟩
    · obtain ⟨t, ht⟩ := lineN_head (w := wMend) (l := []) (c := 109) (r := [101, 110, 100]) (by decide)
      exact ⟨109, t, by unfold wordsS; rw [hk]; exact ht, by decide, by decide⟩
  obtain ⟨c, t, h1, h2, h3⟩ := key
  rw [h1]
  refine skip_no ?_ (by simpa using h3)
  unfold blankB
  rw [List.all_cons, beq_eq_false_iff_ne.2 h2]; rfl
/-- Steps that may be come back from their lines. -/
theorem parse_lines : ∀ (L : List StepN) (f no : Nat) (out : List StepN), (∀ s ∈ L, mayB s = true ∧ I64 s.n ∧ I64 s.y) → (catS L).length < f → out.length + L.length ≤ 1000 → parseF f out no (catS L) = .inl (out ++ L)
  | [], f, no, out, _, _, _ => by rw [show catS [] = [] from rfl, parseF_nil]; simp
  | s :: L, f, no, out, h, hf, ho => by
    obtain ⟨hm, h1, h2⟩ := h s (List.mem_cons_self ..)
    obtain ⟨hnl, hsk⟩ := line_plain hm
    rw [catS_cons] at hf ⊢
    obtain ⟨f', rfl⟩ : ∃ f', f = f' + 1 := ⟨f - 1, by omega⟩
    rw [parseF_step (cutNl_at _ _ hnl) hsk (step_line hm h1 h2) (by simp at ho; omega)]
    rw [parse_lines L f' (no + 1) (out ++ [s]) (fun x hx => h x (List.mem_cons_of_mem _ hx)) (by simp at hf; omega) (by simp at ho ⊢; omega)]
    simp
theorem parse_back {L : List StepN} (h : ∀ s ∈ L, mayB s = true ∧ I64 s.n ∧ I64 s.y) (hl : L.length ≤ 1000) : parseS (catS L) = .inl L := by
  unfold parseS
  rw [parse_lines L _ 0 [] h (by omega) (by simpa using hl)]; simp
/-- So many steps that mend. -/
def mendS : StepN := ⟨5, [], 0, 0⟩
def mends (k : Nat) : List StepN := List.replicate k mendS
theorem mends_len (k : Nat) : (mends k).length = k := by simp [mends]
theorem mends_succ (k : Nat) : mends (k + 1) = mends k ++ [mendS] := by unfold mends; rw [List.replicate_succ']
theorem mends_may (k : Nat) : ∀ s ∈ mends k, mayB s = true ∧ I64 s.n ∧ I64 s.y := by
  intro s hs
  rw [List.eq_of_mem_replicate hs]
  exact ⟨rfl, by unfold mendS I64; decide, by unfold mendS I64; decide⟩
theorem catS_mends_succ (k : Nat) : catS (mends (k + 1)) = catS (mends k) ++ [109, 101, 110, 100, 10] := by
  rw [mends_succ]
  unfold catS
  rw [List.flatMap_append]
  rfl
theorem catS_mends_len (k : Nat) : (catS (mends k)).length = 5 * k := by
  induction k with
  | zero => rfl
  | succ k ih => rw [catS_mends_succ, List.length_append, ih]; simp; omega
theorem parse_over : ∀ (b a f : Nat) (out : List StepN), out.length = a → a ≤ 1000 → 1000 < a + b → 5 * b < f → parseF f out a (catS (mends b)) = .inr (1001, 3)
  | 0, a, f, out, _, h1, h2, _ => by omega
  | b + 1, a, f, out, ho, h1, h2, hf => by
    have e : catS (mends (b + 1)) = wMend ++ 10 :: catS (mends b) := by
      unfold mends; rw [List.replicate_succ, catS_cons]; rfl
    obtain ⟨f', rfl⟩ : ∃ f', f = f' + 1 := ⟨f - 1, by omega⟩
    rw [e]
    have hc := cutNl_at wMend (catS (mends b)) (by decide)
    by_cases ha : a = 1000
    · rw [parseF_many hc (by decide) step_mend (by omega), ha]
    · rw [parseF_step hc (by decide) step_mend (by omega)]
      exact parse_over b (a + 1) f' _ (by simp [ho]) (by omega) (by omega) (by omega)
theorem parse_mends_big {k : Nat} (h : 1000 < k) : parseS (catS (mends k)) = .inr (1001, 3) := by
  unfold parseS
  exact parse_over k 0 _ [] rfl (by omega) (by omega) (by rw [catS_mends_len]; omega)
theorem parse_mends {k : Nat} (h : k ≤ 1000) : parseS (catS (mends k)) = .inl (mends k) := parse_back (mends_may k) (by rw [mends_len]; exact h)
theorem mends_all (k : Nat) : (mends k).all mayB = true := by
  rw [List.all_eq_true]; exact fun s hs => (mends_may k s hs).1
theorem mends_fit (k : Nat) : ∀ s ∈ mends k, Fit s := by
  intro s hs
  rw [List.eq_of_mem_replicate hs]
  exact ⟨by unfold mendS; decide, by unfold mendS; decide, by unfold mendS I64; decide, by unfold mendS I64; decide⟩
end Go.Proofs.YtanaifobmkjpaaaDoor
