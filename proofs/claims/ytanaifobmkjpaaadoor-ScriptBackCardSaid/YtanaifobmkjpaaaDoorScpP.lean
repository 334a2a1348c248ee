/- Layer 48 (script), plain: what a step may be; its words; the step of words; a step comes back from its line. -/
import Derived.Test.YtanaifobmkjpaaaDoorArgO
import Derived.Test.YtanaifobmkjpaaaDoorNumS
import Derived.Test.YtanaifobmkjpaaaDoorScpA
namespace Go.Proofs.YtanaifobmkjpaaaDoor

/-- A step: its kind, words, number, and how it fails. -/
structure StepN where
  k : Int
  ws : List (List UInt8)
  n : Int
  y : Int
def mayB (s : StepN) : Bool :=
  if s.k = 1 then (s.ws.all (fun x => !anySZ x) && (decide (s.n = 0) && decide (s.y = 0)))
  else if s.k = 2 ∨ s.k = 3 then decide (s.ws = [] ∧ s.y = 0 ∧ 0 ≤ s.n)
  else if s.k = 4 then decide (s.ws = [] ∧ 1 ≤ s.n ∧ 1 ≤ s.y ∧ s.y ≤ 20)
  else if s.k = 5 then decide (s.ws = [] ∧ s.y = 0 ∧ s.n = 0)
  else false
def wRun : List UInt8 := [114, 117, 110]
def wTick : List UInt8 := [116, 105, 99, 107]
def wAs : List UInt8 := [97, 115]
def wFail : List UInt8 := [102, 97, 105, 108]
def wMend : List UInt8 := [109, 101, 110, 100]
def wordsS (s : StepN) : List (List UInt8) :=
  if s.k = 1 then wRun :: s.ws else if s.k = 2 then [wTick, decI s.n] else if s.k = 3 then [wAs, decI s.n] else if s.k = 4 then [wFail, decI s.n, decI s.y] else [wMend]
open Classical in
noncomputable def pN (x : List UInt8) : Option Int := if h : ∃ n, I64 n ∧ decI n = x then some h.choose else none
theorem pN_yes {x : List UInt8} {n : Int} (hn : I64 n) (h : decI n = x) : pN x = some n := by
  have he : ∃ n, I64 n ∧ decI n = x := ⟨n, hn, h⟩
  unfold pN
  rw [dif_pos he]
  exact congrArg some (decI_inj he.choose_spec.1 hn (he.choose_spec.2.trans h.symm))
theorem pN_no {x : List UInt8} (h : ∀ n, I64 n → decI n ≠ x) : pN x = none := by
  unfold pN
  rw [dif_neg (fun ⟨n, a, b⟩ => h n a b)]
theorem pN_I64 {x : List UInt8} {n : Int} (h : pN x = some n) : I64 n ∧ decI n = x := by
  unfold pN at h
  split at h
  · rename_i he
    injection h with h
    subst h
    exact he.choose_spec
  · cases h
/-- What Parse answers of a text. -/
theorem pN_cases (x : List UInt8) : (∃ n, pN x = some n ∧ I64 n ∧ parseV x = .tuple #[.int .i64 n, .bool true]) ∨ (pN x = none ∧ parseV x = .tuple #[.int .i64 0, .bool false]) := by
  by_cases h : ∃ n, I64 n ∧ decI n = x
  · obtain ⟨n, h1, h2⟩ := h
    exact .inl ⟨n, pN_yes h1 h2, h1, parseV_yes h1 h2⟩
  · have h2 : ∀ n, I64 n → decI n ≠ x := fun n h1 h2 => h ⟨n, h1, h2⟩
    exact .inr ⟨pN_no h2, parseV_no h2⟩
def chkS (s : StepN) : Option StepN := if mayB s = true then some s else none
noncomputable def oneS (k : Int) : List (List UInt8) → Option StepN
  | [x] => (pN x).bind fun n => chkS ⟨k, [], n, 0⟩
  | _ => none
noncomputable def twoS : List (List UInt8) → Option StepN
  | [x, z] => (pN x).bind fun n => (pN z).bind fun y => chkS ⟨4, [], n, y⟩
  | _ => none
noncomputable def stepW : List (List UInt8) → Option StepN
  | [] => none
  | w :: l => if w = wRun then chkS ⟨1, l, 0, 0⟩ else if w = wMend then (if l = [] then some ⟨5, [], 0, 0⟩ else none) else if w = wTick then oneS 2 l else if w = wAs then oneS 3 l else if w = wFail then twoS l else none
noncomputable def stepN (line : List UInt8) : Option StepN := (wordsN line).bind stepW
theorem chkS_yes {s : StepN} (h : mayB s = true) : chkS s = some s := by unfold chkS; rw [if_pos h]
theorem chkS_no {s : StepN} (h : mayB s = false) : chkS s = none := by unfold chkS; rw [if_neg (by simp [h])]
theorem chkS_some {s t : StepN} (h : chkS s = some t) : t = s ∧ mayB t = true := by
  unfold chkS at h
  split at h
  · rename_i hm
    injection h with h
    exact ⟨h.symm, h ▸ hm⟩
  · cases h
theorem may_kinds {s : StepN} (h : mayB s = true) : (s.k = 1 ∧ (∀ x ∈ s.ws, safe x) ∧ s.n = 0 ∧ s.y = 0) ∨ (s.k = 2 ∧ s.ws = [] ∧ s.y = 0 ∧ 0 ≤ s.n) ∨ (s.k = 3 ∧ s.ws = [] ∧ s.y = 0 ∧ 0 ≤ s.n) ∨ (s.k = 4 ∧ s.ws = [] ∧ 1 ≤ s.n ∧ 1 ≤ s.y ∧ s.y ≤ 20) ∨ (s.k = 5 ∧ s.ws = [] ∧ s.y = 0 ∧ s.n = 0) := by
  unfold mayB at h
  split at h
  · rename_i hk
    rw [Bool.and_eq_true, Bool.and_eq_true, List.all_eq_true] at h
    exact .inl ⟨hk, fun x hx => anyZ_safe.1 (by simpa using h.1 x hx), of_decide_eq_true h.2.1, of_decide_eq_true h.2.2⟩
  · split at h
    · rename_i hk
      have h := of_decide_eq_true h
      rcases hk with hk | hk
      · exact .inr (.inl ⟨hk, h⟩)
      · exact .inr (.inr (.inl ⟨hk, h⟩))
    · split at h
      · rename_i hk
        exact .inr (.inr (.inr (.inl ⟨hk, of_decide_eq_true h⟩)))
      · split at h
        · rename_i hk
          exact .inr (.inr (.inr (.inr ⟨hk, of_decide_eq_true h⟩)))
        · cases h
theorem digL_safe (n : Nat) : safe (digL 10 n) := by
  have h := digL_all 10 (by decide) (by decide) n
  rw [List.all_eq_true] at h
  constructor
  · intro h0; have := h 0 h0; simp [digitB] at this
  · intro h0; have := h 10 h0; simp [digitB] at this
theorem decI_safe (n : Int) : safe (decI n) := by
  unfold decI
  have h := digL_safe
  split
  · refine ⟨fun h0 => ?_, fun h0 => ?_⟩
    · rcases List.mem_cons.1 h0 with h1 | h1
      · exact absurd h1 (by decide)
      · exact (h _).1 h1
    · rcases List.mem_cons.1 h0 with h1 | h1
      · exact absurd h1 (by decide)
      · exact (h _).2 h1
  · exact h _
theorem words_safe {s : StepN} (h : mayB s = true) : ∀ x ∈ wordsS s, safe x := by
  have hw : safe wRun ∧ safe wTick ∧ safe wAs ∧ safe wFail ∧ safe wMend := by unfold safe; decide
  intro x hx
  rcases may_kinds h with ⟨hk, h1, _⟩ | ⟨hk, _⟩ | ⟨hk, _⟩ | ⟨hk, _⟩ | ⟨hk, _⟩
  all_goals (unfold wordsS at hx; simp [hk] at hx)
  · rcases hx with rfl | hx
    · exact hw.1
    · exact h1 x hx
  · rcases hx with rfl | rfl
    · exact hw.2.1
    · exact decI_safe _
  · rcases hx with rfl | rfl
    · exact hw.2.2.1
    · exact decI_safe _
  · rcases hx with rfl | rfl | rfl
    · exact hw.2.2.2.1
    · exact decI_safe _
    · exact decI_safe _
  · subst hx
    exact hw.2.2.2.2
theorem step_words {s : StepN} (h : mayB s = true) (h1 : I64 s.n) (h2 : I64 s.y) : stepW (wordsS s) = some s := by
  obtain ⟨k, ws, n, y⟩ := s
  have p1 := pN_yes h1 rfl
  have p2 := pN_yes h2 rfl
  rcases may_kinds h with ⟨hk, _, hn, hy⟩ | ⟨hk, hw, hy, _⟩ | ⟨hk, hw, hy, _⟩ | ⟨hk, hw, _⟩ | ⟨hk, hw, hy, hn⟩
  all_goals (simp only at hk; subst hk)
  · simp only at hn hy
    subst hn; subst hy
    show chkS _ = _
    exact chkS_yes h
  · simp only at hw hy
    subst hw; subst hy
    show (pN (decI n)).bind _ = _
    rw [p1]; exact chkS_yes h
  · simp only at hw hy
    subst hw; subst hy
    show (pN (decI n)).bind _ = _
    rw [p1]; exact chkS_yes h
  · simp only at hw
    subst hw
    show (pN (decI n)).bind (fun n => (pN (decI y)).bind _) = _
    rw [p1, p2]; exact chkS_yes h
  · simp only at hw hy hn
    subst hw; subst hy; subst hn
    rfl
theorem step_line {s : StepN} (h : mayB s = true) (h1 : I64 s.n) (h2 : I64 s.y) : stepN (lineN (wordsS s)) = some s := by
  unfold stepN
  rw [words_line _ (words_safe h)]
  exact step_words h h1 h2
theorem stepW_cons (w : List UInt8) (l : List (List UInt8)) : stepW (w :: l) = if w = wRun then chkS ⟨1, l, 0, 0⟩ else if w = wMend then (if l = [] then some ⟨5, [], 0, 0⟩ else none) else if w = wTick then oneS 2 l else if w = wAs then oneS 3 l else if w = wFail then twoS l else none := rfl
theorem step_may {l : List UInt8} {s : StepN} (h : stepN l = some s) : mayB s = true := by
  unfold stepN at h
  cases hw : wordsN l with
  | none => rw [hw] at h; cases h
  | some L =>
    rw [hw] at h
    have h : stepW L = some s := h
    cases L with
    | nil => cases h
    | cons w l =>
      rw [stepW_cons] at h
      split at h
      · exact (chkS_some h).2
      · split at h
        · split at h
          · injection h with h; subst h; rfl
          · cases h
        · split at h
          · unfold oneS at h
            split at h
            · obtain ⟨n, _, h⟩ := Option.bind_eq_some_iff.1 h
              exact (chkS_some h).2
            · cases h
          · split at h
            · unfold oneS at h
              split at h
              · obtain ⟨n, _, h⟩ := Option.bind_eq_some_iff.1 h
                exact (chkS_some h).2
              · cases h
            · split at h
              · unfold twoS at h
                split at h
                · obtain ⟨n, _, h⟩ := Option.bind_eq_some_iff.1 h
                  obtain ⟨y, _, h⟩ := Option.bind_eq_some_iff.1 h
                  exact (chkS_some h).2
                · cases h
              · cases h
end Go.Proofs.YtanaifobmkjpaaaDoor
