/- Layer 46 (args), plain: the words of a line; a word quoted; words as a line; words come back from their line. -/
import Derived.Test.YtmppjbimdonfmaaDoorStr
namespace Go.Proofs.YtmppjbimdonfmaaDoor

/-- The reader: out: the words so far; cur: what has been read of this one; st: 0 between words, 1 within one, 2 within quotes. -/
def wN : List UInt8 → List (List UInt8) → List UInt8 → Nat → Option (List (List UInt8))
  | [], out, cur, st => if st = 2 then none else if st = 1 then some (out ++ [cur]) else some out
  | [c], out, cur, st =>
    if c = 0 ∨ c = 10 then none
    else if st = 2 then (if c = 39 then some (out ++ [cur]) else none)
    else if c = 32 then (if st = 1 then some (out ++ [cur]) else some out)
    else if c = 39 ∨ c = 92 then none
    else some (out ++ [cur ++ [c]])
  | c :: d :: l, out, cur, st =>
    if c = 0 ∨ c = 10 then none
    else if st = 2 then (if c = 39 then wN (d :: l) out cur 1 else wN (d :: l) out (cur ++ [c]) 2)
    else if c = 32 then (if st = 1 then wN (d :: l) (out ++ [cur]) [] 0 else wN (d :: l) out [] 0)
    else if c = 39 then wN (d :: l) out cur 2
    else if c = 92 then (if d = 0 ∨ d = 10 then none else wN l out (cur ++ [d]) 1)
    else wN (d :: l) out (cur ++ [c]) 1
theorem wN_bad {c : UInt8} {l : List UInt8} {out : List (List UInt8)} {cur : List UInt8} {st : Nat} (h : c = 0 ∨ c = 10) : wN (c :: l) out cur st = none := by
  cases l <;> simp [wN, h]
theorem wN_q {c : UInt8} {l : List UInt8} {out : List (List UInt8)} {cur : List UInt8} (h : ¬ (c = 0 ∨ c = 10)) (h2 : c ≠ 39) : wN (c :: l) out cur 2 = wN l out (cur ++ [c]) 2 := by
  cases l <;> simp [wN, h, h2]
theorem wN_qend {l : List UInt8} {out : List (List UInt8)} {cur : List UInt8} : wN (39 :: l) out cur 2 = wN l out cur 1 := by
  cases l <;> simp [wN]
theorem wN_sp0 {l : List UInt8} {out : List (List UInt8)} {cur : List UInt8} : wN (32 :: l) out cur 0 = wN l out [] 0 := by
  cases l <;> simp [wN]
theorem wN_sp1 {l : List UInt8} {out : List (List UInt8)} {cur : List UInt8} : wN (32 :: l) out cur 1 = wN l (out ++ [cur]) [] 0 := by
  cases l <;> simp [wN]
theorem wN_quote {l : List UInt8} {out : List (List UInt8)} {cur : List UInt8} {st : Nat} (h : st ≠ 2) : wN (39 :: l) out cur st = wN l out cur 2 := by
  cases l <;> simp [wN, h]
theorem wN_back0 {out : List (List UInt8)} {cur : List UInt8} {st : Nat} (h : st ≠ 2) : wN [92] out cur st = none := by simp [wN, h]
theorem wN_back {d : UInt8} {l : List UInt8} {out : List (List UInt8)} {cur : List UInt8} {st : Nat} (h : st ≠ 2) : wN (92 :: d :: l) out cur st = if d = 0 ∨ d = 10 then none else wN l out (cur ++ [d]) 1 := by simp [wN, h]
theorem wN_plain {c : UInt8} {l : List UInt8} {out : List (List UInt8)} {cur : List UInt8} {st : Nat} (h0 : ¬ (c = 0 ∨ c = 10)) (h1 : c ≠ 32) (h2 : c ≠ 39) (h3 : c ≠ 92) (h : st ≠ 2) : wN (c :: l) out cur st = wN l out (cur ++ [c]) 1 := by
  cases l <;> simp [wN, h, h0, h1, h2, h3]
theorem wN_end (out : List (List UInt8)) (cur : List UInt8) (st : Nat) : wN [] out cur st = if st = 2 then none else if st = 1 then some (out ++ [cur]) else some out := by simp [wN]
def wordsN (l : List UInt8) : Option (List (List UInt8)) := wN l [] [] 0
def escN : List UInt8 → List UInt8
  | [] => []
  | c :: l => if c = 39 then 39 :: 92 :: 39 :: 39 :: escN l else c :: escN l
def bareB (s : List UInt8) : Bool := decide (s ≠ [] ∧ 32 ∉ s ∧ 39 ∉ s ∧ 92 ∉ s)
def quoteN (s : List UInt8) : List UInt8 := if bareB s = true then s else 39 :: (escN s ++ [39])
def lineN : List (List UInt8) → List UInt8
  | [] => []
  | [s] => quoteN s
  | s :: t :: l => quoteN s ++ 32 :: lineN (t :: l)
def safe (s : List UInt8) : Prop := 0 ∉ s ∧ 10 ∉ s
theorem wN_esc (s : List UInt8) (h : safe s) : ∀ rest out cur, wN (escN s ++ rest) out cur 2 = wN rest out (cur ++ s) 2 := by
  induction s with
  | nil => intro rest out cur; simp [escN]
  | cons c s ih =>
    intro rest out cur
    have hs : safe s := ⟨fun h' => h.1 (List.mem_cons_of_mem _ h'), fun h' => h.2 (List.mem_cons_of_mem _ h')⟩
    have hc : ¬ (c = 0 ∨ c = 10) := by
      rintro (rfl | rfl)
      · exact h.1 (List.mem_cons_self ..)
      · exact h.2 (List.mem_cons_self ..)
    unfold escN
    by_cases h39 : c = 39
    · subst h39
      rw [if_pos rfl]
      simp only [List.cons_append]
      rw [wN_qend, wN_back (by decide), if_neg (by decide), wN_quote (by decide), ih hs]
      simp
    · rw [if_neg h39, List.cons_append, wN_q hc h39, ih hs]
      simp
theorem wN_bare (s : List UInt8) (h : safe s) (h2 : 32 ∉ s ∧ 39 ∉ s ∧ 92 ∉ s) : ∀ rest out cur st, st ≠ 2 → s ≠ [] → wN (s ++ rest) out cur st = wN rest out (cur ++ s) 1 := by
  induction s with
  | nil => intro _ _ _ _ _ hn; exact absurd rfl hn
  | cons c s ih =>
    intro rest out cur st hst _
    have hs : safe s := ⟨fun h' => h.1 (List.mem_cons_of_mem _ h'), fun h' => h.2 (List.mem_cons_of_mem _ h')⟩
    have hc : ¬ (c = 0 ∨ c = 10) := by
      rintro (rfl | rfl)
      · exact h.1 (List.mem_cons_self ..)
      · exact h.2 (List.mem_cons_self ..)
    have c1 : c ≠ 32 := by rintro rfl; exact h2.1 (List.mem_cons_self ..)
    have c2 : c ≠ 39 := by rintro rfl; exact h2.2.1 (List.mem_cons_self ..)
    have c3 : c ≠ 92 := by rintro rfl; exact h2.2.2 (List.mem_cons_self ..)
    rw [List.cons_append, wN_plain hc c1 c2 c3 hst]
    by_cases hn : s = []
    · subst hn; rfl
    · rw [ih hs ⟨fun h' => h2.1 (List.mem_cons_of_mem _ h'), fun h' => h2.2.1 (List.mem_cons_of_mem _ h'), fun h' => h2.2.2 (List.mem_cons_of_mem _ h')⟩ _ _ _ 1 (by decide) hn]
      simp
theorem wN_word (s : List UInt8) (h : safe s) (rest : List UInt8) (out : List (List UInt8)) : wN (quoteN s ++ rest) out [] 0 = wN rest out s 1 := by
  unfold quoteN
  by_cases hb : bareB s = true
  · rw [if_pos hb]
    have hb' := of_decide_eq_true hb
    rw [wN_bare s h hb'.2 rest out [] 0 (by decide) hb'.1]; rfl
  · rw [if_neg hb, List.cons_append, wN_quote (by decide), List.append_assoc, wN_esc s h]
    rw [List.singleton_append, wN_qend]; rfl
theorem wN_line (l : List (List UInt8)) (h : ∀ s ∈ l, safe s) : ∀ out, wN (lineN l) out [] 0 = some (out ++ l) := by
  induction l with
  | nil => intro out; simp [lineN, wN]
  | cons s l ih =>
    intro out
    have hs := h s (List.mem_cons_self ..)
    have hl := fun t ht => h t (List.mem_cons_of_mem _ ht)
    cases l with
    | nil =>
      rw [lineN]
      have := wN_word s hs [] out
      rw [List.append_nil] at this
      rw [this, wN_end]; rfl
    | cons t l =>
      rw [lineN, wN_word s hs, wN_sp1, ih hl]
      simp
theorem words_line (l : List (List UInt8)) (h : ∀ s ∈ l, safe s) : wordsN (lineN l) = some l := by
  unfold wordsN; rw [wN_line l h]; rfl
end Go.Proofs.YtmppjbimdonfmaaDoor
