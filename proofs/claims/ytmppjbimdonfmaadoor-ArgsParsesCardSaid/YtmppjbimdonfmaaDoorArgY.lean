/- Layer 46 (args), plain: the command of words; the words of a command; a command comes back from its words. -/
import Derived.Test.YtmppjbimdonfmaaDoorArgK
import Derived.Test.YtmppjbimdonfmaaDoorNumS
namespace Go.Proofs.YtmppjbimdonfmaaDoor
open Go.ChangeShapes Go.WideShapes Go.ChangeAt Go.RowKit

structure CmdN where
  k : Nat
  ps : List Txt
  b : Bool
  d : Bool
  a : Int
  q : Int
def wB : Txt := [45, 98]
def wR : Txt := [45, 114]
def wS : Txt := [45, 45]
def wL : Txt := [45, 45, 98, 97, 99, 107, 117, 112, 61, 110, 117, 109, 98, 101, 114, 101, 100]
/-- A word that is an operand. -/
def opB (over : Bool) (s : Txt) : Bool := over || decide (s.length < 2) || !(s.head? == some 45)
def scan (k : Nat) : List Txt → Bool → List Txt → Bool → Bool → Option (List Txt × Bool × Bool)
  | [], _, ps, b, d => some (ps, b, d)
  | s :: l, over, ps, b, d =>
    if opB over s = true then scan k l over (ps ++ [s]) b d
    else if s = wS then scan k l true ps b d
    else if (s = wB ∨ s = wL) ∧ 6 ≤ k ∧ k ≤ 8 then scan k l over ps true d
    else if s = wR ∧ k = 8 then scan k l over ps b true
    else none
def enoughB (k n : Nat) (b : Bool) : Bool :=
  if k = 1 ∨ k = 3 then decide (1 ≤ n) else if k = 6 then decide (1 ≤ n) && b else if k = 7 ∨ k = 8 then decide (2 ≤ n) else if k = 5 then decide (n = 2) else decide (n = 0)
def ageP (s : Txt) (n : Int) : Prop := I64 n ∧ 0 ≤ n ∧ decI n = s
open Classical in
noncomputable def endC (k : Nat) (ps : List Txt) (b d : Bool) : Option CmdN :=
  if enoughB k ps.length b = false then none
  else if k = 5 then
    (if h : ∃ a q, ageP (ps.getD 0 []) a ∧ ageP (ps.getD 1 []) q then some ⟨5, [], b, d, h.choose, h.choose_spec.choose⟩ else none)
  else some ⟨k, ps, b, d, 0, 0⟩
noncomputable def finC (k : Nat) : Option (List Txt × Bool × Bool) → Option CmdN
  | none => none
  | some p => endC k p.1 p.2.1 p.2.2
noncomputable def parseC : List Txt → Option CmdN
  | [] => none
  | s :: l => if kindN s = 0 then none else finC (kindN s) (scan (kindN s) l false [] false false)
theorem parseC_eq (s : Txt) (l : List Txt) : parseC (s :: l) = if kindN s = 0 then none else finC (kindN s) (scan (kindN s) l false [] false false) := rfl
def optW (c : Bool) (s : Txt) : List Txt := if c = true then [s] else []
def writeC (k : Int) (ps : List Txt) (b d : Bool) (a q : Int) : List Txt :=
  nameN k :: (optW b wB ++ (optW d wR ++ (if k = 5 then [decI a, decI q] else (if ps = [] then [] else wS :: ps))))
theorem kind_name (k : Nat) (h0 : k ≠ 0) (h : k ≤ 9) : kindN (nameN (k : Int)) = k := by
  rcases ten (k := k) (by omega) with h | h | h | h | h | h | h | h | h | h
  · exact absurd h h0
  all_goals (subst h; decide)
theorem kindGo_le (s : Txt) : ∀ k l, kindGo s k l ≤ k + l.length
  | _, [] => Nat.zero_le _
  | k, x :: l => by
    rw [kindGo]
    split
    · omega
    · have := kindGo_le s (k + 1) l; simp; omega
theorem kindN_le (s : Txt) : kindN s ≤ 9 := by
  have h : ∀ k (l : List Txt), 1 ≤ k → kindGo s k l < k + l.length ∨ l = [] := by
    intro k l
    induction l generalizing k with
    | nil => intro _; exact .inr rfl
    | cons x l ih =>
      intro hk
      left
      rw [kindGo]
      split
      · simp
      · rcases ih (k + 1) (by omega) with h | rfl
        · simp; omega
        · simp [kindGo]
  rcases h 1 nmL (by decide) with h | h
  · have : nmL.length = 9 := rfl
    unfold kindN; omega
  · cases h
theorem scan_over (k : Nat) (l : List Txt) : ∀ ps b d, scan k l true ps b d = some (ps ++ l, b, d) := by
  induction l with
  | nil => intro ps b d; simp [scan]
  | cons s l ih => intro ps b d; rw [scan, if_pos (by simp [opB]), ih]; simp
/-- What a scan yields: -b stands only where the command takes it, and so on. -/
theorem scan_ok (k : Nat) (l : List Txt) : ∀ over ps b d p, scan k l over ps b d = some p → ((b = true → 6 ≤ k ∧ k ≤ 8) → p.2.1 = true → 6 ≤ k ∧ k ≤ 8) ∧ ((d = true → k = 8) → p.2.2 = true → k = 8) ∧ p.1.length ≤ ps.length + l.length ∧ ∀ x ∈ p.1, x ∈ ps ∨ x ∈ l := by
  induction l with
  | nil =>
    intro over ps b d p h
    simp only [scan, Option.some.injEq] at h
    subst h
    exact ⟨id, id, by simp, fun x hx => .inl hx⟩
  | cons s l ih =>
    intro over ps b d p h
    rw [scan] at h
    split at h
    · obtain ⟨h1, h2, h3, h4⟩ := ih _ _ _ _ _ h
      refine ⟨h1, h2, by simp at h3 ⊢; omega, fun x hx => ?_⟩
      rcases h4 x hx with h5 | h5
      · rw [List.mem_append, List.mem_singleton] at h5
        rcases h5 with h5 | rfl
        · exact .inl h5
        · exact .inr (List.mem_cons_self ..)
      · exact .inr (List.mem_cons_of_mem _ h5)
    · split at h
      · obtain ⟨h1, h2, h3, h4⟩ := ih _ _ _ _ _ h
        exact ⟨h1, h2, by simp at h3 ⊢; omega, fun x hx => (h4 x hx).imp id (List.mem_cons_of_mem _)⟩
      · split at h
        · rename_i hc
          obtain ⟨h1, h2, h3, h4⟩ := ih _ _ _ _ _ h
          exact ⟨fun _ => h1 fun _ => hc.2, h2, by simp at h3 ⊢; omega, fun x hx => (h4 x hx).imp id (List.mem_cons_of_mem _)⟩
        · split at h
          · rename_i hc
            obtain ⟨h1, h2, h3, h4⟩ := ih _ _ _ _ _ h
            exact ⟨h1, fun _ => h2 fun _ => hc.2, by simp at h3 ⊢; omega, fun x hx => (h4 x hx).imp id (List.mem_cons_of_mem _)⟩
          · cases h
theorem optB_b : opB false wB = false := by decide
theorem optB_r : opB false wR = false := by decide
theorem optB_s : opB false wS = false := by decide
theorem scan_opts (k : Nat) (b d : Bool) (hb : b = true → 6 ≤ k ∧ k ≤ 8) (hd : d = true → k = 8) (l : List Txt) : scan k (optW b wB ++ (optW d wR ++ l)) false [] false false = scan k l false [] b d := by
  have h2 : ∀ b', scan k (optW d wR ++ l) false [] b' false = scan k l false [] b' d := by
    intro b'
    cases d with
    | false => rfl
    | true =>
      show scan k (wR :: l) false [] b' false = _
      rw [scan, if_neg (by rw [optB_r]; decide), if_neg (by decide), if_neg (by rintro ⟨h | h, _⟩ <;> exact absurd h (by decide)), if_pos ⟨rfl, hd rfl⟩]
  cases b with
  | false => exact h2 false
  | true =>
    show scan k (wB :: (optW d wR ++ l)) false [] false false = _
    rw [scan, if_neg (by rw [optB_b]; decide), if_neg (by decide), if_pos ⟨.inl rfl, hb rfl⟩]
    exact h2 true
theorem decI_op {n : Int} (h0 : 0 ≤ n) : opB false (decI n) = true := by
  rw [decI_pos (by omega)]
  have h := digL_head 10 n.toNat (by decide) (by decide)
  have h2 : ((digL 10 n.toNat).head? == some 45) = false := beq_eq_false_iff_ne.2 h
  unfold opB
  rw [h2]; simp
theorem parseC_k0 {s : Txt} (l : List Txt) (h : kindN s = 0) : parseC (s :: l) = none := by rw [parseC_eq, if_pos h]
theorem parseC_scan {s : Txt} {l : List Txt} (h : kindN s ≠ 0) (h2 : scan (kindN s) l false [] false false = none) : parseC (s :: l) = none := by rw [parseC_eq, if_neg h, h2]; rfl
theorem parseC_few {s : Txt} {l ps : List Txt} {b d : Bool} (h : kindN s ≠ 0) (h2 : scan (kindN s) l false [] false false = some (ps, b, d)) (h3 : enoughB (kindN s) ps.length b = false) : parseC (s :: l) = none := by
  rw [parseC_eq, if_neg h, h2, finC, endC, if_pos h3]
theorem parseC_some {s : Txt} {l ps : List Txt} {b d : Bool} (h : kindN s ≠ 0) (h2 : scan (kindN s) l false [] false false = some (ps, b, d)) (h3 : enoughB (kindN s) ps.length b = true) (h5 : kindN s ≠ 5) : parseC (s :: l) = some ⟨kindN s, ps, b, d, 0, 0⟩ := by
  rw [parseC_eq, if_neg h, h2, finC, endC, if_neg (by rw [h3]; decide), if_neg h5]
theorem parseC_age {s : Txt} {l : List Txt} {x y : Txt} {b d : Bool} {a q : Int} (h2 : scan (kindN s) l false [] false false = some ([x, y], b, d)) (h5 : kindN s = 5) (hx : ageP x a) (hy : ageP y q) : parseC (s :: l) = some ⟨5, [], b, d, a, q⟩ := by
  have he : ∃ a q, ageP (([x, y] : List Txt).getD 0 []) a ∧ ageP (([x, y] : List Txt).getD 1 []) q := ⟨a, q, hx, hy⟩
  rw [parseC_eq, if_neg (by rw [h5]; decide), h2, finC, endC, if_neg (by rw [h5]; show ¬ decide (2 = 2) = false; decide), if_pos h5, dif_pos he]
  have h1 := he.choose_spec.choose_spec
  have ha : he.choose = a := decI_inj h1.1.1 hx.1 (h1.1.2.2.trans hx.2.2.symm)
  have hq : he.choose_spec.choose = q := decI_inj h1.2.1 hy.1 (h1.2.2.2.trans hy.2.2.symm)
  show some (CmdN.mk 5 [] b d he.choose he.choose_spec.choose) = _
  exact congrArg some (by rw [CmdN.mk.injEq]; exact ⟨rfl, rfl, rfl, rfl, ha, hq⟩)
theorem parseC_noage {s : Txt} {l : List Txt} {x y : Txt} {b d : Bool} (h2 : scan (kindN s) l false [] false false = some ([x, y], b, d)) (h5 : kindN s = 5) (hn : ¬ ∃ a q, ageP x a ∧ ageP y q) : parseC (s :: l) = none := by
  rw [parseC_eq, if_neg (by rw [h5]; decide), h2, finC, endC, if_neg (by rw [h5]; show ¬ decide (2 = 2) = false; decide), if_pos h5]; exact dif_neg hn
theorem enough_5 {n : Nat} {b : Bool} (h : enoughB 5 n b = true) : n = 2 := by
  unfold enoughB at h
  rw [if_neg (by decide), if_neg (by decide), if_neg (by decide), if_pos rfl] at h
  exact of_decide_eq_true h
theorem two_of {ps : List Txt} (h : ps.length = 2) : ∃ x y, ps = [x, y] := by
  match ps, h with
  | [x, y], _ => exact ⟨x, y, rfl⟩
/-- A command comes back from its words. -/
theorem parse_write (L : List Txt) (c : CmdN) (h : parseC L = some c) : parseC (writeC c.k c.ps c.b c.d c.a c.q) = some c ∧ (I64 c.a ∧ I64 c.q) ∧ c.k ≤ 9 ∧ c.ps.length ≤ L.length ∧ ∀ x ∈ c.ps, x ∈ L := by
  cases L with
  | nil => cases h
  | cons s l =>
    by_cases hk : kindN s = 0
    · rw [parseC_k0 l hk] at h; cases h
    · cases hs : scan (kindN s) l false [] false false with
      | none => rw [parseC_scan hk hs] at h; cases h
      | some p =>
        obtain ⟨ps, b, d⟩ := p
        obtain ⟨o1, o2, o3, o4⟩ := scan_ok _ _ _ _ _ _ _ hs
        have o1 := o1 (fun h => by cases h)
        have o2 := o2 (fun h => by cases h)
        have hk9 := kindN_le s
        cases he : enoughB (kindN s) ps.length b with
        | false => rw [parseC_few hk hs he] at h; cases h
        | true =>
          by_cases h5 : kindN s = 5
          · rw [h5] at he
            obtain ⟨x, y, rfl⟩ := two_of (enough_5 he)
            by_cases hn : ∃ a q, ageP x a ∧ ageP y q
            · obtain ⟨a, q, ha, hq⟩ := hn
              rw [parseC_age hs h5 ha hq] at h
              cases h
              have hb : b = false := by
                cases b with
                | false => rfl
                | true => have := (o1 rfl).1; omega
              have hd : d = false := by
                cases d with
                | false => rfl
                | true => have := o2 rfl; omega
              subst hb; subst hd
              have e1 : kindN (nameN ((5 : Nat) : Int)) = 5 := kind_name 5 (by decide) (by decide)
              refine ⟨?_, ⟨ha.1, hq.1⟩, by show 5 ≤ 9; decide, Nat.zero_le _, fun x hx => by cases hx⟩
              have e2 : writeC ((5 : Nat) : Int) [] false false a q = nameN ((5 : Nat) : Int) :: [decI a, decI q] := rfl
              show parseC (writeC ((5 : Nat) : Int) [] false false a q) = _
              rw [e2]
              refine parseC_age ?_ e1 ⟨ha.1, ha.2.1, rfl⟩ ⟨hq.1, hq.2.1, rfl⟩
              rw [scan, if_pos (decI_op ha.2.1), scan, if_pos (decI_op hq.2.1), scan]; rfl
            · rw [parseC_noage hs h5 hn] at h; cases h
          · rw [parseC_some hk hs he h5] at h
            cases h
            have e1 := kind_name (kindN s) hk hk9
            refine ⟨?_, ⟨⟨by show (-9223372036854775808 : Int) ≤ 0; decide, by show (0 : Int) ≤ 9223372036854775807; decide⟩, ⟨by show (-9223372036854775808 : Int) ≤ 0; decide, by show (0 : Int) ≤ 9223372036854775807; decide⟩⟩, hk9, by simp at o3 ⊢; omega, fun x hx => ?_⟩
            · unfold writeC
              rw [if_neg (by show ¬ ((kindN s : Nat) : Int) = 5; omega)]
              show parseC (nameN ((kindN s : Nat) : Int) :: (optW b wB ++ (optW d wR ++ (if ps = [] then [] else wS :: ps)))) = some ⟨kindN s, ps, b, d, 0, 0⟩
              have e2 : some (⟨kindN s, ps, b, d, 0, 0⟩ : CmdN) = some ⟨kindN (nameN ((kindN s : Nat) : Int)), ps, b, d, 0, 0⟩ := by rw [e1]
              rw [e2]
              refine parseC_some (by rw [e1]; exact hk) ?_ (by rw [e1]; exact he) (by rw [e1]; exact h5)
              rw [e1, scan_opts _ b d o1 o2]
              by_cases hp : ps = []
              · subst hp; rfl
              · rw [if_neg hp, scan, if_neg (by rw [optB_s]; decide), if_pos rfl, scan_over]; rfl
            · rcases o4 x hx with h | h
              · cases h
              · exact List.mem_cons_of_mem _ h
end Go.Proofs.YtmppjbimdonfmaaDoor
