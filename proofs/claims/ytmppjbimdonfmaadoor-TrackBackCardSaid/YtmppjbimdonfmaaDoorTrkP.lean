/- Layer 3 (track), plain: clean paths, as lists of their parts. -/
import Derived.Test.YtmppjbimdonfmaaDoorNamP
namespace Go.Proofs.YtmppjbimdonfmaaDoor

abbrev dd : List UInt8 := [46, 46]
def joinS : List (List UInt8) → List UInt8
  | [] => []
  | [p] => p
  | p :: q :: l => p ++ 47 :: joinS (q :: l)
theorem joinS_cons (p : List UInt8) (l : List (List UInt8)) (h : l ≠ []) : joinS (p :: l) = p ++ 47 :: joinS l := by
  cases l with
  | nil => exact absurd rfl h
  | cons q l => rfl
theorem joinS_append (a b : List (List UInt8)) (ha : a ≠ []) (hb : b ≠ []) : joinS (a ++ b) = joinS a ++ 47 :: joinS b := by
  induction a with
  | nil => exact absurd rfl ha
  | cons p a ih =>
    cases a with
    | nil => rw [List.cons_append, List.nil_append, joinS_cons _ _ hb]; rfl
    | cons q a =>
      rw [List.cons_append, joinS_cons _ _ (by simp), ih (by simp), joinS_cons _ (q :: a) (by simp)]
      simp
theorem joinS_snoc (a : List (List UInt8)) (p : List UInt8) : joinS (a ++ [p]) = if a = [] then p else joinS a ++ 47 :: p := by
  by_cases h : a = []
  · subst h; rfl
  · rw [if_neg h, joinS_append a [p] h (by simp)]; rfl
/-- A part that says something. -/
def okP (p : List UInt8) : Prop := 47 ∉ p ∧ p ≠ [] ∧ p ≠ [46]
def okL (l : List (List UInt8)) : Prop := ∀ p ∈ l, okP p
theorem okL_parts (l : List UInt8) : okL (partsN l) := fun _ h => parts_no h
theorem okL_append {a b : List (List UInt8)} : okL (a ++ b) ↔ okL a ∧ okL b := by
  unfold okL
  constructor
  · intro h
    exact ⟨fun p hp => h p (List.mem_append_left _ hp), fun p hp => h p (List.mem_append_right _ hp)⟩
  · rintro ⟨h1, h2⟩ p hp
    rcases List.mem_append.1 hp with h | h
    · exact h1 p h
    · exact h2 p h
/-! ### The parts of a joined text. -/
theorem pc_append (a b : List UInt8) : ∀ cur, pc cur (a ++ 47 :: b) = pc cur a ++ pc [] b := by
  induction a with
  | nil => intro cur; simp [pc]
  | cons c a ih =>
    intro cur
    rw [List.cons_append, pc, pc]
    split
    · rw [ih]; rfl
    · rw [ih]
theorem parts_append (a b : List UInt8) : partsN (a ++ 47 :: b) = partsN a ++ partsN b := by
  unfold partsN
  rw [pc_append, List.filter_append]
theorem parts_nil : partsN [] = [] := by decide
theorem parts_slash (b : List UInt8) : partsN (47 :: b) = partsN b := by
  have := parts_append [] b
  rw [parts_nil] at this
  simpa using this
theorem parts_dot : partsN [46] = [] := by decide
theorem pc_one (p : List UInt8) : ∀ cur, 47 ∉ p → pc cur p = [cur ++ p] := by
  induction p with
  | nil => intro cur _; simp [pc]
  | cons c p ih =>
    intro cur h
    rw [List.mem_cons, not_or] at h
    rw [pc, if_neg (fun e => h.1 e.symm), ih _ h.2]
    simp
theorem good_ok {p : List UInt8} (h : okP p) : good p = true := by
  unfold good
  have h1 : (p == []) = false := beq_eq_false_iff_ne.2 h.2.1
  have h2 : (p == [46]) = false := beq_eq_false_iff_ne.2 h.2.2
  rw [h1, h2]; rfl
theorem parts_one {p : List UInt8} (h : okP p) : partsN p = [p] := by
  unfold partsN
  rw [pc_one p [] h.1]
  simp [good_ok h]
theorem parts_join (l : List (List UInt8)) (h : okL l) : partsN (joinS l) = l := by
  induction l with
  | nil => exact parts_nil
  | cons p l ih =>
    have hp : okP p := h p (List.mem_cons_self ..)
    have hl : okL l := fun q hq => h q (List.mem_cons_of_mem _ hq)
    by_cases hn : l = []
    · subst hn; exact parts_one hp
    · rw [joinS_cons _ _ hn, parts_append, parts_one hp, ih hl]; rfl
theorem joinS_ne (l : List (List UInt8)) (h : okL l) (hn : l ≠ []) : joinS l ≠ [] := by
  intro e
  have := parts_join l h
  rw [e, parts_nil] at this
  exact hn this.symm
theorem joinS_head (l : List (List UInt8)) (h : okL l) : (joinS l).head? ≠ some 47 := by
  cases l with
  | nil => simp [joinS]
  | cons p l =>
    have hp : okP p := h p (List.mem_cons_self ..)
    obtain ⟨c, p', rfl⟩ := List.exists_cons_of_ne_nil hp.2.1
    have hc : c ≠ 47 := by rintro rfl; exact hp.1 (List.mem_cons_self ..)
    by_cases hn : l = []
    · subst hn; simpa [joinS] using hc
    · rw [joinS_cons _ _ hn]; simpa using hc
theorem last_app (a : List (List UInt8)) (x : List UInt8) : (a ++ [x]).getLast? = some x := List.getLast?_concat
theorem joinS_last (l : List (List UInt8)) (h : okL l) : (joinS l).getLast? ≠ some 47 := by
  rcases List.eq_nil_or_concat l with rfl | ⟨a, p, rfl⟩
  · simp [joinS]
  · rw [List.concat_eq_append] at *
    have hp : okP p := h p (by simp)
    have hc : ∀ c, p.getLast? = some c → c ≠ 47 := by
      rintro c hc rfl
      exact hp.1 (List.mem_of_getLast? hc)
    have hps : p.getLast? = some (p.getLast hp.2.1) := List.getLast?_eq_some_getLast hp.2.1
    rw [joinS_snoc]
    split
    · rw [hps]; intro e; exact hc _ hps (Option.some.inj e)
    · rw [List.getLast?_append, show ((47 : UInt8) :: p).getLast? = p.getLast? by rw [List.getLast?_cons, hps]; rfl, hps]
      intro e; exact hc _ hps (Option.some.inj e)
/-! ### Without slashes at the end. -/
theorem cutN_id {l : List UInt8} (h : l.getLast? ≠ some 47) : cutN l = l := by
  unfold cutN
  rcases List.eq_nil_or_concat l with rfl | ⟨a, c, rfl⟩
  · rfl
  · rw [List.concat_eq_append] at *
    have hc : (c == 47) = false := by
      rw [beq_eq_false_iff_ne]
      rintro rfl
      exact h (by simp)
    rw [List.reverse_append]
    simp [hc]
theorem cutN_slash : cutN [47] = [] := by decide
/-! ### Clean. -/
def cstep (whole : Bool) (out : List (List UInt8)) (p : List UInt8) : List (List UInt8) :=
  if p ≠ dd then out ++ [p] else if out ≠ [] ∧ out.getLast? ≠ some dd then out.dropLast else if whole = true then out else out ++ [p]
def wholeB (l : List UInt8) : Bool := l.head? == some 47
def normL (l : List UInt8) : List (List UInt8) := (partsN l).foldl (cstep (wholeB l)) []
def render (whole : Bool) (L : List (List UInt8)) : List UInt8 := if whole = true then 47 :: joinS L else if joinS L = [] then [46] else joinS L
def cleanN (l : List UInt8) : List UInt8 := render (wholeB l) (normL l)
/-- Lists that Clean leaves as they are. -/
def NF (whole : Bool) (L : List (List UInt8)) : Prop := okL L ∧ ∃ k M, L = List.replicate k dd ++ M ∧ dd ∉ M ∧ (whole = true → k = 0)
theorem okP_dd : okP dd := ⟨by decide, by decide, by decide⟩
theorem cstep_nf {whole : Bool} {L : List (List UInt8)} (h : NF whole L) {p : List UInt8} (hp : okP p) : NF whole (cstep whole L p) := by
  obtain ⟨hL, k, M, hk, hM, hw⟩ := h
  unfold cstep
  by_cases h1 : p ≠ dd
  · rw [if_pos h1]
    refine ⟨okL_append.2 ⟨hL, by intro q hq; rw [List.mem_singleton] at hq; rw [hq]; exact hp⟩, k, M ++ [p], by rw [hk, List.append_assoc], ?_, hw⟩
    rw [List.mem_append, not_or]
    exact ⟨hM, by rw [List.mem_singleton]; exact fun e => h1 e.symm⟩
  · rw [if_neg h1]
    have h1' : p = dd := Classical.not_not.1 h1
    rcases List.eq_nil_or_concat M with rfl | ⟨M', m, rfl⟩
    · have hlast : ¬ (L ≠ [] ∧ L.getLast? ≠ some dd) := by
        rintro ⟨ha, hb⟩
        rw [List.append_nil] at hk
        apply hb
        rw [hk]
        cases k with
        | zero => rw [hk] at ha; exact absurd rfl ha
        | succ k => rw [List.replicate_succ', last_app]
      rw [if_neg hlast]
      by_cases hwh : whole = true
      · rw [if_pos hwh]; exact ⟨hL, k, [], hk, hM, hw⟩
      · rw [if_neg hwh]
        refine ⟨okL_append.2 ⟨hL, by intro q hq; rw [List.mem_singleton] at hq; rw [hq]; exact hp⟩, k + 1, [], ?_, hM, fun e => absurd e hwh⟩
        rw [hk, h1', List.append_nil, List.append_nil, List.replicate_succ']
    · rw [List.concat_eq_append] at *
      have hm : m ≠ dd := by rintro rfl; exact hM (by simp)
      have hlast : L ≠ [] ∧ L.getLast? ≠ some dd := by
        rw [hk, ← List.append_assoc]
        refine ⟨by simp, ?_⟩
        rw [last_app]
        intro e; exact hm (Option.some.inj e)
      rw [if_pos hlast]
      have hd : L.dropLast = List.replicate k dd ++ M' := by rw [hk, ← List.append_assoc, List.dropLast_concat]
      refine ⟨fun q hq => hL q (List.dropLast_subset _ hq), k, M', hd, fun h => hM (List.mem_append_left _ h), hw⟩
theorem foldl_nf {whole : Bool} (P : List (List UInt8)) (hP : okL P) : ∀ {L : List (List UInt8)}, NF whole L → NF whole (P.foldl (cstep whole) L) := by
  induction P with
  | nil => intro L h; exact h
  | cons p P ih =>
    intro L h
    rw [List.foldl_cons]
    exact ih (fun q hq => hP q (List.mem_cons_of_mem _ hq)) (cstep_nf h (hP p (List.mem_cons_self ..)))
theorem NF_nil (whole : Bool) : NF whole [] := ⟨fun p h => by simp at h, 0, [], rfl, by simp, fun _ => rfl⟩
theorem norm_nf (l : List UInt8) : NF (wholeB l) (normL l) := foldl_nf _ (okL_parts l) (NF_nil _)
/-- Parts that are not two points are all put behind. -/
theorem foldl_plain (whole : Bool) (M : List (List UInt8)) (h : dd ∉ M) : ∀ L, M.foldl (cstep whole) L = L ++ M := by
  induction M with
  | nil => intro L; simp
  | cons m M ih =>
    intro L
    rw [List.mem_cons, not_or] at h
    have : cstep whole L m = L ++ [m] := by unfold cstep; rw [if_pos (fun e => h.1 e.symm)]
    rw [List.foldl_cons, this, ih h.2]
    simp
theorem foldl_dds (k : Nat) : ∀ j, (List.replicate k dd).foldl (cstep false) (List.replicate j dd) = List.replicate (j + k) dd := by
  induction k with
  | zero => intro j; rfl
  | succ k ih =>
    intro j
    have : cstep false (List.replicate j dd) dd = List.replicate (j + 1) dd := by
      unfold cstep
      rw [if_neg (by simp), if_neg, if_neg (by decide), List.replicate_succ']
      rintro ⟨ha, hb⟩
      apply hb
      cases j with
      | zero => exact absurd rfl ha
      | succ j => rw [List.replicate_succ', last_app]
    rw [List.replicate_succ, List.foldl_cons, this, ih (j + 1), show j + 1 + k = j + (k + 1) by omega]
theorem foldl_self {whole : Bool} {L : List (List UInt8)} (h : NF whole L) : L.foldl (cstep whole) [] = L := by
  obtain ⟨_, k, M, hk, hM, hw⟩ := h
  cases whole with
  | true =>
    obtain rfl := hw rfl
    simp at hk
    rw [hk, foldl_plain _ _ hM]; simp
  | false =>
    rw [hk, List.foldl_append]
    have := foldl_dds k 0
    simp only [List.replicate_zero, Nat.zero_add] at this
    rw [this, foldl_plain _ _ hM]
theorem whole_render {whole : Bool} {L : List (List UInt8)} (h : okL L) : wholeB (render whole L) = whole := by
  unfold wholeB render
  cases whole with
  | true => rfl
  | false =>
    rw [if_neg (by decide)]
    split
    · rfl
    · rw [beq_eq_false_iff_ne]; exact joinS_head L h
theorem parts_render {whole : Bool} {L : List (List UInt8)} (h : okL L) : partsN (render whole L) = L := by
  unfold render
  split
  · rw [parts_slash, parts_join L h]
  · split
    · rename_i h2
      have := parts_join L h
      rw [h2, parts_nil] at this
      rw [parts_dot, this]
    · exact parts_join L h
theorem clean_render {whole : Bool} {L : List (List UInt8)} (h : NF whole L) : cleanN (render whole L) = render whole L := by
  unfold cleanN normL
  rw [whole_render h.1, parts_render h.1, foldl_self h]
theorem clean_clean (l : List UInt8) : cleanN (cleanN l) = cleanN l := clean_render (norm_nf l)
theorem clean_ne (l : List UInt8) : cleanN l ≠ [] := by
  unfold cleanN render
  split
  · simp
  · split
    · simp
    · assumption
/-! ### Sizes. -/
def weight : List (List UInt8) → Nat
  | [] => 0
  | p :: l => p.length + 1 + weight l
theorem weight_append (a b : List (List UInt8)) : weight (a ++ b) = weight a + weight b := by
  induction a with
  | nil => simp [weight]
  | cons x a ih => simp [weight, ih]; omega
theorem weight_filter (f : List UInt8 → Bool) (l : List (List UInt8)) : weight (l.filter f) ≤ weight l := by
  induction l with
  | nil => simp
  | cons x l ih => rw [List.filter_cons]; split <;> simp [weight] <;> omega
theorem pc_weight (l : List UInt8) : ∀ cur, weight (pc cur l) = cur.length + l.length + 1 := by
  induction l with
  | nil => intro cur; simp [pc, weight]
  | cons c l ih =>
    intro cur
    unfold pc
    split
    · have := ih []; simp [weight] at *; omega
    · have := ih (cur ++ [c]); simp at *; omega
theorem parts_weight (l : List UInt8) : weight (partsN l) ≤ l.length + 1 := by
  have h1 := weight_filter good (pc [] l)
  have h2 := pc_weight l []
  unfold partsN
  simp at h2
  omega
theorem weight_dropLast (l : List (List UInt8)) : weight l.dropLast ≤ weight l := by
  rcases List.eq_nil_or_concat l with rfl | ⟨a, p, rfl⟩
  · simp [weight]
  · rw [List.concat_eq_append, List.dropLast_concat, weight_append]; omega
theorem cstep_weight (whole : Bool) (L : List (List UInt8)) (p : List UInt8) : weight (cstep whole L p) ≤ weight L + (p.length + 1) := by
  unfold cstep
  have h := weight_dropLast L
  have h2 : weight (L ++ [p]) = weight L + (p.length + 1) := by rw [weight_append]; simp [weight]
  split
  · omega
  · split
    · omega
    · split <;> omega
theorem foldl_weight (whole : Bool) (P : List (List UInt8)) : ∀ L, weight (P.foldl (cstep whole) L) ≤ weight L + weight P := by
  induction P with
  | nil => intro L; simp [weight]
  | cons p P ih =>
    intro L
    have h1 := ih (cstep whole L p)
    have h2 := cstep_weight whole L p
    rw [List.foldl_cons]
    simp [weight]
    omega
theorem norm_weight (l : List UInt8) : weight (normL l) ≤ weight (partsN l) := by
  have := foldl_weight (wholeB l) (partsN l) []
  simpa [normL, weight] using this
theorem join_weight (L : List (List UInt8)) (h : L ≠ []) : (joinS L).length + 1 = weight L := by
  induction L with
  | nil => exact absurd rfl h
  | cons p L ih =>
    by_cases hn : L = []
    · subst hn; simp [joinS, weight]
    · have := ih hn
      rw [joinS_cons _ _ hn]
      simp [weight]; omega
theorem join_len (L : List (List UInt8)) : (joinS L).length ≤ weight L := by
  by_cases h : L = []
  · subst h; simp [joinS]
  · have := join_weight L h; omega
theorem clean_len (l : List UInt8) : (cleanN l).length ≤ l.length ∨ cleanN l = [46] := by
  have h1 := norm_weight l
  by_cases hw : wholeB l = true
  · left
    obtain ⟨l', rfl⟩ : ∃ l', l = 47 :: l' := by
      unfold wholeB at hw
      cases l with
      | nil => simp at hw
      | cons c l' => simp at hw; exact ⟨l', by rw [hw]⟩
    have h2 := parts_weight l'
    rw [parts_slash] at h1
    unfold cleanN render
    rw [if_pos hw]
    by_cases hn : normL (47 :: l') = []
    · rw [hn]; simp [joinS]
    · have := join_weight _ hn
      simp; omega
  · have h2 := parts_weight l
    unfold cleanN render
    rw [if_neg hw]
    by_cases hn : normL l = []
    · right; rw [hn]; rfl
    · left
      have h3 := join_weight _ hn
      rw [if_neg (joinS_ne _ (norm_nf l).1 hn)]
      omega
theorem clean_len1 (l : List UInt8) : (cleanN l).length ≤ l.length + 1 := by
  rcases clean_len l with h | h
  · omega
  · rw [h]; simp
end Go.Proofs.YtmppjbimdonfmaaDoor
