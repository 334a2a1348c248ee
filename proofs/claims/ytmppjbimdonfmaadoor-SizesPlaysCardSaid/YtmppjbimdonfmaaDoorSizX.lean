/- Layer 7 (sizes): Parse of the program. -/
import Derived.Test.YtmppjbimdonfmaaDoorSizT
import Derived.Test.YtmppjbimdonfmaaDoorSplQ
namespace Go.Proofs.YtmppjbimdonfmaaDoor
open Go.ChangeShapes Go.WideShapes Go.ChangeAt Go.RowKit Go.Shelf
attribute [local go_sem] Oper.semAt_some

noncomputable def stepF (out : List EntD) (t : List UInt8) : List EntD := match lineO t with | some x => putF out x | none => out
noncomputable def parseL (L : List (List UInt8)) : List EntD := L.foldl stepF []
theorem parseL_snoc (L : List (List UInt8)) (t : List UInt8) : parseL (L ++ [t]) = stepF (parseL L) t := by unfold parseL; rw [List.foldl_append]; rfl
theorem stepF_some {out : List EntD} {t : List UInt8} {x : EntD} (h : lineO t = some x) : stepF out t = putF out x := by unfold stepF; rw [h]
theorem stepF_none {out : List EntD} {t : List UInt8} (h : lineO t = none) : stepF out t = out := by unfold stepF; rw [h]
/-! Rising rows, plain (the lines follow the entries' of layer 11). -/
theorem rise_cons {x : EntD} {l : List EntD} : Rise (x :: l) ↔ (∀ y ∈ l, bl x.1 y.1 = true) ∧ Rise l := List.pairwise_cons
theorem bl_ne {a b : List UInt8} (h : bl a b = true) : a ≠ b := by
  rintro rfl
  rw [bl_irrefl] at h
  cases h
theorem filter_all {l : List EntD} {f : EntD → Bool} (h : ∀ x ∈ l, f x = true) : l.filter f = l := List.filter_eq_self.2 h
theorem filter_none {l : List EntD} {f : EntD → Bool} (h : ∀ x ∈ l, f x = false) : l.filter f = [] := List.filter_eq_nil_iff.2 fun x hx => by rw [h x hx]; simp
def cutP (l : List EntD) (nm : List UInt8) : List EntD := l.take (pos l nm) ++ l.drop (pos l nm + 1)
theorem putP_putF : ∀ (l : List EntD) (x : EntD), Rise l → putP l x = putF l x
  | [], x, _ => by simp [putP, putF, pos, has, lessF, moreF, spl]
  | y :: l, x, hr => by
    have hx := (rise_cons.1 hr).1
    have ih := putP_putF l x (rise_cons.1 hr).2
    rcases bl_tri y.1 x.1 with h | h | h
    · have e1 : pos (y :: l) x.1 = pos l x.1 + 1 := by rw [pos_cons, if_pos (show lt y x.1 = true from h)]
      have e2 : has (y :: l) x.1 = has l x.1 := by simp [has, bl_ne h]
      have e3 : putP (y :: l) x = y :: putP l x := by
        unfold putP
        rw [e1, e2]
        split
        · rw [List.set_cons_succ]
        · unfold spl; rw [List.take_succ_cons, List.drop_succ_cons]; rfl
      rw [e3, ih]
      simp [putF, lessF, moreF, h, bl_asymm h]
    · have e1 : pos (y :: l) x.1 = 0 := by rw [pos_cons, if_neg (by show ¬ bl y.1 x.1 = true; rw [h, bl_irrefl]; simp)]
      have e2 : has (y :: l) x.1 = true := by simp [has, h]
      have e3 : putP (y :: l) x = x :: l := by unfold putP; rw [e1, e2]; simp
      rw [e3]
      rw [h] at hx
      have f1 : lessF l x.1 = [] := filter_none fun z hz => bl_asymm (hx z hz)
      have f2 : moreF l x.1 = l := filter_all fun z hz => hx z hz
      have g1 : lessF (y :: l) x.1 = [] := by unfold lessF at f1 ⊢; rw [List.filter_cons, if_neg (by rw [h, bl_irrefl]; simp), f1]
      have g2 : moreF (y :: l) x.1 = l := by unfold moreF at f2 ⊢; rw [List.filter_cons, if_neg (by rw [h, bl_irrefl]; simp), f2]
      unfold putF
      rw [g1, g2]; rfl
    · have hall : ∀ z ∈ y :: l, bl x.1 z.1 = true := by
        intro z hz
        rcases List.mem_cons.1 hz with rfl | hz
        · exact h
        · exact bl_trans h (hx z hz)
      have e1 : pos (y :: l) x.1 = 0 := by rw [pos_cons, if_neg (by show ¬ bl y.1 x.1 = true; rw [bl_asymm h]; simp)]
      have e2 : has (y :: l) x.1 = false := by
        unfold has
        rw [List.any_eq_false]
        intro z hz
        have := bl_ne (hall z hz)
        simpa using fun e => this e.symm
      have e3 : putP (y :: l) x = x :: y :: l := by unfold putP spl; rw [e1, e2]; simp
      rw [e3]
      have g1 : lessF (y :: l) x.1 = [] := filter_none fun z hz => bl_asymm (hall z hz)
      have g2 : moreF (y :: l) x.1 = y :: l := filter_all hall
      unfold putF
      rw [g1, g2]; rfl
theorem cutP_dropF : ∀ (l : List EntD) (nm : List UInt8), Rise l → has l nm = true → cutP l nm = dropF l nm
  | [], nm, _, h => by simp [has] at h
  | x :: l, nm, hr, hh => by
    have hx := (rise_cons.1 hr).1
    rcases bl_tri x.1 nm with h | h | h
    · have e2 : has l nm = true := by simpa [has, bl_ne h] using hh
      have ih := cutP_dropF l nm (rise_cons.1 hr).2 e2
      have e1 : pos (x :: l) nm = pos l nm + 1 := by rw [pos_cons, if_pos (show lt x nm = true from h)]
      have e3 : cutP (x :: l) nm = x :: cutP l nm := by unfold cutP; rw [e1, List.take_succ_cons, List.drop_succ_cons]; rfl
      rw [e3, ih]
      simp [dropF, bl_ne h]
    · subst h
      have e1 : pos (x :: l) x.1 = 0 := by rw [pos_cons, if_neg (by show ¬ bl x.1 x.1 = true; rw [bl_irrefl]; simp)]
      have e3 : cutP (x :: l) x.1 = l := by unfold cutP; rw [e1]; simp
      rw [e3]
      have f1 : dropF l x.1 = l := filter_all fun y hy => by simpa using fun e => bl_ne (hx y hy) e.symm
      unfold dropF at f1 ⊢
      rw [List.filter_cons, if_neg (by simp), f1]
    · exfalso
      have : ∀ y ∈ x :: l, y.1 ≠ nm := by
        intro y hy
        rcases List.mem_cons.1 hy with rfl | hy
        · exact (bl_ne h).symm
        · exact (bl_ne (bl_trans h (hx y hy))).symm
      unfold has at hh
      obtain ⟨y, hy, he⟩ := List.any_eq_true.1 hh
      exact this y hy (by simpa using he)
theorem rise_filter {l : List EntD} (f : EntD → Bool) (h : Rise l) : Rise (l.filter f) := List.Pairwise.sublist List.filter_sublist h
theorem rise_dropF {l : List EntD} (nm : List UInt8) (h : Rise l) : Rise (dropF l nm) := rise_filter _ h
theorem rise_putF {l : List EntD} (x : EntD) (h : Rise l) : Rise (putF l x) := by
  unfold putF Rise
  rw [List.append_assoc, List.pairwise_append]
  refine ⟨rise_filter _ h, ?_, ?_⟩
  · rw [List.singleton_append, List.pairwise_cons]
    exact ⟨fun y hy => (List.mem_filter.1 hy).2, rise_filter _ h⟩
  · intro a ha b hb
    have h1 : bl a.1 x.1 = true := (List.mem_filter.1 ha).2
    rcases List.mem_cons.1 hb with rfl | hb
    · exact h1
    · exact bl_trans h1 (List.mem_filter.1 hb).2
theorem dropF_not {l : List EntD} {nm : List UInt8} (h : has l nm = false) : dropF l nm = l := filter_all fun x hx => by
  have := List.any_eq_false.1 h x hx
  simpa using this
theorem dropF_len_lt {l : List EntD} {nm : List UInt8} (h : has l nm = true) : (dropF l nm).length < l.length := by
  obtain ⟨y, hy, he⟩ := List.any_eq_true.1 h
  rcases Nat.lt_or_ge (dropF l nm).length l.length with h' | h'
  · exact h'
  · have e : dropF l nm = l := List.Sublist.eq_of_length_le List.filter_sublist h'
    rw [← e] at hy
    have := (List.mem_filter.1 hy).2
    simp at this he
    exact absurd he this
theorem putF_len (l : List EntD) (x : EntD) : (putF l x).length ≤ l.length + 1 := by
  have : ∀ l : List EntD, (lessF l x.1).length + (moreF l x.1).length ≤ l.length := by
    intro l
    induction l with
    | nil => simp [lessF, moreF]
    | cons y l ih =>
      unfold lessF moreF at ih ⊢
      simp only [List.filter_cons]
      by_cases h : bl y.1 x.1 = true
      · rw [if_pos h, if_neg (by rw [bl_asymm h]; simp)]; simp only [List.length_cons]; omega
      · rw [if_neg h]; split <;> simp only [List.length_cons] <;> omega
  have := this l
  unfold putF
  simp only [List.length_append, List.length_singleton]
  omega
theorem dropF_len (l : List EntD) (nm : List UInt8) : (dropF l nm).length ≤ l.length := List.length_filter_le _ _
theorem parseL_rise (L : List (List UInt8)) : Rise (parseL L) := by
  have key : ∀ (L : List (List UInt8)) (out : List EntD), Rise out → Rise (L.foldl stepF out) := by
    intro L
    induction L with
    | nil => intro out h; exact h
    | cons t L ih =>
      intro out h
      refine ih _ ?_
      cases ht : lineO t with
      | none => rw [stepF_none ht]; exact h
      | some x => rw [stepF_some ht]; exact rise_putF x h
  exact key L [] List.Pairwise.nil
theorem parseL_len (L : List (List UInt8)) : (parseL L).length ≤ L.length := by
  have key : ∀ (L : List (List UInt8)) (out : List EntD), (L.foldl stepF out).length ≤ out.length + L.length := by
    intro L
    induction L with
    | nil => intro out; simp
    | cons t L ih =>
      intro out
      have h1 := ih (stepF out t)
      have h2 : (stepF out t).length ≤ out.length + 1 := by
        cases ht : lineO t with
        | none => rw [stepF_none ht]; omega
        | some x => rw [stepF_some ht]; exact putF_len _ _
      simp only [List.foldl_cons, List.length_cons]
      omega
  have := key L []
  unfold parseL; simpa using this
end Go.Proofs.YtmppjbimdonfmaaDoor
