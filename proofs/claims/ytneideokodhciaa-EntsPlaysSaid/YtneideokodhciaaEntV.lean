/- Layer 11 (ents): the document's lists and the code's are the same: plain Lean. -/
import Derived.Test.YtneideokodhciaaEntU
namespace Go.Proofs.Ytneideokodhciaa

theorem rise_cons {x : EntD} {l : List EntD} : Rise (x :: l) ↔ (∀ y ∈ l, bl x.1 y.1 = true) ∧ Rise l := List.pairwise_cons
theorem bl_ne {a b : List UInt8} (h : bl a b = true) : a ≠ b := by
  rintro rfl
  rw [bl_irrefl] at h
  cases h
theorem filter_all {l : List EntD} {f : EntD → Bool} (h : ∀ x ∈ l, f x = true) : l.filter f = l := List.filter_eq_self.2 h
theorem filter_none {l : List EntD} {f : EntD → Bool} (h : ∀ x ∈ l, f x = false) : l.filter f = [] := List.filter_eq_nil_iff.2 fun x hx => by rw [h x hx]; simp
theorem putP_putF : ∀ (l : List EntD) (nm : List UInt8) (no : Int), Rise l → putP l nm no = putF l (nm, no)
  | [], nm, no, _ => by simp [putP, putF, pos, has, lessF, moreF]
  | x :: l, nm, no, hr => by
    have hx := (rise_cons.1 hr).1
    have ih := putP_putF l nm no (rise_cons.1 hr).2
    rcases bl_tri x.1 nm with h | h | h
    · have e1 : pos (x :: l) nm = pos l nm + 1 := by rw [pos_cons, if_pos (show lt x nm = true from h)]
      have e2 : has (x :: l) nm = has l nm := by simp [has, bl_ne h]
      have e3 : putP (x :: l) nm no = x :: putP l nm no := by
        unfold putP
        rw [e1, e2, List.take_succ_cons, show pos l nm + 1 + (if has l nm = true then 1 else 0) = (pos l nm + if has l nm = true then 1 else 0) + 1 by omega, List.drop_succ_cons]
        rfl
      rw [e3, ih]
      simp [putF, lessF, moreF, h, bl_asymm h]
    · subst h
      have e1 : pos (x :: l) x.1 = 0 := by rw [pos_cons, if_neg (by show ¬ bl x.1 x.1 = true; rw [bl_irrefl]; simp)]
      have e2 : has (x :: l) x.1 = true := by simp [has]
      have e3 : putP (x :: l) x.1 no = (x.1, no) :: l := by unfold putP; rw [e1, e2]; simp
      rw [e3]
      have f1 : lessF l x.1 = [] := filter_none fun y hy => bl_asymm (hx y hy)
      have f2 : moreF l x.1 = l := filter_all fun y hy => hx y hy
      have g1 : lessF (x :: l) x.1 = [] := by unfold lessF at f1 ⊢; rw [List.filter_cons, if_neg (by rw [bl_irrefl]; simp), f1]
      have g2 : moreF (x :: l) x.1 = l := by unfold moreF at f2 ⊢; rw [List.filter_cons, if_neg (by rw [bl_irrefl]; simp), f2]
      unfold putF
      rw [g1, g2]; rfl
    · have hall : ∀ y ∈ x :: l, bl nm y.1 = true := by
        intro y hy
        rcases List.mem_cons.1 hy with rfl | hy
        · exact h
        · exact bl_trans h (hx y hy)
      have e1 : pos (x :: l) nm = 0 := by rw [pos_cons, if_neg (by show ¬ bl x.1 nm = true; rw [bl_asymm h]; simp)]
      have e2 : has (x :: l) nm = false := by
        unfold has
        rw [List.any_eq_false]
        intro y hy
        have := bl_ne (hall y hy)
        simpa using fun e => this e.symm
      have e3 : putP (x :: l) nm no = (nm, no) :: x :: l := by unfold putP; rw [e1, e2]; simp
      rw [e3]
      have g1 : lessF (x :: l) nm = [] := filter_none fun y hy => bl_asymm (hall y hy)
      have g2 : moreF (x :: l) nm = x :: l := filter_all hall
      unfold putF
      rw [show (nm, no).1 = nm from rfl, g1, g2]; rfl
theorem cutP_dropF : ∀ (l : List EntD) (nm : List UInt8), Rise l → has l nm = true → cutP l nm = dropF l nm
  | [], nm, _, h => by simp [has] at h
  | x :: l, nm, hr, hh => by
    have hx := (rise_cons.1 hr).1
    rcases bl_tri x.1 nm with h | h | h
    · have e2 : has l nm = true := by simpa [has, bl_ne h] using hh
      have ih := cutP_dropF l nm (rise_cons.1 hr).2 e2
      have e1 : pos (x :: l) nm = pos l nm + 1 := by rw [pos_cons, if_pos (show lt x nm = true from h)]
      have e3 : cutP (x :: l) nm = x :: cutP l nm := by unfold cutP; rw [e1, List.take_succ_cons, List.drop_succ_cons]; rfl
      rw [e3, ih]
      simp [dropF, bl_ne h]
    · subst h
      have e1 : pos (x :: l) x.1 = 0 := by rw [pos_cons, if_neg (by show ¬ bl x.1 x.1 = true; rw [bl_irrefl]; simp)]
      have e3 : cutP (x :: l) x.1 = l := by unfold cutP; rw [e1]; simp
      rw [e3]
      have f1 : dropF l x.1 = l := filter_all fun y hy => by simpa using fun e => bl_ne (hx y hy) e.symm
      unfold dropF at f1 ⊢
      rw [List.filter_cons, if_neg (by simp), f1]
    · exfalso
      have : ∀ y ∈ x :: l, y.1 ≠ nm := by
        intro y hy
        rcases List.mem_cons.1 hy with rfl | hy
        · exact (bl_ne h).symm
        · exact (bl_ne (bl_trans h (hx y hy))).symm
      unfold has at hh
      obtain ⟨y, hy, he⟩ := List.any_eq_true.1 hh
      exact this y hy (by simpa using he)
theorem rise_filter {l : List EntD} (f : EntD → Bool) (h : Rise l) : Rise (l.filter f) := List.Pairwise.sublist List.filter_sublist h
theorem rise_dropF {l : List EntD} (nm : List UInt8) (h : Rise l) : Rise (dropF l nm) := rise_filter _ h
theorem rise_putF {l : List EntD} (x : EntD) (h : Rise l) : Rise (putF l x) := by
  unfold putF Rise
  rw [List.append_assoc, List.pairwise_append]
  refine ⟨rise_filter _ h, ?_, ?_⟩
  · rw [List.singleton_append, List.pairwise_cons]
    exact ⟨fun y hy => (List.mem_filter.1 hy).2, rise_filter _ h⟩
  · intro a ha b hb
    have h1 : bl a.1 x.1 = true := (List.mem_filter.1 ha).2
    rcases List.mem_cons.1 hb with rfl | hb
    · exact h1
    · exact bl_trans h1 (List.mem_filter.1 hb).2
theorem dropF_not {l : List EntD} {nm : List UInt8} (h : has l nm = false) : dropF l nm = l := filter_all fun x hx => by
  have := List.any_eq_false.1 h x hx
  simpa using this
theorem dropF_len_lt {l : List EntD} {nm : List UInt8} (h : has l nm = true) : (dropF l nm).length < l.length := by
  obtain ⟨y, hy, he⟩ := List.any_eq_true.1 h
  rcases Nat.lt_or_ge (dropF l nm).length l.length with h' | h'
  · exact h'
  · have e : dropF l nm = l := List.Sublist.eq_of_length_le List.filter_sublist h'
    rw [← e] at hy
    have := (List.mem_filter.1 hy).2
    simp at this he
    exact absurd he this
theorem putF_len (l : List EntD) (x : EntD) : (putF l x).length ≤ l.length + 1 := by
  have : ∀ l : List EntD, (lessF l x.1).length + (moreF l x.1).length ≤ l.length := by
    intro l
    induction l with
    | nil => simp [lessF, moreF]
    | cons y l ih =>
      unfold lessF moreF at ih ⊢
      simp only [List.filter_cons]
      by_cases h : bl y.1 x.1 = true
      · rw [if_pos h, if_neg (by rw [bl_asymm h]; simp)]; simp only [List.length_cons]; omega
      · rw [if_neg h]; split <;> simp only [List.length_cons] <;> omega
  have := this l
  unfold putF
  simp only [List.length_append, List.length_singleton]
  omega
theorem dropF_len (l : List EntD) (nm : List UInt8) : (dropF l nm).length ≤ l.length := List.length_filter_le _ _
end Go.Proofs.Ytneideokodhciaa
