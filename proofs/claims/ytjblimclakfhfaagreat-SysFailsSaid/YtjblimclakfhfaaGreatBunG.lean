/- A region that draws its order, in which calls change what lies in memory: they come one behind the other (each waits for the one before), so what they find is told by their number; all else yields the same value whenever it comes. One walk of the text's order serves every order. | Two trees in one memory through calls: the program's, the reference's; what else lies there stays. | The reference's Away: a node goes. | Layer 14: the reference's Kill. | Layer 14: the reference's Fill. | Calls' answers as what a mixed world asks. | Layer 20 (attr): Owner, Time. | AttrOne, plain: what three calls on a node leave. | Layer 20 (attr): Fill. | Plain: trees keep growing true through the changes of attributes and bytes. | Plain: the trees of the calls stay true through the changes of attributes and bytes. -/
import Derived.Test.YtjblimclakfhfaaGreatBunC
import Derived.Test.YtjblimclakfhfaaGreatBunD
import Derived.Test.YtjblimclakfhfaaGreatBunF
import Derived.Test.YtjblimclakfhfaaGreatBunE
namespace Go.Proofs.YtjblimclakfhfaaGreat
open Go

section
variable {P : Program} {ops : Array Oper} {md : Region.Mode} {E : Nat → Sem Next → Value → Prop}
/-- Operation i yields v, whatever 'E' says of it. -/
def yieldsE (ops : Array Oper) (E : Nat → Sem Next → Value → Prop) (i : Nat) (o : Oper) (v : Value) (a : Act) : Prop :=
  (Region.wanted o (yielded ops a.tmps) = true ∧ E i (execOp a.eval o) v) ∨ (Region.wanted o (yielded ops a.tmps) = false ∧ v = undef)
def eOp (ops : Array Oper) (E : Nat → Sem Next → Value → Prop) (i : Nat) (K : Act → Prop) (a : Act) : Prop :=
  match ops[i]? with
  | none => K a
  | some o => if Region.wanted o (yielded ops a.tmps) then ∃ v, E i (execOp a.eval o) v ∧ K (a.put o.dst v) else K (a.put o.dst undef)
theorem eOp_mono {i : Nat} {a : Act} {K K' : Act → Prop} (h : ∀ a, K a → K' a) (hh : eOp ops E i K a) : eOp ops E i K' a := by
  unfold eOp at *
  split
  · rename_i ho; rw [ho] at hh; exact h _ hh
  · rename_i o ho
    rw [ho] at hh
    dsimp only at hh
    split
    · rename_i hw; rw [if_pos hw] at hh; obtain ⟨v, h1, h2⟩ := hh; exact ⟨v, h1, h _ h2⟩
    · rename_i hw; rw [if_neg hw] at hh; exact h _ hh
theorem eOp_of {i : Nat} {o : Oper} {v : Value} {a : Act} (hi : ops[i]? = some o) (hy : yieldsE ops E i o v a) {K : Act → Prop} (h : K (a.put o.dst v)) : eOp ops E i K a := by
  unfold eOp
  rw [hi]
  dsimp only
  rcases hy with ⟨hw, hv⟩ | ⟨hw, rfl⟩
  · rw [if_pos hw]; exact ⟨v, hv, h⟩
  · rw [if_neg (by rw [hw]; decide)]; exact h
theorem yields_of_eOp {i : Nat} {o : Oper} {a : Act} {K : Act → Prop} (hi : ops[i]? = some o) (h : eOp ops E i K a) : ∃ v, yieldsE ops E i o v a ∧ K (a.put o.dst v) := by
  unfold eOp at h
  rw [hi] at h
  dsimp only at h
  by_cases hw : Region.wanted o (yielded ops a.tmps) = true
  · rw [if_pos hw] at h; obtain ⟨v, h1, h2⟩ := h; exact ⟨v, .inl ⟨hw, h1⟩, h2⟩
  · rw [if_neg hw] at h; exact ⟨undef, .inr ⟨by simpa using hw, rfl⟩, h⟩
theorem yieldsE_same {i : Nat} {o : Oper} {v : Value} {a a' : Act} (hy : yieldsE ops E i o v a) (he : execOp a'.eval o = execOp a.eval o) (hw : Region.wanted o (yielded ops a'.tmps) = Region.wanted o (yielded ops a.tmps)) : yieldsE ops E i o v a' := by
  unfold yieldsE at *
  rw [he, hw]; exact hy
theorem eOp_put {i j : Nat} {oi oj : Oper} {v : Value} (hj : ops[j]? = some oj) (hap : oi.apart ops oj = true)
    (hsi : ∀ cs b, oi.op ≠ .select cs b) (hsj : ∀ cs b, oj.op ≠ .select cs b) {K : Act → Prop} {a : Act}
    (hy : yieldsE ops E i oi v a) (h : eOp ops E j K (a.put oi.dst v)) : eOp ops E j (fun a' => yieldsE ops E i oi v a' ∧ K (a'.put oi.dst v)) a := by
  obtain ⟨h1, h2, h3⟩ := Oper.apart_spec hap
  have keep : ∀ (a : Act), yieldsE ops E i oi v a → ∀ u, yieldsE ops E i oi v (a.put oj.dst u) := fun a hy u =>
    yieldsE_same hy (execOp_put oi hsi a oj.dst u h3) (wanted_put oi a oj.dst u h3)
  unfold eOp at *
  rw [hj] at h ⊢
  dsimp only at h ⊢
  rw [wanted_put oj a oi.dst v h1, execOp_put oj hsj a oi.dst v h1] at h
  split
  · rename_i hw
    rw [if_pos hw] at h
    obtain ⟨u, hu, hn⟩ := h
    exact ⟨u, hu, keep a hy u, by rw [← Act.put_comm a v u h2]; exact hn⟩
  · rename_i hw
    rw [if_neg hw] at h
    exact ⟨keep a hy _, by rw [← Act.put_comm a v undef h2]; exact h⟩
/-- Whatever order is picked; at the end these have come up. -/
def wpAnyE (md : Region.Mode) (ops : Array Oper) (E : Nat → Sem Next → Value → Prop) (ks : List Nat) (Q : Act → Prop) : Nat → Array Bool → Act → Prop
  | 0, listed, a => Region.ready md ops listed = [] ∧ (∀ k ∈ ks, listed.getD k false = true) ∧ Q a
  | f + 1, listed, a => Region.ready md ops listed ≠ [] ∧ ∀ i ∈ Region.ready md ops listed, eOp ops E i (wpAnyE md ops E ks Q f (listed.setIfInBounds i true)) a
theorem wpAnyE_first {ks : List Nat} {Q : Act → Prop} {i : Nat} {oi : Oper} {v : Value} (hi : ops[i]? = some oi) (hsel : ∀ (j : Nat) (o : Oper) cs b, ops[j]? = some o → o.op ≠ .select cs b) :
    ∀ (fuel : Nat) (listed : Array Bool) (a : Act),
      (∀ j oj, ops[j]? = some oj → j ≠ i → listed.getD j true = false → (∀ e ∈ oj.after, Region.binds md e = true → e.on ≠ i) → oi.apart ops oj = true) →
      i ∈ Region.ready md ops listed → yieldsE ops E i oi v a →
      wpAnyE md ops E ks Q fuel (listed.setIfInBounds i true) (a.put oi.dst v) → wpAnyE md ops E ks Q (fuel + 1) listed a := by
  intro fuel
  induction fuel with
  | zero =>
    intro listed a _ hr hy H
    refine ⟨fun h => (by rw [h] at hr; cases hr), fun j hj => ?_⟩
    by_cases hji : j = i
    · subst hji; exact eOp_of hi hy H
    · have := ready_mono hj hji
      rw [H.1] at this
      cases this
  | succ fuel ih =>
    intro listed a hfree hr hy H
    refine ⟨fun h => (by rw [h] at hr; cases hr), fun j hj => ?_⟩
    by_cases hji : j = i
    · subst hji; exact eOp_of hi hy H
    · have h1 := H.2 j (ready_mono hj hji)
      obtain ⟨hjun, oj, hoj, hall⟩ := mem_ready.1 hj
      have hnot : ∀ e ∈ oj.after, Region.binds md e = true → e.on ≠ i := fun e he hb heq => by
        have h1 := hall e he hb
        have h0 := (mem_ready.1 hr).1
        rw [heq] at h1
        rcases Nat.lt_or_ge i listed.size with h' | h'
        · simp [h'] at h0 h1; rw [h0] at h1; cases h1
        · simp [Array.getElem?_eq_none h'] at h1
      have h2 := eOp_put hoj (hfree j oj hoj hji hjun hnot) (fun cs b => hsel i oi cs b hi) (fun cs b => hsel j oj cs b hoj) hy h1
      have hfree' : ∀ k ok, ops[k]? = some ok → k ≠ i → (listed.setIfInBounds j true).getD k true = false →
          (∀ e ∈ ok.after, Region.binds md e = true → e.on ≠ i) → oi.apart ops ok = true := fun k ok hk hki hun hno => by
        refine hfree k ok hk hki ?_ hno
        by_cases hjk : j = k
        · subst hjk; exact hjun
        · rw [getD_set_ne true hjk] at hun; exact hun
      refine eOp_mono (fun a' h3 => ih (listed.setIfInBounds j true) a' hfree' (ready_mono hr (Ne.symm hji)) h3.1 ?_) h2
      rw [Array.setIfInBounds_comm _ _ hji]
      exact h3.2
/-- The lexical walk. -/
def wpLexE (ops : Array Oper) (E : Nat → Sem Next → Value → Prop) (Q : Act → Prop) : List Oper → Nat → Act → Prop
  | [], _, a => Q a
  | o :: rest, k, a => if Region.wanted o (yielded ops a.tmps) then ∃ v, E k (execOp a.eval o) v ∧ wpLexE ops E Q rest (k + 1) (a.put o.dst v) else wpLexE ops E Q rest (k + 1) (a.put o.dst undef)
theorem wpAnyE_lex {ks : List Nat} {Q : Act → Prop} (hs : Region.noSelect ops = true) (hks : ∀ k ∈ ks, k < ops.size) : ∀ (l : List Oper) (k : Nat) (listed : Array Bool) (a : Act), (∀ j, l[j]? = ops[k + j]?) →
    (∀ j, j < k → j < ops.size → listed.getD j false = true) → listed.size = ops.size → ops.size ≤ k + l.length → Region.lexFrom md ops l.length k listed = true → wpLexE ops E Q l k a → wpAnyE md ops E ks Q l.length listed a
  | [], k, listed, a, _, hdone, _, hm, hB, h => ⟨by simpa [Region.lexFrom] using hB, fun j hj => hdone j (by have := hks j hj; simp at hm; omega) (hks j hj), h⟩
  | o :: l, k, listed, a, hl, hdone, hsz, hm, hB, h => by
    have h0 : ops[k]? = some o := by simpa using (hl 0).symm
    simp only [List.length_cons, Region.lexFrom, Bool.and_eq_true] at hB
    obtain ⟨⟨hr, hf⟩, hB'⟩ := hB
    have hst : eOp ops E k (wpLexE ops E Q l (k + 1)) a := by unfold eOp; rw [h0]; exact h
    obtain ⟨v, hy, hK⟩ := yields_of_eOp h0 hst
    refine wpAnyE_first h0 (Region.noSelect_spec hs) l.length listed a (Region.free_spec h0 hf) (by simpa using hr) hy
      (wpAnyE_lex hs hks l (k + 1) _ _ (fun j => by have := hl (j + 1); simpa [Nat.add_assoc, Nat.add_comm 1 j] using this) ?_ (by simpa using hsz) (by simp only [List.length_cons] at hm; omega) hB' hK)
    intro j hj hjs
    by_cases e : k = j
    · subst e
      have : k < listed.size := by omega
      simp [this]
    · rw [getD_set_ne false e]; exact hdone j (by omega) hjs
end
/-! ### Phases. -/
/-- The place of an operation among those that change memory. -/
def placeOf : List Nat → Nat → Option Nat
  | [], _ => none
  | k :: ks, i => if k = i then some 0 else (placeOf ks i).map (· + 1)
theorem placeOf_some : ∀ {ks : List Nat} {i t : Nat}, placeOf ks i = some t → ks[t]? = some i
  | k :: ks, i, t, h => by
    unfold placeOf at h
    split at h
    · rename_i e; injection h with h; subst h; subst e; rfl
    · cases hp : placeOf ks i with
      | none => rw [hp] at h; cases h
      | some s =>
        rw [hp] at h
        injection h with h
        subst h
        simpa using placeOf_some hp
theorem placeOf_none : ∀ {ks : List Nat} {i : Nat}, placeOf ks i = none → i ∉ ks
  | [], _, _ => by simp
  | k :: ks, i, h => by
    unfold placeOf at h
    split at h
    · cases h
    · rename_i e
      cases hp : placeOf ks i with
      | none => rw [List.mem_cons, not_or]; exact ⟨fun x => e x.symm, placeOf_none hp⟩
      | some s => rw [hp] at h; cases h
/-- A world of some phase; a world of a class. -/
structure Hp (Ph : Nat → World → Prop) where
  j : Nat
  w : World
  h : Ph j w
structure Wc (C : World → Prop) where
  w : World
  h : C w
theorem Hp.all {Ph : Nat → World → Prop} {T : World → Prop} (h : ∀ j w, Ph j w → T w) : ∀ u : Hp Ph, T u.w := fun u => h u.j u.w u.h
/-- An operation that changes memory yields v, and leaves a world of the class. -/
def changeUpon (P : Program) (C : World → Prop) (v : Value) : Result Next → Prop
  | .ok (.value u) w' => u = v ∧ C w'
  | .ok .skip w' => v = undef ∧ C w'
  | .ok (.enter f args) w' => Calls P f args w' (fun e w'' => e = .returned v ∧ C w'')
  | _ => False
/-- What is asked of an operation: a change leads from its own phase to the next; all else yields in every phase, and stays there. -/
def phE (P : Program) (Ph : Nat → World → Prop) (ks : List Nat) (i : Nat) (x : Sem Next) (v : Value) : Prop :=
  match placeOf ks i with
  | some j => ∀ u : Wc (Ph j), changeUpon P (Ph (j + 1)) v (x.run P u.w)
  | none => ∀ u : Hp Ph, Oper.quietUpon P (Ph u.j) u.w v (x.run P u.w)
theorem wp_of_quietUpon {P : Program} {o : Oper} {a : Act} {v : Value} {w : World} {C : World → Prop} {K' : Act → World → Prop} {Q' : Exit → Act → World → Prop} (h1 : Oper.quietUpon P C w v ((execOp a.eval o).run P w)) (hC : C w) (hK : ∀ w'', C w'' → K' (a.put o.dst v) w'') : o.wp P a w K' Q' := by
  unfold Oper.wp
  generalize (execOp a.eval o).run P w = r at *
  cases r with
  | ok n w' =>
    cases n <;> simp only [Oper.quietUpon] at h1 <;> simp only [Oper.upon]
    case value u => obtain ⟨e1, e2⟩ := h1; rw [e1, e2]; exact hK _ hC
    case skip => obtain ⟨e1, e2⟩ := h1; rw [e1, ← e2]; exact hK _ hC
    case enter f args =>
      obtain ⟨e1, hc⟩ := h1
      rw [e1]
      exact hc.mono fun e w'' ⟨he, hw''⟩ => by subst he; exact hK _ hw''
  | halt x w' => simp only [Oper.quietUpon] at h1
theorem wp_of_changeUpon {P : Program} {o : Oper} {a : Act} {v : Value} {w : World} {C : World → Prop} {K' : Act → World → Prop} {Q' : Exit → Act → World → Prop} (h1 : changeUpon P C v ((execOp a.eval o).run P w)) (hK : ∀ w'', C w'' → K' (a.put o.dst v) w'') : o.wp P a w K' Q' := by
  unfold Oper.wp
  generalize (execOp a.eval o).run P w = r at *
  cases r with
  | ok n w' =>
    cases n <;> simp only [changeUpon] at h1 <;> simp only [Oper.upon]
    case value u => obtain ⟨e1, e2⟩ := h1; rw [e1]; exact hK _ e2
    case skip => obtain ⟨e1, e2⟩ := h1; rw [← e1]; exact hK _ e2
    case enter f args => exact h1.mono fun e w'' ⟨he, hw''⟩ => by subst he; exact hK _ hw''
  | halt x w' => simp only [changeUpon] at h1
theorem wpAny_of_E {P : Program} {ops : Array Oper} {md : Region.Mode} {Ph : Nat → World → Prop} {ks : List Nat} {Q : Act → Prop} {Q' : Exit → Act → World → Prop}
    (hch : ∀ t k k', ks[t]? = some k → ks[t + 1]? = some k' → ∃ o, ops[k']? = some o ∧ ∃ e ∈ o.after, Region.binds md e = true ∧ e.on = k)
    (hnd : ks.Nodup) (hg : ∀ k ∈ ks, ∃ o, ops[k]? = some o ∧ o.guard = none) (hQ : ∀ a w, Ph ks.length w → Q a → Q' .normal a w) :
    ∀ (f : Nat) (listed : Array Bool) (a : Act) (w : World) (j : Nat), j ≤ ks.length → (∀ t k, ks[t]? = some k → listed.getD k false = decide (t < j)) → (∀ k ∈ ks, k < listed.size) → Ph j w →
      wpAnyE md ops (phE P Ph ks) ks Q f listed a → wpAny P md ops Q' f listed a w
  | 0, listed, a, w, j, hj, hl, _, hw, ⟨h1, h2, h3⟩ => by
    refine ⟨h1, hQ a w ?_ h3⟩
    rcases Nat.lt_or_ge j ks.length with g | g
    · have e : ks[j]? = some ks[j] := List.getElem?_eq_getElem g
      have h4 := hl j _ e
      rw [h2 _ (List.getElem_mem g)] at h4
      simp at h4
    · have : j = ks.length := by omega
      rw [← this]; exact hw
  | f + 1, listed, a, w, j, hj, hl, hsz, hw, ⟨hne, hall⟩ => by
    refine ⟨fun h0 => absurd h0 hne, fun i hi => ?_⟩
    have hr := hall i hi
    obtain ⟨hun, o, ho, hwait⟩ := mem_ready.1 hi
    have ih := wpAny_of_E (P := P) hch hnd hg hQ f
    unfold eOp at hr
    unfold wpOp
    rw [ho] at hr ⊢
    dsimp only at hr ⊢
    cases hp : placeOf ks i with
    | some t =>
      have hk := placeOf_some hp
      have hki : i ∈ ks := List.mem_of_getElem? hk
      have hlk := hl t i hk
      have hun2 : listed.getD i false = false := by
        have := hsz i hki
        simp [this] at hun ⊢
        exact hun
      rw [hun2] at hlk
      have htj : ¬ t < j := by simpa using hlk.symm
      have hjt : t = j := by
        cases t with
        | zero => omega
        | succ s =>
          have hsl : s + 1 < ks.length := (List.getElem?_eq_some_iff.1 hk).1
          have e : ks[s]? = some ks[s] := List.getElem?_eq_getElem (by omega)
          obtain ⟨o2, ho2, ed, he1, he2, he3⟩ := hch s _ _ e hk
          rw [ho] at ho2
          injection ho2 with ho2
          subst ho2
          have h5 := hwait ed he1 he2
          rw [he3, hl s _ e] at h5
          have : s < j := by simpa using h5
          omega
      subst hjt
      obtain ⟨og, hog, hgn⟩ := hg i hki
      rw [ho] at hog
      injection hog with hog
      subst hog
      have hwn : Region.wanted o (yielded ops a.tmps) = true := by unfold Region.wanted; rw [hgn]
      rw [if_pos hwn] at hr ⊢
      obtain ⟨v, h1, h2⟩ := hr
      unfold phE at h1
      rw [hp] at h1
      left
      have htl : t < ks.length := (List.getElem?_eq_some_iff.1 hk).1
      refine wp_of_changeUpon (h1 ⟨w, hw⟩) fun w'' hw'' => ih _ _ w'' (t + 1) htl (fun s k hs => ?_) (fun k hk2 => by simpa using hsz k hk2) hw'' h2
      by_cases e : i = k
      · subst e
        have : s = t := by
          have h6 := List.getElem?_eq_some_iff.1 hs
          have h7 := List.getElem?_eq_some_iff.1 hk
          obtain ⟨a1, a2⟩ := h6
          obtain ⟨b1, b2⟩ := h7
          exact (List.getElem_inj hnd).1 (a2.trans b2.symm)
        subst this
        have := hsz i hki
        simp [this]
      · rw [getD_set_ne false e, hl s k hs]
        have : s ≠ t := fun e2 => by
          subst e2
          rw [hk] at hs
          injection hs with hs
          exact e hs
        simp
        omega
    | none =>
      have hki := placeOf_none hp
      have hl' : ∀ t k, ks[t]? = some k → (listed.setIfInBounds i true).getD k false = decide (t < j) := fun t k hk => by
        have : i ≠ k := fun e => hki (by rw [e]; exact List.mem_of_getElem? hk)
        rw [getD_set_ne false this]; exact hl t k hk
      have hsz' : ∀ k ∈ ks, k < (listed.setIfInBounds i true).size := fun k hk2 => by simpa using hsz k hk2
      split
      · rename_i hwn
        rw [if_pos hwn] at hr
        obtain ⟨v, h1, h2⟩ := hr
        unfold phE at h1
        rw [hp] at h1
        left
        exact wp_of_quietUpon (h1 ⟨j, w, hw⟩) hw fun w'' hw'' => ih _ _ w'' j hj hl' hsz' hw'' h2
      · rename_i hwn
        rw [if_neg hwn] at hr
        exact ih _ _ w j hj hl' hsz' hw hr
/-- The changes: each waits for the one before; none is guarded. -/
def chainB (l : List Oper) : List Nat → Bool
  | [] => true
  | [k] => (match l[k]? with
    | some o => o.guard == none
    | none => false)
  | k :: k2 :: ks => (match l[k]? with
    | some o => o.guard == none
    | none => false) && (decide (k < k2) && (match l[k2]? with
      | some o2 => o2.after.any (fun e => Region.binds .any e && e.on == k)
      | none => false)) && chainB l (k2 :: ks)
theorem chainB_guard {l : List Oper} : ∀ {ks : List Nat}, chainB l ks = true → ∀ k ∈ ks, ∃ o, l[k]? = some o ∧ o.guard = none
  | [], _, _, h => by cases h
  | [k], h, x, hx => by
    rw [List.mem_singleton] at hx
    subst hx
    unfold chainB at h
    cases ho : l[x]? with
    | none => rw [ho] at h; cases h
    | some o => rw [ho] at h; exact ⟨o, rfl, by simpa using h⟩
  | k :: k2 :: ks, h, x, hx => by
    unfold chainB at h
    simp only [Bool.and_eq_true] at h
    obtain ⟨⟨h1, _⟩, h3⟩ := h
    rcases List.mem_cons.1 hx with rfl | hx
    · cases ho : l[x]? with
      | none => rw [ho] at h1; cases h1
      | some o => rw [ho] at h1; exact ⟨o, rfl, by simpa using h1⟩
    · exact chainB_guard h3 x hx
theorem chainB_after {l : List Oper} : ∀ {ks : List Nat}, chainB l ks = true → ∀ t k k', ks[t]? = some k → ks[t + 1]? = some k' → k < k' ∧ ∃ o, l[k']? = some o ∧ ∃ e ∈ o.after, Region.binds .any e = true ∧ e.on = k
  | [], _, t, k, k', h, _ => by simp at h
  | [x], _, t, k, k', _, h => by simp at h
  | x :: y :: ks, h, t, k, k', h1, h2 => by
    unfold chainB at h
    simp only [Bool.and_eq_true, decide_eq_true_eq] at h
    obtain ⟨⟨_, g1, g2⟩, g3⟩ := h
    cases t with
    | zero =>
      simp at h1 h2
      subst h1
      subst h2
      refine ⟨g1, ?_⟩
      cases ho : l[y]? with
      | none => rw [ho] at g2; cases g2
      | some o =>
        rw [ho] at g2
        simp only [Array.any_eq_true', Bool.and_eq_true, beq_iff_eq] at g2
        obtain ⟨e, a1, a2, a3⟩ := g2
        exact ⟨o, rfl, e, a1, a2, a3⟩
    | succ t => exact chainB_after g3 t k k' (by simpa using h1) (by simpa using h2)
theorem chainB_up {l : List Oper} {ks : List Nat} (h : chainB l ks = true) : ks.Pairwise (· < ·) := by
  induction ks with
  | nil => exact List.Pairwise.nil
  | cons k ks ih =>
    have h2 : chainB l ks = true := by
      cases ks with
      | nil => rfl
      | cons k2 ks => unfold chainB at h; simp only [Bool.and_eq_true] at h; exact h.2
    have hp := ih h2
    refine List.pairwise_cons.2 ⟨fun x hx => ?_, hp⟩
    cases ks with
    | nil => cases hx
    | cons k2 ks =>
      have h0 := (chainB_after h 0 k k2 rfl rfl).1
      rcases List.mem_cons.1 hx with rfl | hx
      · exact h0
      · have := (List.pairwise_cons.1 hp).1 x hx
        omega
/-- A drawn region in which the operations 'ks' change memory. -/
theorem wp_region_phase {P : Program} {id : Nat} {Q : Exit → Act → World → Prop} {a : Act} {w : World} {l : List Oper} (Ph : Nat → World → Prop) (ks : List Nat)
    (hm : P.follows .mixedOrders = true) (hB : Region.lexB .any l.toArray = true) (hc : chainB l ks = true) (hV : Ph 0 w.drew)
    (h : wpLexE l.toArray (phE P Ph ks) (fun a' => ∀ w', Ph ks.length w' → Q .normal a' w') l 0 a) : (Code.region id l.toArray true).wp P Q a w := by
  simp only [Region.lexB, Bool.and_eq_true] at hB
  have hgd := chainB_guard hc
  have hsz : ∀ k ∈ ks, k < l.toArray.size := fun k hk => by
    obtain ⟨o, ho, _⟩ := hgd k hk
    simpa using (List.getElem?_eq_some_iff.1 ho).1
  refine wp_region_any hm ?_
  refine wpAny_of_E (P := P) (Ph := Ph) (ks := ks) (Q := fun a' => ∀ w', Ph ks.length w' → Q .normal a' w') (fun t k k' h1 h2 => ?_) ((chainB_up hc).imp (fun h => Nat.ne_of_lt h)) (fun k hk => ?_) (fun a w h1 h2 => h2 w h1) _ _ a w.drew 0 (Nat.zero_le _) (fun t k hk => ?_) (fun k hk => ?_) hV ?_
  · obtain ⟨o, ho, he⟩ := (chainB_after hc t k k' h1 h2).2
    exact ⟨o, by simpa using ho, he⟩
  · obtain ⟨o, ho, hgn⟩ := hgd k hk
    exact ⟨o, by simpa using ho, hgn⟩
  · have := hsz k (List.mem_of_getElem? hk)
    simp at this
    simp [this]
  · simpa using hsz k hk
  · have := wpAnyE_lex (md := .any) (ks := ks) hB.1 hsz l 0 (Array.replicate l.toArray.size false) a (by simp) (fun j hj => by omega) (by simp) (by simp) (by simpa using hB.2) h
    simpa using this
/-! ### The walk's steps. -/
section
variable {P : Program} {ops : Array Oper} {Ph : Nat → World → Prop} {ks : List Nat} {Q : Act → Prop} {a : Act}
theorem wpLexE_nil {E : Nat → Sem Next → Value → Prop} {k : Nat} (h : Q a) : wpLexE ops E Q [] k a := h
theorem wpLexE_plain {o : Oper} {rest : List Oper} {k : Nat} (hp : placeOf ks k = none)
    (h : ∀ K : Act → Prop, (∀ a, wpLexE ops (phE P Ph ks) Q rest (k + 1) a → K a) → if Region.wanted o (yielded ops a.tmps) then ∃ v, (∀ u : Hp Ph, o.quietAt P a (Ph u.j) u.w v) ∧ K (a.put o.dst v) else K (a.put o.dst undef)) : wpLexE ops (phE P Ph ks) Q (o :: rest) k a := by
  unfold wpLexE
  have := h _ (fun _ h => h)
  unfold phE
  rw [hp]
  exact this
theorem wpLexE_change {o : Oper} {rest : List Oper} {k : Nat} (j : Nat) (hp : placeOf ks k = some j) (hg : o.guard = none)
    (h : ∀ K : Act → Prop, (∀ a, wpLexE ops (phE P Ph ks) Q rest (k + 1) a → K a) → ∃ v, (∀ u : Wc (Ph j), changeUpon P (Ph (j + 1)) v ((execOp a.eval o).run P u.w)) ∧ K (a.put o.dst v)) : wpLexE ops (phE P Ph ks) Q (o :: rest) k a := by
  unfold wpLexE
  have hw : Region.wanted o (yielded ops a.tmps) = true := by unfold Region.wanted; rw [hg]
  rw [if_pos hw]
  have := h _ (fun _ h => h)
  unfold phE
  rw [hp]
  exact this
end
end Go.Proofs.YtjblimclakfhfaaGreat

namespace Go.Proofs.YtjblimclakfhfaaGreat
open Go.ChangeShapes Go.WideShapes Go.ChangeAt Go.RowKit

/-- Since w0, the program's tree has become T, the reference's S; nothing else that lay there has changed. -/
def Mix (w0 : World) (B : Nat) (g : GhW) (f : GhF) (T S : TreeD) (X : Xtra) (w' : World) : Prop :=
  ∃ g' f', GhW.on g' g w0 ∧ GhF.on f' f w0 ∧ WAt w' B g' T ∧ FAt w' B f' S X ∧ Only (g.list ++ f.list) w0 w'
theorem Mix.start {w0 : World} {B : Nat} {g : GhW} {f : GhF} {S T : TreeD} {X : Xtra} (K : WAt w0 B g T) (F : FAt w0 B f S X) : Mix w0 B g f T S X w0 :=
  ⟨g, f, GhW.on_refl g w0, GhF.on_refl f w0, K, F, Only.refl _ _⟩
theorem Mix.ext {w0 w w' : World} {B : Nat} {g : GhW} {f : GhF} {S T : TreeD} {X : Xtra} (h : Mix w0 B g f T S X w) (k : Ext w w') : Mix w0 B g f T S X w' := by
  obtain ⟨g', f', h1, h2, h3, h4, h5⟩ := h
  exact ⟨g', f', h1, h2, h3.ext k, h4.ext k, h5.ext k⟩
theorem Mix.only {w0 w : World} {B : Nat} {g : GhW} {f : GhF} {S T : TreeD} {X : Xtra} (h : Mix w0 B g f T S X w) : Only (g.list ++ f.list) w0 w := by
  obtain ⟨_, _, _, _, _, _, h5⟩ := h; exact h5
theorem Mix.has {w0 w : World} {B b : Nat} {g : GhW} {f : GhF} {S T : TreeD} {X : Xtra} {o : Obj} (h : Mix w0 B g f T S X w) (k : Has w0 b o) (hb : b ∉ g.list ++ f.list) : Has w b o := h.only.has k hb
/-- The program's call. -/
theorem Mix.prog {w0 w w' : World} {B : Nat} {g g1 g2 : GhW} {f f1 : GhF} {S T T' : TreeD} {X : Xtra} (h1 : GhW.on g1 g w0) (h2 : GhF.on f1 f w0) (hK : WAt w B g1 T) (hF : FAt w B f1 S X) (hO : Only (g.list ++ f.list) w0 w)
    (k : WAt w' B g2 T') (o : Only g1.list w w') (hg : GhW.on g2 g1 w) : Mix w0 B g f T' S X w' :=
  ⟨g2, f1, GhW.on_trans h1 hg hO.size, h2, k, FAt.byW hF hK o, hO.trans o (fun x hx => by
    rcases h1.2 x hx with e | e
    · exact .inl (List.mem_append_left _ e)
    · exact .inr e)⟩
/-- The reference's call. -/
theorem Mix.refc {w0 w w' : World} {B : Nat} {g g1 : GhW} {f f1 f2 : GhF} {S T S' : TreeD} {X X' : Xtra} (h1 : GhW.on g1 g w0) (h2 : GhF.on f1 f w0) (hK : WAt w B g1 T) (hF : FAt w B f1 S X) (hO : Only (g.list ++ f.list) w0 w)
    (k : FAt w' B f2 S' X') (o : Only f1.list w w') (hf : GhF.on f2 f1 w) : Mix w0 B g f T S' X' w' :=
  ⟨g1, f2, h1, GhF.on_trans h2 hf hO.size, WAt.byF hK hF o, k, hO.trans o (fun x hx => by
    rcases h2.2 x hx with e | e
    · exact .inl (List.mem_append_right _ e)
    · exact .inr e)⟩
theorem Mix.now {w0 w : World} {B : Nat} {g : GhW} {f : GhF} {S T : TreeD} {X : Xtra} (h : Mix w0 B g f T S X w) : w.cell? ⟨f.bF, 3, none⟩ = some (.int .i64 X.now) := by
  obtain ⟨g1, f1, h1, h2, h3, ⟨_, cn, ce, k, _⟩, h5⟩ := h
  rw [← h2.1]; exact k.cell 3
theorem Mix.last {w0 w : World} {B : Nat} {g : GhW} {f : GhF} {S T : TreeD} {X : Xtra} (h : Mix w0 B g f T S X w) : w.cell? ⟨f.bF, 2, none⟩ = some (.int .i64 S.last) := by
  obtain ⟨g1, f1, h1, h2, h3, ⟨_, cn, ce, k, _⟩, h5⟩ := h
  rw [← h2.1]; exact k.cell 2
theorem Mix.table {w0 w : World} {B : Nat} {g : GhW} {f : GhF} {S T : TreeD} {X : Xtra} (h : Mix w0 B g f T S X w) : ∃ bT, w.cell? ⟨g.bW, 0, none⟩ = some (.pointer (some ⟨bT, 0, none⟩)) ∧ ∃ bM, TAt w B bT bM T.nodes T.last := by
  obtain ⟨g1, f1, h1, h2, ⟨_, k1, cd, k2, _⟩, h4, h5⟩ := h
  rw [← h1.1]; exact ⟨g1.bT, k2.cell 0, g1.bM, k1⟩
theorem Mix.lt {w0 w : World} {B : Nat} {g : GhW} {f : GhF} {S T : TreeD} {X : Xtra} (h : Mix w0 B g f T S X w) : g.bW < w.heap.size ∧ f.bF < w.heap.size := by
  obtain ⟨g1, f1, h1, h2, h3, h4, h5⟩ := h
  rw [← h1.1, ← h2.1]; exact ⟨h3.lt.1, h4.lt.1⟩
theorem Mix.base {w w0 w' : World} {B : Nat} {g : GhW} {f : GhF} {S T : TreeD} {X : Xtra} (h : Mix w0 B g f T S X w') (E : Ext w w0) : Mix w B g f T S X w' := by
  obtain ⟨g1, f1, h1, h2, h3, h4, h5⟩ := h
  have hs := E.size
  refine ⟨g1, f1, ⟨h1.1, fun b hb => ?_⟩, ⟨h2.1, fun b hb => ?_⟩, h3, h4, Only.pre E h5⟩
  · rcases h1.2 b hb with e | e
    · exact .inl e
    · exact .inr (by omega)
  · rcases h2.2 b hb with e | e
    · exact .inl e
    · exact .inr (by omega)
/-- The phases of two calls. -/
def ph2 (C0 C1 C2 : World → Prop) : Nat → World → Prop
  | 0 => C0
  | 1 => C1
  | 2 => C2
  | _ => fun _ => False
theorem ph2_all {C0 C1 C2 T : World → Prop} (h0 : ∀ w, C0 w → T w) (h1 : ∀ w, C1 w → T w) (h2 : ∀ w, C2 w → T w) : ∀ u : Hp (ph2 C0 C1 C2), T u.w := fun u => by
  obtain ⟨j, w, h⟩ := u
  match j, h with
  | 0, h => exact h0 _ h
  | 1, h => exact h1 _ h
  | 2, h => exact h2 _ h
  | j + 3, h => exact h.elim
/-- What lay below the trees' base stays. -/
theorem Mix.after {w1 w0 w : World} {B : Nat} {g : GhW} {f : GhF} {S T S' T' : TreeD} {X X' : Xtra} (h : Mix w0 B g f T S X w) (hE : Ext w1 w0) (hB : w1.heap.size ≤ B) (K : WAt w0 B g T') (F : FAt w0 B f S' X') : Ext w1 w := by
  refine h.only.after hE fun b hb => ?_
  rcases List.mem_append.1 hb with hb | hb
  · have := (K.apart b hb).1; omega
  · have := (F.apart b hb).1; omega
/-- A block that was made behind the trees. -/
theorem Mix.notin {w0 : World} {B b : Nat} {g : GhW} {f : GhF} {S T : TreeD} {X : Xtra} (K : WAt w0 B g T) (F : FAt w0 B f S X) (hb : b < B ∨ (b ∉ g.list ∧ b ∉ f.list)) : b ∉ g.list ++ f.list := by
  intro h
  rcases hb with hb | hb
  · rcases List.mem_append.1 h with h | h
    · have := (K.apart b h).1; omega
    · have := (F.apart b h).1; omega
  · rcases List.mem_append.1 h with h | h
    · exact hb.1 h
    · exact hb.2 h
/-- A block of another type is none of the trees'. -/
theorem WAt.notin {w : World} {B b : Nat} {g : GhW} {S : TreeD} {cs : Array Value} {t : TypeId} {fr : Nat × Nat} (K : WAt w B g S) (h : Has w b (.cells cs t fr)) (h1 : t ≠ 140) (h2 : t ≠ 216) (h3 : t ≠ 227) : b ∉ g.list := by
  obtain ⟨_, ⟨_, _, k2, es, cl, k3, _⟩, cd, k4, k5⟩ := K
  obtain ⟨_, cur, k6⟩ := k5.has
  intro hb
  simp only [GhW.list, List.mem_cons, List.not_mem_nil, or_false] at hb
  unfold Has at *
  rcases hb with rfl | rfl | rfl | rfl
  · rw [h] at k4; injection k4 with k4; injection k4 with _ k4; exact h1 k4
  · rw [h] at k2; injection k2 with k2; injection k2 with _ k2; exact h2 k2
  · rw [h] at k3; injection k3 with k3; cases k3
  · rw [h] at k6; injection k6 with k6; injection k6 with _ k6; exact h3 k6
theorem FAt.notin {w : World} {B b : Nat} {f : GhF} {S : TreeD} {X : Xtra} {cs : Array Value} {t : TypeId} {fr : Nat × Nat} (F : FAt w B f S X) (h : Has w b (.cells cs t fr)) (h1 : t ≠ 43) (h2 : t ≠ 87) (h3 : t ≠ 161) : b ∉ f.list := by
  obtain ⟨_, cn, ce, k2, ⟨xs, k3, _⟩, k4⟩ := F
  obtain ⟨_, cur1, k5⟩ := ownsRow_has k3
  obtain ⟨_, cur2, k6⟩ := ownsRow_has k4
  intro hb
  simp only [GhF.list, List.mem_cons, List.not_mem_nil, or_false] at hb
  unfold Has at *
  rcases hb with rfl | rfl | rfl
  · rw [h] at k2; injection k2 with k2; injection k2 with _ k2; exact h1 k2
  · rw [h] at k5; injection k5 with k5; injection k5 with _ k5; exact h2 k5
  · rw [h] at k6; injection k6 with k6; injection k6 with _ k6; exact h3 k6
end Go.Proofs.YtjblimclakfhfaaGreat

namespace Go.Proofs.YtjblimclakfhfaaGreat
open Go.ChangeShapes Go.WideShapes Go.ChangeAt Go.RowKit

theorem NodeXs.nil (w : World) (B : Nat) : NodeXs w B [] [] := ⟨rfl, fun k h => by cases h⟩
/-- A row of a higher base is one of a lower base. -/
theorem ownsRow_base {w : World} {B B' size n : Nat} {e : TypeId} {v : Value} {xs : List Value} (h : w.ownsRow B' e size v n xs) (hb : B ≤ B') : w.ownsRow B e size v n xs := by
  refine ⟨h.1, ?_⟩
  rcases h.2 with h | ⟨g, cap, cur, h1, h2, h3⟩
  · exact .inl h
  · exact .inr ⟨g, cap, cur, h1, by omega, h3⟩
theorem drop_snoc {ns : List NodeD} {k : Nat} (hk : k < ns.length) (no : Int) : dropN (ns.take (k + 1)) no = dropN (ns.take k) no ++ (if ns[k].no == no then [] else [ns[k]]) := by
  unfold dropN
  rw [List.take_succ_eq_append_getElem hk, List.filter_append, List.filter_cons, List.filter_nil]
  cases (ns[k].no == no) <;> rfl
def AwayR (w : World) (B : Nat) (g : GhF) (S : TreeD) (X : Xtra) (no : Int) (e : Ending) (w' : World) : Prop :=
  e = .returned (.tuple #[]) ∧ ∃ bN, FAt w' B ⟨g.bF, bN, g.bE⟩ ⟨dropN S.nodes no, S.devs, S.last⟩ X ∧ Only [g.bF] w w' ∧ w.heap.size ≤ bN
set_option maxRecDepth 100000 in
set_option maxHeartbeats 4000000 in
theorem raway_any (B : Nat) (g : GhF) (S : TreeD) (X : Xtra) (no : Int) (w : World) (h : FAt w B g S X) (hnl : S.nodes.length ≤ 100000) (hne : dropN S.nodes no ≠ []) (hBw : B ≤ w.heap.size) :
    Calls Tryz.prog 216 #[.pointer (some ⟨g.bF, 0, none⟩), .int .i64 no] w (AwayR w B g S X no) := by
  have h0 := h
  obtain ⟨h1, cn, ce, h2, ⟨xs, h3, h5⟩, h4⟩ := h
  have c0 : w.cell? ⟨g.bF, 0, none⟩ = some (.slice (some ⟨g.bN, 0, none⟩) S.nodes.length cn) := h2.cell 0
  have f0 : w.frozen? ⟨g.bF, 0, none⟩ = false := h2.free 0
  have zF := h2.lt
  obtain ⟨ns, hns⟩ : ∃ ns, ns = S.nodes := ⟨_, rfl⟩
  rw [← hns] at c0 h3 h5 hnl hne
  obtain ⟨n, hn⟩ : ∃ n, n = ns.length := ⟨_, rfl⟩
  rw [← hn] at c0 hnl
  have HN := Lib.hid hn
  have HNE := Lib.hid hne
  clear hn hne
  obtain ⟨i0, hi, hz0, hz1, hz2⟩ := info_parts infoNode
  go_enter Tryz.func216, Tryz.ntmps216
  go_wp2_with fail
  go_loopw [4, 5] (fun u i wr => ∃ k : Nat, k ≤ n ∧ i = .int .i64 k ∧ (∃ ys, wr.ownsRow w.heap.size 87 12 u (dropN (ns.take k) no).length ys ∧ NodeXs wr B ys (dropN (ns.take k) no)) ∧ Ext w wr) (fun _ i _ => n - (intOf i).toNat)
  case atStart => exact ⟨0, Nat.zero_le _, rfl, ⟨[], ⟨rfl, .inl ⟨rfl, rfl⟩⟩, NodeXs.nil _ _⟩, Ext.refl _⟩
  case round =>
    obtain ⟨k, hk, rfl, ⟨ys, hown, hys⟩, hE⟩ := hrel
    have q0 : wr.cell? ⟨g.bF, 0, none⟩ = some (.slice (some ⟨g.bN, 0, none⟩) n cn) := (hE.cell zF).trans c0
    have qz : g.bF < wr.heap.size := by have := hE.size; omega
    have hdl : (dropN (ns.take k) no).length ≤ k := by
      have a1 : (dropN (ns.take k) no).length ≤ (ns.take k).length := List.length_filter_le ..
      rw [List.length_take] at a1
      omega
    by_cases hlt : (k : Int) < n
    · have hkl : k < ns.length := by have := HN.out; omega
      have hs := drop_snoc hkl no
      have h3r : wr.ownsRow B 87 12 (.slice (some ⟨g.bN, 0, none⟩) ns.length cn) ns.length xs := by
        exact ownsRow_only h3 (Only.of_ext (L := []) hE) (by simp)
      obtain ⟨A, c, ok, hr⟩ := NodeXs.range h3r (h5.only (Only.of_ext (L := []) hE) (fun b hb => by cases hb)) k hkl
      generalize ns[k] = z at ok hr hs
      obtain ⟨d0, d1, d2, d3, d4, d5, d6, d7, d8, d9, d10, d11⟩ := range12 hr
      have hN : g.bN < wr.heap.size := by have := h0.lt.2.1; have := hE.size; omega
      have y1 : (0 : Int) ≤ (k : Int) := Int.natCast_nonneg _
      obtain ⟨P, hP⟩ : ∃ P, P = dropN (ns.take k) no := ⟨_, rfl⟩
      rw [← hP] at hown hys hs hdl
      cases hq : (z.no == no)
      · have t1 : (z.no != no) = true := by unfold bne; rw [hq]; rfl
        rw [hq] at hs
        have hs2 : Hid (dropN (ns.take (k + 1)) no = P ++ [z]) := by show _ = _; rw [hs]; rfl
        clear hs hq hP
        go_wp2_with (at_builtin; refine wpList_append_own _ rfl _ _ 40 rfl w.heap.size 87 i0 (.agg #[.int .i64 0, .int .i64 0, .int .i64 0, .int .i64 0, .int .i64 0, .int .i64 0, .int .i64 0, .int .i64 0, .int .i64 0, .int .i64 0, .string ⟨#[]⟩, .slice none 0 0]) 12 120 Tryz.underlying40 hi hz0 hz1 hz2 rfl (by decide) _ _ _ rfl (hown.alloc _) ⟨wr.heap.size, 0, none⟩ 1 1 (nodeL z A c) rfl rfl (World.news_of_block (cs := (nodeL z A c).toArray) (t := 87) (fr := (0, 0)) (heap_alloc_new wr _)) (nodeL_one z A c) (by unfold maxLen; omega) (by omega) (by have := hE.size; simp; omega) ?_)
        intro v' w2 hown2 hgrow _
        have hE2 : Ext w w2 := (hE.alloc _).grown hgrow (fun g hv => (hown.lt g hv).1)
        have O2 := Only.pre ((Ext.refl wr).alloc _) (Only.grown hgrow)
        have aN := Apart.row (ownsRow_base hown hBw) (by decide : 87 ≠ 213)
        have hys2 := (hys.only O2 aN).add (ok.only O2 aN)
        have hlen : P.length + 1 = (P ++ [z]).length := by simp
        rw [hlen] at hown2
        have HO2 : Hid (∃ ys, w2.ownsRow w.heap.size 87 12 v' (P ++ [z]).length ys ∧ NodeXs w2 B ys (P ++ [z])) := ⟨_, hown2, hys2⟩
        clear hown2 hgrow hown hys hys2 hlen d0 d1 d2 d3 d4 d5 d6 d7 d8 d9 d10 d11 q0 qz
        go_wp2_with fail
        go_roundw
        case rel => exact ⟨k + 1, by omega, by go_num, by rw [hs2.out]; exact HO2.out, hE2⟩
        case measure => simp [intOf]; omega
      · have t1 : (z.no != no) = false := by unfold bne; rw [hq]; rfl
        rw [hq] at hs
        have hs2 : Hid (dropN (ns.take (k + 1)) no = P) := by show _ = _; rw [hs]; simp
        clear hs hq hP
        go_wp2_with fail
        go_roundw
        case rel => exact ⟨k + 1, by omega, by go_num, by rw [hs2.out]; exact ⟨ys, hown, hys⟩, hE⟩
        case measure => simp [intOf]; omega
    · have hkn : k = n := by omega
      have hf : Hid (dropN (ns.take k) no = dropN ns no) := by show _ = _; rw [hkn, HN.out, List.take_length]
      have f0' : wr.frozen? ⟨g.bF, 0, none⟩ = false := (hE.frozen zF).trans f0
      rw [hf.out] at hown hys
      have HOWN := hown
      rcases hown.2 with ⟨_, hz⟩ | ⟨bN, cap, cur, rfl, hb1, _⟩
      · exact absurd (List.eq_nil_of_length_eq_zero hz) HNE.out
      obtain ⟨m, hm⟩ : ∃ m, m = (dropN ns no).length := ⟨_, rfl⟩
      rw [← hm] at hown ⊢
      have HM := Lib.hid hm
      have HB1 := Lib.hid hb1
      clear hm hb1 hf hkn
      go_wp2_with fail
      go_end0
      obtain ⟨w5, hw5⟩ : ∃ w5, w5 = wr.setCell ⟨g.bF, 0, none⟩ (.slice (some ⟨bN, 0, none⟩) m cap) := ⟨_, rfl⟩
      rw [← hw5]
      have Fr := h2.ext hE
      have O5 : Only [g.bF] wr w5 := by rw [hw5]; exact Only.setCell _ _ _ _
      have F5 : Has w5 g.bF (.cells #[.slice (some ⟨bN, 0, none⟩) m cap, .slice (some ⟨g.bE, 0, none⟩) S.devs.length ce, .int .i64 S.last, .int .i64 X.now, X.count, X.plan, X.dead] 43) := by rw [hw5]; exact Fr.setCell 0 _
      have hgb : bN ≠ g.bF := fun e => row_ne HOWN Fr (by decide) (by rw [e]; rfl)
      have a5 : Apart wr B [g.bF] := Apart.cons (fun x hx => by cases hx) h1 (Fr.noTag (by decide))
      have hde : g.bE ≠ g.bF := (h0.ne.2.1).symm
      refine ⟨rfl, bN, ⟨h1, cap, ce, ?_, ⟨ys, ?_, ?_⟩, ?_⟩, Only.pre hE O5, HB1.out⟩
      · rw [← hns, ← HM.out]; exact F5
      · rw [← hns]
        exact ownsRow_only (ownsRow_base HOWN hBw) O5 (fun g hg => by simp [Value.ownBlock] at hg; subst hg; simpa using hgb)
      · rw [← hns]; exact hys.only O5 a5
      · exact ownsRow_only (ownsRow_only h4 (Only.of_ext (L := []) hE) (by simp)) O5 (fun g hg => by simp [Value.ownBlock] at hg; subst hg; simpa using hde)
end Go.Proofs.YtjblimclakfhfaaGreat

namespace Go.Proofs.YtjblimclakfhfaaGreat
open Go.ChangeShapes Go.WideShapes Go.ChangeAt Go.RowKit

def KillF (w : World) (B : Nat) (g : GhF) (S : TreeD) (X : Xtra) (no : Int) (e : Ending) (w' : World) : Prop :=
  e = .returned (.bool (killB S no)) ∧ ∃ g', FAt w' B g' (killT S no) X ∧ GhF.on g' g w ∧ Only g.list w w'
theorem killF_no {w w' : World} {B : Nat} {g : GhF} {S : TreeD} {X : Xtra} {no : Int} (h : FAt w B g S X) (hE : Ext w w') (hk : killB S no = false) : KillF w B g S X no (.returned (.bool false)) w' :=
  ⟨by rw [hk], g, by unfold killT; rw [hk]; exact h.ext hE, ⟨rfl, fun b hb => .inl hb⟩, Only.of_ext hE⟩
set_option maxRecDepth 100000 in
set_option maxHeartbeats 8000000 in
theorem rkill_any (B : Nat) (g : GhF) (S : TreeD) (X : Xtra) (no : Int) (w : World) (h : FAt w B g S X) (hnl : S.nodes.length ≤ 100000) (hd2 : S.devs.length ≤ 8) (hr : RootsOk S.devs) (hu : NosUp S.nodes S.last) (hdv : OnDev S) (hne : killB S no = true → dropN S.nodes no ≠ []) (_hBw : B ≤ w.heap.size) :
    Calls Tryz.prog 183 #[.pointer (some ⟨g.bF, 0, none⟩), .int .i64 no] w (KillF w B g S X no) := by
  have hm : Hid (killB S no = (isN S.nodes no && !(rootF S.devs (getN S.nodes no).dev == no))) := by show _ = _; rfl
  have HNE := Lib.hid hne
  clear hne
  go_enter Tryz.func183, Tryz.ntmps183
  go_wp2_with fail
  refine (rget_any B g S X no _ h (by omega) hu).mono ?_
  rintro e w2 ⟨A, c, rfl, ok2, b2⟩
  have hmem : isN S.nodes no = true → (getN S.nodes no).no = no ∧ 1 ≤ no ∧ hasD S.devs (getN S.nodes no).dev = true ∧ (getN S.nodes no).data.length ≤ 1048576 := fun hi => ⟨(isN_true hi).2.1, by have := (hu.2 _ (isN_true hi).2.2).1; rw [(isN_true hi).2.1] at this; exact this, hdv _ (isN_true hi).2.2⟩
  have hzer : isN S.nodes no = false → (getN S.nodes no).no = 0 := fun hi => by rw [(isN_false hi).1]; rfl
  obtain ⟨n, hn⟩ : ∃ n, n = getN S.nodes no := ⟨_, rfl⟩
  obtain ⟨i, hi⟩ : ∃ i, i = isN S.nodes no := ⟨_, rfl⟩
  rw [← hn] at ok2 hm hmem hzer
  rw [← hi] at hm hmem hzer
  rw [← hn]
  obtain ⟨W3, hW3⟩ : ∃ W3, W3 = w2.alloc (.cells #[.int .i64 n.no, .int .i64 n.dev, .int .i64 n.kind, .int .i64 n.mode, .int .i64 n.uid, .int .i64 n.gid, .int .i64 n.mtime, .int .i64 n.ctime, .int .i64 n.links, .int .i64 n.up, .string (bs n.data), .slice A n.ents.length c] 87) := ⟨_, rfl⟩
  obtain ⟨b7, hb7⟩ : ∃ b, b = w2.heap.size := ⟨_, rfl⟩
  have R3 : Has W3 b7 (.cells #[.int .i64 n.no, .int .i64 n.dev, .int .i64 n.kind, .int .i64 n.mode, .int .i64 n.uid, .int .i64 n.gid, .int .i64 n.mtime, .int .i64 n.ctime, .int .i64 n.links, .int .i64 n.up, .string (bs n.data), .slice A n.ents.length c] 87) := by rw [hW3, hb7]; exact Has.new _ _
  have E3 : Ext w W3 := b2.trans (by rw [hW3]; exact (Ext.refl _).alloc _)
  have hwb : w.heap.size ≤ b7 := by have := b2.size; omega
  have HN := Lib.hid hn
  have HI := Lib.hid hi
  have HM := Lib.hid hmem
  have HZ0 := Lib.hid hzer
  have HWB := Lib.hid hwb
  clear hn hi hmem hzer
  go_upto_region 2 with fail
  rw [← hW3]
  rw [← hb7]
  clear hW3 hb7
  have k0 : W3.cell? ⟨b7, 0, none⟩ = some (.int .i64 n.no) := R3.cell 0
  have k1 : W3.cell? ⟨b7, 1, none⟩ = some (.int .i64 n.dev) := R3.cell 1
  have kz := R3.lt
  cases i
  · have hE : Hid (killB S no = false) := by show _ = _; rw [hm.out]; rfl
    have t0 : (n.no == 0) = true := by simpa using HZ0.out rfl
    clear hm
    go_wp2_with fail
    go_ret
    exact killF_no h E3 hE.out
  · obtain ⟨hno, hno1, hdev, hdata⟩ := HM.out rfl
    have t0 : (n.no == 0) = false := by rw [hno]; simpa using (show ¬ no = 0 by omega)
    clear hno
    go_wp2_with fail
    refine (rroot_any B g S X n.dev _ (h.ext E3) (by omega)).mono ?_
    rintro e w3' ⟨rfl, b3'⟩
    have R3' := R3.ext b3'
    have E3' := E3.trans b3'
    clear k0 k1 kz t0
    by_cases hrt : rootF S.devs n.dev = no
    · have tr : (rootF S.devs n.dev == no) = true := by simpa using hrt
      have hE : Hid (killB S no = false) := by show _ = _; rw [hm.out, tr]; rfl
      clear hrt hm
      go_wp2_with fail
      go_ret
      exact killF_no h E3' hE.out
    have tr : (rootF S.devs n.dev == no) = false := by simpa using hrt
    have hE : Hid (killB S no = true) := by show _ = _; rw [hm.out, tr]; rfl
    have hroot := rootF_zero hr n.dev
    rcases hroot with ⟨_, e2⟩ | ⟨k, hk, e1, _, e3, _, _, e6⟩
    · rw [e2] at hdev; cases hdev
    obtain ⟨bl, hbl⟩ : ∃ bl, bl = blocksF n.kind n.data.length := ⟨_, rfl⟩
    have hb0 := blocks_bd (k := n.kind) (s := n.data.length) (by omega) (by omega)
    rw [← hbl] at hb0
    obtain ⟨q, hq⟩ : ∃ q, q = S.devs[k].q := ⟨_, rfl⟩
    rw [← hq] at e6
    have inr : inR (-bl) (-1) := ⟨by omega, by omega, by omega, by omega⟩
    have HB := Lib.hid hbl
    have HQ := Lib.hid hq
    have H3 := Lib.hid e3
    have HD := Lib.hid e1
    have hsz : ((bs n.data).size : Int) = n.data.length := by rw [bs_size]
    have y0 : (0 : Int) ≤ n.dev - 1 := by rw [e1]; omega
    have y1 : n.dev - 1 < (S.devs.length : Int) := by rw [e1]; omega
    have y2 : (n.dev - 1).toNat = k := by rw [e1]; omega
    have y3 : IntKind.i64.wrap (n.dev - 1) = n.dev - 1 := wrap_i64_in (by omega) (by omega)
    have y4 : 1 ≤ n.dev := by omega
    have y5 : n.dev.toNat - 1 = k := by omega
    clear hm hdev hbl hq e3 e1 hrt
    go_upto_region 4 with fail
    obtain ⟨h1, cn, cd, h3, hN, h4⟩ := id (h.ext E3')
    have hl := h.lt
    obtain ⟨_, _, d2, d3, d4, d5⟩ := RowD.at_ h4 k hk
    rw [← HQ.out] at d2 d3 d4 d5
    have y6 : IntKind.i64.wrap (-bl) = -bl := wrap_i64_in (by omega) (by omega)
    have hbd : g.bE < w3'.heap.size := by have := E3'.size; omega
    have zF := h3.lt
    go_cut [6] (fun p wc => ∃ bx, p = .pointer (some ⟨bx, 0, none⟩) ∧ Has wc bx (.cells #[.int .i64 (takeQ q (-bl) (-1)).blocks, .int .i64 (takeQ q (-bl) (-1)).nodes, .int .i64 (takeQ q (-bl) (-1)).mostB, .int .i64 (takeQ q (-bl) (-1)).mostN] 159) ∧ Ext w3' wc ∧ w3'.heap.size ≤ bx)
    case first =>
      have K0 : Hid (∀ w : World, Calls Tryz.prog 192 #[.int .i64 n.kind, .int .i64 n.data.length] w (fun e w' => e = .returned (.int .i64 bl) ∧ w' = w)) := by
        show ∀ w : World, _
        intro w; rw [HB.out]; exact rblocks_same n.kind n.data.length (by omega) (by omega) w
      have KT : Hid (∀ w : World, Calls Tryz.prog 191 #[.agg #[.int .i64 q.blocks, .int .i64 q.nodes, .int .i64 q.mostB, .int .i64 q.mostN], .int .i64 (-bl), .int .i64 (-1)] w (Ret w (.tuple #[.agg #[.int .i64 (takeQ q (-bl) (-1)).blocks, .int .i64 (takeQ q (-bl) (-1)).nodes, .int .i64 (takeQ q (-bl) (-1)).mostB, .int .i64 (takeQ q (-bl) (-1)).mostN], .int .i64 (takeE q (-bl) (-1))]))) := rtake_any q (-bl) (-1) e6 inr
      have u0 : ∀ u : Gr w3', u.w.cell? ⟨g.bF, 1, none⟩ = some (.slice (some ⟨g.bE, 0, none⟩) S.devs.length cd) := Gr.cell zF (h3.cell 1)
      have u1 : ∀ u : Gr w3', u.w.cell? ⟨b7, 1, none⟩ = some (.int .i64 n.dev) := Gr.cell R3'.lt (R3'.cell 1)
      have u2 : ∀ u : Gr w3', u.w.cell? ⟨b7, 2, none⟩ = some (.int .i64 n.kind) := Gr.cell R3'.lt (R3'.cell 2)
      have u10 : ∀ u : Gr w3', u.w.cell? ⟨b7, 10, none⟩ = some (.string (bs n.data)) := Gr.cell R3'.lt (R3'.cell 10)
      have t2 : ∀ u : Gr w3', u.w.cell? ⟨g.bE, k * 6 + 2, none⟩ = some (.int .i64 q.blocks) := Gr.cell hbd d2
      have t3 : ∀ u : Gr w3', u.w.cell? ⟨g.bE, k * 6 + 3, none⟩ = some (.int .i64 q.nodes) := Gr.cell hbd d3
      have t4 : ∀ u : Gr w3', u.w.cell? ⟨g.bE, k * 6 + 4, none⟩ = some (.int .i64 q.mostB) := Gr.cell hbd d4
      have t5 : ∀ u : Gr w3', u.w.cell? ⟨g.bE, k * 6 + 5, none⟩ = some (.int .i64 q.mostN) := Gr.cell hbd d5
      clear d2 d3 d4 d5 h4 R3' E3'
      refine wp_region_space w3' 21 22 6 41 (takeQ q (-bl) (-1)) _ _ (by kernel_rfl) (by kernel_rfl) rfl rfl rfl rfl (by simp) ((Ext.refl _).drew) ?_
      simp only [List.take_succ_cons, List.take_zero, List.drop_succ_cons, List.drop_zero, List.drop_nil]
      repeat (refine wpQuietR_step (fun K hK => ?_)
              go_simp
              first
                | (refine hK _ ?_; clear hK K)
                | (apply Exists.intro
                   refine ⟨fun u => ?_, hK _ ?_⟩
                   first
                     | ((with_reducible refine (K0.out _).mono ?_); rintro e w'' ⟨rfl, rfl⟩; exact ⟨rfl, Ext.refl _⟩)
                     | ((with_reducible refine (KT.out _).mono ?_); rintro e w'' ⟨rfl, hx⟩; exact ⟨rfl, hx⟩)
                   clear hK K))
      refine wpQuietR_nil ?_
      refine wpQuietR_nil ⟨rfl, ?_⟩
      refine wpQuietR_step (fun K hK => ?_)
      go_simp
      refine hK _ ?_
      clear hK K
      refine wpQuietR_nil ?_
      intro w' bx hx hbx hb
      simp only [Act.put]
      go_wp2_with fail
      go_meet
      exact ⟨bx, rfl, hb, hx, hbx⟩
    case rest =>
    obtain ⟨bx, rfl, XB, E5, hbx⟩ := hcut
    obtain ⟨W5, hW5⟩ : ∃ W5, W5 = wc := ⟨_, rfl⟩
    rw [← hW5] at XB E5 ⊢
    have EW5 := E3'.trans E5
    have R5 := R3'.ext E5
    have K5 := h.ext EW5
    have s5 := EW5.size
    clear hW5 d2 d3 d4 d5
    obtain ⟨_, cn5, cd5, hF5, hN5, hD5⟩ := id K5
    have c1 : W5.cell? ⟨g.bF, 1, none⟩ = some (.slice (some ⟨g.bE, 0, none⟩) S.devs.length cd5) := hF5.cell 1
    have cW := hF5.lt
    have x1 : W5.cell? ⟨b7, 1, none⟩ = some (.int .i64 n.dev) := R5.cell 1
    have xz2 := R5.lt
    have q0 : W5.cell? ⟨bx, 0, none⟩ = some (.int .i64 (takeQ q (-bl) (-1)).blocks) := XB.cell 0
    have q1 : W5.cell? ⟨bx, 1, none⟩ = some (.int .i64 (takeQ q (-bl) (-1)).nodes) := XB.cell 1
    have q2 : W5.cell? ⟨bx, 2, none⟩ = some (.int .i64 (takeQ q (-bl) (-1)).mostB) := XB.cell 2
    have q3 : W5.cell? ⟨bx, 3, none⟩ = some (.int .i64 (takeQ q (-bl) (-1)).mostN) := XB.cell 3
    have qz := XB.lt
    have hD2 : W5.ownsRow B 161 6 (.slice (some ⟨g.bE, 0, none⟩) S.devs.length cd5) S.devs.length (devCells S.devs) := hD5
    obtain ⟨_, _, d2, d3, d4, d5⟩ := RowD.at_ hD5 k hk
    have hdz := K5.lt.2.2
    have f2 := hD2.frozenAt (k * 6 + 2)
    have f3 := hD2.frozenAt (k * 6 + 3)
    have f4 := hD2.frozenAt (k * 6 + 4)
    have f5 := hD2.frozenAt (k * 6 + 5)
    go_upto_region 5 with fail
    go_cut [] (fun wc => Only [g.bE] W5 wc ∧ wc.ownsRow B 161 6 (.slice (some ⟨g.bE, 0, none⟩) S.devs.length cd5) S.devs.length (devCells (setQ S.devs ((k : Int) + 1) (takeQ q (-bl) (-1)))))
    case first =>
      go_still_tail 10, (by kernel_rfl)
      change wpList _ _ _ _ _ W5.drew
      go_wp2_with fail
      go_meet
      have hD2' : W5.drew.ownsRow B 161 6 (.slice (some ⟨g.bE, 0, none⟩) S.devs.length cd5) S.devs.length (devCells S.devs) := ownsRow_only hD2 (Only.of_ext (L := []) ((Ext.refl _).drew)) (by simp)
      refine ⟨(Only.of_ext ((Ext.refl W5).drew)).then ((((Only.setCell _ _ _ _).then (Only.setCell _ _ _ _)).then (Only.setCell _ _ _ _)).then (Only.setCell _ _ _ _)), ?_⟩
      rw [← devCells_setQ S.devs k hk]
      exact (World.ownsRow.stored (World.ownsRow.stored (World.ownsRow.stored (World.ownsRow.stored hD2' (k * 6 + 2) _).1 (k * 6 + 3) _).1 (k * 6 + 4) _).1 (k * 6 + 5) _).1
    case rest =>
    obtain ⟨O6, D6⟩ := hcut
    obtain ⟨W6, hW6⟩ : ∃ W6, W6 = wc := ⟨_, rfl⟩
    rw [← hW6] at O6 D6 ⊢
    have K5a := K5.apart
    obtain ⟨m1, m2, m3⟩ := K5.ne
    have H6 := O6.has hF5 (by simpa using m2)
    have N6 : RowN W6 B (.slice (some ⟨g.bN, 0, none⟩) S.nodes.length cn5) S.nodes := by
      obtain ⟨xs, k1, k2⟩ := hN5
      refine ⟨xs, ownsRow_only k1 O6 (fun x hx => ?_), k2.only O6 (K5a.sub (by simp))⟩
      injection hx with hx
      subst hx
      simpa using m3
    have K6 : FAt W6 B g ⟨S.nodes, setQ S.devs n.dev (takeQ q (-bl) (-1)), S.last⟩ X := by
      refine ⟨h.1, cn5, cd5, ?_, N6, ?_⟩
      · simpa [setQ_len] using H6
      · unfold RowD
        simp only [setQ_len]
        rw [HD.out]; exact D6
    have a6 : Only g.list w W6 := Only.pre EW5 (O6.mono (by simp))
    have s6 := a6.size
    clear hW6 q0 q1 q2 q3 d2 d3 d4 d5 f2 f3 f4 f5 c1 x1
    go_wp2_with fail
    refine (raway_any B g ⟨S.nodes, setQ S.devs n.dev (takeQ q (-bl) (-1)), S.last⟩ X no _ K6 hnl (HNE.out hE.out) (by omega)).mono ?_
    rintro e w7 ⟨rfl, bN, K7, O7, hbN⟩
    go_wp2_with fail
    go_ret
    have e2 : killT S no = ⟨dropN S.nodes no, setQ S.devs n.dev (takeQ q (-bl) (-1)), S.last⟩ := by
      unfold killT killQ
      rw [if_pos hE.out, ← HN.out, H3.out, ← HQ.out, ← HB.out]
    refine ⟨by rw [hE.out]; rfl, ⟨g.bF, bN, g.bE⟩, by rw [e2]; exact K7, ⟨rfl, fun b hb => ?_⟩, a6.then (O7.mono (by simp))⟩
    simp only [GhF.list, List.mem_cons, List.not_mem_nil, or_false] at hb ⊢
    rcases hb with rfl | rfl | rfl
    · exact .inl (.inl rfl)
    · exact .inr (by omega)
    · exact .inl (.inr (.inr rfl))
end Go.Proofs.YtjblimclakfhfaaGreat

namespace Go.Proofs.YtjblimclakfhfaaGreat
open Go.ChangeShapes Go.WideShapes Go.ChangeAt Go.RowKit

def ErrF (w : World) (B : Nat) (g : GhF) (T : TreeD) (X : Xtra) (x : Int) (e : Ending) (w' : World) : Prop :=
  e = .returned (.int .i64 x) ∧ FAt w' B g T X ∧ Only g.list w w'
theorem errF_same {w w' : World} {B : Nat} {g : GhF} {S T : TreeD} {X : Xtra} {x : Int} (h : FAt w B g S X) (hE : Ext w w') (hT : T = S) : ErrF w B g T X x (.returned (.int .i64 x)) w' :=
  ⟨rfl, by rw [hT]; exact h.ext hE, Only.of_ext hE⟩
set_option maxRecDepth 100000 in
set_option maxHeartbeats 8000000 in
theorem rfill_any (B : Nat) (g : GhF) (S : TreeD) (X : Xtra) (no : Int) (data : List UInt8) (w : World) (h : FAt w B g S X) (hnl : S.nodes.length ≤ 1000000) (hd2 : S.devs.length ≤ 8) (hr : RootsOk S.devs) (hu : NosUp S.nodes S.last) (hdv : OnDev S) (hdl : data.length ≤ 1048576) :
    Calls Tryz.prog 130 #[.pointer (some ⟨g.bF, 0, none⟩), .int .i64 no, .string (bs data)] w (ErrF w B g (fillT S no data) X (fillE S no data.length)) := by
  have hm : Hid (fillE S no data.length = if isN S.nodes no = false then 5 else takeE (devN S.devs (getN S.nodes no).dev).q (moreB (getN S.nodes no) data.length) 0) := by show _ = _; rfl
  go_enter Tryz.func130, Tryz.ntmps130
  go_wp2_with fail
  refine (rget_any B g S X no _ h hnl hu).mono ?_
  rintro e w2 ⟨A, c, rfl, ok2, b2⟩
  have hmem : isN S.nodes no = true → (getN S.nodes no).no = no ∧ 1 ≤ no ∧ hasD S.devs (getN S.nodes no).dev = true ∧ (getN S.nodes no).data.length ≤ 1048576 := fun hi => ⟨(isN_true hi).2.1, by have := (hu.2 _ (isN_true hi).2.2).1; rw [(isN_true hi).2.1] at this; exact this, hdv _ (isN_true hi).2.2⟩
  have hzer : isN S.nodes no = false → (getN S.nodes no).no = 0 := fun hi => by rw [(isN_false hi).1]; rfl
  obtain ⟨n, hn⟩ : ∃ n, n = getN S.nodes no := ⟨_, rfl⟩
  obtain ⟨i, hi⟩ : ∃ i, i = isN S.nodes no := ⟨_, rfl⟩
  rw [← hn] at ok2 hm hmem hzer
  rw [← hi] at hm hmem hzer
  rw [← hn]
  obtain ⟨W3, hW3⟩ : ∃ W3, W3 = w2.alloc (.cells #[.int .i64 n.no, .int .i64 n.dev, .int .i64 n.kind, .int .i64 n.mode, .int .i64 n.uid, .int .i64 n.gid, .int .i64 n.mtime, .int .i64 n.ctime, .int .i64 n.links, .int .i64 n.up, .string (bs n.data), .slice A n.ents.length c] 87) := ⟨_, rfl⟩
  obtain ⟨b7, hb7⟩ : ∃ b, b = w2.heap.size := ⟨_, rfl⟩
  have R3 : Has W3 b7 (.cells #[.int .i64 n.no, .int .i64 n.dev, .int .i64 n.kind, .int .i64 n.mode, .int .i64 n.uid, .int .i64 n.gid, .int .i64 n.mtime, .int .i64 n.ctime, .int .i64 n.links, .int .i64 n.up, .string (bs n.data), .slice A n.ents.length c] 87) := by rw [hW3, hb7]; exact Has.new _ _
  have E3 : Ext w W3 := b2.trans (by rw [hW3]; exact (Ext.refl _).alloc _)
  have ok3 : NodeOk W3 B n A c := ok2.ext (by rw [hW3]; exact (Ext.refl _).alloc _)
  have hwb : w.heap.size ≤ b7 := by have := b2.size; omega
  have HN := Lib.hid hn
  have HI := Lib.hid hi
  have HM := Lib.hid hmem
  have HZ0 := Lib.hid hzer
  have HWB := Lib.hid hwb
  clear hn hi hmem hzer
  go_upto_region 2 with fail
  rw [← hW3]
  rw [← hb7]
  clear hW3 hb7
  have k0 : W3.cell? ⟨b7, 0, none⟩ = some (.int .i64 n.no) := R3.cell 0
  have kz := R3.lt
  cases i
  · have hE : Hid (fillE S no data.length = 5) := by show _ = _; rw [hm.out]; rfl
    have t0 : (n.no == 0) = true := by simpa using HZ0.out rfl
    clear hm
    go_wp2_with fail
    go_ret
    rw [hE.out]
    exact errF_same h E3 (by unfold fillT; rw [hE.out]; rfl)
  · obtain ⟨hno, hno1, hdev, hdata⟩ := HM.out rfl
    have t0 : (n.no == 0) = false := by rw [hno]; simpa using (show ¬ no = 0 by omega)
    have hroot := rootF_zero hr n.dev
    rcases hroot with ⟨_, e2⟩ | ⟨k, hk, e1, _, e3, _, _, e6⟩
    · rw [e2] at hdev; cases hdev
    have e0 : fillE S no data.length = takeE S.devs[k].q (moreB n data.length) 0 := by rw [hm.out, if_neg (by decide), e3]
    obtain ⟨bl1, hbl1⟩ : ∃ bl, bl = blocksF n.kind data.length := ⟨_, rfl⟩
    obtain ⟨bl0, hbl0⟩ : ∃ bl, bl = blocksF n.kind n.data.length := ⟨_, rfl⟩
    have hb1 := blocks_bd (k := n.kind) (s := data.length) (by omega) (by omega)
    have hb0 := blocks_bd (k := n.kind) (s := n.data.length) (by omega) (by omega)
    rw [← hbl1] at hb1
    rw [← hbl0] at hb0
    have hdif : moreB n data.length = bl1 - bl0 := by rw [hbl1, hbl0]; rfl
    rw [hdif] at e0
    obtain ⟨q, hq⟩ : ∃ q, q = S.devs[k].q := ⟨_, rfl⟩
    rw [← hq] at e6 e0
    have inr : inR (bl1 - bl0) 0 := ⟨by omega, by omega, by omega, by omega⟩
    have HB1 := Lib.hid hbl1
    have HB0 := Lib.hid hbl0
    have HE0 := Lib.hid e0
    have HQ := Lib.hid hq
    have H3 := Lib.hid e3
    have HD := Lib.hid e1
    have HDF := Lib.hid hdif
    have hsz : ((bs n.data).size : Int) = n.data.length := by rw [bs_size]
    have hsz2 : ((bs data).size : Int) = data.length := by rw [bs_size]
    have y0 : (0 : Int) ≤ n.dev - 1 := by rw [e1]; omega
    have y1 : n.dev - 1 < (S.devs.length : Int) := by rw [e1]; omega
    have y2 : (n.dev - 1).toNat = k := by rw [e1]; omega
    have y3 : IntKind.i64.wrap (n.dev - 1) = n.dev - 1 := wrap_i64_in (by omega) (by omega)
    have y4 : 1 ≤ n.dev := by omega
    have y5 : n.dev.toNat - 1 = k := by omega
    clear hm hno hdev hdif hbl1 hbl0 hq e3 e1 e0
    go_upto_region 4 with fail
    clear k0 kz t0
    obtain ⟨h1, cn, cd, h3, hN, h4⟩ := id (h.ext E3)
    have hl := h.lt
    obtain ⟨_, _, d2, d3, d4, d5⟩ := RowD.at_ h4 k hk
    rw [← HQ.out] at d2 d3 d4 d5
    have y6 : IntKind.i64.wrap (bl1 - bl0) = bl1 - bl0 := wrap_i64_in (by omega) (by omega)
    have hbd : g.bE < W3.heap.size := by have := E3.size; omega
    have zF := h3.lt
    go_cut [8, 9] (fun p e wc => ∃ bx, p = .pointer (some ⟨bx, 0, none⟩) ∧ e = .int .i64 (takeE q (bl1 - bl0) 0) ∧ Has wc bx (.cells #[.int .i64 (takeQ q (bl1 - bl0) 0).blocks, .int .i64 (takeQ q (bl1 - bl0) 0).nodes, .int .i64 (takeQ q (bl1 - bl0) 0).mostB, .int .i64 (takeQ q (bl1 - bl0) 0).mostN] 159) ∧ Ext W3 wc ∧ W3.heap.size ≤ bx)
    case first =>
      have K1 : Hid (∀ w : World, Calls Tryz.prog 192 #[.int .i64 n.kind, .int .i64 data.length] w (fun e w' => e = .returned (.int .i64 bl1) ∧ w' = w)) := by
        show ∀ w : World, _
        intro w; rw [HB1.out]; exact rblocks_same n.kind data.length (by omega) (by omega) w
      have K0 : Hid (∀ w : World, Calls Tryz.prog 192 #[.int .i64 n.kind, .int .i64 n.data.length] w (fun e w' => e = .returned (.int .i64 bl0) ∧ w' = w)) := by
        show ∀ w : World, _
        intro w; rw [HB0.out]; exact rblocks_same n.kind n.data.length (by omega) (by omega) w
      have KT : Hid (∀ w : World, Calls Tryz.prog 191 #[.agg #[.int .i64 q.blocks, .int .i64 q.nodes, .int .i64 q.mostB, .int .i64 q.mostN], .int .i64 (bl1 - bl0), .int .i64 0] w (Ret w (.tuple #[.agg #[.int .i64 (takeQ q (bl1 - bl0) 0).blocks, .int .i64 (takeQ q (bl1 - bl0) 0).nodes, .int .i64 (takeQ q (bl1 - bl0) 0).mostB, .int .i64 (takeQ q (bl1 - bl0) 0).mostN], .int .i64 (takeE q (bl1 - bl0) 0)]))) := rtake_any q (bl1 - bl0) 0 e6 inr
      have u0 : ∀ u : Gr W3, u.w.cell? ⟨g.bF, 1, none⟩ = some (.slice (some ⟨g.bE, 0, none⟩) S.devs.length cd) := Gr.cell zF (h3.cell 1)
      have u1 : ∀ u : Gr W3, u.w.cell? ⟨b7, 1, none⟩ = some (.int .i64 n.dev) := Gr.cell R3.lt (R3.cell 1)
      have u2 : ∀ u : Gr W3, u.w.cell? ⟨b7, 2, none⟩ = some (.int .i64 n.kind) := Gr.cell R3.lt (R3.cell 2)
      have u10 : ∀ u : Gr W3, u.w.cell? ⟨b7, 10, none⟩ = some (.string (bs n.data)) := Gr.cell R3.lt (R3.cell 10)
      have t2 : ∀ u : Gr W3, u.w.cell? ⟨g.bE, k * 6 + 2, none⟩ = some (.int .i64 q.blocks) := Gr.cell hbd d2
      have t3 : ∀ u : Gr W3, u.w.cell? ⟨g.bE, k * 6 + 3, none⟩ = some (.int .i64 q.nodes) := Gr.cell hbd d3
      have t4 : ∀ u : Gr W3, u.w.cell? ⟨g.bE, k * 6 + 4, none⟩ = some (.int .i64 q.mostB) := Gr.cell hbd d4
      have t5 : ∀ u : Gr W3, u.w.cell? ⟨g.bE, k * 6 + 5, none⟩ = some (.int .i64 q.mostN) := Gr.cell hbd d5
      clear d2 d3 d4 d5 h4 R3 E3
      refine wp_region_space W3 26 27 8 40 (takeQ q (bl1 - bl0) 0) _ _ (by kernel_rfl) (by kernel_rfl) rfl rfl rfl rfl (by simp) ((Ext.refl _).drew) ?_
      simp only [List.take_succ_cons, List.take_zero, List.drop_succ_cons, List.drop_zero, List.drop_nil]
      repeat (refine wpQuietR_step (fun K hK => ?_)
              go_simp
              first
                | (refine hK _ ?_; clear hK K)
                | (apply Exists.intro
                   refine ⟨fun u => ?_, hK _ ?_⟩
                   first
                     | ((with_reducible refine (K1.out _).mono ?_); rintro e w'' ⟨rfl, rfl⟩; exact ⟨rfl, Ext.refl _⟩)
                     | ((with_reducible refine (K0.out _).mono ?_); rintro e w'' ⟨rfl, rfl⟩; exact ⟨rfl, Ext.refl _⟩)
                     | ((with_reducible refine (KT.out _).mono ?_); rintro e w'' ⟨rfl, hx⟩; exact ⟨rfl, hx⟩)
                   clear hK K))
      refine wpQuietR_nil ?_
      refine wpQuietR_nil ⟨rfl, ?_⟩
      refine wpQuietR_step (fun K hK => ?_)
      go_simp
      refine hK _ ?_
      clear hK K
      refine wpQuietR_nil ?_
      intro w' bx hx hbx hb
      simp only [Act.put]
      go_wp2_with fail
      go_meet
      exact ⟨bx, rfl, rfl, hb, hx, hbx⟩
    case rest =>
    obtain ⟨bx, rfl, rfl, XB, E5, hbx⟩ := hcut
    obtain ⟨W5, hW5⟩ : ∃ W5, W5 = wc := ⟨_, rfl⟩
    rw [← hW5] at XB E5 ⊢
    obtain ⟨x, hx⟩ : ∃ x, x = takeE q (bl1 - bl0) 0 := ⟨_, rfl⟩
    rw [← hx]
    have hE1 : fillE S no data.length = x := by rw [HE0.out, hx]
    have EW5 := E3.trans E5
    have R5 := R3.ext E5
    have K5 := h.ext EW5
    have HX := Lib.hid hx
    have HE1 := Lib.hid hE1
    have s5 := EW5.size
    have r4 := R3.lt
    clear hW5 hx hE1 d2 d3 d4 d5
    by_cases hz : x = 0
    · have hzb : (x == 0) = true := by simpa using hz
      have hzb2 : (x != 0) = false := by simpa using hz
      have HZ := Lib.hid hz
      obtain ⟨_, cn5, cd5, hF5, hN5, hD5⟩ := id K5
      have c1 : W5.cell? ⟨g.bF, 1, none⟩ = some (.slice (some ⟨g.bE, 0, none⟩) S.devs.length cd5) := hF5.cell 1
      have cW := hF5.lt
      have x1 : W5.cell? ⟨b7, 1, none⟩ = some (.int .i64 n.dev) := R5.cell 1
      have xz2 := R5.lt
      have q0 : W5.cell? ⟨bx, 0, none⟩ = some (.int .i64 (takeQ q (bl1 - bl0) 0).blocks) := XB.cell 0
      have q1 : W5.cell? ⟨bx, 1, none⟩ = some (.int .i64 (takeQ q (bl1 - bl0) 0).nodes) := XB.cell 1
      have q2 : W5.cell? ⟨bx, 2, none⟩ = some (.int .i64 (takeQ q (bl1 - bl0) 0).mostB) := XB.cell 2
      have q3 : W5.cell? ⟨bx, 3, none⟩ = some (.int .i64 (takeQ q (bl1 - bl0) 0).mostN) := XB.cell 3
      have qz := XB.lt
      have hD2 : W5.ownsRow B 161 6 (.slice (some ⟨g.bE, 0, none⟩) S.devs.length cd5) S.devs.length (devCells S.devs) := hD5
      obtain ⟨_, _, d2, d3, d4, d5⟩ := RowD.at_ hD5 k hk
      have hdz := K5.lt.2.2
      have f2 := hD2.frozenAt (k * 6 + 2)
      have f3 := hD2.frozenAt (k * 6 + 3)
      have f4 := hD2.frozenAt (k * 6 + 4)
      have f5 := hD2.frozenAt (k * 6 + 5)
      clear hz
      go_upto_region 7 with fail
      go_cut [] (fun wc => Only [g.bE] W5 wc ∧ wc.ownsRow B 161 6 (.slice (some ⟨g.bE, 0, none⟩) S.devs.length cd5) S.devs.length (devCells (setQ S.devs ((k : Int) + 1) (takeQ q (bl1 - bl0) 0))))
      case first =>
        go_still_tail 10, (by kernel_rfl)
        change wpList _ _ _ _ _ W5.drew
        go_wp2_with fail
        go_meet
        have hD2' : W5.drew.ownsRow B 161 6 (.slice (some ⟨g.bE, 0, none⟩) S.devs.length cd5) S.devs.length (devCells S.devs) := ownsRow_only hD2 (Only.of_ext (L := []) ((Ext.refl _).drew)) (by simp)
        refine ⟨(Only.of_ext ((Ext.refl W5).drew)).then ((((Only.setCell _ _ _ _).then (Only.setCell _ _ _ _)).then (Only.setCell _ _ _ _)).then (Only.setCell _ _ _ _)), ?_⟩
        rw [← devCells_setQ S.devs k hk]
        exact (World.ownsRow.stored (World.ownsRow.stored (World.ownsRow.stored (World.ownsRow.stored hD2' (k * 6 + 2) _).1 (k * 6 + 3) _).1 (k * 6 + 4) _).1 (k * 6 + 5) _).1
      case rest =>
      obtain ⟨O6, D6⟩ := hcut
      obtain ⟨W6, hW6⟩ : ∃ W6, W6 = wc := ⟨_, rfl⟩
      rw [← hW6] at O6 D6 ⊢
      have K5a := K5.apart
      obtain ⟨m1, m2, m3⟩ := K5.ne
      have H6 := O6.has hF5 (by simpa using m2)
      have N6 : RowN W6 B (.slice (some ⟨g.bN, 0, none⟩) S.nodes.length cn5) S.nodes := by
        obtain ⟨xs, k1, k2⟩ := hN5
        refine ⟨xs, ownsRow_only k1 O6 (fun x hx => ?_), k2.only O6 (K5a.sub (by simp))⟩
        injection hx with hx
        subst hx
        simpa using m3
      have K6 : FAt W6 B g ⟨S.nodes, setQ S.devs n.dev (takeQ q (bl1 - bl0) 0), S.last⟩ X := by
        refine ⟨h.1, cn5, cd5, ?_, N6, ?_⟩
        · simpa [setQ_len] using H6
        · unfold RowD
          simp only [setQ_len]
          rw [HD.out]; exact D6
      have hbD : b7 ≠ g.bE := by have := hl.2.2; have := HWB.out; omega
      have R6 := O6.has R5 (by simpa using hbD)
      have ok6 : NodeOk W6 B n A c := (ok3.ext E5).only O6 (K5a.sub (by simp))
      have z6 := R6.lt
      have c10 : W6.cell? ⟨b7, 10, none⟩ = some (.string (bs n.data)) := R6.cell 10
      have f10 : W6.frozen? ⟨b7, 10, none⟩ = false := R6.free 10
      clear hW6 q0 q1 q2 q3 d2 d3 d4 d5 f2 f3 f4 f5 c1 x1
      obtain ⟨n', hn'⟩ : ∃ n' : NodeD, n' = { n with data := data } := ⟨_, rfl⟩
      go_upto_region 9 with fail
      obtain ⟨W7, hW7⟩ : ∃ W7, W7 = W6.setCell ⟨b7, 10, none⟩ (.string (bs data)) := ⟨_, rfl⟩
      rw [← hW7]
      have R7 : Has W7 b7 (.cells #[.int .i64 (n').no, .int .i64 (n').dev, .int .i64 (n').kind, .int .i64 (n').mode, .int .i64 (n').uid, .int .i64 (n').gid, .int .i64 (n').mtime, .int .i64 (n').ctime, .int .i64 (n').links, .int .i64 (n').up, .string (bs (n').data), .slice A (n').ents.length c] 87) := by rw [hW7, hn']; exact R6.setCell 10 _
      have O7 : Only [b7] W6 W7 := by rw [hW7]; exact Only.setCell _ _ _ _
      have haP : Apart W6 B [b7] := by
        intro b hb
        rw [List.mem_singleton] at hb
        subst hb
        exact ⟨by have := h.1; have := HWB.out; omega, R6.noTag (by decide)⟩
      have K7 : FAt W7 B g ⟨S.nodes, setQ S.devs n.dev (takeQ q (bl1 - bl0) 0), S.last⟩ X := K6.only O7 haP (by
        intro b hb
        simp only [GhF.list, List.mem_cons, List.not_mem_nil, or_false] at hb
        rw [List.mem_singleton]
        have := HWB.out
        rcases hb with rfl | rfl | rfl <;> omega)
      have ok7 : NodeOk W7 B n' A c := (ok6.same (by rw [hn'])).only O7 haP
      have HN' := Lib.hid hn'
      clear hW7 hn' c10 f10
      obtain ⟨x0, x1, x2, x3, x4, x5, x6, x7, x8, x9, x10, x11⟩ := R7.node12
      have zN := R7.lt
      go_wp2_with fail
      refine (rset_any B g ⟨S.nodes, setQ S.devs n.dev (takeQ q (bl1 - bl0) 0), S.last⟩ X n' A c _ K7 hnl hu ok7).mono ?_
      rintro e w8 ⟨rfl, K8, O8⟩
      go_wp2_with fail
      go_ret
      have e1 : fillE S no data.length = 0 := by rw [HE1.out]; exact HZ.out
      rw [e1]
      have e2 : fillT S no data = setT ⟨S.nodes, setQ S.devs n.dev (takeQ q (bl1 - bl0) 0), S.last⟩ n' := by
        unfold fillT
        rw [if_pos e1, ← HN.out, HDF.out, H3.out, ← HQ.out, HN'.out]
        rfl
      refine ⟨rfl, by rw [e2]; exact K8, ?_⟩
      have a1 : Only g.list w W6 := Only.pre EW5 (O6.mono (by simp))
      have a2 : Only g.list w W7 := a1.trans O7 (by intro b hb; rw [List.mem_singleton] at hb; right; have := HWB.out; omega)
      exact a2.then O8
    · have hzb : (x == 0) = false := by simpa using hz
      have hzb2 : (x != 0) = true := by simpa using hz
      have HZ := Lib.hid hz
      clear hz
      go_wp2_with fail
      go_ret
      rw [HE1.out]
      exact errF_same h EW5 (by unfold fillT; rw [if_neg (by rw [HE1.out]; exact HZ.out)])
end Go.Proofs.YtjblimclakfhfaaGreat

namespace Go.Proofs.YtjblimclakfhfaaGreat
open Go.ChangeShapes Go.WideShapes Go.ChangeAt Go.RowKit

theorem KillR.to {w w' : World} {B : Nat} {g : GhW} {S : TreeD} {no : Int} {e : Ending} (h : KillR w B g S no e w') : e = .returned (.bool (killB S no)) ∧ ∃ g2, WAt w' B g2 (killT S no) ∧ Only g.list w w' ∧ GhW.on g2 g w := ⟨h.1, g, h.2.1, h.2.2, GhW.on_refl g w⟩
theorem KillF.to {w w' : World} {B : Nat} {g : GhF} {S : TreeD} {X : Xtra} {no : Int} {e : Ending} (h : KillF w B g S X no e w') : e = .returned (.bool (killB S no)) ∧ ∃ g2, FAt w' B g2 (killT S no) X ∧ Only g.list w w' ∧ GhF.on g2 g w := by
  obtain ⟨h1, g2, h2, h3, h4⟩ := h
  exact ⟨h1, g2, h2, h4, h3⟩
theorem ErrR.to {w w' : World} {B : Nat} {g : GhW} {T : TreeD} {x : Int} {e : Ending} (h : ErrR w B g T x e w') : e = .returned (.int .i64 x) ∧ ∃ g2, WAt w' B g2 T ∧ Only g.list w w' ∧ GhW.on g2 g w := ⟨h.1, g, h.2.1, h.2.2, GhW.on_refl g w⟩
theorem ErrF.to {w w' : World} {B : Nat} {g : GhF} {T : TreeD} {X : Xtra} {x : Int} {e : Ending} (h : ErrF w B g T X x e w') : e = .returned (.int .i64 x) ∧ ∃ g2, FAt w' B g2 T X ∧ Only g.list w w' ∧ GhF.on g2 g w := ⟨h.1, g, h.2.1, h.2.2, GhF.on_refl g w⟩
theorem MountR.to {w w' : World} {B : Nat} {g : GhW} {S : TreeD} {a b n : Int} {e : Ending} (h : MountR w B g S a b n e w') : e = .returned (.tuple #[.int .i64 (mountN S a b n), .int .i64 (mountE S a b n)]) ∧ ∃ g2, WAt w' B g2 (mountT S a b n) ∧ Only g.list w w' ∧ GhW.on g2 g w := by
  obtain ⟨h1, bD, h2, h3, h4⟩ := h
  refine ⟨h1, _, h2, h3, rfl, fun x hx => ?_⟩
  simp only [GhW.list, List.mem_cons, List.not_mem_nil, or_false] at hx ⊢
  rcases hx with rfl | rfl | rfl | rfl
  · exact .inl (.inl rfl)
  · exact .inl (.inr (.inl rfl))
  · exact .inl (.inr (.inr (.inl rfl)))
  · rcases h4 with e | e
    · exact .inl (.inr (.inr (.inr e)))
    · exact .inr e
theorem MountF.to {w w' : World} {B : Nat} {g : GhF} {S : TreeD} {X : Xtra} {a b n : Int} {e : Ending} (h : MountF w B g S X a b n e w') : e = .returned (.tuple #[.int .i64 (mountN S a b n), .int .i64 (mountE S a b n)]) ∧ ∃ g2, FAt w' B g2 (mountT S a b n) X ∧ Only g.list w w' ∧ GhF.on g2 g w := by
  obtain ⟨h1, bN, bE, h2, h3, h4, h5⟩ := h
  refine ⟨h1, _, h2, h3, rfl, fun x hx => ?_⟩
  simp only [GhF.list, List.mem_cons, List.not_mem_nil, or_false] at hx ⊢
  rcases hx with rfl | rfl | rfl
  · exact .inl (.inl rfl)
  · rcases h4 with e | e
    · exact .inl (.inr (.inl e))
    · exact .inr e
  · rcases h5 with e | e
    · exact .inl (.inr (.inr e))
    · exact .inr e
end Go.Proofs.YtjblimclakfhfaaGreat

namespace Go.Proofs.YtjblimclakfhfaaGreat
open Go.ChangeShapes Go.WideShapes Go.ChangeAt Go.RowKit

def ownrE (S : TreeD) (cu no uid gid : Int) : Int := if ownE S cu no ≠ 0 then ownE S cu no else if ¬ cu = 0 then 4 else if fineB uid gid = false then 1 else 0
def ownrT (S : TreeD) (cu now no uid gid : Int) : TreeD := if ownrE S cu no uid gid = 0 then setT S { getN S.nodes no with uid := uid, gid := gid, ctime := now } else S
def timeE (S : TreeD) (cu no mt : Int) : Int := if ownE S cu no ≠ 0 then ownE S cu no else if mt < 0 ∨ 253402300799 < mt then 1 else 0
def timeT (S : TreeD) (cu now no mt : Int) : TreeD := if timeE S cu no mt = 0 then setT S { getN S.nodes no with mtime := mt, ctime := now } else S
set_option maxRecDepth 100000 in
set_option maxHeartbeats 4000000 in
theorem ptime_any (B : Nat) (g : GhW) (S : TreeD) (cu cg now no mt : Int) (w : World) (h : WAt w B g S) (hd : 0 < S.devs.length) (hu : NosUp S.nodes S.last) :
    Calls Tryz.prog 128 #[.pointer (some ⟨g.bW, 0, none⟩), .agg #[.int .i64 cu, .int .i64 cg], .int .i64 now, .int .i64 no, .int .i64 mt] w (ErrR w B g (timeT S cu now no mt) (timeE S cu no mt)) := by
  have E0 : Ext w (w.alloc (.cells #[.int .i64 cu, .int .i64 cg] 24)) := (Ext.refl _).alloc _
  have hm : Hid (timeE S cu no mt = if ownE S cu no ≠ 0 then ownE S cu no else if mt < 0 ∨ 253402300799 < mt then 1 else 0) := by show _ = _; rfl
  have hoz : Hid (ownE S cu no = 0 → isN S.nodes no = true ∧ ownsB cu (getN S.nodes no).uid = true ∧ ownN S cu no = getN S.nodes no) := ownE_zero
  go_enter Tryz.func128, Tryz.ntmps128
  go_wp2_with fail
  refine (pown_any B g S cu cg no _ (h.ext E0) hd).mono ?_
  rintro e w2 ⟨A, c, rfl, ok2, b2⟩
  have E2 := E0.trans b2
  obtain ⟨m, hmm⟩ : ∃ m, m = ownN S cu no := ⟨_, rfl⟩
  obtain ⟨x, hx⟩ : ∃ x, x = ownE S cu no := ⟨_, rfl⟩
  rw [← hmm] at ok2 hoz
  rw [← hx] at hm hoz
  rw [← hmm, ← hx]
  clear hmm hx
  by_cases hx0 : x = 0
  · have t0 : (x == 0) = true := by simpa using hx0
    have t0b : (x != 0) = false := by simpa using hx0
    obtain ⟨hi, ho, hmg⟩ := hoz.out hx0
    have hm2 : Hid (timeE S cu no mt = if mt < 0 ∨ 253402300799 < mt then 1 else 0) := by show _ = _; rw [hm.out, if_neg (by simpa using hx0)]
    have hmno : m.no = no := by rw [hmg]; exact (isN_true hi).2.1
    have HMG := Lib.hid hmg
    have HNO := Lib.hid hmno
    clear hm hoz hmg hmno hi ho hx0
    by_cases c1 : mt < 0
    · have t1 : decide (mt < 0) = true := decide_eq_true c1
      have hE : Hid (timeE S cu no mt = 1) := by show _ = _; rw [hm2.out, if_pos (.inl c1)]
      clear hm2 c1
      go_wp2_with fail
      go_ret
      rw [hE.out]
      exact errR_same h (E2.alloc _) (by unfold timeT; rw [hE.out]; rfl)
    · have t1 : decide (mt < 0) = false := decide_eq_false c1
      by_cases c2 : 253402300799 < mt
      · have t2 : decide (253402300799 < mt) = true := decide_eq_true c2
        have hE : Hid (timeE S cu no mt = 1) := by show _ = _; rw [hm2.out, if_pos (.inr c2)]
        clear hm2 c1 c2
        go_wp2_with fail
        go_ret
        rw [hE.out]
        exact errR_same h (E2.alloc _) (by unfold timeT; rw [hE.out]; rfl)
      · have t2 : decide (253402300799 < mt) = false := decide_eq_false c2
        · have hE : Hid (timeE S cu no mt = 0) := by show _ = _; rw [hm2.out, if_neg (by rintro (g' | g') <;> contradiction)]
          clear hm2 c1 c2
          go_upto_region 7 with fail
          obtain ⟨n, hn⟩ : ∃ n : NodeD, n = { m with mtime := mt, ctime := now } := ⟨_, rfl⟩
          obtain ⟨V, hV⟩ : ∃ V, V = w2.alloc (.cells #[.int .i64 n.no, .int .i64 n.dev, .int .i64 n.kind, .int .i64 n.mode, .int .i64 n.uid, .int .i64 n.gid, .int .i64 n.mtime, .int .i64 n.ctime, .int .i64 n.links, .int .i64 n.up, .string (bs n.data), .slice A n.ents.length c] 87) := ⟨_, rfl⟩
          have hV2 := hV
          rw [hn] at hV2
          rw [← hV2]
          have NV : Has V w2.heap.size (.cells #[.int .i64 n.no, .int .i64 n.dev, .int .i64 n.kind, .int .i64 n.mode, .int .i64 n.uid, .int .i64 n.gid, .int .i64 n.mtime, .int .i64 n.ctime, .int .i64 n.links, .int .i64 n.up, .string (bs n.data), .slice A n.ents.length c] 87) := by rw [hV]; exact Has.new _ _
          have EV : Ext w V := by rw [hV]; exact E2.alloc _
          have okV : NodeOk V B n A c := ((ok2.ext (by rw [hV]; exact (Ext.refl _).alloc _)).same (by rw [hn]))
          have HN := Lib.hid hn
          clear hV hV2 hn
          have KV := h.ext EV
          obtain ⟨_, _, cd, hW, _⟩ := id KV
          have v0 : V.cell? ⟨g.bW, 0, none⟩ = some (.pointer (some ⟨g.bT, 0, none⟩)) := hW.cell 0
          have vz := hW.lt
          obtain ⟨x0, x1, x2, x3, x4, x5, x6, x7, x8, x9, x10, x11⟩ := NV.node12
          have zN := NV.lt
          go_still_tail 5, (by kernel_rfl)
          change wpList _ _ _ _ _ V.drew
          go_wp2_with fail
          have ED : Ext V V.drew := (Ext.refl _).drew
          refine (wset_any B g S n A c _ (KV.ext ED) hu (okV.ext ED)).mono ?_
          rintro e w5 ⟨rfl, K5, O5⟩
          go_wp2_with fail
          go_ret
          rw [hE.out]
          refine ⟨rfl, ?_, Only.pre (EV.trans ED) O5⟩
          have : timeT S cu now no mt = setT S n := by unfold timeT; rw [if_pos hE.out, HN.out, HMG.out]
          rw [this]; exact K5
  · have t0 : (x == 0) = false := by simpa using hx0
    have t0b : (x != 0) = true := by simpa using hx0
    have hE : Hid (timeE S cu no mt = x) := by show _ = _; rw [hm.out, if_pos hx0]
    have hT : Hid (timeT S cu now no mt = S) := by show _ = _; unfold timeT; rw [if_neg (by rw [hE.out]; exact hx0)]
    clear hm hoz hx0
    go_wp2_with fail
    go_ret
    rw [hE.out]
    exact errR_same h (E2.alloc _) hT.out
set_option maxRecDepth 100000 in
set_option maxHeartbeats 4000000 in
theorem powner_any (B : Nat) (g : GhW) (S : TreeD) (cu cg now no uid gid : Int) (w : World) (h : WAt w B g S) (hd : 0 < S.devs.length) (hu : NosUp S.nodes S.last) :
    Calls Tryz.prog 126 #[.pointer (some ⟨g.bW, 0, none⟩), .agg #[.int .i64 cu, .int .i64 cg], .int .i64 now, .int .i64 no, .int .i64 uid, .int .i64 gid] w (ErrR w B g (ownrT S cu now no uid gid) (ownrE S cu no uid gid)) := by
  have E0 : Ext w (w.alloc (.cells #[.int .i64 cu, .int .i64 cg] 24)) := (Ext.refl _).alloc _
  have hm : Hid (ownrE S cu no uid gid = if ownE S cu no ≠ 0 then ownE S cu no else if ¬ cu = 0 then 4 else if fineB uid gid = false then 1 else 0) := by show _ = _; rfl
  have hoz : Hid (ownE S cu no = 0 → isN S.nodes no = true ∧ ownsB cu (getN S.nodes no).uid = true ∧ ownN S cu no = getN S.nodes no) := ownE_zero
  go_enter Tryz.func126, Tryz.ntmps126
  go_wp2_with fail
  refine (pown_any B g S cu cg no _ (h.ext E0) hd).mono ?_
  rintro e w2 ⟨A, c, rfl, ok2, b2⟩
  have E2 := E0.trans b2
  obtain ⟨m, hmm⟩ : ∃ m, m = ownN S cu no := ⟨_, rfl⟩
  obtain ⟨x, hx⟩ : ∃ x, x = ownE S cu no := ⟨_, rfl⟩
  rw [← hmm] at ok2 hoz
  rw [← hx] at hm hoz
  rw [← hmm, ← hx]
  clear hmm hx
  by_cases hx0 : x = 0
  · have t0 : (x == 0) = true := by simpa using hx0
    have t0b : (x != 0) = false := by simpa using hx0
    obtain ⟨hi, ho, hmg⟩ := hoz.out hx0
    have hm2 : Hid (ownrE S cu no uid gid = if ¬ cu = 0 then 4 else if fineB uid gid = false then 1 else 0) := by show _ = _; rw [hm.out, if_neg (by simpa using hx0)]
    have hmno : m.no = no := by rw [hmg]; exact (isN_true hi).2.1
    have HMG := Lib.hid hmg
    have HNO := Lib.hid hmno
    clear hm hoz hmg hmno hi ho hx0
    have C2 := ((Has.new w (.cells #[.int .i64 cu, .int .i64 cg] 24)).ext b2)
    have k0 : w2.cell? ⟨w.heap.size, 0, none⟩ = some (.int .i64 cu) := C2.cell 0
    have kz := C2.lt
    by_cases c1 : cu = 0
    · have t1 : (cu == 0) = true := by simpa using c1
      have t1b : (cu != 0) = false := by simpa using c1
      cases c2 : fineB uid gid
      · have hE : Hid (ownrE S cu no uid gid = 1) := by show _ = _; rw [hm2.out, if_neg (by simpa using c1), if_pos c2]
        have HC := Lib.hid c2
        clear hm2 c1 c2
        go_wp2_with fail
        refine (pfine_any uid gid _).mono ?_
        rw [HC.out]
        rintro e w4 ⟨rfl, b4⟩
        go_wp2_with fail
        go_ret
        rw [hE.out]
        exact errR_same h ((E2.alloc _).trans b4) (by unfold ownrT; rw [hE.out]; rfl)
      · have hE : Hid (ownrE S cu no uid gid = 0) := by show _ = _; rw [hm2.out, if_neg (by simpa using c1), if_neg (by rw [c2]; decide)]
        have HC := Lib.hid c2
        clear hm2 c1 c2
        go_wp2_with fail
        refine (pfine_any uid gid _).mono ?_
        rw [HC.out]
        rintro e w4 ⟨rfl, b4⟩
        have N4 := (Has.new w2 (.cells #[.int .i64 m.no, .int .i64 m.dev, .int .i64 m.kind, .int .i64 m.mode, .int .i64 m.uid, .int .i64 m.gid, .int .i64 m.mtime, .int .i64 m.ctime, .int .i64 m.links, .int .i64 m.up, .string (bs m.data), .slice A m.ents.length c] 87)).ext b4
        have ok4 := (ok2.ext ((Ext.refl _).alloc (.cells #[.int .i64 m.no, .int .i64 m.dev, .int .i64 m.kind, .int .i64 m.mode, .int .i64 m.uid, .int .i64 m.gid, .int .i64 m.mtime, .int .i64 m.ctime, .int .i64 m.links, .int .i64 m.up, .string (bs m.data), .slice A m.ents.length c] 87))).ext b4
        have E4 := (E2.alloc (.cells #[.int .i64 m.no, .int .i64 m.dev, .int .i64 m.kind, .int .i64 m.mode, .int .i64 m.uid, .int .i64 m.gid, .int .i64 m.mtime, .int .i64 m.ctime, .int .i64 m.links, .int .i64 m.up, .string (bs m.data), .slice A m.ents.length c] 87)).trans b4
        obtain ⟨y0, y1, y2, y3, y4, y5, y6, y7, y8, y9, y10, y11⟩ := N4.node12
        have yf : ∀ i, w4.frozen? ⟨w2.heap.size, i, none⟩ = false := fun i => (N4.free i).trans (by simp)
        have yz := N4.lt
        go_upto_region 9 with fail
        obtain ⟨n, hn⟩ : ∃ n : NodeD, n = { m with uid := uid, gid := gid, ctime := now } := ⟨_, rfl⟩
        obtain ⟨V, hV⟩ : ∃ V, V = ((w4.setCell ⟨w2.heap.size, 4, none⟩ (.int .i64 uid)).setCell ⟨w2.heap.size, 5, none⟩ (.int .i64 gid)).setCell ⟨w2.heap.size, 7, none⟩ (.int .i64 now) := ⟨_, rfl⟩
        rw [← hV]
        have NV : Has V w2.heap.size (.cells #[.int .i64 n.no, .int .i64 n.dev, .int .i64 n.kind, .int .i64 n.mode, .int .i64 n.uid, .int .i64 n.gid, .int .i64 n.mtime, .int .i64 n.ctime, .int .i64 n.links, .int .i64 n.up, .string (bs n.data), .slice A n.ents.length c] 87) := by rw [hV, hn]; exact ((N4.setCell 4 _).setCell 5 _).setCell 7 _
        have OV : Only [w2.heap.size] w4 V := by rw [hV]; exact ((Only.setCell _ _ _ _).then (Only.setCell _ _ _ _)).then (Only.setCell _ _ _ _)
        have EV : Ext w V := OV.after E4 (by intro x hx; rw [List.mem_singleton] at hx; have := E2.size; omega)
        have okV : NodeOk V B n A c := (ok4.same (by rw [hn])).only OV (by
          intro b hb
          rw [List.mem_singleton] at hb
          subst hb
          exact ⟨by have := h.1; have := h.lt.1; have := E2.size; omega, N4.noTag (by decide)⟩)
        have HN := Lib.hid hn
        clear hV hn y0 y1 y2 y3 y4 y5 y6 y7 y8 y9 y10 y11 yf yz
        have KV := h.ext EV
        obtain ⟨_, _, cd, hW, _⟩ := id KV
        have v0 : V.cell? ⟨g.bW, 0, none⟩ = some (.pointer (some ⟨g.bT, 0, none⟩)) := hW.cell 0
        have vz := hW.lt
        obtain ⟨x0, x1, x2, x3, x4, x5, x6, x7, x8, x9, x10, x11⟩ := NV.node12
        have zN := NV.lt
        go_still_tail 5, (by kernel_rfl)
        change wpList _ _ _ _ _ V.drew
        go_wp2_with fail
        have ED : Ext V V.drew := (Ext.refl _).drew
        refine (wset_any B g S n A c _ (KV.ext ED) hu (okV.ext ED)).mono ?_
        rintro e w5 ⟨rfl, K5, O5⟩
        go_wp2_with fail
        go_ret
        rw [hE.out]
        refine ⟨rfl, ?_, Only.pre (EV.trans ED) O5⟩
        have : ownrT S cu now no uid gid = setT S n := by unfold ownrT; rw [if_pos hE.out, HN.out, HMG.out]
        rw [this]; exact K5
    · have t1 : (cu == 0) = false := by simpa using c1
      have t1b : (cu != 0) = true := by simpa using c1
      have hE : Hid (ownrE S cu no uid gid = 4) := by show _ = _; rw [hm2.out, if_pos c1]
      clear hm2 c1
      go_wp2_with fail
      go_ret
      rw [hE.out]
      exact errR_same h (E2.alloc _) (by unfold ownrT; rw [hE.out]; rfl)
  · have t0 : (x == 0) = false := by simpa using hx0
    have t0b : (x != 0) = true := by simpa using hx0
    have hE : Hid (ownrE S cu no uid gid = x) := by show _ = _; rw [hm.out, if_pos hx0]
    have hT : Hid (ownrT S cu now no uid gid = S) := by show _ = _; unfold ownrT; rw [if_neg (by rw [hE.out]; exact hx0)]
    clear hm hoz hx0
    go_wp2_with fail
    go_ret
    rw [hE.out]
    exact errR_same h (E2.alloc _) hT.out
end Go.Proofs.YtjblimclakfhfaaGreat

namespace Go.Proofs.YtjblimclakfhfaaGreat

/-- Nothing but the node has changed, its bytes and its entries least of all. -/
def StepN (S : TreeD) (no : Int) (T : TreeD) : Prop :=
  T.devs = S.devs ∧ T.last = S.last ∧ (∀ k, isN T.nodes k = isN S.nodes k) ∧ (∀ k, k ≠ no → getN T.nodes k = getN S.nodes k) ∧ (getN T.nodes no).data = (getN S.nodes no).data ∧ (getN T.nodes no).ents = (getN S.nodes no).ents ∧ (NosUp S.nodes S.last → NosUp T.nodes T.last) ∧ T.nodes.length = S.nodes.length
theorem StepN.refl (S : TreeD) (no : Int) : StepN S no S := ⟨rfl, rfl, fun _ => rfl, fun _ _ => rfl, rfl, rfl, fun h => h, rfl⟩
theorem StepN.trans {S T U : TreeD} {no : Int} (h : StepN S no T) (k : StepN T no U) : StepN S no U :=
  ⟨k.1.trans h.1, k.2.1.trans h.2.1, fun i => (k.2.2.1 i).trans (h.2.2.1 i), fun i hi => (k.2.2.2.1 i hi).trans (h.2.2.2.1 i hi), k.2.2.2.2.1.trans h.2.2.2.2.1, k.2.2.2.2.2.1.trans h.2.2.2.2.2.1, fun hu => k.2.2.2.2.2.2.1 (h.2.2.2.2.2.2.1 hu), k.2.2.2.2.2.2.2.trans h.2.2.2.2.2.2.2⟩
theorem own_of {S : TreeD} {cu no : Int} (h : ownE S cu no = 0) : isN S.nodes no = true ∧ (getN S.nodes no).no = no := ⟨(ownE_zero h).1, (isN_true (ownE_zero h).1).2.1⟩
theorem modeE_own {S : TreeD} {cu no m : Int} (h : modeE S cu no m = 0) : ownE S cu no = 0 := by
  unfold modeE at h
  split at h
  · rename_i h2; exact absurd h h2
  · rename_i h2; simpa using h2
theorem ownrE_own {S : TreeD} {cu no u g : Int} (h : ownrE S cu no u g = 0) : ownE S cu no = 0 := by
  unfold ownrE at h
  split at h
  · rename_i h2; exact absurd h h2
  · rename_i h2; simpa using h2
theorem timeE_own {S : TreeD} {cu no t : Int} (h : timeE S cu no t = 0) : ownE S cu no = 0 := by
  unfold timeE at h
  split at h
  · rename_i h2; exact absurd h h2
  · rename_i h2; simpa using h2
end Go.Proofs.YtjblimclakfhfaaGreat

namespace Go.Proofs.YtjblimclakfhfaaGreat
open Go.ChangeShapes Go.WideShapes Go.ChangeAt Go.RowKit

def wriE (S : TreeD) (cu cg no dl : Int) : Int :=
  if isN S.nodes no = false then 5 else if (getN S.nodes no).kind = 1 then 8 else if ¬ (getN S.nodes no).kind = 2 then 1
  else if mayB cu cg (getN S.nodes no).uid (getN S.nodes no).gid (getN S.nodes no).mode 2 = false then 6 else if 1048576 < dl then 3 else fillE S no dl
def wriT (S : TreeD) (cu cg now no : Int) (data : List UInt8) : TreeD :=
  if wriE S cu cg no data.length = 0 then setT (fillT S no data) { getN (fillT S no data).nodes no with mtime := now, ctime := now } else S
set_option maxRecDepth 100000 in
set_option maxHeartbeats 4000000 in
theorem pwri_any (B : Nat) (g : GhW) (S : TreeD) (cu cg now no : Int) (data : List UInt8) (w : World) (h : WAt w B g S) (hd : 0 < S.devs.length) (hd2 : S.devs.length ≤ 8) (hr : RootsOk S.devs) (hu : NosUp S.nodes S.last) (hdv : OnDev S) (hdl : data.length ≤ 1000000000) :
    Calls Tryz.prog 129 #[.pointer (some ⟨g.bW, 0, none⟩), .agg #[.int .i64 cu, .int .i64 cg], .int .i64 now, .int .i64 no, .string (bs data)] w (ErrR w B g (wriT S cu cg now no data) (wriE S cu cg no data.length)) := by
  have h0 := h
  have hl0 : ((S.devs.length : Int) == 0) = false := by simpa using (show ¬ (S.devs.length : Int) = 0 by omega)
  have E0 : Ext w (w.alloc (.cells #[.int .i64 cu, .int .i64 cg] 24)) := (Ext.refl _).alloc _
  have hm : Hid (wriE S cu cg no data.length = if isN S.nodes no = false then 5 else if (getN S.nodes no).kind = 1 then 8 else if ¬ (getN S.nodes no).kind = 2 then 1
      else if mayB cu cg (getN S.nodes no).uid (getN S.nodes no).gid (getN S.nodes no).mode 2 = false then 6 else if 1048576 < (data.length : Int) then 3 else fillE S no data.length) := by show _ = _; rfl
  go_enter Tryz.func129, Tryz.ntmps129
  go_wp2_with fail
  refine (pdevs_any B g S _ (h0.ext E0) hd).mono ?_
  rintro e w1 ⟨rfl, b1⟩
  have E1 := E0.trans b1
  have C1 := (Has.new w (.cells #[.int .i64 cu, .int .i64 cg] 24)).ext b1
  obtain ⟨_, _, cd, h3, _⟩ := id (h0.ext E1)
  have v0 : w1.cell? ⟨g.bW, 0, none⟩ = some (.pointer (some ⟨g.bT, 0, none⟩)) := h3.cell 0
  have z1 := h3.lt
  clear h3
  go_wp2_with fail
  refine (tget_any B g.bT g.bM S.nodes S.last no _ (h0.ext E1).2.1).mono ?_
  rintro e w2 ⟨A, c, rfl, ok2, b2⟩
  have E2 := E1.trans b2
  have C2 := C1.ext b2
  obtain ⟨m, hmm⟩ : ∃ m, m = getN S.nodes no := ⟨_, rfl⟩
  obtain ⟨i, hi⟩ : ∃ i, i = isN S.nodes no := ⟨_, rfl⟩
  rw [← hmm] at ok2 hm
  rw [← hi] at hm
  rw [← hmm, ← hi]
  obtain ⟨W3, hW3⟩ : ∃ W3, W3 = w2.alloc (.cells #[.int .i64 m.no, .int .i64 m.dev, .int .i64 m.kind, .int .i64 m.mode, .int .i64 m.uid, .int .i64 m.gid, .int .i64 m.mtime, .int .i64 m.ctime, .int .i64 m.links, .int .i64 m.up, .string (bs m.data), .slice A m.ents.length c] 87) := ⟨_, rfl⟩
  have E23 : Ext w2 W3 := by rw [hW3]; exact (Ext.refl _).alloc _
  have N3 : Has W3 w2.heap.size (.cells #[.int .i64 m.no, .int .i64 m.dev, .int .i64 m.kind, .int .i64 m.mode, .int .i64 m.uid, .int .i64 m.gid, .int .i64 m.mtime, .int .i64 m.ctime, .int .i64 m.links, .int .i64 m.up, .string (bs m.data), .slice A m.ents.length c] 87) := by rw [hW3]; exact Has.new _ _
  have C3 := C2.ext E23
  have E3 : Ext w W3 := E2.trans E23
  obtain ⟨b11, hb11⟩ : ∃ b, b = w2.heap.size := ⟨_, rfl⟩
  have hbw : w.heap.size ≤ b11 := by rw [hb11]; exact E2.size
  have HMM := Lib.hid hmm
  have HI := Lib.hid hi
  clear v0 hmm hi
  go_upto_region 4 with fail
  rw [← hW3]
  rw [← hb11] at N3 ⊢
  clear hW3 hb11
  have HS : Hid (∀ (w' : World) (x : Int), Ext w w' → wriE S cu cg no data.length = x → x ≠ 0 → ErrR w B g (wriT S cu cg now no data) (wriE S cu cg no data.length) (.returned (.int .i64 x)) w') := by
    show ∀ (w' : World) (x : Int), _
    intro w' x hE hx hx0
    rw [hx]
    exact errR_same h hE (by unfold wriT; rw [if_neg (by rw [hx]; exact hx0)])
  cases i
  · have hE : Hid (wriE S cu cg no data.length = 5) := by show _ = _; rw [hm.out]; rfl
    clear hm
    go_wp2_with fail
    go_ret
    exact HS.out _ _ E3 hE.out (by decide)
  · have k2 : W3.cell? ⟨b11, 2, none⟩ = some (.int .i64 m.kind) := N3.cell 2
    have kz := N3.lt
    by_cases c1 : m.kind = 1
    · have t1 : (m.kind == 1) = true := by simpa using c1
      have hE : Hid (wriE S cu cg no data.length = 8) := by show _ = _; rw [hm.out, if_neg (by decide), if_pos c1]
      clear hm c1
      go_wp2_with fail
      go_ret
      exact HS.out _ _ E3 hE.out (by decide)
    · have t1 : (m.kind == 1) = false := by simpa using c1
      by_cases c2 : m.kind = 2
      · have t2 : (m.kind == 2) = true := by simpa using c2
        have t2b : (m.kind != 2) = false := by simpa using c2
        have x0 : W3.cell? ⟨w.heap.size, 0, none⟩ = some (.int .i64 cu) := C3.cell 0
        have x1 : W3.cell? ⟨w.heap.size, 1, none⟩ = some (.int .i64 cg) := C3.cell 1
        have xz := C3.lt
        obtain ⟨u, hu'⟩ : ∃ u, u = mayB cu cg m.uid m.gid m.mode 2 := ⟨_, rfl⟩
        rw [← hu'] at hm
        have hm2 : Hid (wriE S cu cg no data.length = if u = false then 6 else if 1048576 < (data.length : Int) then 3 else fillE S no data.length) := by
          show _ = _; rw [hm.out, if_neg (by decide), if_neg c1, if_neg (by simpa using c2)]
        have HU := Lib.hid hu'
        clear hu' hm c1 c2
        go_wp2_with (refine wpList_load_node rfl _ rfl b11 m A c rfl N3 ?_)
        refine (pnode_any cu cg _ _ _ m.mode m.uid m.gid _ _ _ _ _ _ 2 _).mono ?_
        rw [← HU.out]
        rintro e w4 ⟨rfl, b4⟩
        have E4 := E3.trans b4
        have N4 := N3.ext b4
        clear x0 x1 xz k2 kz
        cases u
        · have hE : Hid (wriE S cu cg no data.length = 6) := by show _ = _; rw [hm2.out]; rfl
          clear hm2
          go_wp2_with fail
          go_ret
          exact HS.out _ _ E4 hE.out (by decide)
        · have hsz : ((bs data).size : Int) = data.length := by rw [bs_size]
          by_cases c3 : 1048576 < (data.length : Int)
          · have t3 : decide (1048576 < (data.length : Int)) = true := decide_eq_true c3
            have hE : Hid (wriE S cu cg no data.length = 3) := by show _ = _; rw [hm2.out, if_neg (by decide), if_pos c3]
            clear hm2 c3
            go_wp2_with fail
            go_ret
            exact HS.out _ _ E4 hE.out (by decide)
          · have t3 : decide (1048576 < (data.length : Int)) = false := decide_eq_false c3
            have hm3 : Hid (wriE S cu cg no data.length = fillE S no data.length) := by show _ = _; rw [hm2.out, if_neg (by decide), if_neg c3]
            have c3' : data.length ≤ 1048576 := by omega
            clear hm2 c3
            go_wp2_with fail
            refine (pfill_any B g S no data _ (h.ext E4) hd hd2 hr hu hdv c3').mono ?_
            rintro e w5 ⟨rfl, K5, O5⟩
            obtain ⟨x, hx⟩ : ∃ x, x = fillE S no data.length := ⟨_, rfl⟩
            rw [← hx] at hm3
            rw [← hx]
            have HX := Lib.hid hx
            have s3 := E3.size
            have s4 := E4.size
            have hlw := h.lt
            have N5 := O5.has N4 (by simp; omega)
            clear hx
            by_cases hz : x = 0
            · have hzb : (x == 0) = true := by simpa using hz
              have hzb2 : (x != 0) = false := by simpa using hz
              have HZ := Lib.hid hz
              obtain ⟨T, hT⟩ : ∃ T, T = fillT S no data := ⟨_, rfl⟩
              rw [← hT] at K5
              have hTu : NosUp T.nodes T.last := by
                rw [hT]; unfold fillT; split
                · exact hu.set _
                · exact hu
              obtain ⟨_, _, cd5, hW5, _⟩ := id K5
              have v0 : w5.cell? ⟨g.bW, 0, none⟩ = some (.pointer (some ⟨g.bT, 0, none⟩)) := hW5.cell 0
              have vz := hW5.lt
              have HT := Lib.hid hT
              clear hz hW5 hT
              go_wp2_with fail
              refine (tget_any B g.bT g.bM T.nodes T.last no _ K5.2.1).mono ?_
              rintro e w6 ⟨A6, c6, rfl, ok6, b6⟩
              have N6 := N5.ext b6
              obtain ⟨n6, hn6⟩ : ∃ n6, n6 = getN T.nodes no := ⟨_, rfl⟩
              obtain ⟨i6, hi6⟩ : ∃ i6, i6 = isN T.nodes no := ⟨_, rfl⟩
              rw [← hn6] at ok6
              rw [← hn6, ← hi6]
              have HN6 := Lib.hid hn6
              clear hn6 hi6 v0 vz
              go_upto_region 18 with (refine wpList_store_node rfl _ _ rfl b11 n6 A6 c6 rfl rfl N6 ?_; intro w7 N7 O7)
              have haP : Apart w6 B [b11] := by
                intro b hb
                rw [List.mem_singleton] at hb
                subst hb
                exact ⟨by have := h.1; omega, N6.noTag (by decide)⟩
              have hnb : ∀ b ∈ g.list, b ∉ [b11] := by
                intro b hb
                simp only [GhW.list, List.mem_cons, List.not_mem_nil, or_false] at hb
                rw [List.mem_singleton]
                rcases hb with rfl | rfl | rfl | rfl <;> omega
              have K7 : WAt w7 B g T := (K5.ext b6).only O7 haP hnb
              have ok7 : NodeOk w7 B n6 A6 c6 := ok6.only O7 haP
              have O57 : Only g.list w w7 := ((Only.pre E4 O5).ext b6).trans O7 (by intro b hb; rw [List.mem_singleton] at hb; right; omega)
              obtain ⟨y0, y1, y2, y3, y4, y5, y6, y7, y8, y9, y10, y11⟩ := N7.node12
              have yf : ∀ i, w7.frozen? ⟨b11, i, none⟩ = false := fun i => (N7.free i).trans (by simp)
              have yz := N7.lt
              obtain ⟨n, hn⟩ : ∃ n : NodeD, n = { n6 with mtime := now, ctime := now } := ⟨_, rfl⟩
              go_upto_region 19 with fail
              obtain ⟨V, hV⟩ : ∃ V, V = (w7.setCell ⟨b11, 6, none⟩ (.int .i64 now)).setCell ⟨b11, 7, none⟩ (.int .i64 now) := ⟨_, rfl⟩
              rw [← hV]
              have NV : Has V b11 (.cells #[.int .i64 n.no, .int .i64 n.dev, .int .i64 n.kind, .int .i64 n.mode, .int .i64 n.uid, .int .i64 n.gid, .int .i64 n.mtime, .int .i64 n.ctime, .int .i64 n.links, .int .i64 n.up, .string (bs n.data), .slice A6 n.ents.length c6] 87) := by rw [hV, hn]; exact (N7.setCell 6 _).setCell 7 _
              have OV : Only [b11] w7 V := by rw [hV]; exact (Only.setCell _ _ _ _).then (Only.setCell _ _ _ _)
              have haP7 : Apart w7 B [b11] := by
                intro b hb
                rw [List.mem_singleton] at hb
                subst hb
                exact ⟨by have := h.1; omega, N7.noTag (by decide)⟩
              have KV : WAt V B g T := K7.only OV haP7 hnb
              have okV : NodeOk V B n A6 c6 := (ok7.same (by rw [hn])).only OV haP7
              have O5V : Only g.list w V := O57.trans OV (by intro b hb; rw [List.mem_singleton] at hb; right; omega)
              have HN := Lib.hid hn
              clear hV hn y0 y1 y2 y3 y4 y5 y6 y7 y8 y9 y10 y11 yf yz
              obtain ⟨_, _, cdV, hWV, _⟩ := id KV
              have v0 : V.cell? ⟨g.bW, 0, none⟩ = some (.pointer (some ⟨g.bT, 0, none⟩)) := hWV.cell 0
              have vz := hWV.lt
              obtain ⟨x0, x1, x2, x3, x4, x5, x6, x7, x8, x9, x10, x11⟩ := NV.node12
              have zN := NV.lt
              clear hWV
              go_still_tail 5, (by kernel_rfl)
              change wpList _ _ _ _ _ V.drew
              go_wp2_with fail
              have ED : Ext V V.drew := (Ext.refl _).drew
              refine (wset_any B g T n A6 c6 _ (KV.ext ED) hTu (okV.ext ED)).mono ?_
              rintro e w8 ⟨rfl, K8, O8⟩
              go_wp2_with fail
              go_ret
              have e1 : wriE S cu cg no data.length = 0 := by rw [hm3.out]; exact HZ.out
              rw [e1]
              have e2 : wriT S cu cg now no data = setT T n := by
                unfold wriT
                rw [if_pos e1, ← HT.out, ← HN6.out, HN.out]
              exact ⟨rfl, by rw [e2]; exact K8, (O5V.ext ED).then O8⟩
            · have hzb : (x == 0) = false := by simpa using hz
              have hzb2 : (x != 0) = true := by simpa using hz
              have hT : Hid (fillT S no data = S) := by show _ = _; unfold fillT; rw [if_neg (by rw [← HX.out]; exact hz)]
              have hT2 : Hid (wriT S cu cg now no data = S) := by show _ = _; unfold wriT; rw [if_neg (by rw [hm3.out]; exact hz)]
              clear hz
              go_wp2_with fail
              go_ret
              rw [hm3.out]
              rw [hT.out] at K5
              exact ⟨rfl, by rw [hT2.out]; exact K5, Only.pre E4 O5⟩
      · have t2 : (m.kind == 2) = false := by simpa using c2
        have t2b : (m.kind != 2) = true := by simpa using c2
        have hE : Hid (wriE S cu cg no data.length = 1) := by show _ = _; rw [hm.out, if_neg (by decide), if_neg c1, if_pos c2]
        clear hm c1 c2
        go_wp2_with fail
        go_ret
        exact HS.out _ _ E3 hE.out (by decide)
end Go.Proofs.YtjblimclakfhfaaGreat

namespace Go.Proofs.YtjblimclakfhfaaGreat

theorem fillE_is {S : TreeD} {no dl : Int} (h : fillE S no dl = 0) : isN S.nodes no = true := by
  cases hi : isN S.nodes no
  · unfold fillE at h; rw [hi] at h; simp at h
  · rfl
theorem fillT_is (S : TreeD) (no : Int) (data : List UInt8) (k : Int) (h : isN S.nodes k = true) : isN (fillT S no data).nodes k = true := by
  unfold fillT
  split
  · rw [isN_set]; exact h
  · exact h
theorem wriE_zero {S : TreeD} {cu cg no dl : Int} (h : wriE S cu cg no dl = 0) : isN S.nodes no = true ∧ dl ≤ 1048576 ∧ fillE S no dl = 0 := by
  unfold wriE at h
  split at h
  · cases h
  · rename_i hi
    split at h
    · cases h
    · split at h
      · cases h
      · split at h
        · cases h
        · split at h
          · cases h
          · exact ⟨by simpa using hi, by omega, h⟩
end Go.Proofs.YtjblimclakfhfaaGreat

namespace Go.Proofs.YtjblimclakfhfaaGreat

/-- Such a tree is one of nodes that come and go. -/
theorem Tre.live {c : Nat} {S : TreeD} (h : Tre c S) : Live S := ⟨h.nos, h.last, h.devs, h.eight, h.roots, h.count, h.on, h.first, fun n hn e => (h.one n hn e).2.1, h.root1⟩
theorem tre_same {c : Nat} {S : TreeD} (h : Tre c S) {no : Int} {n : NodeD} (hi : isN S.nodes no = true) (hn : n.no = no) (he : n.ents = (getN S.nodes no).ents) (hd : n.data.length ≤ 1048576)
    (hk : n.kind = (getN S.nodes no).kind) (hv : n.dev = (getN S.nodes no).dev) (hu : n.up = (getN S.nodes no).up) (hl : n.links = (getN S.nodes no).links) (hm : 0 ≤ n.mode ∧ n.mode ≤ 1023) : Tre c (setT S n) := by
  subst hn
  have hm0 := (isN_true hi).2
  have hb := h.bits _ hm0.2
  refine tre_set h (.inl rfl) hi (Nat.le_refl _) hk hv hu (fun hk1 => by rw [hl]; exact h.dlinks _ hm0.2 (by rw [← hk]; exact hk1)) (by rw [he]; exact h.rise _ hm0.2) (by rw [he]; exact h.names _ hm0.2) (by rw [he]; exact h.pos _ hm0.2) (by rw [he]; exact h.small _ hm0.2) hd
    ⟨hm.1, hm.2, by rw [hl]; exact hb.2.2.1, by rw [hl]; exact hb.2.2.2⟩ (fun x hx => ?_) (fun q hq hqk _ hqu hqn => ?_)
  · rw [he] at hx
    have := h.kin _ hm0.2 x hx
    rw [hm0.1, ← hv] at this
    exact this
  · rw [he]
    rcases h.ups0 q hq hqk with ⟨_, u2⟩ | ⟨_, _, m, hm, u3, _, _, x, hx, u6⟩
    · exact absurd (u2.symm.trans hqu) hqn
    · have := (mem_getN h.nos hm).1
      rw [u3, hqu] at this
      rw [this]
      exact ⟨x, hx, u6⟩
theorem Tre.bitsN {c : Nat} {S : TreeD} (h : Tre c S) {no : Int} (hi : isN S.nodes no = true) : 0 ≤ (Proofs.YtjblimclakfhfaaGreat.getN S.nodes no).mode ∧ (Proofs.YtjblimclakfhfaaGreat.getN S.nodes no).mode ≤ 1023 := by
  have := h.bits _ (isN_true hi).2.2
  exact ⟨this.1, this.2.1⟩
theorem tre_mode {c : Nat} {S : TreeD} (h : Tre c S) (cu now no m : Int) : Tre c (modeT S cu now no m) := by
  unfold modeT
  split
  · rename_i h0
    obtain ⟨hi, hn⟩ := own_of (modeE_own h0)
    refine tre_same h hi hn rfl (h.on _ (isN_true hi).2.2).2 rfl rfl rfl rfl ?_
    unfold modeE at h0
    split at h0
    · rename_i h1; exact absurd h0 h1
    · split at h0
      · cases h0
      · rename_i h1
        rw [not_or, not_or] at h1
        exact ⟨by show 0 ≤ m; omega, by show m ≤ 1023; omega⟩
  · exact h
theorem tre_ownr {c : Nat} {S : TreeD} (h : Tre c S) (cu now no u g : Int) : Tre c (ownrT S cu now no u g) := by
  unfold ownrT
  split
  · rename_i h0
    obtain ⟨hi, hn⟩ := own_of (ownrE_own h0)
    exact tre_same h hi hn rfl (h.on _ (isN_true hi).2.2).2 rfl rfl rfl rfl (h.bitsN hi)
  · exact h
theorem tre_time {c : Nat} {S : TreeD} (h : Tre c S) (cu now no t : Int) : Tre c (timeT S cu now no t) := by
  unfold timeT
  split
  · rename_i h0
    obtain ⟨hi, hn⟩ := own_of (timeE_own h0)
    exact tre_same h hi hn rfl (h.on _ (isN_true hi).2.2).2 rfl rfl rfl rfl (h.bitsN hi)
  · exact h
theorem tre_fill {c : Nat} {S : TreeD} (h : Tre c S) (no : Int) (data : List UInt8) (hd : data.length ≤ 1048576) : Tre c (fillT S no data) := by
  unfold fillT
  split
  · rename_i h0
    have hi := fillE_is h0
    have ho := h.on _ (isN_true hi).2.2
    exact tre_same (no := no) (n := { getN S.nodes no with data := data }) (tre_room h (getN S.nodes no).dev _ (h.live.fine ho.1 _ _) S.last (Int.le_refl _)) hi (isN_true hi).2.1 rfl hd rfl rfl rfl rfl (h.bitsN hi)
  · exact h
theorem tre_wri {c : Nat} {S : TreeD} (h : Tre c S) (cu cg now no : Int) (data : List UInt8) : Tre c (wriT S cu cg now no data) := by
  unfold wriT
  split
  · rename_i h0
    obtain ⟨hi, hd, _⟩ := wriE_zero h0
    have hG := tre_fill h no data (by omega)
    have hi2 := fillT_is S no data no hi
    exact tre_same hG (n := { getN (fillT S no data).nodes no with mtime := now, ctime := now }) hi2 (isN_true hi2).2.1 rfl (hG.on _ (isN_true hi2).2.2).2 rfl rfl rfl rfl (hG.bitsN hi2)
  · exact h
end Go.Proofs.YtjblimclakfhfaaGreat
