/- A region that draws its order, in which calls change what lies in memory: they come one behind the other (each waits for the one before), so what they find is told by their number; all else yields the same value whenever it comes. One walk of the text's order serves every order. | Two trees in one memory through calls: the program's, the reference's; what else lies there stays. | The reference's Away: a node goes. | Layer 14: the reference's Kill. | Layer 14: the reference's Fill. | Calls' answers as what a mixed world asks. | Layer 20 (attr): Owner, Time. | AttrOne, plain: what three calls on a node leave. | Layer 20 (attr): Fill. | Plain: trees keep growing true through the changes of attributes and bytes. | Plain: the trees of the calls stay true through the changes of attributes and bytes. -/
import Derived.Test.YtjblimclakfhfaaBunC
import Derived.Test.YtjblimclakfhfaaBunD
import Derived.Test.YtjblimclakfhfaaBunF
import Derived.Test.YtjblimclakfhfaaBunE
namespace Go.Proofs.Ytjblimclakfhfaa
open Go

section
variable {P : Program} {ops : Array Oper} {md : Region.Mode} {E : Nat → Sem Next → Value → Prop}
/-- Operation i yields v, whatever 'E' says of it. -/
def yieldsE (ops : Array Oper) (E : Nat → Sem Next → Value → Prop) (i : Nat) (o : Oper) (v : Value) (a : Act) : Prop :=
  (Region.wanted o (yielded ops a.tmps) = true ∧ E i (execOp a.eval o) v) ∨ (Region.wanted o (yielded ops a.tmps) = false ∧ v = undef)
def eOp (ops : Array Oper) (E : Nat → Sem Next → Value → Prop) (i : Nat) (K : Act → Prop) (a : Act) : Prop :=
  match ops[i]? with
  | none => K a
  | some o => if Region.wanted o (yielded ops a.tmps) then ∃ v, E i (execOp a.eval o) v ∧ K (a.put o.dst v) else K (a.put o.dst undef)
theorem eOp_mono {i : Nat} {a : Act} {K K' : Act → Prop} (h : ∀ a, K a → K' a) (hh : eOp ops E i K a) : eOp ops E i K' a := by
  unfold eOp at *
  split
  · rename_i ho; rw [ho] at hh; exact h _ hh
  · rename_i o ho
    rw [ho] at hh
    dsimp only at hh
    split
    · rename_i hw; rw [if_pos hw] at hh; obtain ⟨v, h1, h2⟩ := hh; exact ⟨v, h1, h _ h2⟩
    · rename_i hw; rw [if_neg hw] at hh; exact h _ hh
theorem eOp_of {i : Nat} {o : Oper} {v : Value} {a : Act} (hi : ops[i]? = some o) (hy : yieldsE ops E i o v a) {K : Act → Prop} (h : K (a.put o.dst v)) : eOp ops E i K a := by
  unfold eOp
  rw [hi]
  dsimp only
  rcases hy with ⟨hw, hv⟩ | ⟨hw, rfl⟩
  · rw [if_pos hw]; exact ⟨v, hv, h⟩
  · rw [if_neg (by rw [hw]; decide)]; exact h
theorem yields_of_eOp {i : Nat} {o : Oper} {a : Act} {K : Act → Prop} (hi : ops[i]? = some o) (h : eOp ops E i K a) : ∃ v, yieldsE ops E i o v a ∧ K (a.put o.dst v) := by
  unfold eOp at h
  rw [hi] at h
  dsimp only at h
  by_cases hw : Region.wanted o (yielded ops a.tmps) = true
  · rw [if_pos hw] at h; obtain ⟨v, h1, h2⟩ := h; exact ⟨v, .inl ⟨hw, h1⟩, h2⟩
  · rw [if_neg hw] at h; exact ⟨undef, .inr ⟨by simpa using hw, rfl⟩, h⟩
theorem yieldsE_same {i : Nat} {o : Oper} {v : Value} {a a' : Act} (hy : yieldsE ops E i o v a) (he : execOp a'.eval o = execOp a.eval o) (hw : Region.wanted o (yielded ops a'.tmps) = Region.wanted o (yielded ops a.tmps)) : yieldsE ops E i o v a' := by
  unfold yieldsE at *
  rw [he, hw]; exact hy
theorem eOp_put {i j : Nat} {oi oj : Oper} {v : Value} (hj : ops[j]? = some oj) (hap : oi.apart ops oj = true)
    (hsi : ∀ cs b, oi.op ≠ .select cs b) (hsj : ∀ cs b, oj.op ≠ .select cs b) {K : Act → Prop} {a : Act}
    (hy : yieldsE ops E i oi v a) (h : eOp ops E j K (a.put oi.dst v)) : eOp ops E j (fun a' => yieldsE ops E i oi v a' ∧ K (a'.put oi.dst v)) a := by
  obtain ⟨h1, h2, h3⟩ := Oper.apart_spec hap
  have keep : ∀ (a : Act), yieldsE ops E i oi v a → ∀ u, yieldsE ops E i oi v (a.put oj.dst u) := fun a hy u =>
    yieldsE_same hy (execOp_put oi hsi a oj.dst u h3) (wanted_put oi a oj.dst u h3)
  unfold eOp at *
  rw [hj] at h ⊢
  dsimp only at h ⊢
  rw [wanted_put oj a oi.dst v h1, execOp_put oj hsj a oi.dst v h1] at h
  split
  · rename_i hw
    rw [if_pos hw] at h
    obtain ⟨u, hu, hn⟩ := h
    exact ⟨u, hu, keep a hy u, by rw [← Act.put_comm a v u h2]; exact hn⟩
  · rename_i hw
    rw [if_neg hw] at h
    exact ⟨keep a hy _, by rw [← Act.put_comm a v undef h2]; exact h⟩
/-- Whatever order is picked; at the end these have come up. -/
def wpAnyE (md : Region.Mode) (ops : Array Oper) (E : Nat → Sem Next → Value → Prop) (ks : List Nat) (Q : Act → Prop) : Nat → Array Bool → Act → Prop
  | 0, listed, a => Region.ready md ops listed = [] ∧ (∀ k ∈ ks, listed.getD k false = true) ∧ Q a
  | f + 1, listed, a => Region.ready md ops listed ≠ [] ∧ ∀ i ∈ Region.ready md ops listed, eOp ops E i (wpAnyE md ops E ks Q f (listed.setIfInBounds i true)) a
theorem wpAnyE_first {ks : List Nat} {Q : Act → Prop} {i : Nat} {oi : Oper} {v : Value} (hi : ops[i]? = some oi) (hsel : ∀ (j : Nat) (o : Oper) cs b, ops[j]? = some o → o.op ≠ .select cs b) :
    ∀ (fuel : Nat) (listed : Array Bool) (a : Act),
      (∀ j oj, ops[j]? = some oj → j ≠ i → listed.getD j true = false → (∀ e ∈ oj.after, Region.binds md e = true → e.on ≠ i) → oi.apart ops oj = true) →
      i ∈ Region.ready md ops listed → yieldsE ops E i oi v a →
      wpAnyE md ops E ks Q fuel (listed.setIfInBounds i true) (a.put oi.dst v) → wpAnyE md ops E ks Q (fuel + 1) listed a := by
  intro fuel
  induction fuel with
  | zero =>
    intro listed a _ hr hy H
    refine ⟨fun h => (by rw [h] at hr; cases hr), fun j hj => ?_⟩
    by_cases hji : j = i
    · subst hji; exact eOp_of hi hy H
    · have := ready_mono hj hji
      rw [H.1] at this
      cases this
  | succ fuel ih =>
    intro listed a hfree hr hy H
    refine ⟨fun h => (by rw [h] at hr; cases hr), fun j hj => ?_⟩
    by_cases hji : j = i
    · subst hji; exact eOp_of hi hy H
    · have h1 := H.2 j (ready_mono hj hji)
      obtain ⟨hjun, oj, hoj, hall⟩ := mem_ready.1 hj
      have hnot : ∀ e ∈ oj.after, Region.binds md e = true → e.on ≠ i := fun e he hb heq => by
        have h1 := hall e he hb
        have h0 := (mem_ready.1 hr).1
        rw [heq] at h1
        rcases Nat.lt_or_ge i listed.size with h' | h'
        · simp [h'] at h0 h1; rw [h0] at h1; cases h1
        · simp [Array.getElem?_eq_none h'] at h1
      have h2 := eOp_put hoj (hfree j oj hoj hji hjun hnot) (fun cs b => hsel i oi cs b hi) (fun cs b => hsel j oj cs b hoj) hy h1
      have hfree' : ∀ k ok, ops[k]? = some ok → k ≠ i → (listed.setIfInBounds j true).getD k true = false →
          (∀ e ∈ ok.after, Region.binds md e = true → e.on ≠ i) → oi.apart ops ok = true := fun k ok hk hki hun hno => by
        refine hfree k ok hk hki ?_ hno
        by_cases hjk : j = k
        · subst hjk; exact hjun
        · rw [getD_set_ne true hjk] at hun; exact hun
      refine eOp_mono (fun a' h3 => ih (listed.setIfInBounds j true) a' hfree' (ready_mono hr (Ne.symm hji)) h3.1 ?_) h2
      rw [Array.setIfInBounds_comm _ _ hji]
      exact h3.2
/-- The lexical walk. -/
def wpLexE (ops : Array Oper) (E : Nat → Sem Next → Value → Prop) (Q : Act → Prop) : List Oper → Nat → Act → Prop
  | [], _, a => Q a
  | o :: rest, k, a => if Region.wanted o (yielded ops a.tmps) then ∃ v, E k (execOp a.eval o) v ∧ wpLexE ops E Q rest (k + 1) (a.put o.dst v) else wpLexE ops E Q rest (k + 1) (a.put o.dst undef)
theorem wpAnyE_lex {ks : List Nat} {Q : Act → Prop} (hs : Region.noSelect ops = true) (hks : ∀ k ∈ ks, k < ops.size) : ∀ (l : List Oper) (k : Nat) (listed : Array Bool) (a : Act), (∀ j, l[j]? = ops[k + j]?) →
    (∀ j, j < k → j < ops.size → listed.getD j false = true) → listed.size = ops.size → ops.size ≤ k + l.length → Region.lexFrom md ops l.length k listed = true → wpLexE ops E Q l k a → wpAnyE md ops E ks Q l.length listed a
  | [], k, listed, a, _, hdone, _, hm, hB, h => ⟨by simpa [Region.lexFrom] using hB, fun j hj => hdone j (by have := hks j hj; simp at hm; omega) (hks j hj), h⟩
  | o :: l, k, listed, a, hl, hdone, hsz, hm, hB, h => by
    have h0 : ops[k]? = some o := by simpa using (hl 0).symm
    simp only [List.length_cons, Region.lexFrom, Bool.and_eq_true] at hB
    obtain ⟨⟨hr, hf⟩, hB'⟩ := hB
    have hst : eOp ops E k (wpLexE ops E Q l (k + 1)) a := by unfold eOp; rw [h0]; exact h
    obtain ⟨v, hy, hK⟩ := yields_of_eOp h0 hst
    refine wpAnyE_first h0 (Region.noSelect_spec hs) l.length listed a (Region.free_spec h0 hf) (by simpa using hr) hy
      (wpAnyE_lex hs hks l (k + 1) _ _ (fun j => by have := hl (j + 1); simpa [Nat.add_assoc, Nat.add_comm 1 j] using this) ?_ (by simpa using hsz) (by simp only [List.length_cons] at hm; omega) hB' hK)
    intro j hj hjs
    by_cases e : k = j
    · subst e
      have : k < listed.size := by omega
      simp [this]
    · rw [getD_set_ne false e]; exact hdone j (by omega) hjs
end
/-! ### Phases. -/
/-- The place of an operation among those that change memory. -/
def placeOf : List Nat → Nat → Option Nat
  | [], _ => none
  | k :: ks, i => if k = i then some 0 else (placeOf ks i).map (· + 1)
theorem placeOf_some : ∀ {ks : List Nat} {i t : Nat}, placeOf ks i = some t → ks[t]? = some i
  | k :: ks, i, t, h => by
    unfold placeOf at h
    split at h
    · rename_i e; injection h with h; subst h; subst e; rfl
    · cases hp : placeOf ks i with
      | none => rw [hp] at h; cases h
      | some s =>
        rw [hp] at h
        injection h with h
        subst h
        simpa using placeOf_some hp
theorem placeOf_none : ∀ {ks : List Nat} {i : Nat}, placeOf ks i = none → i ∉ ks
  | [], _, _ => by simp
  | k :: ks, i, h => by
    unfold placeOf at h
    split at h
    · cases h
    · rename_i e
      cases hp : placeOf ks i with
      | none => rw [List.mem_cons, not_or]; exact ⟨fun x => e x.symm, placeOf_none hp⟩
      | some s => rw [hp] at h; cases h
/-- A world of some phase; a world of a class. -/
structure Hp (Ph : Nat → World → Prop) where
  j : Nat
  w : World
  h : Ph j w
structure Wc (C : World → Prop) where
  w : World
  h : C w
theorem Hp.all {Ph : Nat → World → Prop} {T : World → Prop} (h : ∀ j w, Ph j w → T w) : ∀ u : Hp Ph, T u.w := fun u => h u.j u.w u.h
/-- An operation that changes memory yields v, and leaves a world of the class. -/
def changeUpon (P : Program) (C : World → Prop) (v : Value) : Result Next → Prop
  | .ok (.value u) w' => u = v ∧ C w'
  | .ok .skip w' => v = undef ∧ C w'
  | .ok (.enter f args) w' => Calls P f args w' (fun e w'' => e = .returned v ∧ C w'')
  | _ => False
/-- What is asked of an operation: a change leads from its own phase to the next; all else yields in every phase, and stays there. -/
def phE (P : Program) (Ph : Nat → World → Prop) (ks : List Nat) (i : Nat) (x : Sem Next) (v : Value) : Prop :=
  match placeOf ks i with
  | some j => ∀ u : Wc (Ph j), changeUpon P (Ph (j + 1)) v (x.run P u.w)
  | none => ∀ u : Hp Ph, Oper.quietUpon P (Ph u.j) u.w v (x.run P u.w)
theorem wp_of_quietUpon {P : Program} {o : Oper} {a : Act} {v : Value} {w : World} {C : World → Prop} {K' : Act → World → Prop} {Q' : Exit → Act → World → Prop} (h1 : Oper.quietUpon P C w v ((execOp a.eval o).run P w)) (hC : C w) (hK : ∀ w'', C w'' → K' (a.put o.dst v) w'') : o.wp P a w K' Q' := by
  unfold Oper.wp
  generalize (execOp a.eval o).run P w = r at *
  cases r with
  | ok n w' =>
    cases n <;> simp only [Oper.quietUpon] at h1 <;> simp only [Oper.upon]
    case value u => obtain ⟨e1, e2⟩ := h1; rw [e1, e2]; exact hK _ hC
    case skip => obtain ⟨e1, e2⟩ := h1; rw [e1, ← e2]; exact hK _ hC
    case enter f args =>
      obtain ⟨e1, hc⟩ := h1
      rw [e1]
      exact hc.mono fun e w'' ⟨he, hw''⟩ => by subst he; exact hK _ hw''
  | halt x w' => simp only [Oper.quietUpon] at h1
theorem wp_of_changeUpon {P : Program} {o : Oper} {a : Act} {v : Value} {w : World} {C : World → Prop} {K' : Act → World → Prop} {Q' : Exit → Act → World → Prop} (h1 : changeUpon P C v ((execOp a.eval o).run P w)) (hK : ∀ w'', C w'' → K' (a.put o.dst v) w'') : o.wp P a w K' Q' := by
  unfold Oper.wp
  generalize (execOp a.eval o).run P w = r at *
  cases r with
  | ok n w' =>
    cases n <;> simp only [changeUpon] at h1 <;> simp only [Oper.upon]
    case value u => obtain ⟨e1, e2⟩ := h1; rw [e1]; exact hK _ e2
    case skip => obtain ⟨e1, e2⟩ := h1; rw [← e1]; exact hK _ e2
    case enter f args => exact h1.mono fun e w'' ⟨he, hw''⟩ => by subst he; exact hK _ hw''
  | halt x w' => simp only [changeUpon] at h1
theorem wpAny_of_E {P : Program} {ops : Array Oper} {md : Region.Mode} {Ph : Nat → World → Prop} {ks : List Nat} {Q : Act → Prop} {Q' : Exit → Act → World → Prop}
    (hch : ∀ t k k', ks[t]? = some k → ks[t + 1]? = some k' → ∃ o, ops[k']? = some o ∧ ∃ e ∈ o.after, Region.binds md e = true ∧ e.on = k)
    (hnd : ks.Nodup) (hg : ∀ k ∈ ks, ∃ o, ops[k]? = some o ∧ o.guard = none) (hQ : ∀ a w, Ph ks.length w → Q a → Q' .normal a w) :
    ∀ (f : Nat) (listed : Array Bool) (a : Act) (w : World) (j : Nat), j ≤ ks.length → (∀ t k, ks[t]? = some k → listed.getD k false = decide (t < j)) → (∀ k ∈ ks, k < listed.size) → Ph j w →
      wpAnyE md ops (phE P Ph ks) ks Q f listed a → wpAny P md ops Q' f listed a w
  | 0, listed, a, w, j, hj, hl, _, hw, ⟨h1, h2, h3⟩ => by
    refine ⟨h1, hQ a w ?_ h3⟩
    rcases Nat.lt_or_ge j ks.length with g | g
    · have e : ks[j]? = some ks[j] := List.getElem?_eq_getElem g
      have h4 := hl j _ e
      rw [h2 _ (List.getElem_mem g)] at h4
      simp at h4
    · have : j = ks.length := by omega
      rw [← this]; exact hw
  | f + 1, listed, a, w, j, hj, hl, hsz, hw, ⟨hne, hall⟩ => by
    refine ⟨fun h0 => absurd h0 hne, fun i hi => ?_⟩
    have hr := hall i hi
    obtain ⟨hun, o, ho, hwait⟩ := mem_ready.1 hi
    have ih := wpAny_of_E (P := P) hch hnd hg hQ f
    unfold eOp at hr
    unfold wpOp
    rw [ho] at hr ⊢
    dsimp only at hr ⊢
    cases hp : placeOf ks i with
    | some t =>
      have hk := placeOf_some hp
      have hki : i ∈ ks := List.mem_of_getElem? hk
      have hlk := hl t i hk
      have hun2 : listed.getD i false = false := by
        have := hsz i hki
        simp [this] at hun ⊢
        exact hun
      rw [hun2] at hlk
      have htj : ¬ t < j := by simpa using hlk.symm
      have hjt : t = j := by
        cases t with
        | zero => omega
        | succ s =>
          have hsl : s + 1 < ks.length := (List.getElem?_eq_some_iff.1 hk).1
          have e : ks[s]? = some ks[s] := List.getElem?_eq_getElem (by omega)
          obtain ⟨o2, ho2, ed, he1, he2, he3⟩ := hch s _ _ e hk
          rw [ho] at ho2
          injection ho2 with ho2
          subst ho2
          have h5 := hwait ed he1 he2
          rw [he3, hl s _ e] at h5
          have : s < j := by simpa using h5
          omega
      subst hjt
      obtain ⟨og, hog, hgn⟩ := hg i hki
      rw [ho] at hog
      injection hog with hog
      subst hog
      have hwn : Region.wanted o (yielded ops a.tmps) = true := by unfold Region.wanted; rw [hgn]
      rw [if_pos hwn] at hr ⊢
      obtain ⟨v, h1, h2⟩ := hr
      unfold phE at h1
      rw [hp] at h1
      left
      have htl : t < ks.length := (List.getElem?_eq_some_iff.1 hk).1
      refine wp_of_changeUpon (h1 ⟨w, hw⟩) fun w'' hw'' => ih _ _ w'' (t + 1) htl (fun s k hs => ?_) (fun k hk2 => by simpa using hsz k hk2) hw'' h2
      by_cases e : i = k
      · subst e
        have : s = t := by
          have h6 := List.getElem?_eq_some_iff.1 hs
          have h7 := List.getElem?_eq_some_iff.1 hk
          obtain ⟨a1, a2⟩ := h6
          obtain ⟨b1, b2⟩ := h7
          exact (List.getElem_inj hnd).1 (a2.trans b2.symm)
        subst this
        have := hsz i hki
        simp [this]
      · rw [getD_set_ne false e, hl s k hs]
        have : s ≠ t := fun e2 => by
          subst e2
          rw [hk] at hs
          injection hs with hs
          exact e hs
        simp
        omega
    | none =>
      have hki := placeOf_none hp
      have hl' : ∀ t k, ks[t]? = some k → (listed.setIfInBounds i true).getD k false = decide (t < j) := fun t k hk => by
        have : i ≠ k := fun e => hki (by rw [e]; exact List.mem_of_getElem? hk)
        rw [getD_set_ne false this]; exact hl t k hk
      have hsz' : ∀ k ∈ ks, k < (listed.setIfInBounds i true).size := fun k hk2 => by simpa using hsz k hk2
      split
      · rename_i hwn
        rw [if_pos hwn] at hr
        obtain ⟨v, h1, h2⟩ := hr
        unfold phE at h1
        rw [hp] at h1
        left
        exact wp_of_quietUpon (h1 ⟨j, w, hw⟩) hw fun w'' hw'' => ih _ _ w'' j hj hl' hsz' hw'' h2
      · rename_i hwn
        rw [if_neg hwn] at hr
        exact ih _ _ w j hj hl' hsz' hw hr
/-- The changes: each waits for the one before; none is guarded. -/
def chainB (l : List Oper) : List Nat → Bool
  | [] => true
  | [k] => (match l[k]? with
    | some o => o.guard == none
    | none => false)
  | k :: k2 :: ks => (match l[k]? with
    | some o => o.guard == none
    | none => false) && (decide (k < k2) && (match l[k2]? with
      | some o2 => o2.after.any (fun e => Region.binds .any e && e.on == k)
      | none => false)) && chainB l (k2 :: ks)
theorem chainB_guard {l : List Oper} : ∀ {ks : List Nat}, chainB l ks = true → ∀ k ∈ ks, ∃ o, l[k]? = some o ∧ o.guard = none
  | [], _, _, h => by cases h
  | [k], h, x, hx => by
    rw [List.mem_singleton] at hx
    subst hx
    unfold chainB at h
    cases ho : l[x]? with
    | none => rw [ho] at h; cases h
    | some o => rw [ho] at h; exact ⟨o, rfl, by simpa using h⟩
  | k :: k2 :: ks, h, x, hx => by
    unfold chainB at h
    simp only [Bool.and_eq_true] at h
    obtain ⟨⟨h1, _⟩, h3⟩ := h
    rcases List.mem_cons.1 hx with rfl | hx
    · cases ho : l[x]? with
      | none => rw [ho] at h1; cases h1
      | some o => rw [ho] at h1; exact ⟨o, rfl, by simpa using h1⟩
    · exact chainB_guard h3 x hx
theorem chainB_after {l : List Oper} : ∀ {ks : List Nat}, chainB l ks = true → ∀ t k k', ks[t]? = some k → ks[t + 1]? = some k' → k < k' ∧ ∃ o, l[k']? = some o ∧ ∃ e ∈ o.after, Region.binds .any e = true ∧ e.on = k
  | [], _, t, k, k', h, _ => by simp at h
  | [x], _, t, k, k', _, h => by simp at h
  | x :: y :: ks, h, t, k, k', h1, h2 => by
    unfold chainB at h
    simp only [Bool.and_eq_true, decide_eq_true_eq] at h
    obtain ⟨⟨_, g1, g2⟩, g3⟩ := h
    cases t with
    | zero =>
      simp at h1 h2
      subst h1
      subst h2
      refine ⟨g1, ?_⟩
      cases ho : l[y]? with
      | none => rw [ho] at g2; cases g2
      | some o =>
        rw [ho] at g2
        simp only [Array.any_eq_true', Bool.and_eq_true, beq_iff_eq] at g2
        obtain ⟨e, a1, a2, a3⟩ := g2
        exact ⟨o, rfl, e, a1, a2, a3⟩
    | succ t => exact chainB_after g3 t k k' (by simpa using h1) (by simpa using h2)
theorem chainB_up {l : List Oper} {ks : List Nat} (h : chainB l ks = true) : ks.Pairwise (· < ·) := by
  induction ks with
  | nil => exact List.Pairwise.nil
  | cons k ks ih =>
    have h2 : chainB l ks = true := by
      cases ks with
      | nil => rfl
      | cons k2 ks => unfold chainB at h; simp only [Bool.and_eq_true] at h; exact h.2
    have hp := ih h2
    refine List.pairwise_cons.2 ⟨fun x hx => ?_, hp⟩
    cases ks with
    | nil => cases hx
    | cons k2 ks =>
      have h0 := (chainB_after h 0 k k2 rfl rfl).1
      rcases List.mem_cons.1 hx with rfl | hx
      · exact h0
      · have := (List.pairwise_cons.1 hp).1 x hx
        omega
/-- A drawn region in which the operations 'ks' change memory. -/
theorem wp_region_phase {P : Program} {id : Nat} {Q : Exit → Act → World → Prop} {a : Act} {w : World} {l : List Oper} (Ph : Nat → World → Prop) (ks : List Nat)
    (hm : P.follows .mixedOrders = true) (hB : Region.lexB .any l.toArray = true) (hc : chainB l ks = true) (hV : Ph 0 w.drew)
    (h : wpLexE l.toArray (phE P Ph ks) (fun a' => ∀ w', Ph ks.length w' → Q .normal a' w') l 0 a) : (Code.region id l.toArray true).wp P Q a w := by
  simp only [Region.lexB, Bool.and_eq_true] at hB
  have hgd := chainB_guard hc
  have hsz : ∀ k ∈ ks, k < l.toArray.size := fun k hk => by
    obtain ⟨o, ho, _⟩ := hgd k hk
    simpa using (List.getElem?_eq_some_iff.1 ho).1
  refine wp_region_any hm ?_
  refine wpAny_of_E (P := P) (Ph := Ph) (ks := ks) (Q := fun a' => ∀ w', Ph ks.length w' → Q .normal a' w') (fun t k k' h1 h2 => ?_) ((chainB_up hc).imp (fun h => Nat.ne_of_lt h)) (fun k hk => ?_) (fun a w h1 h2 => h2 w h1) _ _ a w.drew 0 (Nat.zero_le _) (fun t k hk => ?_) (fun k hk => ?_) hV ?_
  · obtain ⟨o, ho, he⟩ := (chainB_after hc t k k' h1 h2).2
    exact ⟨o, by simpa using ho, he⟩
  · obtain ⟨o, ho, hgn⟩ := hgd k hk
    exact ⟨o, by simpa using ho, hgn⟩
  · have := hsz k (List.mem_of_getElem? hk)
    simp at this
    simp [this]
  · simpa using hsz k hk
  · have := wpAnyE_lex (md := .any) (ks := ks) hB.1 hsz l 0 (Array.replicate l.toArray.size false) a (by simp) (fun j hj => by omega) (by simp) (by simp) (by simpa using hB.2) h
    simpa using this
/-! ### The walk's steps. -/
section
variable {P : Program} {ops : Array Oper} {Ph : Nat → World → Prop} {ks : List Nat} {Q : Act → Prop} {a : Act}
theorem wpLexE_nil {E : Nat → Sem Next → Value → Prop} {k : Nat} (h : Q a) : wpLexE ops E Q [] k a := h
theorem wpLexE_plain {o : Oper} {rest : List Oper} {k : Nat} (hp : placeOf ks k = none)
    (h : ∀ K : Act → Prop, (∀ a, wpLexE ops (phE P Ph ks) Q rest (k + 1) a → K a) → if Region.wanted o (yielded ops a.tmps) then ∃ v, (∀ u : Hp Ph, o.quietAt P a (Ph u.j) u.w v) ∧ K (a.put o.dst v) else K (a.put o.dst undef)) : wpLexE ops (phE P Ph ks) Q (o :: rest) k a := by
  unfold wpLexE
  have := h _ (fun _ h => h)
  unfold phE
  rw [hp]
  exact this
theorem wpLexE_change {o : Oper} {rest : List Oper} {k : Nat} (j : Nat) (hp : placeOf ks k = some j) (hg : o.guard = none)
    (h : ∀ K : Act → Prop, (∀ a, wpLexE ops (phE P Ph ks) Q rest (k + 1) a → K a) → ∃ v, (∀ u : Wc (Ph j), changeUpon P (Ph (j + 1)) v ((execOp a.eval o).run P u.w)) ∧ K (a.put o.dst v)) : wpLexE ops (phE P Ph ks) Q (o :: rest) k a := by
  unfold wpLexE
  have hw : Region.wanted o (yielded ops a.tmps) = true := by unfold Region.wanted; rw [hg]
  rw [if_pos hw]
  have := h _ (fun _ h => h)
  unfold phE
  rw [hp]
  exact this
end
end Go.Proofs.Ytjblimclakfhfaa

namespace Go.Proofs.Ytjblimclakfhfaa
open Go.ChangeShapes Go.WideShapes Go.ChangeAt Go.RowKit

/-- Since w0, the program's tree has become T, the reference's S; nothing else that lay there has changed. -/
def Mix (w0 : World) (B : Nat) (g : GhW) (f : GhF) (T S : TreeD) (X : Xtra) (w' : World) : Prop :=
  ∃ g' f', GhW.on g' g w0 ∧ GhF.on f' f w0 ∧ WAt w' B g' T ∧ FAt w' B f' S X ∧ Only (g.list ++ f.list) w0 w'
theorem Mix.start {w0 : World} {B : Nat} {g : GhW} {f : GhF} {S T : TreeD} {X : Xtra} (K : WAt w0 B g T) (F : FAt w0 B f S X) : Mix w0 B g f T S X w0 :=
  ⟨g, f, GhW.on_refl g w0, GhF.on_refl f w0, K, F, Only.refl _ _⟩
theorem Mix.ext {w0 w w' : World} {B : Nat} {g : GhW} {f : GhF} {S T : TreeD} {X : Xtra} (h : Mix w0 B g f T S X w) (k : Ext w w') : Mix w0 B g f T S X w' := by
  obtain ⟨g', f', h1, h2, h3, h4, h5⟩ := h
  exact ⟨g', f', h1, h2, h3.ext k, h4.ext k, h5.ext k⟩
theorem Mix.only {w0 w : World} {B : Nat} {g : GhW} {f : GhF} {S T : TreeD} {X : Xtra} (h : Mix w0 B g f T S X w) : Only (g.list ++ f.list) w0 w := by
  obtain ⟨_, _, _, _, _, _, h5⟩ := h; exact h5
theorem Mix.has {w0 w : World} {B b : Nat} {g : GhW} {f : GhF} {S T : TreeD} {X : Xtra} {o : Obj} (h : Mix w0 B g f T S X w) (k : Has w0 b o) (hb : b ∉ g.list ++ f.list) : Has w b o := h.only.has k hb
/-- The program's call. -/
theorem Mix.prog {w0 w w' : World} {B : Nat} {g g1 g2 : GhW} {f f1 : GhF} {S T T' : TreeD} {X : Xtra} (h1 : GhW.on g1 g w0) (h2 : GhF.on f1 f w0) (hK : WAt w B g1 T) (hF : FAt w B f1 S X) (hO : Only (g.list ++ f.list) w0 w)
    (k : WAt w' B g2 T') (o : Only g1.list w w') (hg : GhW.on g2 g1 w) : Mix w0 B g f T' S X w' :=
  ⟨g2, f1, GhW.on_trans h1 hg hO.size, h2, k, FAt.byW hF hK o, hO.trans o (fun x hx => by
    rcases h1.2 x hx with e | e
    · exact .inl (List.mem_append_left _ e)
    · exact .inr e)⟩
/-- The reference's call. -/
theorem Mix.refc {w0 w w' : World} {B : Nat} {g g1 : GhW} {f f1 f2 : GhF} {S T S' : TreeD} {X X' : Xtra} (h1 : GhW.on g1 g w0) (h2 : GhF.on f1 f w0) (hK : WAt w B g1 T) (hF : FAt w B f1 S X) (hO : Only (g.list ++ f.list) w0 w)
    (k : FAt w' B f2 S' X') (o : Only f1.list w w') (hf : GhF.on f2 f1 w) : Mix w0 B g f T S' X' w' :=
  ⟨g1, f2, h1, GhF.on_trans h2 hf hO.size, WAt.byF hK hF o, k, hO.trans o (fun x hx => by
    rcases h2.2 x hx with e | e
    · exact .inl (List.mem_append_right _ e)
    · exact .inr e)⟩
/-- A call of the program's, met in such a world. -/
theorem Mix.callW {w0 w : World} {B : Nat} {g : GhW} {f : GhF} {S T T' : TreeD} {X : Xtra} {v : Value} {P : Program} {fn : FuncId} {args : Array Value} (h : Mix w0 B g f T S X w)
    (c : ∀ g1 : GhW, g1.bW = g.bW → WAt w B g1 T → Calls P fn args w (fun e w' => e = .returned v ∧ ∃ g2, WAt w' B g2 T' ∧ Only g1.list w w' ∧ GhW.on g2 g1 w)) : Calls P fn args w (fun e w' => e = .returned v ∧ Mix w0 B g f T' S X w') := by
  obtain ⟨g1, f1, h1, h2, h3, h4, h5⟩ := h
  refine (c g1 h1.1 h3).mono ?_
  rintro e w' ⟨he, g2, k1, k2, k3⟩
  exact ⟨he, Mix.prog h1 h2 h3 h4 h5 k1 k2 k3⟩
/-- A call of the reference's. -/
theorem Mix.callF {w0 w : World} {B : Nat} {g : GhW} {f : GhF} {S S' T : TreeD} {X X' : Xtra} {v : Value} {P : Program} {fn : FuncId} {args : Array Value} (h : Mix w0 B g f T S X w)
    (c : ∀ f1 : GhF, f1.bF = f.bF → FAt w B f1 S X → Calls P fn args w (fun e w' => e = .returned v ∧ ∃ f2, FAt w' B f2 S' X' ∧ Only f1.list w w' ∧ GhF.on f2 f1 w)) : Calls P fn args w (fun e w' => e = .returned v ∧ Mix w0 B g f T S' X' w') := by
  obtain ⟨g1, f1, h1, h2, h3, h4, h5⟩ := h
  refine (c f1 h2.1 h4).mono ?_
  rintro e w' ⟨he, f2, k1, k2, k3⟩
  exact ⟨he, Mix.refc h1 h2 h3 h4 h5 k1 k2 k3⟩
/-- A call that only makes memory. -/
theorem Mix.callE {w0 w : World} {B : Nat} {g : GhW} {f : GhF} {S T : TreeD} {X : Xtra} {v : Value} {P : Program} {fn : FuncId} {args : Array Value} (h : Mix w0 B g f T S X w) (c : Calls P fn args w (Ret w v)) : Calls P fn args w (fun e w' => e = .returned v ∧ Mix w0 B g f T S X w') :=
  c.mono fun _ _ h2 => ⟨h2.1, h.ext h2.2⟩
theorem Mix.now {w0 w : World} {B : Nat} {g : GhW} {f : GhF} {S T : TreeD} {X : Xtra} (h : Mix w0 B g f T S X w) : w.cell? ⟨f.bF, 3, none⟩ = some (.int .i64 X.now) := by
  obtain ⟨g1, f1, h1, h2, h3, ⟨_, cn, ce, k, _⟩, h5⟩ := h
  rw [← h2.1]; exact k.cell 3
theorem Mix.last {w0 w : World} {B : Nat} {g : GhW} {f : GhF} {S T : TreeD} {X : Xtra} (h : Mix w0 B g f T S X w) : w.cell? ⟨f.bF, 2, none⟩ = some (.int .i64 S.last) := by
  obtain ⟨g1, f1, h1, h2, h3, ⟨_, cn, ce, k, _⟩, h5⟩ := h
  rw [← h2.1]; exact k.cell 2
theorem Mix.table {w0 w : World} {B : Nat} {g : GhW} {f : GhF} {S T : TreeD} {X : Xtra} (h : Mix w0 B g f T S X w) : ∃ bT, w.cell? ⟨g.bW, 0, none⟩ = some (.pointer (some ⟨bT, 0, none⟩)) ∧ ∃ bM, TAt w B bT bM T.nodes T.last := by
  obtain ⟨g1, f1, h1, h2, ⟨_, k1, cd, k2, _⟩, h4, h5⟩ := h
  rw [← h1.1]; exact ⟨g1.bT, k2.cell 0, g1.bM, k1⟩
theorem Mix.lt {w0 w : World} {B : Nat} {g : GhW} {f : GhF} {S T : TreeD} {X : Xtra} (h : Mix w0 B g f T S X w) : g.bW < w.heap.size ∧ f.bF < w.heap.size := by
  obtain ⟨g1, f1, h1, h2, h3, h4, h5⟩ := h
  rw [← h1.1, ← h2.1]; exact ⟨h3.lt.1, h4.lt.1⟩
theorem Mix.base {w w0 w' : World} {B : Nat} {g : GhW} {f : GhF} {S T : TreeD} {X : Xtra} (h : Mix w0 B g f T S X w') (E : Ext w w0) : Mix w B g f T S X w' := by
  obtain ⟨g1, f1, h1, h2, h3, h4, h5⟩ := h
  have hs := E.size
  refine ⟨g1, f1, ⟨h1.1, fun b hb => ?_⟩, ⟨h2.1, fun b hb => ?_⟩, h3, h4, Only.pre E h5⟩
  · rcases h1.2 b hb with e | e
    · exact .inl e
    · exact .inr (by omega)
  · rcases h2.2 b hb with e | e
    · exact .inl e
    · exact .inr (by omega)
/-- The phases of two calls. -/
def ph2 (C0 C1 C2 : World → Prop) : Nat → World → Prop
  | 0 => C0
  | 1 => C1
  | 2 => C2
  | _ => fun _ => False
theorem ph2_all {C0 C1 C2 T : World → Prop} (h0 : ∀ w, C0 w → T w) (h1 : ∀ w, C1 w → T w) (h2 : ∀ w, C2 w → T w) : ∀ u : Hp (ph2 C0 C1 C2), T u.w := fun u => by
  obtain ⟨j, w, h⟩ := u
  match j, h with
  | 0, h => exact h0 _ h
  | 1, h => exact h1 _ h
  | 2, h => exact h2 _ h
  | j + 3, h => exact h.elim
/-- What lay below the trees' base stays. -/
theorem Mix.after {w1 w0 w : World} {B : Nat} {g : GhW} {f : GhF} {S T S' T' : TreeD} {X X' : Xtra} (h : Mix w0 B g f T S X w) (hE : Ext w1 w0) (hB : w1.heap.size ≤ B) (K : WAt w0 B g T') (F : FAt w0 B f S' X') : Ext w1 w := by
  refine h.only.after hE fun b hb => ?_
  rcases List.mem_append.1 hb with hb | hb
  · have := (K.apart b hb).1; omega
  · have := (F.apart b hb).1; omega
/-- A block that was made behind the trees. -/
theorem Mix.notin {w0 : World} {B b : Nat} {g : GhW} {f : GhF} {S T : TreeD} {X : Xtra} (K : WAt w0 B g T) (F : FAt w0 B f S X) (hb : b < B ∨ (b ∉ g.list ∧ b ∉ f.list)) : b ∉ g.list ++ f.list := by
  intro h
  rcases hb with hb | hb
  · rcases List.mem_append.1 h with h | h
    · have := (K.apart b h).1; omega
    · have := (F.apart b h).1; omega
  · rcases List.mem_append.1 h with h | h
    · exact hb.1 h
    · exact hb.2 h
/-- A block of another type is none of the trees'. -/
theorem WAt.notin {w : World} {B b : Nat} {g : GhW} {S : TreeD} {cs : Array Value} {t : TypeId} {fr : Nat × Nat} (K : WAt w B g S) (h : Has w b (.cells cs t fr)) (h1 : t ≠ 48) (h2 : t ≠ 106) (h3 : t ≠ 112) : b ∉ g.list := by
  obtain ⟨_, ⟨_, _, k2, es, cl, k3, _⟩, cd, k4, k5⟩ := K
  obtain ⟨_, cur, k6⟩ := k5.has
  intro hb
  simp only [GhW.list, List.mem_cons, List.not_mem_nil, or_false] at hb
  unfold Has at *
  rcases hb with rfl | rfl | rfl | rfl
  · rw [h] at k4; injection k4 with k4; injection k4 with _ k4; exact h1 k4
  · rw [h] at k2; injection k2 with k2; injection k2 with _ k2; exact h2 k2
  · rw [h] at k3; injection k3 with k3; cases k3
  · rw [h] at k6; injection k6 with k6; injection k6 with _ k6; exact h3 k6
theorem FAt.notin {w : World} {B b : Nat} {f : GhF} {S : TreeD} {X : Xtra} {cs : Array Value} {t : TypeId} {fr : Nat × Nat} (F : FAt w B f S X) (h : Has w b (.cells cs t fr)) (h1 : t ≠ 56) (h2 : t ≠ 42) (h3 : t ≠ 153) : b ∉ f.list := by
  obtain ⟨_, cn, ce, k2, ⟨xs, k3, _⟩, k4⟩ := F
  obtain ⟨_, cur1, k5⟩ := ownsRow_has k3
  obtain ⟨_, cur2, k6⟩ := ownsRow_has k4
  intro hb
  simp only [GhF.list, List.mem_cons, List.not_mem_nil, or_false] at hb
  unfold Has at *
  rcases hb with rfl | rfl | rfl
  · rw [h] at k2; injection k2 with k2; injection k2 with _ k2; exact h1 k2
  · rw [h] at k5; injection k5 with k5; injection k5 with _ k5; exact h2 k5
  · rw [h] at k6; injection k6 with k6; injection k6 with _ k6; exact h3 k6
end Go.Proofs.Ytjblimclakfhfaa

namespace Go.Proofs.Ytjblimclakfhfaa
open Go.ChangeShapes Go.WideShapes Go.ChangeAt Go.RowKit

theorem NodeXs.nil (w : World) (B : Nat) : NodeXs w B [] [] := ⟨rfl, fun k h => by cases h⟩
/-- A row of a higher base is one of a lower base. -/
theorem ownsRow_base {w : World} {B B' size n : Nat} {e : TypeId} {v : Value} {xs : List Value} (h : w.ownsRow B' e size v n xs) (hb : B ≤ B') : w.ownsRow B e size v n xs := by
  refine ⟨h.1, ?_⟩
  rcases h.2 with h | ⟨g, cap, cur, h1, h2, h3⟩
  · exact .inl h
  · exact .inr ⟨g, cap, cur, h1, by omega, h3⟩
theorem drop_snoc {ns : List NodeD} {k : Nat} (hk : k < ns.length) (no : Int) : dropN (ns.take (k + 1)) no = dropN (ns.take k) no ++ (if ns[k].no == no then [] else [ns[k]]) := by
  unfold dropN
  rw [List.take_succ_eq_append_getElem hk, List.filter_append, List.filter_cons, List.filter_nil]
  cases (ns[k].no == no) <;> rfl
def AwayR (w : World) (B : Nat) (g : GhF) (S : TreeD) (X : Xtra) (no : Int) (e : Ending) (w' : World) : Prop :=
  e = .returned (.tuple #[]) ∧ ∃ bN, FAt w' B ⟨g.bF, bN, g.bE⟩ ⟨dropN S.nodes no, S.devs, S.last⟩ X ∧ Only [g.bF] w w' ∧ w.heap.size ≤ bN
end Go.Proofs.Ytjblimclakfhfaa

namespace Go.Proofs.Ytjblimclakfhfaa
open Go.ChangeShapes Go.WideShapes Go.ChangeAt Go.RowKit

def KillF (w : World) (B : Nat) (g : GhF) (S : TreeD) (X : Xtra) (no : Int) (e : Ending) (w' : World) : Prop :=
  e = .returned (.bool (killB S no)) ∧ ∃ g', FAt w' B g' (killT S no) X ∧ GhF.on g' g w ∧ Only g.list w w'
theorem killF_no {w w' : World} {B : Nat} {g : GhF} {S : TreeD} {X : Xtra} {no : Int} (h : FAt w B g S X) (hE : Ext w w') (hk : killB S no = false) : KillF w B g S X no (.returned (.bool false)) w' :=
  ⟨by rw [hk], g, by unfold killT; rw [hk]; exact h.ext hE, ⟨rfl, fun b hb => .inl hb⟩, Only.of_ext hE⟩
end Go.Proofs.Ytjblimclakfhfaa

namespace Go.Proofs.Ytjblimclakfhfaa
open Go.ChangeShapes Go.WideShapes Go.ChangeAt Go.RowKit

def ErrF (w : World) (B : Nat) (g : GhF) (T : TreeD) (X : Xtra) (x : Int) (e : Ending) (w' : World) : Prop :=
  e = .returned (.int .i64 x) ∧ FAt w' B g T X ∧ Only g.list w w'
theorem errF_same {w w' : World} {B : Nat} {g : GhF} {S T : TreeD} {X : Xtra} {x : Int} (h : FAt w B g S X) (hE : Ext w w') (hT : T = S) : ErrF w B g T X x (.returned (.int .i64 x)) w' :=
  ⟨rfl, by rw [hT]; exact h.ext hE, Only.of_ext hE⟩
end Go.Proofs.Ytjblimclakfhfaa

namespace Go.Proofs.Ytjblimclakfhfaa
open Go.ChangeShapes Go.WideShapes Go.ChangeAt Go.RowKit

theorem KillR.to {w w' : World} {B : Nat} {g : GhW} {S : TreeD} {no : Int} {e : Ending} (h : KillR w B g S no e w') : e = .returned (.bool (killB S no)) ∧ ∃ g2, WAt w' B g2 (killT S no) ∧ Only g.list w w' ∧ GhW.on g2 g w := ⟨h.1, g, h.2.1, h.2.2, GhW.on_refl g w⟩
theorem KillF.to {w w' : World} {B : Nat} {g : GhF} {S : TreeD} {X : Xtra} {no : Int} {e : Ending} (h : KillF w B g S X no e w') : e = .returned (.bool (killB S no)) ∧ ∃ g2, FAt w' B g2 (killT S no) X ∧ Only g.list w w' ∧ GhF.on g2 g w := by
  obtain ⟨h1, g2, h2, h3, h4⟩ := h
  exact ⟨h1, g2, h2, h4, h3⟩
theorem ErrR.to {w w' : World} {B : Nat} {g : GhW} {T : TreeD} {x : Int} {e : Ending} (h : ErrR w B g T x e w') : e = .returned (.int .i64 x) ∧ ∃ g2, WAt w' B g2 T ∧ Only g.list w w' ∧ GhW.on g2 g w := ⟨h.1, g, h.2.1, h.2.2, GhW.on_refl g w⟩
theorem ErrF.to {w w' : World} {B : Nat} {g : GhF} {T : TreeD} {X : Xtra} {x : Int} {e : Ending} (h : ErrF w B g T X x e w') : e = .returned (.int .i64 x) ∧ ∃ g2, FAt w' B g2 T X ∧ Only g.list w w' ∧ GhF.on g2 g w := ⟨h.1, g, h.2.1, h.2.2, GhF.on_refl g w⟩
theorem MountR.to {w w' : World} {B : Nat} {g : GhW} {S : TreeD} {a b n : Int} {e : Ending} (h : MountR w B g S a b n e w') : e = .returned (.tuple #[.int .i64 (mountN S a b n), .int .i64 (mountE S a b n)]) ∧ ∃ g2, WAt w' B g2 (mountT S a b n) ∧ Only g.list w w' ∧ GhW.on g2 g w := by
  obtain ⟨h1, bD, h2, h3, h4⟩ := h
  refine ⟨h1, _, h2, h3, rfl, fun x hx => ?_⟩
  simp only [GhW.list, List.mem_cons, List.not_mem_nil, or_false] at hx ⊢
  rcases hx with rfl | rfl | rfl | rfl
  · exact .inl (.inl rfl)
  · exact .inl (.inr (.inl rfl))
  · exact .inl (.inr (.inr (.inl rfl)))
  · rcases h4 with e | e
    · exact .inl (.inr (.inr (.inr e)))
    · exact .inr e
theorem MountF.to {w w' : World} {B : Nat} {g : GhF} {S : TreeD} {X : Xtra} {a b n : Int} {e : Ending} (h : MountF w B g S X a b n e w') : e = .returned (.tuple #[.int .i64 (mountN S a b n), .int .i64 (mountE S a b n)]) ∧ ∃ g2, FAt w' B g2 (mountT S a b n) X ∧ Only g.list w w' ∧ GhF.on g2 g w := by
  obtain ⟨h1, bN, bE, h2, h3, h4, h5⟩ := h
  refine ⟨h1, _, h2, h3, rfl, fun x hx => ?_⟩
  simp only [GhF.list, List.mem_cons, List.not_mem_nil, or_false] at hx ⊢
  rcases hx with rfl | rfl | rfl
  · exact .inl (.inl rfl)
  · rcases h4 with e | e
    · exact .inl (.inr (.inl e))
    · exact .inr e
  · rcases h5 with e | e
    · exact .inl (.inr (.inr e))
    · exact .inr e
end Go.Proofs.Ytjblimclakfhfaa

namespace Go.Proofs.Ytjblimclakfhfaa
open Go.ChangeShapes Go.WideShapes Go.ChangeAt Go.RowKit

def ownrE (S : TreeD) (cu no uid gid : Int) : Int := if ownE S cu no ≠ 0 then ownE S cu no else if ¬ cu = 0 then 4 else if fineB uid gid = false then 1 else 0
def ownrT (S : TreeD) (cu now no uid gid : Int) : TreeD := if ownrE S cu no uid gid = 0 then setT S { getN S.nodes no with uid := uid, gid := gid, ctime := now } else S
def timeE (S : TreeD) (cu no mt : Int) : Int := if ownE S cu no ≠ 0 then ownE S cu no else if mt < 0 ∨ 253402300799 < mt then 1 else 0
def timeT (S : TreeD) (cu now no mt : Int) : TreeD := if timeE S cu no mt = 0 then setT S { getN S.nodes no with mtime := mt, ctime := now } else S
end Go.Proofs.Ytjblimclakfhfaa

namespace Go.Proofs.Ytjblimclakfhfaa

/-- Nothing but the node has changed, its bytes and its entries least of all. -/
def StepN (S : TreeD) (no : Int) (T : TreeD) : Prop :=
  T.devs = S.devs ∧ T.last = S.last ∧ (∀ k, isN T.nodes k = isN S.nodes k) ∧ (∀ k, k ≠ no → getN T.nodes k = getN S.nodes k) ∧ (getN T.nodes no).data = (getN S.nodes no).data ∧ (getN T.nodes no).ents = (getN S.nodes no).ents ∧ (NosUp S.nodes S.last → NosUp T.nodes T.last) ∧ T.nodes.length = S.nodes.length
theorem StepN.refl (S : TreeD) (no : Int) : StepN S no S := ⟨rfl, rfl, fun _ => rfl, fun _ _ => rfl, rfl, rfl, fun h => h, rfl⟩
theorem StepN.trans {S T U : TreeD} {no : Int} (h : StepN S no T) (k : StepN T no U) : StepN S no U :=
  ⟨k.1.trans h.1, k.2.1.trans h.2.1, fun i => (k.2.2.1 i).trans (h.2.2.1 i), fun i hi => (k.2.2.2.1 i hi).trans (h.2.2.2.1 i hi), k.2.2.2.2.1.trans h.2.2.2.2.1, k.2.2.2.2.2.1.trans h.2.2.2.2.2.1, fun hu => k.2.2.2.2.2.2.1 (h.2.2.2.2.2.2.1 hu), k.2.2.2.2.2.2.2.trans h.2.2.2.2.2.2.2⟩
theorem stepN_set {S : TreeD} {no : Int} {n : NodeD} (hi : isN S.nodes no = true) (hn : n.no = no) (hd : n.data = (getN S.nodes no).data) (he : n.ents = (getN S.nodes no).ents) : StepN S no (setT S n) ∧ getN (setT S n).nodes no = n := by
  have hg : getN (setT S n).nodes no = n := by subst hn; exact getN_set_eq S.nodes n hi
  refine ⟨⟨rfl, rfl, fun k => isN_set S.nodes n k, fun k hk => getN_set_ne S.nodes n (by rw [hn]; exact hk), ?_, ?_, fun hu => hu.set n, setN_len S.nodes n⟩, hg⟩
  · show (getN (setT S n).nodes no).data = _; rw [hg]; exact hd
  · show (getN (setT S n).nodes no).ents = _; rw [hg]; exact he
theorem own_of {S : TreeD} {cu no : Int} (h : ownE S cu no = 0) : isN S.nodes no = true ∧ (getN S.nodes no).no = no := ⟨(ownE_zero h).1, (isN_true (ownE_zero h).1).2.1⟩
theorem modeE_own {S : TreeD} {cu no m : Int} (h : modeE S cu no m = 0) : ownE S cu no = 0 := by
  unfold modeE at h
  split at h
  · rename_i h2; exact absurd h h2
  · rename_i h2; simpa using h2
theorem ownrE_own {S : TreeD} {cu no u g : Int} (h : ownrE S cu no u g = 0) : ownE S cu no = 0 := by
  unfold ownrE at h
  split at h
  · rename_i h2; exact absurd h h2
  · rename_i h2; simpa using h2
theorem timeE_own {S : TreeD} {cu no t : Int} (h : timeE S cu no t = 0) : ownE S cu no = 0 := by
  unfold timeE at h
  split at h
  · rename_i h2; exact absurd h h2
  · rename_i h2; simpa using h2
theorem modeT_step (S : TreeD) (cu now no m : Int) : StepN S no (modeT S cu now no m) ∧ (modeE S cu no m = 0 → getN (modeT S cu now no m).nodes no = { getN S.nodes no with mode := m, ctime := now }) ∧ (modeE S cu no m ≠ 0 → modeT S cu now no m = S) := by
  by_cases h : modeE S cu no m = 0
  · obtain ⟨h1, h2⟩ := own_of (modeE_own h)
    have := stepN_set (S := S) (no := no) (n := { getN S.nodes no with mode := m, ctime := now }) h1 h2 rfl rfl
    unfold modeT
    rw [if_pos h]
    exact ⟨this.1, fun _ => this.2, fun h3 => absurd h h3⟩
  · unfold modeT
    rw [if_neg h]
    exact ⟨StepN.refl _ _, fun h3 => absurd h3 h, fun _ => rfl⟩
theorem ownrT_step (S : TreeD) (cu now no u g : Int) : StepN S no (ownrT S cu now no u g) ∧ (ownrE S cu no u g = 0 → getN (ownrT S cu now no u g).nodes no = { getN S.nodes no with uid := u, gid := g, ctime := now }) ∧ (ownrE S cu no u g ≠ 0 → ownrT S cu now no u g = S) := by
  by_cases h : ownrE S cu no u g = 0
  · obtain ⟨h1, h2⟩ := own_of (ownrE_own h)
    have := stepN_set (S := S) (no := no) (n := { getN S.nodes no with uid := u, gid := g, ctime := now }) h1 h2 rfl rfl
    unfold ownrT
    rw [if_pos h]
    exact ⟨this.1, fun _ => this.2, fun h3 => absurd h h3⟩
  · unfold ownrT
    rw [if_neg h]
    exact ⟨StepN.refl _ _, fun h3 => absurd h3 h, fun _ => rfl⟩
theorem timeT_step (S : TreeD) (cu now no t : Int) : StepN S no (timeT S cu now no t) ∧ (timeE S cu no t = 0 → getN (timeT S cu now no t).nodes no = { getN S.nodes no with mtime := t, ctime := now }) ∧ (timeE S cu no t ≠ 0 → timeT S cu now no t = S) := by
  by_cases h : timeE S cu no t = 0
  · obtain ⟨h1, h2⟩ := own_of (timeE_own h)
    have := stepN_set (S := S) (no := no) (n := { getN S.nodes no with mtime := t, ctime := now }) h1 h2 rfl rfl
    unfold timeT
    rw [if_pos h]
    exact ⟨this.1, fun _ => this.2, fun h3 => absurd h h3⟩
  · unfold timeT
    rw [if_neg h]
    exact ⟨StepN.refl _ _, fun h3 => absurd h3 h, fun _ => rfl⟩
/-- What AttrOne asks of the three calls. -/
theorem attrOne_plain (S : TreeD) (cu no a u t : Int) (T1 T2 T3 : TreeD) (h1 : T1 = modeT S cu 3 no a) (h2 : T2 = ownrT T1 cu 3 no a u) (h3 : T3 = timeT T2 cu 3 no t) :
    StepN S no T3 ∧ (ownE S cu no ≠ 0 → modeE S cu no a ≠ 0 ∧ ownrE T1 cu no a u ≠ 0 ∧ timeE T2 cu no t ≠ 0 ∧ T3 = S) ∧
    (modeE S cu no a = 0 → (getN T3.nodes no).mode = a) ∧ (ownrE T1 cu no a u = 0 → (getN T3.nodes no).uid = a ∧ (getN T3.nodes no).gid = u) := by
  have s1 := modeT_step S cu 3 no a
  have s2 := ownrT_step T1 cu 3 no a u
  have s3 := timeT_step T2 cu 3 no t
  rw [← h1] at s1
  rw [← h2] at s2
  rw [← h3] at s3
  refine ⟨(s1.1.trans s2.1).trans s3.1, fun ho => ?_, fun he => ?_, fun he => ?_⟩
  · have e1 : modeE S cu no a ≠ 0 := fun h => ho (modeE_own h)
    have q1 := s1.2.2 e1
    have e2 : ownrE T1 cu no a u ≠ 0 := fun h => ho (by rw [q1] at h; exact ownrE_own h)
    have q2 := s2.2.2 e2
    have e3 : timeE T2 cu no t ≠ 0 := fun h => ho (by rw [q2, q1] at h; exact timeE_own h)
    exact ⟨e1, e2, e3, by rw [s3.2.2 e3, q2, q1]⟩
  · have m1 : (getN T1.nodes no).mode = a := by rw [s1.2.1 he]
    have m2 : (getN T2.nodes no).mode = a := by
      by_cases h : ownrE T1 cu no a u = 0
      · rw [s2.2.1 h]; exact m1
      · rw [s2.2.2 h]; exact m1
    by_cases h : timeE T2 cu no t = 0
    · rw [s3.2.1 h]; exact m2
    · rw [s3.2.2 h]; exact m2
  · have m2 : (getN T2.nodes no).uid = a ∧ (getN T2.nodes no).gid = u := by rw [s2.2.1 he]; exact ⟨rfl, rfl⟩
    by_cases h : timeE T2 cu no t = 0
    · rw [s3.2.1 h]; exact m2
    · rw [s3.2.2 h]; exact m2
theorem ownE_zero_iff (S : TreeD) (cu no : Int) : ownE S cu no = 0 ↔ (isN S.nodes no = true ∧ ownsB cu (getN S.nodes no).uid = true) := by
  constructor
  · intro h; exact ⟨(ownE_zero h).1, (ownE_zero h).2.1⟩
  · rintro ⟨h1, h2⟩
    unfold ownE
    rw [if_neg (by rw [h1]; decide), if_neg (by rw [h2]; decide)]
end Go.Proofs.Ytjblimclakfhfaa

namespace Go.Proofs.Ytjblimclakfhfaa
open Go.ChangeShapes Go.WideShapes Go.ChangeAt Go.RowKit

def wriE (S : TreeD) (cu cg no dl : Int) : Int :=
  if isN S.nodes no = false then 5 else if (getN S.nodes no).kind = 1 then 8 else if ¬ (getN S.nodes no).kind = 2 then 1
  else if mayB cu cg (getN S.nodes no).uid (getN S.nodes no).gid (getN S.nodes no).mode 2 = false then 6 else if 1048576 < dl then 3 else fillE S no dl
def wriT (S : TreeD) (cu cg now no : Int) (data : List UInt8) : TreeD :=
  if wriE S cu cg no data.length = 0 then setT (fillT S no data) { getN (fillT S no data).nodes no with mtime := now, ctime := now } else S
set_option maxRecDepth 100000 in
set_option maxHeartbeats 4000000 in
theorem pwri_any (B : Nat) (g : GhW) (S : TreeD) (cu cg now no : Int) (data : List UInt8) (w : World) (h : WAt w B g S) (hd : 0 < S.devs.length) (hd2 : S.devs.length ≤ 8) (hr : RootsOk S.devs) (hu : NosUp S.nodes S.last) (hdv : OnDev S) (hdl : data.length ≤ 1000000000) :
    Calls Try.prog 68 #[.pointer (some ⟨g.bW, 0, none⟩), .agg #[.int .i64 cu, .int .i64 cg], .int .i64 now, .int .i64 no, .string (bs data)] w (ErrR w B g (wriT S cu cg now no data) (wriE S cu cg no data.length)) := by
  have h0 := h
  have hl0 : ((S.devs.length : Int) == 0) = false := by simpa using (show ¬ (S.devs.length : Int) = 0 by omega)
  have E0 : Ext w (w.alloc (.cells #[.int .i64 cu, .int .i64 cg] 24)) := (Ext.refl _).alloc _
  have hm : Hid (wriE S cu cg no data.length = if isN S.nodes no = false then 5 else if (getN S.nodes no).kind = 1 then 8 else if ¬ (getN S.nodes no).kind = 2 then 1
      else if mayB cu cg (getN S.nodes no).uid (getN S.nodes no).gid (getN S.nodes no).mode 2 = false then 6 else if 1048576 < (data.length : Int) then 3 else fillE S no data.length) := by show _ = _; rfl
  go_enter Try.func68, Try.ntmps68
  go_wp2_with fail
  refine (pdevs_any B g S _ (h0.ext E0) hd).mono ?_
  rintro e w1 ⟨rfl, b1⟩
  have E1 := E0.trans b1
  have C1 := (Has.new w (.cells #[.int .i64 cu, .int .i64 cg] 24)).ext b1
  obtain ⟨_, _, cd, h3, _⟩ := id (h0.ext E1)
  have v0 : w1.cell? ⟨g.bW, 0, none⟩ = some (.pointer (some ⟨g.bT, 0, none⟩)) := h3.cell 0
  have z1 := h3.lt
  clear h3
  go_wp2_with fail
  refine (tget_any B g.bT g.bM S.nodes S.last no _ (h0.ext E1).2.1).mono ?_
  rintro e w2 ⟨A, c, rfl, ok2, b2⟩
  have E2 := E1.trans b2
  have C2 := C1.ext b2
  obtain ⟨m, hmm⟩ : ∃ m, m = getN S.nodes no := ⟨_, rfl⟩
  obtain ⟨i, hi⟩ : ∃ i, i = isN S.nodes no := ⟨_, rfl⟩
  rw [← hmm] at ok2 hm
  rw [← hi] at hm
  rw [← hmm, ← hi]
  obtain ⟨W3, hW3⟩ : ∃ W3, W3 = w2.alloc (.cells #[.int .i64 m.no, .int .i64 m.dev, .int .i64 m.kind, .int .i64 m.mode, .int .i64 m.uid, .int .i64 m.gid, .int .i64 m.mtime, .int .i64 m.ctime, .int .i64 m.links, .int .i64 m.up, .string (bs m.data), .slice A m.ents.length c] 42) := ⟨_, rfl⟩
  have E23 : Ext w2 W3 := by rw [hW3]; exact (Ext.refl _).alloc _
  have N3 : Has W3 w2.heap.size (.cells #[.int .i64 m.no, .int .i64 m.dev, .int .i64 m.kind, .int .i64 m.mode, .int .i64 m.uid, .int .i64 m.gid, .int .i64 m.mtime, .int .i64 m.ctime, .int .i64 m.links, .int .i64 m.up, .string (bs m.data), .slice A m.ents.length c] 42) := by rw [hW3]; exact Has.new _ _
  have C3 := C2.ext E23
  have E3 : Ext w W3 := E2.trans E23
  obtain ⟨b11, hb11⟩ : ∃ b, b = w2.heap.size := ⟨_, rfl⟩
  have hbw : w.heap.size ≤ b11 := by rw [hb11]; exact E2.size
  have HMM := Lib.hid hmm
  have HI := Lib.hid hi
  clear v0 hmm hi
  go_upto_region 4 with fail
  rw [← hW3]
  rw [← hb11] at N3 ⊢
  clear hW3 hb11
  have HS : Hid (∀ (w' : World) (x : Int), Ext w w' → wriE S cu cg no data.length = x → x ≠ 0 → ErrR w B g (wriT S cu cg now no data) (wriE S cu cg no data.length) (.returned (.int .i64 x)) w') := by
    show ∀ (w' : World) (x : Int), _
    intro w' x hE hx hx0
    rw [hx]
    exact errR_same h hE (by unfold wriT; rw [if_neg (by rw [hx]; exact hx0)])
  cases i
  · have hE : Hid (wriE S cu cg no data.length = 5) := by show _ = _; rw [hm.out]; rfl
    clear hm
    go_wp2_with fail
    go_ret
    exact HS.out _ _ E3 hE.out (by decide)
  · have k2 : W3.cell? ⟨b11, 2, none⟩ = some (.int .i64 m.kind) := N3.cell 2
    have kz := N3.lt
    by_cases c1 : m.kind = 1
    · have t1 : (m.kind == 1) = true := by simpa using c1
      have hE : Hid (wriE S cu cg no data.length = 8) := by show _ = _; rw [hm.out, if_neg (by decide), if_pos c1]
      clear hm c1
      go_wp2_with fail
      go_ret
      exact HS.out _ _ E3 hE.out (by decide)
    · have t1 : (m.kind == 1) = false := by simpa using c1
      by_cases c2 : m.kind = 2
      · have t2 : (m.kind == 2) = true := by simpa using c2
        have t2b : (m.kind != 2) = false := by simpa using c2
        have x0 : W3.cell? ⟨w.heap.size, 0, none⟩ = some (.int .i64 cu) := C3.cell 0
        have x1 : W3.cell? ⟨w.heap.size, 1, none⟩ = some (.int .i64 cg) := C3.cell 1
        have xz := C3.lt
        obtain ⟨u, hu'⟩ : ∃ u, u = mayB cu cg m.uid m.gid m.mode 2 := ⟨_, rfl⟩
        rw [← hu'] at hm
        have hm2 : Hid (wriE S cu cg no data.length = if u = false then 6 else if 1048576 < (data.length : Int) then 3 else fillE S no data.length) := by
          show _ = _; rw [hm.out, if_neg (by decide), if_neg c1, if_neg (by simpa using c2)]
        have HU := Lib.hid hu'
        clear hu' hm c1 c2
        go_wp2_with (refine wpList_load_node rfl _ rfl b11 m A c rfl N3 ?_)
        refine (pnode_any cu cg _ _ _ m.mode m.uid m.gid _ _ _ _ _ _ 2 _).mono ?_
        rw [← HU.out]
        rintro e w4 ⟨rfl, b4⟩
        have E4 := E3.trans b4
        have N4 := N3.ext b4
        clear x0 x1 xz k2 kz
        cases u
        · have hE : Hid (wriE S cu cg no data.length = 6) := by show _ = _; rw [hm2.out]; rfl
          clear hm2
          go_wp2_with fail
          go_ret
          exact HS.out _ _ E4 hE.out (by decide)
        · have hsz : ((bs data).size : Int) = data.length := by rw [bs_size]
          by_cases c3 : 1048576 < (data.length : Int)
          · have t3 : decide (1048576 < (data.length : Int)) = true := decide_eq_true c3
            have hE : Hid (wriE S cu cg no data.length = 3) := by show _ = _; rw [hm2.out, if_neg (by decide), if_pos c3]
            clear hm2 c3
            go_wp2_with fail
            go_ret
            exact HS.out _ _ E4 hE.out (by decide)
          · have t3 : decide (1048576 < (data.length : Int)) = false := decide_eq_false c3
            have hm3 : Hid (wriE S cu cg no data.length = fillE S no data.length) := by show _ = _; rw [hm2.out, if_neg (by decide), if_neg c3]
            have c3' : data.length ≤ 1048576 := by omega
            clear hm2 c3
            go_wp2_with fail
            refine (pfill_any B g S no data _ (h.ext E4) hd hd2 hr hu hdv c3').mono ?_
            rintro e w5 ⟨rfl, K5, O5⟩
            obtain ⟨x, hx⟩ : ∃ x, x = fillE S no data.length := ⟨_, rfl⟩
            rw [← hx] at hm3
            rw [← hx]
            have HX := Lib.hid hx
            have s3 := E3.size
            have s4 := E4.size
            have hlw := h.lt
            have N5 := O5.has N4 (by simp; omega)
            clear hx
            by_cases hz : x = 0
            · have hzb : (x == 0) = true := by simpa using hz
              have hzb2 : (x != 0) = false := by simpa using hz
              have HZ := Lib.hid hz
              obtain ⟨T, hT⟩ : ∃ T, T = fillT S no data := ⟨_, rfl⟩
              rw [← hT] at K5
              have hTu : NosUp T.nodes T.last := by
                rw [hT]; unfold fillT; split
                · exact hu.set _
                · exact hu
              obtain ⟨_, _, cd5, hW5, _⟩ := id K5
              have v0 : w5.cell? ⟨g.bW, 0, none⟩ = some (.pointer (some ⟨g.bT, 0, none⟩)) := hW5.cell 0
              have vz := hW5.lt
              have HT := Lib.hid hT
              clear hz hW5 hT
              go_wp2_with fail
              refine (tget_any B g.bT g.bM T.nodes T.last no _ K5.2.1).mono ?_
              rintro e w6 ⟨A6, c6, rfl, ok6, b6⟩
              have N6 := N5.ext b6
              obtain ⟨n6, hn6⟩ : ∃ n6, n6 = getN T.nodes no := ⟨_, rfl⟩
              obtain ⟨i6, hi6⟩ : ∃ i6, i6 = isN T.nodes no := ⟨_, rfl⟩
              rw [← hn6] at ok6
              rw [← hn6, ← hi6]
              have HN6 := Lib.hid hn6
              clear hn6 hi6 v0 vz
              go_upto_region 18 with (refine wpList_store_node rfl _ _ rfl b11 n6 A6 c6 rfl rfl N6 ?_; intro w7 N7 O7)
              have haP : Apart w6 B [b11] := by
                intro b hb
                rw [List.mem_singleton] at hb
                subst hb
                exact ⟨by have := h.1; omega, N6.noTag (by decide)⟩
              have hnb : ∀ b ∈ g.list, b ∉ [b11] := by
                intro b hb
                simp only [GhW.list, List.mem_cons, List.not_mem_nil, or_false] at hb
                rw [List.mem_singleton]
                rcases hb with rfl | rfl | rfl | rfl <;> omega
              have K7 : WAt w7 B g T := (K5.ext b6).only O7 haP hnb
              have ok7 : NodeOk w7 B n6 A6 c6 := ok6.only O7 haP
              have O57 : Only g.list w w7 := ((Only.pre E4 O5).ext b6).trans O7 (by intro b hb; rw [List.mem_singleton] at hb; right; omega)
              obtain ⟨y0, y1, y2, y3, y4, y5, y6, y7, y8, y9, y10, y11⟩ := N7.node12
              have yf : ∀ i, w7.frozen? ⟨b11, i, none⟩ = false := fun i => (N7.free i).trans (by simp)
              have yz := N7.lt
              obtain ⟨n, hn⟩ : ∃ n : NodeD, n = { n6 with mtime := now, ctime := now } := ⟨_, rfl⟩
              go_upto_region 19 with fail
              obtain ⟨V, hV⟩ : ∃ V, V = (w7.setCell ⟨b11, 6, none⟩ (.int .i64 now)).setCell ⟨b11, 7, none⟩ (.int .i64 now) := ⟨_, rfl⟩
              rw [← hV]
              have NV : Has V b11 (.cells #[.int .i64 n.no, .int .i64 n.dev, .int .i64 n.kind, .int .i64 n.mode, .int .i64 n.uid, .int .i64 n.gid, .int .i64 n.mtime, .int .i64 n.ctime, .int .i64 n.links, .int .i64 n.up, .string (bs n.data), .slice A6 n.ents.length c6] 42) := by rw [hV, hn]; exact (N7.setCell 6 _).setCell 7 _
              have OV : Only [b11] w7 V := by rw [hV]; exact (Only.setCell _ _ _ _).then (Only.setCell _ _ _ _)
              have haP7 : Apart w7 B [b11] := by
                intro b hb
                rw [List.mem_singleton] at hb
                subst hb
                exact ⟨by have := h.1; omega, N7.noTag (by decide)⟩
              have KV : WAt V B g T := K7.only OV haP7 hnb
              have okV : NodeOk V B n A6 c6 := (ok7.same (by rw [hn])).only OV haP7
              have O5V : Only g.list w V := O57.trans OV (by intro b hb; rw [List.mem_singleton] at hb; right; omega)
              have HN := Lib.hid hn
              clear hV hn y0 y1 y2 y3 y4 y5 y6 y7 y8 y9 y10 y11 yf yz
              obtain ⟨_, _, cdV, hWV, _⟩ := id KV
              have v0 : V.cell? ⟨g.bW, 0, none⟩ = some (.pointer (some ⟨g.bT, 0, none⟩)) := hWV.cell 0
              have vz := hWV.lt
              obtain ⟨x0, x1, x2, x3, x4, x5, x6, x7, x8, x9, x10, x11⟩ := NV.node12
              have zN := NV.lt
              clear hWV
              go_still_tail 5, (by kernel_rfl)
              change wpList _ _ _ _ _ V.drew
              go_wp2_with fail
              have ED : Ext V V.drew := (Ext.refl _).drew
              refine (wset_any B g T n A6 c6 _ (KV.ext ED) hTu (okV.ext ED)).mono ?_
              rintro e w8 ⟨rfl, K8, O8⟩
              go_wp2_with fail
              go_ret
              have e1 : wriE S cu cg no data.length = 0 := by rw [hm3.out]; exact HZ.out
              rw [e1]
              have e2 : wriT S cu cg now no data = setT T n := by
                unfold wriT
                rw [if_pos e1, ← HT.out, ← HN6.out, HN.out]
              exact ⟨rfl, by rw [e2]; exact K8, (O5V.ext ED).then O8⟩
            · have hzb : (x == 0) = false := by simpa using hz
              have hzb2 : (x != 0) = true := by simpa using hz
              have hT : Hid (fillT S no data = S) := by show _ = _; unfold fillT; rw [if_neg (by rw [← HX.out]; exact hz)]
              have hT2 : Hid (wriT S cu cg now no data = S) := by show _ = _; unfold wriT; rw [if_neg (by rw [hm3.out]; exact hz)]
              clear hz
              go_wp2_with fail
              go_ret
              rw [hm3.out]
              rw [hT.out] at K5
              exact ⟨rfl, by rw [hT2.out]; exact K5, Only.pre E4 O5⟩
      · have t2 : (m.kind == 2) = false := by simpa using c2
        have t2b : (m.kind != 2) = true := by simpa using c2
        have hE : Hid (wriE S cu cg no data.length = 1) := by show _ = _; rw [hm.out, if_neg (by decide), if_neg c1, if_pos c2]
        clear hm c1 c2
        go_wp2_with fail
        go_ret
        exact HS.out _ _ E3 hE.out (by decide)
end Go.Proofs.Ytjblimclakfhfaa

namespace Go.Proofs.Ytjblimclakfhfaa

theorem grown_same {S : TreeD} (h : Grown S) {no : Int} {n : NodeD} (hi : isN S.nodes no = true) (hn : n.no = no) (he : n.ents = (getN S.nodes no).ents) (hd : n.data.length ≤ 1048576)
    (hk : n.kind = (getN S.nodes no).kind) (hv : n.dev = (getN S.nodes no).dev) (hu : n.up = (getN S.nodes no).up) : Grown (setT S n) := by
  have hm := (isN_true hi).2
  have hg := good_getN h.good no
  refine grown_set h (by rw [he]; exact hg.1) (by rw [he]; exact hg.2) (by rw [he]; exact h.names _ hm.2) hd ?_ (by rw [hn]; exact hi)
  intro m hmm e
  have := (mem_getN h.good.nos hmm).1
  rw [e, hn] at this
  rw [← this]
  exact ⟨hk, hv, hu⟩
theorem grown_mode {S : TreeD} (h : Grown S) (cu now no m : Int) : Grown (modeT S cu now no m) := by
  unfold modeT
  split
  · rename_i h0
    obtain ⟨hi, hn⟩ := own_of (modeE_own h0)
    exact grown_same h hi hn rfl (h.on _ (isN_true hi).2.2).2 rfl rfl rfl
  · exact h
theorem grown_ownr {S : TreeD} (h : Grown S) (cu now no u g : Int) : Grown (ownrT S cu now no u g) := by
  unfold ownrT
  split
  · rename_i h0
    obtain ⟨hi, hn⟩ := own_of (ownrE_own h0)
    exact grown_same h hi hn rfl (h.on _ (isN_true hi).2.2).2 rfl rfl rfl
  · exact h
theorem grown_time {S : TreeD} (h : Grown S) (cu now no t : Int) : Grown (timeT S cu now no t) := by
  unfold timeT
  split
  · rename_i h0
    obtain ⟨hi, hn⟩ := own_of (timeE_own h0)
    exact grown_same h hi hn rfl (h.on _ (isN_true hi).2.2).2 rfl rfl rfl
  · exact h
/-- The mounts' room changes alone. -/
theorem grown_setQ {S : TreeD} (h : Grown S) (d : Int) (q : SpaceD) (hq : Fine q) : Grown ⟨S.nodes, setQ S.devs d q, S.last⟩ := by
  obtain ⟨Q, hQ⟩ : ∃ Q, Q = setQ S.devs d q := ⟨_, rfl⟩
  have hlen : Q.length = S.devs.length := by rw [hQ, setQ_len]
  have hg : Good ⟨S.nodes, setQ S.devs d q, S.last⟩ := ⟨h.good.nos, h.good.last, by show 0 < (setQ _ _ _).length; rw [setQ_len]; exact h.good.devs, by show (setQ _ _ _).length ≤ 8; rw [setQ_len]; exact h.good.eight, roots_setQ h.good.roots _ _ hq, h.good.count, h.good.rise, h.good.small⟩
  have hat : ∀ k, (hk : k < Q.length) → (hk2 : k < S.devs.length) → Q[k].root = S.devs[k].root ∧ Q[k].over = S.devs[k].over := by
    intro k hk hk2
    subst hQ
    exact setQ_at hk hk2
  rw [← hQ] at hg ⊢
  refine ⟨hg, h.names, fun n hn => ?_, h.first, h.one, h.ups, ?_, ?_⟩
  · have := h.on n hn
    refine ⟨?_, this.2⟩
    have h2 := this.1
    unfold hasD at h2 ⊢
    show (decide (1 ≤ n.dev) && decide (n.dev ≤ (Q.length : Int))) = true
    rw [hlen]; exact h2
  · intro hk
    exact ((hat 0 hk h.good.devs).1).trans (h.root1 h.good.devs)
  · intro k hk
    have hk2 : k + 1 < S.devs.length := by have : k + 1 < Q.length := hk; omega
    obtain ⟨q1, q2⟩ := hat (k + 1) hk hk2
    show Q[k + 1].over < Q[k + 1].root ∧ DirT _ Q[k + 1].over
    rw [q1, q2]
    exact h.overs k hk2
theorem grown_fine {S : TreeD} (h : Grown S) {d : Int} (hd : hasD S.devs d = true) (b n : Int) : Fine (takeQ (devN S.devs d).q b n) := by
  rcases rootF_zero h.good.roots d with ⟨_, e2⟩ | ⟨k, hk, _, _, e3, _, _, e6⟩
  · rw [e2] at hd; cases hd
  · rw [e3]; exact takeQ_fine e6
theorem fillE_is {S : TreeD} {no dl : Int} (h : fillE S no dl = 0) : isN S.nodes no = true := by
  cases hi : isN S.nodes no
  · unfold fillE at h; rw [hi] at h; simp at h
  · rfl
theorem grown_fill {S : TreeD} (h : Grown S) (no : Int) (data : List UInt8) (hd : data.length ≤ 1048576) : Grown (fillT S no data) := by
  unfold fillT
  split
  · rename_i h0
    have hi := fillE_is h0
    have ho := h.on _ (isN_true hi).2.2
    exact grown_same (no := no) (n := { getN S.nodes no with data := data }) (grown_setQ h (getN S.nodes no).dev _ (grown_fine h ho.1 _ _)) hi (isN_true hi).2.1 rfl hd rfl rfl rfl
  · exact h
theorem fillT_is (S : TreeD) (no : Int) (data : List UInt8) (k : Int) (h : isN S.nodes k = true) : isN (fillT S no data).nodes k = true := by
  unfold fillT
  split
  · rw [isN_set]; exact h
  · exact h
theorem wriE_zero {S : TreeD} {cu cg no dl : Int} (h : wriE S cu cg no dl = 0) : isN S.nodes no = true ∧ dl ≤ 1048576 ∧ fillE S no dl = 0 := by
  unfold wriE at h
  split at h
  · cases h
  · rename_i hi
    split at h
    · cases h
    · split at h
      · cases h
      · split at h
        · cases h
        · split at h
          · cases h
          · exact ⟨by simpa using hi, by omega, h⟩
theorem grown_wri {S : TreeD} (h : Grown S) (cu cg now no : Int) (data : List UInt8) : Grown (wriT S cu cg now no data) := by
  unfold wriT
  split
  · rename_i h0
    obtain ⟨hi, hd, _⟩ := wriE_zero h0
    have hG := grown_fill h no data (by omega)
    have hi2 := fillT_is S no data no hi
    exact grown_same hG (n := { getN (fillT S no data).nodes no with mtime := now, ctime := now }) hi2 (isN_true hi2).2.1 rfl (hG.on _ (isN_true hi2).2.2).2 rfl rfl rfl
  · exact h
theorem setT_last (S : TreeD) (n : NodeD) : (setT S n).last = S.last := rfl
theorem modeT_last (S : TreeD) (cu now no m : Int) : (modeT S cu now no m).last = S.last := by unfold modeT; split <;> rfl
theorem ownrT_last (S : TreeD) (cu now no u g : Int) : (ownrT S cu now no u g).last = S.last := by unfold ownrT; split <;> rfl
theorem timeT_last (S : TreeD) (cu now no t : Int) : (timeT S cu now no t).last = S.last := by unfold timeT; split <;> rfl
theorem wriT_last (S : TreeD) (cu cg now no : Int) (d : List UInt8) : (wriT S cu cg now no d).last = S.last := by
  unfold wriT
  split
  · show (fillT S no d).last = _
    unfold fillT; split <;> rfl
  · rfl
end Go.Proofs.Ytjblimclakfhfaa

namespace Go.Proofs.Ytjblimclakfhfaa

/-- Such a tree is one of nodes that come and go. -/
theorem Tre.live {c : Nat} {S : TreeD} (h : Tre c S) : Live S := ⟨h.nos, h.last, h.devs, h.eight, h.roots, h.count, h.on, h.first, fun n hn e => (h.one n hn e).2.1, h.root1⟩
theorem tre_same {c : Nat} {S : TreeD} (h : Tre c S) {no : Int} {n : NodeD} (hi : isN S.nodes no = true) (hn : n.no = no) (he : n.ents = (getN S.nodes no).ents) (hd : n.data.length ≤ 1048576)
    (hk : n.kind = (getN S.nodes no).kind) (hv : n.dev = (getN S.nodes no).dev) (hu : n.up = (getN S.nodes no).up) (hl : n.links = (getN S.nodes no).links) (hm : 0 ≤ n.mode ∧ n.mode ≤ 1023) : Tre c (setT S n) := by
  subst hn
  have hm0 := (isN_true hi).2
  have hb := h.bits _ hm0.2
  refine tre_set h (.inl rfl) hi (Nat.le_refl _) hk hv hu (fun hk1 => by rw [hl]; exact h.dlinks _ hm0.2 (by rw [← hk]; exact hk1)) (by rw [he]; exact h.rise _ hm0.2) (by rw [he]; exact h.names _ hm0.2) (by rw [he]; exact h.pos _ hm0.2) (by rw [he]; exact h.small _ hm0.2) hd
    ⟨hm.1, hm.2, by rw [hl]; exact hb.2.2.1, by rw [hl]; exact hb.2.2.2⟩ (fun x hx => ?_) (fun q hq hqk _ hqu hqn => ?_)
  · rw [he] at hx
    have := h.kin _ hm0.2 x hx
    rw [hm0.1, ← hv] at this
    exact this
  · rw [he]
    rcases h.ups0 q hq hqk with ⟨_, u2⟩ | ⟨_, _, m, hm, u3, _, _, x, hx, u6⟩
    · exact absurd (u2.symm.trans hqu) hqn
    · have := (mem_getN h.nos hm).1
      rw [u3, hqu] at this
      rw [this]
      exact ⟨x, hx, u6⟩
theorem Tre.bitsN {c : Nat} {S : TreeD} (h : Tre c S) {no : Int} (hi : isN S.nodes no = true) : 0 ≤ (Proofs.Ytjblimclakfhfaa.getN S.nodes no).mode ∧ (Proofs.Ytjblimclakfhfaa.getN S.nodes no).mode ≤ 1023 := by
  have := h.bits _ (isN_true hi).2.2
  exact ⟨this.1, this.2.1⟩
theorem tre_mode {c : Nat} {S : TreeD} (h : Tre c S) (cu now no m : Int) : Tre c (modeT S cu now no m) := by
  unfold modeT
  split
  · rename_i h0
    obtain ⟨hi, hn⟩ := own_of (modeE_own h0)
    refine tre_same h hi hn rfl (h.on _ (isN_true hi).2.2).2 rfl rfl rfl rfl ?_
    unfold modeE at h0
    split at h0
    · rename_i h1; exact absurd h0 h1
    · split at h0
      · cases h0
      · rename_i h1
        rw [not_or, not_or] at h1
        exact ⟨by show 0 ≤ m; omega, by show m ≤ 1023; omega⟩
  · exact h
theorem tre_ownr {c : Nat} {S : TreeD} (h : Tre c S) (cu now no u g : Int) : Tre c (ownrT S cu now no u g) := by
  unfold ownrT
  split
  · rename_i h0
    obtain ⟨hi, hn⟩ := own_of (ownrE_own h0)
    exact tre_same h hi hn rfl (h.on _ (isN_true hi).2.2).2 rfl rfl rfl rfl (h.bitsN hi)
  · exact h
theorem tre_time {c : Nat} {S : TreeD} (h : Tre c S) (cu now no t : Int) : Tre c (timeT S cu now no t) := by
  unfold timeT
  split
  · rename_i h0
    obtain ⟨hi, hn⟩ := own_of (timeE_own h0)
    exact tre_same h hi hn rfl (h.on _ (isN_true hi).2.2).2 rfl rfl rfl rfl (h.bitsN hi)
  · exact h
theorem tre_fill {c : Nat} {S : TreeD} (h : Tre c S) (no : Int) (data : List UInt8) (hd : data.length ≤ 1048576) : Tre c (fillT S no data) := by
  unfold fillT
  split
  · rename_i h0
    have hi := fillE_is h0
    have ho := h.on _ (isN_true hi).2.2
    exact tre_same (no := no) (n := { getN S.nodes no with data := data }) (tre_room h (getN S.nodes no).dev _ (h.live.fine ho.1 _ _) S.last (Int.le_refl _)) hi (isN_true hi).2.1 rfl hd rfl rfl rfl rfl (h.bitsN hi)
  · exact h
theorem tre_wri {c : Nat} {S : TreeD} (h : Tre c S) (cu cg now no : Int) (data : List UInt8) : Tre c (wriT S cu cg now no data) := by
  unfold wriT
  split
  · rename_i h0
    obtain ⟨hi, hd, _⟩ := wriE_zero h0
    have hG := tre_fill h no data (by omega)
    have hi2 := fillT_is S no data no hi
    exact tre_same hG (n := { getN (fillT S no data).nodes no with mtime := now, ctime := now }) hi2 (isN_true hi2).2.1 rfl (hG.on _ (isN_true hi2).2.2).2 rfl rfl rfl rfl (hG.bitsN hi2)
  · exact h
end Go.Proofs.Ytjblimclakfhfaa
