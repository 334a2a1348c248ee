/- append to a list of texts of the call's own, as run equations. -/
import Derived.Test.YtmppjbimdonfmaaDoorTxt
import Derived.Laws.OwnMore
namespace Go.Proofs.YtmppjbimdonfmaaDoor
open Go.ChangeShapes Go.WideShapes Go.ChangeAt Go.RowKit

theorem txt_one (w : World) (x : Txt) (base : Nat) (h : base ≤ w.heap.size) : OwnT (w.alloc (.cells #[.string (bs x)] 9)) base (.slice (some ⟨w.heap.size, 0, none⟩) 1 1) [x] :=
  ⟨rfl, .inr ⟨w.heap.size, 1, #[.string (bs x)], rfl, h, Has.new w _, Nat.le_refl _, by decide, rfl, rfl⟩⟩
/-- What Write answers. -/
def WR (w : World) (L : List Txt) (e : Ending) (w' : World) : Prop := ∃ v, e = .returned v ∧ OwnT w' w.heap.size v L ∧ Ext w w'
/-- 'append(v, texts..)': one fresh text. -/
theorem app_one {base : Nat} {v : Value} {P : List Txt} (x : Txt) (wr : World) (h : OwnT wr base v P) (hb : base ≤ wr.heap.size) (hl : P.length ≤ 2000) :
    ∃ v' w2, (Builtin.append_ #[24, 24] 24 #[v, .slice (some ⟨wr.heap.size, 0, none⟩) 1 1]).run Tryd.prog (wr.alloc (.cells #[.string (bs x)] 9)) = .ok v' w2 ∧ OwnT w2 base v' (P ++ [x]) ∧ (wr.alloc (.cells #[.string (bs x)] 9)).grownBy w2 v.ownBlock := by
  obtain ⟨i0, hi, hz0, hz1, hz2⟩ := info_parts infoStr
  obtain ⟨v', w2, hr, h2, h3, _⟩ := run_append_own (P := Tryd.prog) (wr.alloc (.cells #[.string (bs x)] 9)) base 24 24 9 i0 (.string ⟨#[]⟩) 1 16 Tryd.underlying24 hi hz0 hz1 hz2 rfl (by decide) _ P.length _ (World.ownsRow.alloc h _) ⟨wr.heap.size, 0, none⟩ 1 1 (txtCells [x]) rfl (txt_news wr x) (txtCells_one [x]) (by unfold maxLen; omega) (by omega) (by simp; omega)
  refine ⟨v', w2, hr, ?_, h3⟩
  unfold OwnT
  rw [txtCells_append, List.length_append]
  exact h2
/-- .. two fresh texts. -/
theorem two_news (wr : World) (x y : Txt) : ∀ j u, (txtCells [x, y])[j]? = some u → (wr.alloc (.cells #[.string (bs x), .string (bs y)] 9)).cell? ((⟨wr.heap.size, 0, none⟩ : Addr).add j) = some u := by
  intro j u hu
  rw [Addr.add_lit]
  have h := (Has.new wr (.cells #[.string (bs x), .string (bs y)] 9)).cell (0 + j)
  rw [h, Nat.zero_add]
  simpa [txtCells] using hu
/-- .. texts as they lie. -/
theorem app_list {base : Nat} {v : Value} {P : List Txt} (A : Option Addr) (cap : Nat) (L : List Txt) (wr : World) (h : OwnT wr base v P) (hat : TxtAt wr A L) (hA : A = none → cap = 0) (hb : base ≤ wr.heap.size) (hl : P.length ≤ 2000) (hL : L.length ≤ 2000) :
    ∃ v' w2, (Builtin.append_ #[24, 24] 24 #[v, .slice A L.length cap]).run Tryd.prog wr = .ok v' w2 ∧ OwnT w2 base v' (P ++ L) ∧ wr.grownBy w2 v.ownBlock := by
  obtain ⟨i0, hi, hz0, hz1, hz2⟩ := info_parts infoStr
  cases A with
  | none =>
    have hl0 : L = [] := by
      rcases hat with h | ⟨b', o', h, _⟩
      · exact h
      · cases h
    subst hl0
    obtain rfl : cap = 0 := hA rfl
    obtain ⟨A', c', rfl, hpc, _, _, _⟩ := h.at_
    refine ⟨_, wr, ?_, by rw [List.append_nil]; exact h, World.grownBy.refl _ _⟩
    cases A' <;> simp [Builtin.append_, run_underlying Tryd.underlying24, sizeOf, typeInfo, hi, Builtin.lenOf, Builtin.firstCells, storeCells, hpc]
  | some ad =>
    have hne2 : ∀ j u, (txtCells L)[j]? = some u → wr.cell? (ad.add j) = some u := by
      intro j u hu
      rcases hat with h | ⟨b', o', hAe, hb, h2⟩
      · subst h; simp [txtCells] at hu
      · obtain rfl : ad = ⟨b', o', none⟩ := Option.some.inj hAe
        rw [Addr.add_lit]
        have hj : j < L.length := by
          rcases Nat.lt_or_ge j L.length with h' | h'
          · exact h'
          · rw [List.getElem?_eq_none (by rw [txtCells_len]; exact h')] at hu; cases hu
        exact (h2 j hj).trans ((txtCells_get L j hj).symm.trans hu)
    obtain ⟨v', w2, hr, h2, h3, _⟩ := run_append_own (P := Tryd.prog) wr base 24 24 9 i0 (.string ⟨#[]⟩) 1 16 Tryd.underlying24 hi hz0 hz1 hz2 rfl (by decide) _ P.length _ h ad L.length cap (txtCells L) (by rw [txtCells_len, Nat.mul_one]) hne2 (txtCells_one L) (by unfold maxLen; omega) (by omega) hb
    refine ⟨v', w2, hr, ?_, h3⟩
    unfold OwnT
    rw [txtCells_append, List.length_append]
    exact h2
/-- Two fresh texts, as they lie. -/
theorem two_at (wd : World) (x y : Txt) : TxtAt (wd.alloc (.cells #[.string (bs x), .string (bs y)] 9)) (some ⟨wd.heap.size, 0, none⟩) [x, y] :=
  .inr ⟨wd.heap.size, 0, rfl, by simp, fun k hk => by
    have h := (Has.new wd (.cells #[.string (bs x), .string (bs y)] 9)).cell (0 + k)
    rw [h, Nat.zero_add]
    have hk2 : k = 0 ∨ k = 1 := by simp at hk; omega
    rcases hk2 with rfl | rfl <;> rfl⟩
/-- An append at a step of a region that draws its order, out of a run equation. -/
theorem step_append_run {P : Program} {ops : Array Oper} {o : Oper} {a : Act} {K : Act → World → Prop} {Q : Exit → Act → World → Prop} {E : Prop} (w : World) (hgd : o.guard = none) (s x : Operand) (t : TypeId)
    (ho : o.op = .call { callee := .builtin .append, args := #[s, x], argTypes := #[t, t] }) (vs vx : Value) (hs : a.eval s = vs) (hx : a.eval x = vx) {R : Value → World → Prop}
    (hr : ∃ v' w', (Builtin.append_ #[t, t] o.type #[vs, vx]).run P w = .ok v' w' ∧ R v' w') (h : ∀ v' w', R v' w' → K (a.put o.dst v') w') :
    if Region.wanted o (yielded ops a.tmps) = true then Oper.wp P o a w K Q else E := by
  have hw : Region.wanted o (yielded ops a.tmps) = true := by simp [Region.wanted, hgd]
  rw [if_pos hw]
  obtain ⟨v', w', h1, h2⟩ := hr
  unfold Oper.wp execOp
  simp only [ho, resolve, invoke, builtin, Sem.run_bind, Sem.run_pure, Result.andThen_ok, List.map_toArray, List.map_cons, List.map_nil, hs, hx, h1]
  exact h v' w' h2
/-- A call that returns a list of texts of its own. -/
def WrR (w : World) (L : List Txt) (e : Ending) (w' : World) : Prop := ∃ v, e = .returned v ∧ OwnT w' w.heap.size v L ∧ Ext w w'
theorem WrR.mk {w w' : World} {L M : List Txt} {v : Value} (h : OwnT w' w.heap.size v M) (hE : Ext w w') (he : M = L) : WrR w L (.returned v) w' := ⟨v, rfl, he ▸ h, hE⟩
end Go.Proofs.YtmppjbimdonfmaaDoor
