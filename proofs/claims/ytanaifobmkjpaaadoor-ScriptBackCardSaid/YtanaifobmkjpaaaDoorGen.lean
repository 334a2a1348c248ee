/- Words on blocks and rows that several layers use. -/
import Derived.Test.YtanaifobmkjpaaaDoorTxt
import Derived.Test.YtanaifobmkjpaaaDoorBldB
namespace Go.Proofs.YtanaifobmkjpaaaDoor
open Go.ChangeShapes Go.WideShapes Go.ChangeAt Go.RowKit

theorem res_cell_tmp {P : Program} {fn : Func} {p t : Tmp} {ty : TypeId} (h : fn.results = #[.cell p ty, .tmp t]) (tmps : Array Value) (w : World) (g : Nat) (tt : TypeId) (cs : Array Value) (d : TypeDesc) (v : Value)
    (hp : tmps.getD p undef = .pointer (some ⟨g, 0, none⟩)) (hv : tmps.getD t undef = v) (hg : Has w g (.cells cs tt))
    (hu : P.underlying ty = some d) (hd : (match d with | .struct _ | .array _ _ => true | _ => false) = true) (hi : (P.info? ty).map (·.size) = some cs.size) :
    (results fn tmps).run P w = .ok (.tuple #[.agg cs, v]) w := by
  have hp' : tmps[p]?.getD undef = .pointer (some ⟨g, 0, none⟩) := by simpa using hp
  have hv' : tmps[t]?.getD undef = v := by simpa using hv
  have hl := run_loadVar_row (P := P) w g tt ty cs (0, 0) d hg hu hd hi
  simp [results, h, hp', hv', asAddr, hl]
theorem Has.set {w : World} {b : Nat} {C : Array Value} {t : TypeId} {fr : Nat × Nat} (h : Has w b (.cells C t fr)) (i : Nat) (v : Value) : Has (w.setCell ⟨b, i, none⟩ v) b (.cells (C.setIfInBounds i v) t fr) := by
  unfold Has at h ⊢
  unfold World.setCell
  rw [Array.getElem?_modify, if_pos rfl, h]; rfl
theorem setCell_block (w : World) (a : Addr) (v : Value) (k : Nat) (h : k ≠ a.block) : (w.setCell a v).heap[k]? = w.heap[k]? := by
  unfold World.setCell
  rw [Array.getElem?_modify, if_neg (fun e => h e.symm)]
theorem grown_set (w : World) (a : Addr) (v : Value) : w.grownBy (w.setCell a v) (some a.block) :=
  ⟨rfl, rfl, rfl, by simp, fun k _ h => setCell_block w a v k (fun e => h (by rw [e]))⟩
/-- A row of texts lies in no block of another type. -/
theorem row_ne {w : World} {base B : Nat} {v : Value} {n : Nat} {xs : List Value} {C : Array Value} {t : TypeId} {fr : Nat × Nat} (h : w.ownsRow base 9 1 v n xs) (hb : Has w B (.cells C t fr)) (ht : t ≠ 9) : v.ownBlock ≠ some B := by
  rcases h.2 with ⟨rfl, _⟩ | ⟨g, cap, cur, rfl, _, hg, _⟩
  · intro e; cases e
  · intro e
    injection e with e
    subst e
    unfold Has at hb
    rw [hb] at hg
    injection hg with hg
    injection hg with _ hg _
    exact ht hg
theorem OwnT.set {w : World} {base B i : Nat} {v : Value} {l : List Txt} {C : Array Value} {t : TypeId} {fr : Nat × Nat} (h : OwnT w base v l) (hb : Has w B (.cells C t fr)) (ht : t ≠ 9) (u : Value) : OwnT (w.setCell ⟨B, i, none⟩ u) base v l :=
  World.ownsRow.kept h (grown_set w ⟨B, i, none⟩ u) (.inr (row_ne h hb ht))
theorem Has.grown {w w' : World} {B : Nat} {o : Obj} {row : Option Nat} (h : Has w B o) (hg : w.grownBy w' row) (hr : row ≠ some B) : Has w' B o :=
  (hg.block B h.lt (fun e => hr e.symm)).trans h
theorem OwnT.ext {w w' : World} {b : Nat} {v : Value} {l : List Txt} (h : OwnT w b v l) (hE : Ext w w') : OwnT w' b v l :=
  World.ownsRow.kept h hE.grownBy (by cases v.ownBlock <;> simp)
end Go.Proofs.YtanaifobmkjpaaaDoor
