/- Lists of texts in memory: as they lie; in a row of the call's own. -/
import Derived.Test.YtanaifobmkjpaaaDoorStr
import Derived.Laws.OwnMore
import Derived.Laws.AppendOwn
import Derived.Deep.RegionHeld3
import Derived.Outline
namespace Go.Proofs.YtanaifobmkjpaaaDoor
open Go.ChangeShapes Go.WideShapes Go.ChangeAt Go.RowKit

abbrev Txt := List UInt8
/-- Texts as they lie from an address on. -/
def TxtAt (w : World) (A : Option Addr) (l : List Txt) : Prop :=
  l = [] ∨ ∃ b o, A = some ⟨b, o, none⟩ ∧ b < w.heap.size ∧ ∀ k, (h : k < l.length) → w.cell? ⟨b, o + k, none⟩ = some (.string (bs l[k]))
theorem TxtAt.ext {w w' : World} {A : Option Addr} {l : List Txt} (h : TxtAt w A l) (k : Ext w w') : TxtAt w' A l := by
  rcases h with h | ⟨b, o, hA, hb, hc⟩
  · exact .inl h
  · refine .inr ⟨b, o, hA, by have := k.size; omega, fun i hi => ?_⟩
    rw [k.cell hb]; exact hc i hi
theorem TxtAt.at_ {w w' : World} {A : Option Addr} {l : List Txt} (h : TxtAt w A l) (hE : Ext w w') (k : Nat) (hk : k < l.length) : ∃ b o, A = some ⟨b, o, none⟩ ∧ b < w'.heap.size ∧ w'.cell? ⟨b, o + k, none⟩ = some (.string (bs l[k])) := by
  rcases h.ext hE with h0 | ⟨b, o, hA, hb, hc⟩
  · subst h0; simp at hk
  · exact ⟨b, o, hA, hb, hc k hk⟩
theorem TxtAt.take {w : World} {A : Option Addr} {l : List Txt} (h : TxtAt w A l) (k : Nat) : TxtAt w A (l.take k) := by
  rcases h with h | ⟨b, o, hA, hb, hc⟩
  · subst h; exact .inl (by simp)
  · refine .inr ⟨b, o, hA, hb, fun i hi => ?_⟩
    rw [List.length_take] at hi
    rw [List.getElem_take]; exact hc i (by omega)
def txtCells (l : List Txt) : List Value := l.map fun x => .string (bs x)
theorem txtCells_len (l : List Txt) : (txtCells l).length = l.length := by simp [txtCells]
theorem txtCells_append (a b : List Txt) : txtCells (a ++ b) = txtCells a ++ txtCells b := by simp [txtCells]
theorem txtCells_one (l : List Txt) : ∀ u ∈ txtCells l, u.oneCell' = true := by
  intro u hu
  unfold txtCells at hu
  rw [List.mem_map] at hu
  obtain ⟨x, _, rfl⟩ := hu
  rfl
theorem txtCells_get (l : List Txt) (k : Nat) (h : k < l.length) : (txtCells l)[k]? = some (.string (bs l[k])) := by simp [txtCells, h]
/-- Texts in a row of the call's own. -/
def OwnT (w : World) (base : Nat) (v : Value) (l : List Txt) : Prop := w.ownsRow base 9 1 v l.length (txtCells l)
theorem OwnT.at_ {w : World} {base : Nat} {v : Value} {l : List Txt} (h : OwnT w base v l) : ∃ A cap, v = .slice A l.length cap ∧ l.length ≤ cap ∧ cap ≤ maxLen ∧ TxtAt w A l ∧ (A = none → cap = 0) := by
  unfold OwnT at h
  rcases h.2 with ⟨rfl, h0⟩ | ⟨g, cap, cur, rfl, _, hg, hn, hm, hsz, htake⟩
  · have : l = [] := List.eq_nil_of_length_eq_zero h0
    subst this
    exact ⟨none, 0, rfl, Nat.le_refl _, by decide, .inl rfl, fun _ => rfl⟩
  · refine ⟨_, cap, rfl, hn, hm, .inr ⟨g, 0, rfl, ?_, fun k hk => ?_⟩, fun h => by cases h⟩
    · rcases Nat.lt_or_ge g w.heap.size with h' | h'
      · exact h'
      · simp [Array.getElem?_eq_none h'] at hg
    · have h1 := h.cells (g := g) rfl _ _ (txtCells_get l k hk)
      simp only [Addr.add_lit] at h1
      exact h1
theorem infoStr : (Tryd.prog.info? 9).map (fun i => (i.zero, i.size, i.bytes)) = some (some (.string ⟨#[]⟩), 1, 16) := by kernel_rfl
theorem txt_news (wr : World) (x : Txt) : ∀ j u, (txtCells [x])[j]? = some u → (wr.alloc (.cells #[.string (bs x)] 9)).cell? ((⟨wr.heap.size, 0, none⟩ : Addr).add j) = some u := by
  intro j u hu
  have hj : j = 0 := by
    rcases Nat.eq_zero_or_pos j with h | h
    · exact h
    · rw [List.getElem?_eq_none (by rw [txtCells_len]; simp; omega)] at hu; cases hu
  subst hj
  rw [txtCells_get [x] 0 (by simp)] at hu
  injection hu with hu
  subst hu
  rw [Addr.add_lit]
  exact (Has.new wr _).cell 0
/-- Behind 'out = append(out, x)'. -/
theorem txt_app {w wr w2 : World} {v v' : Value} {P : List Txt} {x : Txt} {o : Obj} (h : wr.ownsRow w.heap.size 9 1 v P.length (txtCells P)) (hE : Ext w wr) (h2 : w2.ownsRow w.heap.size 9 1 v' (P.length + 1) (txtCells P ++ txtCells [x])) (hg : (wr.alloc o).grownBy w2 v.ownBlock) : OwnT w2 w.heap.size v' (P ++ [x]) ∧ Ext w w2 := by
  refine ⟨?_, (hE.alloc o).grown hg (fun g hv => (h.lt g hv).1)⟩
  unfold OwnT
  rw [txtCells_append, List.length_append]
  exact h2
end Go.Proofs.YtanaifobmkjpaaaDoor
