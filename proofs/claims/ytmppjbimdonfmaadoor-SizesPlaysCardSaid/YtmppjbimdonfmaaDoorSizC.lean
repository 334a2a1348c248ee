/- Layer 7 (sizes): a row of the call's own. -/
import Derived.Test.YtmppjbimdonfmaaDoorSizS
import Derived.Lib.AppendZeros
import Derived.Laws.AppendOwnNone
namespace Go.Proofs.YtmppjbimdonfmaaDoor
open Go.ChangeShapes Go.WideShapes Go.ChangeAt Go.RowKit

def entCells (l : List EntD) : List Value := l.flatMap fun x => [.int .i64 x.2.1, .int .i64 x.2.2, .string (bs x.1)]
theorem entCells_len (l : List EntD) : (entCells l).length = l.length * 3 := by
  unfold entCells
  induction l with
  | nil => rfl
  | cons x l ih => rw [List.flatMap_cons, List.length_append, ih]; simp; omega
theorem entCells_append (a b : List EntD) : entCells (a ++ b) = entCells a ++ entCells b := by unfold entCells; rw [List.flatMap_append]
theorem entCells_one (l : List EntD) : ∀ u ∈ entCells l, u.oneCell' = true := by
  intro u hu
  unfold entCells at hu
  rw [List.mem_flatMap] at hu
  obtain ⟨x, _, hx⟩ := hu
  rcases List.mem_cons.1 hx with rfl | hx
  · rfl
  · rcases List.mem_cons.1 hx with rfl | hx
    · rfl
    · rw [List.mem_singleton.1 hx]; rfl
theorem entCells_get (l : List EntD) : ∀ k, (h : k < l.length) → (entCells l)[k * 3]? = some (.int .i64 l[k].2.1) ∧ (entCells l)[k * 3 + 1]? = some (.int .i64 l[k].2.2) ∧ (entCells l)[k * 3 + 2]? = some (.string (bs l[k].1)) := by
  induction l with
  | nil => intro k h; cases h
  | cons x l ih =>
    intro k h
    have e : entCells (x :: l) = .int .i64 x.2.1 :: .int .i64 x.2.2 :: .string (bs x.1) :: entCells l := rfl
    rw [e]
    cases k with
    | zero => exact ⟨rfl, rfl, rfl⟩
    | succ k =>
      have := ih k (by simpa using h)
      rw [show (k + 1) * 3 = k * 3 + 1 + 1 + 1 by omega]
      simpa using this
/-- The cells of entries that lie from an address on. -/
theorem EntsAt.cells {w : World} {b o : Nat} {l : List EntD} (h : EntsAt w (some ⟨b, o, none⟩) l) : ∀ j u, (entCells l)[j]? = some u → w.cell? ⟨b, o + j, none⟩ = some u := by
  intro j u hu
  have hj : j < l.length * 3 := by
    rw [← entCells_len]
    rcases Nat.lt_or_ge j (entCells l).length with h' | h'
    · exact h'
    · rw [List.getElem?_eq_none h'] at hu; cases hu
  rcases h with h | ⟨b', o', hA, _, hc⟩
  · subst h; simp at hj
  · injection hA with hA
    injection hA with h1 h2
    subst h1 h2
    have hk := hc (j / 3) (by omega)
    have hg := entCells_get l (j / 3) (by omega)
    have hm : j % 3 = 0 ∨ j % 3 = 1 ∨ j % 3 = 2 := by omega
    rcases hm with hm | hm | hm
    · have e : j / 3 * 3 = j := by omega
      rw [e] at hk hg
      rw [hk.1, ← hg.1, hu]
    · have e : j / 3 * 3 + 1 = j := by omega
      have e2 : o + j / 3 * 3 + 1 = o + j := by omega
      rw [e] at hg
      rw [e2] at hk
      rw [hk.2.1, ← hg.2.1, hu]
    · have e : j / 3 * 3 + 2 = j := by omega
      have e2 : o + j / 3 * 3 + 2 = o + j := by omega
      rw [e] at hg
      rw [e2] at hk
      rw [hk.2.2, ← hg.2.2, hu]
/-- Entries in a row of the call's own. -/
def OwnE (w : World) (base : Nat) (v : Value) (l : List EntD) : Prop := w.ownsRow base 48 3 v l.length (entCells l)
theorem OwnE.at_ {w : World} {base : Nat} {v : Value} {l : List EntD} (h : OwnE w base v l) : ∃ A cap, v = .slice A l.length cap ∧ l.length ≤ cap ∧ cap ≤ maxLen ∧ EntsAt w A l := by
  unfold OwnE at h
  rcases h.2 with ⟨rfl, h0⟩ | ⟨g, cap, cur, rfl, _, hg, hn, hm, hsz, htake⟩
  · have : l = [] := List.eq_nil_of_length_eq_zero h0
    subst this
    exact ⟨none, 0, rfl, Nat.le_refl _, by decide, .inl rfl⟩
  · refine ⟨_, cap, rfl, hn, hm, .inr ⟨g, 0, rfl, ?_, fun k hk => ?_⟩⟩
    · rcases Nat.lt_or_ge g w.heap.size with h' | h'
      · exact h'
      · simp [Array.getElem?_eq_none h'] at hg
    · have hc := h.cells (g := g) rfl
      have hg := entCells_get l k hk
      have h1 := hc _ _ hg.1
      have h2 := hc _ _ hg.2.1
      have h3 := hc _ _ hg.2.2
      simp only [Addr.add_lit] at h1 h2 h3
      rw [Nat.add_assoc, Nat.add_assoc]
      exact ⟨h1, h2, h3⟩
theorem infoEnt : (Tryd.prog.info? 48).map (fun i => (i.zero, i.size, i.bytes)) = some (some (.agg #[.int .i64 0, .int .i64 0, .string ⟨#[]⟩]), 3, 32) := by kernel_rfl
end Go.Proofs.YtmppjbimdonfmaaDoor
