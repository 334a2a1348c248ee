/- Layer 11 (ents): how a list of entries, and an entry, that came in read; the law EntsCheck. -/
import Derived.Test.YtneideokodhciaaEntO
import Derived.Lib.SmallJoins
namespace Go.Proofs.Ytneideokodhciaa
open Go.ChangeShapes Go.WideShapes Go.ChangeAt Go.RowKit

theorem list_of {α : Type} (n : Nat) (P : Nat → α → Prop) (h : ∀ i, i < n → ∃ x, P i x) : ∃ l : List α, l.length = n ∧ ∀ i, (hi : i < l.length) → P i l[i] := by
  induction n with
  | zero => exact ⟨[], rfl, fun i hi => by cases hi⟩
  | succ n ih =>
    obtain ⟨l, hl, hp⟩ := ih (fun i hi => h i (by omega))
    obtain ⟨x, hx⟩ := h n (by omega)
    refine ⟨l ++ [x], by simp [hl], fun i hi => ?_⟩
    by_cases hin : i < l.length
    · rw [List.getElem_append_left hin]; exact hp i hin
    · have : i = l.length := by simp at hi; omega
      subst this
      rw [List.getElem_append_right (Nat.le_refl _)]
      simpa [hl] using hx
section
variable {H : Type} {enc : TypeId × Value → H} {w : World} {base : Nat} {spare : Nat → Bool} {held : Bool}
theorem cells25 : Try.prog.cellsOf 25 = 2 := by kernel_rfl
theorem cells3' : Try.prog.cellsOf 3 = 1 := by kernel_rfl
theorem cells9' : Try.prog.cellsOf 9 = 1 := by kernel_rfl
set_option maxRecDepth 100000 in
theorem ent_cells {n : Nat} {cs : List Value} {x : DataW H × List MemPlace} (h : DataW.trod enc Try.prog w base spare held n 25 cs = some x) : ∃ (nm : List UInt8) (no : Int), cs = [.string (bs nm), .int .i64 no] ∧ nm.length ≤ maxLen := by
  obtain ⟨xs, m, _, _, hl, hxl, hf⟩ := DataW.trod_struct Try.underlying25 h
  rw [cells25] at hl
  match cs, hl with
  | [a0, a1], _ =>
    match xs, hxl with
    | [y0, y1], _ =>
      have f0 : DataW.trod enc Try.prog w base spare held m 9 (List.take (Try.prog.cellsOf 9) (List.drop 0 [a0, a1])) = some y0 := hf 0 _ rfl
      have f1 : DataW.trod enc Try.prog w base spare held m 3 (List.take (Try.prog.cellsOf 3) (List.drop 1 [a0, a1])) = some y1 := hf 1 _ rfl
      rw [cells9'] at f0
      rw [cells3'] at f1
      obtain ⟨s, h0, _, hs⟩ := DataW.trod_string Try.underlying9 f0
      obtain ⟨k, h1, _, _⟩ := DataW.trod_int Try.underlying3 f1
      have e0 : a0 = .string s := by simpa using h0
      have e1 : a1 = .int .i64 k := by simpa using h1
      exact ⟨s.data.toList, k, by rw [e0, e1, bs_self], by simpa using hs⟩
set_option maxRecDepth 100000 in
theorem open_ent {r : Reach} {b0 : Nat} {v : Value} {d : DataW H} {p : List MemPlace} (hv : Value.okWide Try.prog w r b0 25 v) (h : DataW.Trod enc Try.prog w base spare held 25 v d p) :
    ∃ (nm : List UInt8) (no : Int), v = .agg #[.string (bs nm), .int .i64 no] ∧ nm.length ≤ maxLen := by
  obtain ⟨cs, rfl, hsz⟩ := okWide_struct Try.underlying25 hv
  obtain ⟨fuel, hf⟩ := h
  obtain ⟨nm, no, hx, hl⟩ := ent_cells hf
  have hcs : cs.toList = [.string (bs nm), .int .i64 no] := hx
  exact ⟨nm, no, by rw [show cs = #[.string (bs nm), .int .i64 no] from Array.toList_inj.1 hcs], hl⟩
set_option maxRecDepth 100000 in
theorem open_ents {r : Reach} {b0 : Nat} {v : Value} {d : DataW H} {p : List MemPlace} (hv : Value.okWide Try.prog w r b0 22 v) (h : DataW.Trod enc Try.prog w base spare held 22 v d p) :
    ∃ (A : Option Addr) (l : List EntD) (cap : Nat), v = .slice A l.length cap ∧ EntsAt w A l ∧ (A = none → cap = 0) ∧ l.length ≤ cap ∧ cap ≤ maxLen ∧ ∀ x ∈ l, x.1.length ≤ maxLen := by
  obtain ⟨a, n, c, rfl⟩ := okWide_slice Try.underlying22 hv
  obtain ⟨fuel, hf⟩ := h
  rcases Go.Deep.open_slice Try.underlying22 hf with ⟨hcs, _⟩ | ⟨ad, len, cap, m, k, D, Pl, hcs, _, hl, hm, hmm, _, hi⟩
  · simp [Value.cells] at hcs
    obtain ⟨rfl, rfl, rfl⟩ := hcs
    exact ⟨none, [], 0, rfl, .inl rfl, fun _ => rfl, Nat.le_refl _, by decide, fun x hx => by cases hx⟩
  · simp [Value.cells] at hcs
    obtain ⟨rfl, rfl, rfl⟩ := hcs
    have hmn : n ≤ m := by rw [hmm]; split <;> omega
    obtain ⟨l, hll, hlp⟩ := list_of (α := EntD) n (fun i x => w.cell? (ad.add (i * 2)) = some (.string (bs x.1)) ∧ w.cell? ((ad.add (i * 2)).add 1) = some (.int .i64 x.2) ∧ x.1.length ≤ maxLen) (fun i hin => by
      obtain ⟨cs', hc, ht⟩ := hi i (by omega)
      rw [cells25] at hc
      obtain ⟨nm, no, rfl, hlen⟩ := ent_cells ht
      obtain ⟨_, _, hat⟩ := World.cells?_some hc
      exact ⟨(nm, no), by simpa [Addr.add] using hat 0 (by omega), by simpa using hat 1 (by omega), hlen⟩)
    refine ⟨some ad, l, c, by rw [hll], ?_, (fun h => by cases h), by omega, hm, ?_⟩
    · by_cases h0 : l = []
      · exact .inl h0
      · have hpos : 0 < l.length := List.length_pos_iff.2 h0
        obtain ⟨b, off, spot⟩ := ad
        have hspot : spot = none := by simpa [Addr.add] using World.cell?_spot (hlp 0 hpos).1
        subst hspot
        have hbl : b < w.heap.size := by
          have := (hlp 0 hpos).1
          rcases Nat.lt_or_ge b w.heap.size with h' | h'
          · exact h'
          · simp [Addr.add, World.cell?, Array.getElem?_eq_none h'] at this
        refine .inr ⟨b, off, rfl, hbl, fun i hi' => ?_⟩
        obtain ⟨q1, q2, _⟩ := hlp i hi'
        rw [add_plain] at q1 q2
        rw [add_plain] at q2
        exact ⟨q1, q2⟩
    · intro x hx
      obtain ⟨i, hi', rfl⟩ := List.getElem_of_mem hx
      exact (hlp i hi').2.2
end
set_option maxRecDepth 100000 in
theorem entsCheck_walk {H : Type} {enc : TypeId × Value → H} (W : World) (base : Nat) (v0 : Value) (d0 : DataW H) (p0 : List MemPlace)
    (k0 : Value.okWide Try.prog W .any base 22 v0) (h0 : DataW.Trod enc Try.prog W 0 (fun _ => true) true 22 v0 d0 p0)
    : Calls Try.prog 3 #[v0] W (Ret W (.bool true)) := by
  obtain ⟨A, l, cap, rfl, he, _, hl, hc, _⟩ := open_ents k0 h0
  exact entsCheck_core A l cap W he (by unfold maxLen at hc; omega)
end Go.Proofs.Ytneideokodhciaa
