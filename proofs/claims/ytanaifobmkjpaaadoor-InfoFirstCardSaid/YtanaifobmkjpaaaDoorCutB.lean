/- Texts cut at a byte: plain; strings.Cut at a byte; the number that Go's search asks. -/
import Derived.Test.YtanaifobmkjpaaaDoorStr
import Derived.Test.YtanaifobmkjpaaaDoorShelf
import Derived.Lib.IndexMore
namespace Go.Proofs.YtanaifobmkjpaaaDoor
open Go.ChangeShapes Go.WideShapes Go.ChangeAt Go.RowKit

def cutB (d : UInt8) : List UInt8 → Option (List UInt8 × List UInt8)
  | [] => none
  | c :: l => if c = d then some ([], l) else (cutB d l).map fun p => (c :: p.1, p.2)
theorem cutB_len {d : UInt8} : ∀ {s a r : List UInt8}, cutB d s = some (a, r) → s = a ++ d :: r ∧ d ∉ a
  | [], a, r, h => by cases h
  | c :: l, a, r, h => by
    unfold cutB at h
    split at h
    · rename_i hc
      injection h with h
      injection h with h1 h2
      subst h1; subst h2; subst hc
      exact ⟨rfl, by simp⟩
    · rename_i hc
      cases hl : cutB d l with
      | none => rw [hl] at h; cases h
      | some p =>
        rw [hl] at h
        injection h with h
        injection h with h1 h2
        obtain ⟨q1, q2⟩ := cutB_len (d := d) (s := l) (a := p.1) (r := p.2) hl
        subst h1; subst h2
        refine ⟨by rw [List.cons_append, ← q1], fun hm => ?_⟩
        rcases List.mem_cons.1 hm with h | h
        · exact hc h.symm
        · exact q2 h
theorem cutB_none {d : UInt8} : ∀ {s : List UInt8}, cutB d s = none ↔ d ∉ s
  | [] => by simp [cutB]
  | c :: l => by
    unfold cutB
    split
    · rename_i hc; subst hc; simp
    · rename_i hc
      have ih := cutB_none (d := d) (s := l)
      rw [Option.map_eq_none_iff, ih]
      constructor
      · intro h hm
        rcases List.mem_cons.1 hm with h' | h'
        · exact hc h'.symm
        · exact h h'
      · intro h hm; exact h (List.mem_cons_of_mem _ hm)
theorem cutB_at {d : UInt8} (a r : List UInt8) (h : d ∉ a) : cutB d (a ++ d :: r) = some (a, r) := by
  induction a with
  | nil => simp [cutB]
  | cons c l ih =>
    have hc : c ≠ d := by rintro rfl; exact h (List.mem_cons_self ..)
    show (if c = d then _ else _) = _
    rw [if_neg hc]
    show Option.map _ (cutB d (l ++ d :: r)) = _
    rw [ih (fun hm => h (List.mem_cons_of_mem _ hm))]; rfl
theorem cut_byte (d : UInt8) (s : List UInt8) : Lib.cut s [d] = match cutB d s with | some p => (p.1, p.2, true) | none => (s, [], false) := by
  have key : (match cutB d s with | some p => Lib.index s [d] = (p.1.length : Int) ∧ s = p.1 ++ d :: p.2 | none => Lib.index s [d] = -1) := by
    induction s with
    | nil => rfl
    | cons c l ih =>
      unfold cutB
      have hst : Lib.index (c :: l) [d] = if ([d] : List UInt8).isPrefixOf (c :: l) then 0 else if Lib.index l [d] == -1 then -1 else Lib.index l [d] + 1 := rfl
      by_cases hc : c = d
      · rw [if_pos hc]
        subst hc
        exact ⟨by rw [hst]; simp [List.isPrefixOf], rfl⟩
      · rw [if_neg hc]
        have hp : ([d] : List UInt8).isPrefixOf (c :: l) = false := by simp [List.isPrefixOf, Ne.symm hc]
        rw [hp] at hst
        cases hl : cutB d l with
        | none =>
          rw [hl] at ih
          have ih : Lib.index l [d] = -1 := ih
          rw [ih] at hst
          exact hst
        | some p =>
          rw [hl] at ih
          obtain ⟨i1, i2⟩ : Lib.index l [d] = (p.1.length : Int) ∧ l = p.1 ++ d :: p.2 := ih
          rw [i1] at hst
          refine ⟨?_, by show c :: l = c :: p.1 ++ d :: p.2; rw [List.cons_append, ← i2]⟩
          rw [hst]
          have : ((p.1.length : Int) == -1) = false := by rw [beq_eq_false_iff_ne]; omega
          rw [this]; simp
  unfold Lib.cut
  cases hl : cutB d s with
  | none =>
    rw [hl] at key
    have key : Lib.index s [d] = -1 := key
    rw [key]; rfl
  | some p =>
    rw [hl] at key
    obtain ⟨k1, k2⟩ : Lib.index s [d] = (p.1.length : Int) ∧ s = p.1 ++ d :: p.2 := key
    rw [k1, if_pos (by omega)]
    show (List.take (p.1.length : Int).toNat s, List.drop ((p.1.length : Int).toNat + 1) s, true) = _
    rw [Int.toNat_natCast]
    conv => lhs; rw [k2]
    simp
/-- The world holds the number that Go's search asks. -/
def HasMax (w : World) : Prop := ∃ m, 0 < w.heap.size ∧ w.cell? ⟨0, 0, none⟩ = some (.int .i64 m)
theorem HasMax.ext {w w' : World} (h : HasMax w) (hE : Ext w w') : HasMax w' := by
  obtain ⟨m, h1, h2⟩ := h
  have := hE.size
  exact ⟨m, by omega, (hE.cell (o := 0) h1).trans h2⟩
theorem HasMax.of {w : World} (h : w.ShapedOpen Tryd.prog) : HasMax w := by
  obtain ⟨m, hm⟩ := Tryd.laysM145.s1_3 w h
  have hm : w.cell? ⟨0, 0, none⟩ = some (.int .i64 m) := hm
  refine ⟨m, ?_, hm⟩
  rcases Nat.lt_or_ge 0 w.heap.size with h' | h'
  · exact h'
  · have hm2 : w.cell? ⟨0, 0, none⟩ = some (.int .i64 m) := hm
    simp [World.cell?, Array.getElem?_eq_none h'] at hm2
def cutV (d : UInt8) (s : List UInt8) : Value := match cutB d s with
  | some p => .tuple #[.string (bs p.1), .string (bs p.2), .bool true]
  | none => .tuple #[.string (bs s), .string ⟨#[]⟩, .bool false]
theorem pcut_any (d : UInt8) (s : List UInt8) (w : World) (hM : HasMax w) (hlen : s.length ≤ 1000000) : Calls Tryd.prog 41 #[.string (bs s), .string ⟨#[d]⟩] w (Ret w (cutV d s)) := by
  obtain ⟨m, _, hm⟩ := hM
  refine (Tryd.strings_Cut (bs s) ⟨#[d]⟩ m w (by rw [bs_size]; omega) hm).mono ?_
  rintro e w' ⟨rfl, n, rfl⟩
  refine Ret.mk ?_ ((Ext.refl _).drewN n)
  rw [bs_list, show (⟨#[d]⟩ : ByteArray).data.toList = [d] from rfl, cut_byte]
  unfold cutV
  cases cutB d s <;> rfl
end Go.Proofs.YtanaifobmkjpaaaDoor
