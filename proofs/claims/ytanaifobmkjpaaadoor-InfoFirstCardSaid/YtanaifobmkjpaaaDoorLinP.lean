/- Pieces of a text between bytes d: plain. -/
import Derived.Test.YtanaifobmkjpaaaDoorCutB
import Derived.Lib.Bytealg
namespace Go.Proofs.YtanaifobmkjpaaaDoor
open Go.RowKit

def pcB (d : UInt8) (cur : List UInt8) : List UInt8 → List (List UInt8)
  | [] => [cur]
  | c :: l => if c = d then cur :: pcB d [] l else pcB d (cur ++ [c]) l
theorem pcB_len (d : UInt8) (l : List UInt8) : ∀ cur, (pcB d cur l).length ≤ l.length + 1 := by
  induction l with
  | nil => intro cur; simp [pcB]
  | cons c l ih =>
    intro cur
    unfold pcB
    split
    · have := ih []; simp; omega
    · have := ih (cur ++ [c]); simp; omega
theorem pcB_at {d : UInt8} (R : List UInt8) : ∀ (A cur : List UInt8), d ∉ A → pcB d cur (A ++ d :: R) = (cur ++ A) :: pcB d [] R := by
  intro A
  induction A with
  | nil => intro cur _; rw [List.nil_append, pcB, if_pos rfl, List.append_nil]
  | cons c A ih =>
    intro cur h
    have hc : c ≠ d := by rintro rfl; exact h (List.mem_cons_self ..)
    rw [List.cons_append, pcB, if_neg hc, ih _ (fun hm => h (List.mem_cons_of_mem _ hm))]
    simp
theorem pcB_end {d : UInt8} : ∀ (A cur : List UInt8), d ∉ A → pcB d cur A = [cur ++ A] := by
  intro A
  induction A with
  | nil => intro cur _; rw [pcB, List.append_nil]
  | cons c A ih =>
    intro cur h
    have hc : c ≠ d := by rintro rfl; exact h (List.mem_cons_self ..)
    rw [pcB, if_neg hc, ih _ (fun hm => h (List.mem_cons_of_mem _ hm))]
    simp
theorem pcB_cut {d : UInt8} {u A R : List UInt8} (h : cutB d u = some (A, R)) : pcB d [] u = A :: pcB d [] R := by
  obtain ⟨h1, h2⟩ := cutB_len h
  rw [h1, pcB_at R A [] h2]; rfl
theorem pcB_none {d : UInt8} {u : List UInt8} (h : cutB d u = none) : pcB d [] u = [u] := by rw [pcB_end u [] (cutB_none.1 h)]; rfl
/-- No piece is longer than the text. -/
theorem pcB_small (d : UInt8) (l : List UInt8) : ∀ cur, ∀ p ∈ pcB d cur l, p.length ≤ cur.length + l.length := by
  induction l with
  | nil => intro cur p hp; rw [pcB, List.mem_singleton] at hp; rw [hp]; simp
  | cons c l ih =>
    intro cur p hp
    unfold pcB at hp
    split at hp
    · rcases List.mem_cons.1 hp with hp | hp
      · rw [hp]; omega
      · have := ih [] p hp; simp at this ⊢; omega
    · have := ih (cur ++ [c]) p hp; simp at this ⊢; omega
theorem indexByte_cut (d : UInt8) : ∀ (s : List UInt8), (match cutB d s with | some p => Lib.indexByte s d = (p.1.length : Int) | none => Lib.indexByte s d = -1)
  | [] => rfl
  | c :: l => by
    have ih := indexByte_cut d l
    unfold cutB
    have hst : Lib.indexByte (c :: l) d = if c == d then 0 else if Lib.indexByte l d == -1 then -1 else Lib.indexByte l d + 1 := rfl
    by_cases hc : c = d
    · rw [if_pos hc, hst, if_pos (by simpa using hc)]; rfl
    · rw [if_neg hc]
      rw [if_neg (by simpa using hc)] at hst
      cases hl : cutB d l with
      | none =>
        rw [hl] at ih
        have ih : Lib.indexByte l d = -1 := ih
        rw [ih] at hst
        exact hst
      | some p =>
        rw [hl] at ih
        have ih : Lib.indexByte l d = (p.1.length : Int) := ih
        rw [ih] at hst
        show Lib.indexByte (c :: l) d = (((c :: p.1).length : Nat) : Int)
        rw [hst]
        have : ((p.1.length : Int) == -1) = false := by rw [beq_eq_false_iff_ne]; omega
        rw [this]; simp
theorem index_some {d : UInt8} {s A R : List UInt8} (h : cutB d s = some (A, R)) : Lib.indexByte s d = (A.length : Int) := by
  have := indexByte_cut d s; rw [h] at this; exact this
theorem index_none {d : UInt8} {s : List UInt8} (h : cutB d s = none) : Lib.indexByte s d = -1 := by
  have := indexByte_cut d s; rw [h] at this; exact this
end Go.Proofs.YtanaifobmkjpaaaDoor
