/- Layer 2 (name), plain: the pieces of a path, its parts, what stands last. -/
import Derived.Test.YtmppjbimdonfmaaDoorStr
namespace Go.Proofs.YtmppjbimdonfmaaDoor

/-- What stands between slashes; cur: what has been read of the first piece. -/
def pc (cur : List UInt8) : List UInt8 → List (List UInt8)
  | [] => [cur]
  | c :: l => if c = 47 then cur :: pc [] l else pc (cur ++ [c]) l
def good (p : List UInt8) : Bool := !(p == []) && !(p == [46])
def partsN (l : List UInt8) : List (List UInt8) := (pc [] l).filter good
theorem pc_ne (l : List UInt8) : ∀ cur, pc cur l ≠ [] := by
  induction l with
  | nil => intro cur h; cases h
  | cons c l ih => intro cur; unfold pc; split <;> simp [ih]
theorem pc_len (l : List UInt8) : ∀ cur, (pc cur l).length ≤ l.length + 1 := by
  induction l with
  | nil => intro cur; simp [pc]
  | cons c l ih =>
    intro cur
    unfold pc
    split
    · have := ih []; simp; omega
    · have := ih (cur ++ [c]); simp; omega
def total : List (List UInt8) → Nat
  | [] => 0
  | p :: l => p.length + total l
theorem total_append (a b : List (List UInt8)) : total (a ++ b) = total a + total b := by
  induction a with
  | nil => simp [total]
  | cons x a ih => simp [total, ih]; omega
theorem pc_total (l : List UInt8) : ∀ cur, total (pc cur l) ≤ cur.length + l.length := by
  induction l with
  | nil => intro cur; simp [pc, total]
  | cons c l ih =>
    intro cur
    unfold pc
    split
    · have := ih []; simp [total] at *; omega
    · have := ih (cur ++ [c]); simp at *; omega
theorem total_filter (f : List UInt8 → Bool) (l : List (List UInt8)) : total (l.filter f) ≤ total l := by
  induction l with
  | nil => simp
  | cons x l ih => rw [List.filter_cons]; split <;> simp [total] <;> omega
theorem parts_total (l : List UInt8) : total (partsN l) ≤ l.length := by
  have h1 := total_filter good (pc [] l)
  have h2 := pc_total l []
  unfold partsN
  simp at h2
  omega
theorem parts_len (l : List UInt8) : (partsN l).length ≤ l.length + 1 := by
  have h1 := List.length_filter_le good (pc [] l)
  have h2 := pc_len l []
  unfold partsN
  omega
/-- No piece has a slash. -/
theorem pc_no (l : List UInt8) : ∀ cur, 47 ∉ cur → ∀ p ∈ pc cur l, 47 ∉ p := by
  induction l with
  | nil => intro cur h p hp; rw [pc, List.mem_singleton] at hp; rw [hp]; exact h
  | cons c l ih =>
    intro cur h p hp
    unfold pc at hp
    split at hp
    · rcases List.mem_cons.1 hp with hp | hp
      · rw [hp]; exact h
      · exact ih [] (by simp) p hp
    · rename_i hc
      exact ih (cur ++ [c]) (by simp [h]; exact fun e => hc e.symm) p hp
theorem parts_no {l p : List UInt8} (h : p ∈ partsN l) : 47 ∉ p ∧ p ≠ [] ∧ p ≠ [46] := by
  unfold partsN at h
  rw [List.mem_filter] at h
  refine ⟨pc_no l [] (by simp) p h.1, ?_, ?_⟩
  · rintro rfl; exact absurd h.2 (by decide)
  · rintro rfl; exact absurd h.2 (by decide)
/-- The last piece: what stands behind the last slash. -/
def lastP (l : List UInt8) : List UInt8 := (pc [] l).getLastD []
def afterLast (l : List UInt8) : List UInt8 := (l.reverse.takeWhile (· ≠ 47)).reverse
theorem tw_iff {α : Type} {p : α → Bool} {l : List α} : l.takeWhile p = l ↔ ∀ x ∈ l, p x = true := by
  induction l with
  | nil => simp
  | cons a l ih =>
    rw [List.takeWhile_cons]
    by_cases h : p a = true
    · rw [if_pos h]; simp [h, ih]
    · rw [if_neg h]; simp [h]
theorem getLastD_cons_ne {α : Type} (a d : α) (l : List α) (h : l ≠ []) : (a :: l).getLastD d = l.getLastD d := by
  cases l with
  | nil => exact absurd rfl h
  | cons b l => rfl
theorem last_pc (l : List UInt8) : ∀ cur, (pc cur l).getLastD [] = if 47 ∈ l then afterLast l else cur ++ l := by
  induction l with
  | nil => intro cur; simp [pc]
  | cons c l ih =>
    intro cur
    unfold pc
    by_cases hc : c = 47
    · rw [if_pos hc, getLastD_cons_ne _ _ _ (pc_ne _ _), ih []]
      rw [if_pos (show 47 ∈ c :: l by rw [hc]; exact List.mem_cons_self ..)]
      unfold afterLast
      by_cases hl : 47 ∈ l
      · rw [if_pos hl, List.reverse_cons, List.takeWhile_append]
        rw [if_neg]
        intro h
        have h2 := List.takeWhile_prefix (p := fun x : UInt8 => decide (x ≠ 47)) (l := l.reverse)
        have h3 : List.takeWhile (fun x : UInt8 => decide (x ≠ 47)) l.reverse = l.reverse := h2.eq_of_length h
        have h4 := tw_iff.1 h3 47 (List.mem_reverse.2 hl)
        simp at h4
      · rw [if_neg hl, List.reverse_cons, List.takeWhile_append, if_pos]
        · rw [hc]
          have : List.takeWhile (fun x : UInt8 => decide (x ≠ 47)) [47] = [] := by decide
          rw [this, List.append_nil, List.reverse_reverse]
          rfl
        · congr 1
          rw [tw_iff]
          intro x hx
          have : x ≠ 47 := by rintro rfl; exact hl (List.mem_reverse.1 hx)
          simpa using this
    · rw [if_neg hc, ih (cur ++ [c])]
      by_cases hl : 47 ∈ l
      · rw [if_pos hl, if_pos (List.mem_cons_of_mem _ hl)]
        unfold afterLast
        rw [List.reverse_cons, List.takeWhile_append, if_neg]
        intro h
        have h2 := List.takeWhile_prefix (p := fun x : UInt8 => decide (x ≠ 47)) (l := l.reverse)
        have h3 : List.takeWhile (fun x : UInt8 => decide (x ≠ 47)) l.reverse = l.reverse := h2.eq_of_length h
        have h4 := tw_iff.1 h3 47 (List.mem_reverse.2 hl)
        simp at h4
      · have : ¬ 47 ∈ c :: l := by
          intro h
          rcases List.mem_cons.1 h with h | h
          · exact hc h.symm
          · exact hl h
        rw [if_neg hl, if_neg this]
        simp
theorem lastP_eq (l : List UInt8) : lastP l = afterLast l := by
  unfold lastP
  rw [last_pc]
  split
  · rfl
  · rename_i h
    unfold afterLast
    have : l.reverse.takeWhile (fun x : UInt8 => decide (x ≠ 47)) = l.reverse := by
      rw [tw_iff]
      intro x hx
      have : x ≠ 47 := by rintro rfl; exact h (List.mem_reverse.1 hx)
      simpa using this
    rw [this, List.reverse_reverse]; rfl
/-- The rest from a place on, with the piece that has begun there. -/
def restP (l : List UInt8) (fr k : Nat) : List (List UInt8) := if k ≤ l.length then pc ((l.drop fr).take (k - fr)) (l.drop k) else []
theorem restP_start (l : List UInt8) : restP l 0 0 = pc [] l := by simp [restP]
theorem take_more {l : List UInt8} {fr k : Nat} (h : fr ≤ k) (hk : k < l.length) : (l.drop fr).take (k + 1 - fr) = (l.drop fr).take (k - fr) ++ [l[k]] := by
  rw [show k + 1 - fr = (k - fr) + 1 by omega, List.take_succ_eq_append_getElem (by rw [List.length_drop]; omega)]
  congr 2
  rw [List.getElem_drop]
  congr 1
  omega
theorem restP_go {l : List UInt8} {fr k : Nat} (h : fr ≤ k) (hk : k < l.length) (hc : l[k] ≠ 47) : restP l fr (k + 1) = restP l fr k := by
  unfold restP
  rw [if_pos (by omega), if_pos (by omega), take_more h hk, List.drop_eq_getElem_cons hk, pc, if_neg hc]
theorem restP_cut {l : List UInt8} {fr k : Nat} (hk : k < l.length) (hc : l[k] = 47) : restP l fr k = (l.drop fr).take (k - fr) :: restP l (k + 1) (k + 1) := by
  unfold restP
  rw [if_pos (by omega), if_pos (by omega), List.drop_eq_getElem_cons hk, pc, if_pos hc]
  simp
theorem restP_end {l : List UInt8} {fr : Nat} : restP l fr l.length = (l.drop fr).take (l.length - fr) :: restP l (l.length + 1) (l.length + 1) := by
  unfold restP
  rw [if_pos (Nat.le_refl _), if_neg (by omega), List.drop_length, pc]
def slashB (l : List UInt8) : Bool := lastP l == [] || lastP l == [46] || lastP l == [46, 46]
/-- Without slashes at the end. -/
def cutN (l : List UInt8) : List UInt8 := (l.reverse.dropWhile (· == 47)).reverse
def lastN (l : List UInt8) : List UInt8 := let t := lastP (cutN l); if t = [46] ∨ t = [46, 46] then [] else t
end Go.Proofs.YtmppjbimdonfmaaDoor
