/- Layer 46 (args), plain: how many words a line has, and how long they are. -/
import Derived.Test.YtmppjbimdonfmaaDoorArgP
namespace Go.Proofs.YtmppjbimdonfmaaDoor

theorem wN_len (l : List UInt8) (out : List (List UInt8)) (cur : List UInt8) (st : Nat) : ∀ M, wN l out cur st = some M → M.length ≤ out.length + l.length + 1 := by
  fun_induction wN l out cur st
  all_goals intro M h
  all_goals first
    | (cases h; done)
    | (injection h with h; subst h; simp; done)
    | (injection h with h; subst h; simp; omega)
    | (rename_i ih; have := ih M h; simp at this ⊢; omega)
theorem words_len {l : List UInt8} {M : List (List UInt8)} (h : wordsN l = some M) : M.length ≤ l.length + 1 := by
  have := wN_len l [] [] 0 M h; simpa using this
/-- Each word is one that was there, or no longer than what was read. -/
theorem wN_mem (m : Nat) (l : List UInt8) (out : List (List UInt8)) (cur : List UInt8) (st : Nat) : (∀ x ∈ out, x.length ≤ m) → cur.length + l.length ≤ m → ∀ M, wN l out cur st = some M → ∀ x ∈ M, x.length ≤ m := by
  fun_induction wN l out cur st
  all_goals intro ho hc M h
  all_goals first
    | (cases h; done)
    | (injection h with h; subst h; first | exact ho | (simp only [List.forall_mem_append, List.forall_mem_singleton]; refine ⟨ho, ?_⟩; simp at hc ⊢; omega))
    | (rename_i ih; exact ih (by first | exact ho | (simp only [List.forall_mem_append, List.forall_mem_singleton]; refine ⟨ho, ?_⟩; simp at hc ⊢; omega)) (by simp at hc ⊢; omega) M h)
theorem words_mem {l : List UInt8} {M : List (List UInt8)} (h : wordsN l = some M) : ∀ x ∈ M, x.length ≤ l.length :=
  wN_mem l.length l [] [] 0 (fun x hx => by cases hx) (by simp) M h
theorem words_few {l : List UInt8} {M : List (List UInt8)} (h : wordsN l = some M) (hl : l.length ≤ 100000) : M.length ≤ 1000000 := by have := words_len h; omega
end Go.Proofs.YtmppjbimdonfmaaDoor
