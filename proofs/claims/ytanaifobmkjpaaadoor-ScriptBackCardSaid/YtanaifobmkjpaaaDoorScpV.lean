/- Layer 48 (script): the program's Step of no words. -/
import Derived.Test.YtanaifobmkjpaaaDoorScpS
namespace Go.Proofs.YtanaifobmkjpaaaDoor
open Go.ChangeShapes Go.WideShapes Go.ChangeAt Go.RowKit

set_option maxRecDepth 100000 in
set_option maxHeartbeats 8000000 in
theorem pstep_none (line : Txt) (w : World) (hlen : line.length ≤ 100000) (h : wordsN line = none ∨ wordsN line = some []) : Calls Tryd.prog 17 #[.string (bs line)] w (StR w (stepN line)) := by
  have E0 : Ext w (w.alloc (.cells ZS 30)) := (Ext.refl _).alloc _
  have H0 : Has (w.alloc (.cells ZS 30)) w.heap.size (.cells ZS 30) := Has.new _ _
  rcases h with h | h
  · have HF := Lib.hid (step_none h)
    have HW := Lib.hid h
    clear h
    go_enter Tryd.func17, Tryd.ntmps17
    go_wp2_with fail
    refine (pwords_any line _ hlen).mono ?_
    rintro e w1 (⟨_, rfl, hE1⟩ | ⟨L1, v1, h1, _⟩)
    rotate_left
    · rw [HW.out] at h1; cases h1
    have H1 := H0.ext hE1
    have E1 := E0.trans hE1
    obtain ⟨z0, z1, z2⟩ : (∀ i, w1.cell? ⟨w.heap.size, i, none⟩ = ZS[i]?) ∧ (∀ i, w1.frozen? ⟨w.heap.size, i, none⟩ = false) ∧ w.heap.size < w1.heap.size := ⟨fun i => H1.cell i, fun i => (Has.free H1 i).trans (by simp), Has.lt H1⟩
    have y0 : w1.cell? ⟨w.heap.size, 0, none⟩ = some (.int .i64 0) := z0 0
    have y1 : w1.cell? ⟨w.heap.size, 1, none⟩ = some (.slice none 0 0) := z0 1
    have y2 : w1.cell? ⟨w.heap.size, 2, none⟩ = some (.int .i64 0) := z0 2
    have y3 : w1.cell? ⟨w.heap.size, 3, none⟩ = some (.int .i64 0) := z0 3
    clear z0
    go_wp2_with fail
    refine bodyPost_ret (resS _ rfl _ _ w.heap.size ZS (.int .i64 2) rfl rfl (Has.put4 H1 _ _ _ _) (step_size _ _ _ _)) rfl ?_
    exact StR.bad HF rfl (E1.put4 (Nat.le_refl _) _ _ _ _)
  · have HF : Hid (stepN line = none) := step_some h
    have HW := Lib.hid h
    clear h
    go_enter Tryd.func17, Tryd.ntmps17
    go_wp2_with fail
    refine (pwords_any line _ hlen).mono ?_
    rintro e w1 (⟨h1, _⟩ | ⟨L1, v1, h1, rfl, hO1, hE1⟩)
    · rw [HW.out] at h1; cases h1
    rw [HW.out] at h1
    obtain rfl : [] = L1 := Option.some.inj h1
    obtain ⟨A1, k1, rfl, _, _, t1, _⟩ := hO1.at_
    clear hO1 t1 h1
    have H1 := H0.ext hE1
    have E1 := E0.trans hE1
    obtain ⟨z0, z1, z2⟩ : (∀ i, w1.cell? ⟨w.heap.size, i, none⟩ = ZS[i]?) ∧ (∀ i, w1.frozen? ⟨w.heap.size, i, none⟩ = false) ∧ w.heap.size < w1.heap.size := ⟨fun i => H1.cell i, fun i => (Has.free H1 i).trans (by simp), Has.lt H1⟩
    have y0 : w1.cell? ⟨w.heap.size, 0, none⟩ = some (.int .i64 0) := z0 0
    have y1 : w1.cell? ⟨w.heap.size, 1, none⟩ = some (.slice none 0 0) := z0 1
    have y2 : w1.cell? ⟨w.heap.size, 2, none⟩ = some (.int .i64 0) := z0 2
    have y3 : w1.cell? ⟨w.heap.size, 3, none⟩ = some (.int .i64 0) := z0 3
    clear z0
    go_wp2_with fail
    refine bodyPost_ret (resS _ rfl _ _ w.heap.size ZS (.int .i64 2) rfl rfl (Has.put4 H1 _ _ _ _) (step_size _ _ _ _)) rfl ?_
    exact StR.bad HF rfl (E1.put4 (Nat.le_refl _) _ _ _ _)
theorem stepW_run (l : List Txt) : stepW (wRun :: l) = chkS ⟨1, l, 0, 0⟩ := by rw [stepW_cons, if_pos rfl]
theorem stepW_mend (l : List Txt) : stepW (wMend :: l) = if l = [] then some ⟨5, [], 0, 0⟩ else none := by rw [stepW_cons, if_neg (by decide), if_pos rfl]
theorem stepW_tick (l : List Txt) : stepW (wTick :: l) = oneS 2 l := by rw [stepW_cons, if_neg (by decide), if_neg (by decide), if_pos rfl]
theorem stepW_as (l : List Txt) : stepW (wAs :: l) = oneS 3 l := by rw [stepW_cons, if_neg (by decide), if_neg (by decide), if_neg (by decide), if_pos rfl]
theorem stepW_fail (l : List Txt) : stepW (wFail :: l) = twoS l := by rw [stepW_cons, if_neg (by decide), if_neg (by decide), if_neg (by decide), if_neg (by decide), if_pos rfl]
theorem stepW_other {w : Txt} (l : List Txt) (h1 : w ≠ wRun) (h2 : w ≠ wMend) (h3 : w ≠ wTick) (h4 : w ≠ wAs) (h5 : w ≠ wFail) : stepW (w :: l) = none := by rw [stepW_cons, if_neg h1, if_neg h2, if_neg h3, if_neg h4, if_neg h5]
theorem six_words (x : Txt) : x = wRun ∨ x = wMend ∨ x = wTick ∨ x = wAs ∨ x = wFail ∨ (x ≠ wRun ∧ x ≠ wMend ∧ x ≠ wTick ∧ x ≠ wAs ∧ x ≠ wFail) := by
  by_cases h1 : x = wRun
  · exact .inl h1
  by_cases h2 : x = wMend
  · exact .inr (.inl h2)
  by_cases h3 : x = wTick
  · exact .inr (.inr (.inl h3))
  by_cases h4 : x = wAs
  · exact .inr (.inr (.inr (.inl h4)))
  by_cases h5 : x = wFail
  · exact .inr (.inr (.inr (.inr (.inl h5))))
  exact .inr (.inr (.inr (.inr (.inr ⟨h1, h2, h3, h4, h5⟩))))
theorem txt_no {a b : Txt} (h : a ≠ b) : (a == b) = false := beq_eq_false_iff_ne.2 h
end Go.Proofs.YtanaifobmkjpaaaDoor
