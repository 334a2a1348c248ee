/- Law 14: the chapter's example. -/
import Derived.Test.YtebghednhjaniaaGreatBunF
import Derived.Test.YtebghednhjaniaaGreatBunD
namespace Go.Proofs.YtebghednhjaniaaGreat
open Go.ChangeShapes Go.WideShapes Go.ChangeAt Go.RowKit

set_option maxRecDepth 100000 in
set_option maxHeartbeats 1000000 in
theorem pnew_no (b n : Int) (w : World) (hl : limitsF b n = false) : Calls Tryz.prog 34 #[.int .i64 b, .int .i64 n] w (Ret w (.tuple #[.pointer none, .int .i64 3])) := by
  go_enter Tryz.func34, Tryz.ntmps34
  go_wp2_with fail
  refine (tnew_any w.heap.size _ (Nat.le_refl _)).mono ?_
  rintro e w1 ⟨bT, bM, rfl, T1, b1, k1, k2⟩
  have hz := b1.size
  have lT := T1.2.2.1.lt
  go_wp2_with fail
  refine (padd_no w1.heap.size 0 b n _ hl).mono ?_
  rintro e w2 ⟨rfl, b2⟩
  go_wp2_with fail
  go_ret2
  exact Ret.mk rfl ((b1.alloc _).trans b2)
/-- A list of two items, as it lies in its own block. -/
theorem items_two {w : World} {b : Nat} {t : TypeId} (it jt : ItemD) (h : Has w b (.cells #[.int .i64 it.dir, .string (bs it.name), .int .i64 it.kind, .int .i64 it.mode, .int .i64 it.uid, .int .i64 it.gid, .string (bs it.data), .int .i64 it.n, .int .i64 jt.dir, .string (bs jt.name), .int .i64 jt.kind, .int .i64 jt.mode, .int .i64 jt.uid, .int .i64 jt.gid, .string (bs jt.data), .int .i64 jt.n] t)) : ItemsAt w (some ⟨b, 0, none⟩) [it, jt] := by
  refine .inr ⟨b, 0, rfl, h.lt, fun k hk => ?_⟩
  have : k = 0 ∨ k = 1 := by simp at hk; omega
  rcases this with rfl | rfl
  · exact ⟨h.cell 0, h.cell 1, h.cell 2, h.cell 3, h.cell 4, h.cell 5, h.cell 6, h.cell 7⟩
  · exact ⟨h.cell 8, h.cell 9, h.cell 10, h.cell 11, h.cell 12, h.cell 13, h.cell 14, h.cell 15⟩
def ex14A : ItemD := ⟨0, [100], 1, 0, 0, 0, [], 0⟩
def ex14B : ItemD := ⟨1, [], 4, 0, 0, 0, [], 5⟩
def ex14T : TreeD := growAll (firstT 9 9) [ex14A, ex14B]
theorem ex14_few : FewI [ex14A, ex14B] := by
  refine ⟨?_, by decide⟩
  intro x hx
  simp only [List.mem_cons, List.not_mem_nil, or_false] at hx
  rcases hx with rfl | rfl
  · exact ⟨by decide, by decide⟩
  · exact ⟨by decide, by decide⟩
theorem ex14_fit : Fit ex14T := (fit_grow (by decide) ex14_few).2
theorem ex14_where : whereF ex14T 3 = some [47, 100] := by kernel_rfl
theorem ex14_over : overF ex14T.devs 2 = 3 := by kernel_rfl
theorem ex14_above : aboveF ex14T 3 = 1 := by kernel_rfl
end Go.Proofs.YtebghednhjaniaaGreat
