/- Law 14: the chapter's example. -/
import Derived.Test.YtebghednhjaniaaBunF
import Derived.Test.YtebghednhjaniaaBunD
namespace Go.Proofs.Ytebghednhjaniaa
open Go.ChangeShapes Go.WideShapes Go.ChangeAt Go.RowKit

set_option maxRecDepth 100000 in
set_option maxHeartbeats 1000000 in
theorem pnew_no (b n : Int) (w : World) (hl : limitsF b n = false) : Calls Try.prog 89 #[.int .i64 b, .int .i64 n] w (Ret w (.tuple #[.pointer none, .int .i64 3])) := by
  go_enter Try.func89, Try.ntmps89
  go_wp2_with fail
  refine (tnew_any w.heap.size _ (Nat.le_refl _)).mono ?_
  rintro e w1 ⟨bT, bM, rfl, T1, b1, k1, k2⟩
  have hz := b1.size
  have lT := T1.2.2.1.lt
  go_wp2_with fail
  refine (padd_no w1.heap.size 0 b n _ hl).mono ?_
  rintro e w2 ⟨rfl, b2⟩
  go_wp2_with fail
  go_ret2
  exact Ret.mk rfl ((b1.alloc _).trans b2)
/-- A list of two items, as it lies in its own block. -/
theorem items_two {w : World} {b : Nat} {t : TypeId} (it jt : ItemD) (h : Has w b (.cells #[.int .i64 it.dir, .string (bs it.name), .int .i64 it.kind, .int .i64 it.mode, .int .i64 it.uid, .int .i64 it.gid, .string (bs it.data), .int .i64 it.n, .int .i64 jt.dir, .string (bs jt.name), .int .i64 jt.kind, .int .i64 jt.mode, .int .i64 jt.uid, .int .i64 jt.gid, .string (bs jt.data), .int .i64 jt.n] t)) : ItemsAt w (some ⟨b, 0, none⟩) [it, jt] := by
  refine .inr ⟨b, 0, rfl, h.lt, fun k hk => ?_⟩
  have : k = 0 ∨ k = 1 := by simp at hk; omega
  rcases this with rfl | rfl
  · exact ⟨h.cell 0, h.cell 1, h.cell 2, h.cell 3, h.cell 4, h.cell 5, h.cell 6, h.cell 7⟩
  · exact ⟨h.cell 8, h.cell 9, h.cell 10, h.cell 11, h.cell 12, h.cell 13, h.cell 14, h.cell 15⟩
def ex14A : ItemD := ⟨0, [100], 1, 0, 0, 0, [], 0⟩
def ex14B : ItemD := ⟨1, [], 4, 0, 0, 0, [], 5⟩
def ex14T : TreeD := growAll (firstT 9 9) [ex14A, ex14B]
theorem ex14_few : FewI [ex14A, ex14B] := by
  refine ⟨?_, by decide⟩
  intro x hx
  simp only [List.mem_cons, List.not_mem_nil, or_false] at hx
  rcases hx with rfl | rfl
  · exact ⟨by decide, by decide⟩
  · exact ⟨by decide, by decide⟩
theorem ex14_fit : Fit ex14T := (fit_grow (by decide) ex14_few).2
theorem ex14_where : whereF ex14T 3 = some [47, 100] := by kernel_rfl
theorem ex14_over : overF ex14T.devs 2 = 3 := by kernel_rfl
theorem ex14_above : aboveF ex14T 3 = 1 := by kernel_rfl
set_option maxRecDepth 100000 in
set_option maxHeartbeats 8000000 in
theorem awake14 (w : World) : Calls Try.prog 18 #[] w (Ret w (.bool true)) := by
  go_enter Try.func18, Try.ntmps18
  go_wp2_with fail
  have I1 := Has.new w (.cells #[.int .i64 ex14A.dir, .string (bs ex14A.name), .int .i64 ex14A.kind, .int .i64 ex14A.mode, .int .i64 ex14A.uid, .int .i64 ex14A.gid, .string (bs ex14A.data), .int .i64 ex14A.n, .int .i64 ex14B.dir, .string (bs ex14B.name), .int .i64 ex14B.kind, .int .i64 ex14B.mode, .int .i64 ex14B.uid, .int .i64 ex14B.gid, .string (bs ex14B.data), .int .i64 ex14B.n] 138)
  refine (growAll_any 9 9 (some ⟨w.heap.size, 0, none⟩) [ex14A, ex14B] 2 _ (by decide) ex14_few (items_two ex14A ex14B I1)).mono ?_
  rintro e w1 ⟨g, f, rfl, ⟨K1, F1⟩, E1⟩
  have X1 : Ext w w1 := ((Ext.refl _).alloc _).trans E1
  generalize (w.alloc (.cells #[.int .i64 ex14A.dir, .string (bs ex14A.name), .int .i64 ex14A.kind, .int .i64 ex14A.mode, .int .i64 ex14A.uid, .int .i64 ex14A.gid, .string (bs ex14A.data), .int .i64 ex14A.n, .int .i64 ex14B.dir, .string (bs ex14B.name), .int .i64 ex14B.kind, .int .i64 ex14B.mode, .int .i64 ex14B.uid, .int .i64 ex14B.gid, .string (bs ex14B.data), .int .i64 ex14B.n] 138)).heap.size = B at K1 F1
  have HT : Hid (Fit ex14T) := Lib.hid ex14_fit
  have hd := HT.out.good.devs
  have hd2 := HT.out.good.eight
  have hr := HT.out.good.roots
  have hu := HT.out.good.nos
  have hl := HT.out.len
  have K1' : WAt w1 B g ex14T := K1
  have F1' : FAt w1 B f ex14T x0 := F1
  have H1 := Lib.hid ex14_where
  have H2 := Lib.hid ex14_over
  have H3 := Lib.hid ex14_above
  generalize ex14T = T at HT hd hd2 hr hu hl K1' F1' H1 H2 H3
  clear E1 I1 K1 F1
  go_wp2_with fail
  refine (same14_any B B g f T x0 _ K1' F1' HT.out).mono ?_
  rintro e w2 ⟨rfl, b2⟩
  have X2 := X1.trans b2
  obtain ⟨r, R⟩ := HT.out.rank
  have HR := Lib.hid R
  clear R
  go_wp2_with fail
  refine (pwhere_any B g T r 3 _ (K1'.ext b2) hl hd hd2 hr hu HT.out.names HT.out.ents HR.out HT.out.top HT.out.one).mono ?_
  rw [H1.out]
  rintro e w3 ⟨he, b3⟩
  dsimp only at he
  rw [show bs [47, 100] = (⟨#[47, 100]⟩ : ByteArray) from rfl] at he
  subst he
  have X3 := b2.trans b3
  go_wp2_with fail
  refine (pnew_no 0 1 _ (by decide)).mono ?_
  rintro e w4 ⟨rfl, b4⟩
  have X4 := X3.trans b4
  go_wp2_with fail
  refine (pover_any B g T 2 _ (K1'.ext X4) hd (by omega)).mono ?_
  rintro e w5 ⟨rfl, b5⟩
  rw [H2.out]
  go_wp2_with fail
  refine (pabove_any B g T 3 _ (K1'.ext (X4.trans b5)) hd hd2 hr hu).mono ?_
  rintro e w6 ⟨rfl, b6⟩
  rw [H3.out]
  go_wp2_with fail
  go_ret
  exact Ret.mk rfl (X1.trans ((X4.trans b5).trans b6))
end Go.Proofs.Ytebghednhjaniaa
