/- Layer 10: Fine, Owns, Node, Free and the reference's Text; how a node reads as a value. -/
import Derived.Test.YtegiknfnhgjhfaaPermR
namespace Go.Proofs.Ytegiknfnhgjhfaa
open Go.ChangeShapes Go.WideShapes Go.ChangeAt Go.RowKit

def fineB (u g : Int) : Bool := decide (0 ≤ u) && (decide (u ≤ 2147483648) && (decide (0 ≤ g) && decide (g ≤ 2147483648)))
def ownsB (u o : Int) : Bool := u == 0 || u == o
def freeB (u dmode do_ no : Int) : Bool := !bitOn dmode 9 || (ownsB u do_ || ownsB u no)
set_option maxHeartbeats 400000 in
theorem pfine_any (u g : Int) (w : World) : Calls Try.prog 16 #[.agg #[.int .i64 u, .int .i64 g]] w (Ret w (.bool (fineB u g))) := by
  go_enter Try.func16, Try.ntmps16
  go_wp2_with fail
  all_goals
    go_ret
    exact Ret.mk (by simp [fineB, *] <;> omega) ((Ext.refl _).alloc _)
set_option maxHeartbeats 400000 in
theorem powns_any (u g : Int) (x0 x1 x2 x3 : Value) (o : Int) (x5 x6 x7 x8 x9 x10 x11 : Value) (w : World) :
    Calls Try.prog 20 #[.agg #[.int .i64 u, .int .i64 g], .agg #[x0, x1, x2, x3, .int .i64 o, x5, x6, x7, x8, x9, x10, x11]] w (Ret w (.bool (ownsB u o))) := by
  cases h : (u == 0) with
  | true =>
    have hf : Hid (ownsB u o = true) := by show _ = _; unfold ownsB; rw [h]; rfl
    go_enter Try.func20, Try.ntmps20
    go_wp2_with fail
    go_ret
    exact Ret.mk (by rw [hf.out]; rfl) (((Ext.refl _).alloc _).alloc _)
  | false =>
    have hf : Hid (ownsB u o = (u == o)) := by show _ = _; unfold ownsB; rw [h]; rfl
    go_enter Try.func20, Try.ntmps20
    go_wp2_with fail
    go_ret
    exact Ret.mk (by rw [hf.out]; rfl) (((Ext.refl _).alloc _).alloc _)
set_option maxHeartbeats 400000 in
theorem pnode_any (u g : Int) (x0 x1 x2 : Value) (mode o gr : Int) (x6 x7 x8 x9 x10 x11 : Value) (want : Int) (w : World) :
    Calls Try.prog 15 #[.agg #[.int .i64 u, .int .i64 g], .agg #[x0, x1, x2, .int .i64 mode, .int .i64 o, .int .i64 gr, x6, x7, x8, x9, x10, x11], .int .i64 want] w (Ret w (.bool (mayB u g o gr mode want))) := by
  go_enter Try.func15, Try.ntmps15
  go_wp2_with fail
  refine (may_any _ _ _ _ _ _ _).mono ?_
  rintro e w1 ⟨rfl, b1⟩
  go_wp2_with fail
  go_ret
  exact Ret.mk rfl ((((Ext.refl _).alloc _).alloc _).trans b1)
set_option maxHeartbeats 1000000 in
set_option maxRecDepth 100000 in
theorem pfree_any (u g : Int) (x0 x1 x2 : Value) (dm do_ : Int) (x5 x6 x7 x8 x9 x10 x11 y0 y1 y2 y3 : Value) (no : Int) (y5 y6 y7 y8 y9 y10 y11 : Value) (w : World) :
    Calls Try.prog 22 #[.agg #[.int .i64 u, .int .i64 g], .agg #[x0, x1, x2, .int .i64 dm, .int .i64 do_, x5, x6, x7, x8, x9, x10, x11], .agg #[y0, y1, y2, y3, .int .i64 no, y5, y6, y7, y8, y9, y10, y11]] w (Ret w (.bool (freeB u dm do_ no))) := by
  have A0 : Has (((w.alloc (.cells #[.int .i64 u, .int .i64 g] 27)).alloc (.cells #[x0, x1, x2, .int .i64 dm, .int .i64 do_, x5, x6, x7, x8, x9, x10, x11] 30)).alloc (.cells #[y0, y1, y2, y3, .int .i64 no, y5, y6, y7, y8, y9, y10, y11] 30)) w.heap.size (.cells #[.int .i64 u, .int .i64 g] 27) := ((Has.new _ _).alloc _).alloc _
  have B0 : Has (((w.alloc (.cells #[.int .i64 u, .int .i64 g] 27)).alloc (.cells #[x0, x1, x2, .int .i64 dm, .int .i64 do_, x5, x6, x7, x8, x9, x10, x11] 30)).alloc (.cells #[y0, y1, y2, y3, .int .i64 no, y5, y6, y7, y8, y9, y10, y11] 30)) (w.heap.size + 1) (.cells #[x0, x1, x2, .int .i64 dm, .int .i64 do_, x5, x6, x7, x8, x9, x10, x11] 30) := by
    have := (Has.new (w.alloc (.cells #[.int .i64 u, .int .i64 g] 27)) (.cells #[x0, x1, x2, .int .i64 dm, .int .i64 do_, x5, x6, x7, x8, x9, x10, x11] 30)).alloc (.cells #[y0, y1, y2, y3, .int .i64 no, y5, y6, y7, y8, y9, y10, y11] 30)
    rwa [World.size_alloc] at this
  have C0 : Has (((w.alloc (.cells #[.int .i64 u, .int .i64 g] 27)).alloc (.cells #[x0, x1, x2, .int .i64 dm, .int .i64 do_, x5, x6, x7, x8, x9, x10, x11] 30)).alloc (.cells #[y0, y1, y2, y3, .int .i64 no, y5, y6, y7, y8, y9, y10, y11] 30)) (w.heap.size + 2) (.cells #[y0, y1, y2, y3, .int .i64 no, y5, y6, y7, y8, y9, y10, y11] 30) := by
    have := Has.new ((w.alloc (.cells #[.int .i64 u, .int .i64 g] 27)).alloc (.cells #[x0, x1, x2, .int .i64 dm, .int .i64 do_, x5, x6, x7, x8, x9, x10, x11] 30)) (.cells #[y0, y1, y2, y3, .int .i64 no, y5, y6, y7, y8, y9, y10, y11] 30)
    rwa [World.size_alloc, World.size_alloc] at this
  cases hb : bitOn dm 9 with
  | false =>
    have hf : Hid (freeB u dm do_ no = true) := by show _ = _; unfold freeB; rw [hb]; rfl
    have h5 : (bits BinOp.and IntKind.i64 dm 512 == 0) = true := by have := sticky_and dm; rw [hb] at this; simpa [bne] using this
    clear hb A0 B0 C0
    go_enter Try.func22, Try.ntmps22
    go_wp2_with fail
    go_ret
    exact Ret.mk (by rw [hf.out]; rfl) ((((Ext.refl _).alloc _).alloc _).alloc _)
  | true =>
    have h5 : (bits BinOp.and IntKind.i64 dm 512 == 0) = false := by have := sticky_and dm; rw [hb] at this; simpa [bne] using this
    have hf : Hid (freeB u dm do_ no = (ownsB u do_ || ownsB u no)) := by show _ = _; unfold freeB; rw [hb]; rfl
    clear hb
    go_enter Try.func22, Try.ntmps22
    go_wp2_with fail
    refine (powns_any _ _ _ _ _ _ _ _ _ _ _ _ _ _ _).mono ?_
    rintro e w1 ⟨rfl, b1⟩
    cases ho : ownsB u do_ with
    | true =>
      have hf' : Hid (freeB u dm do_ no = true) := by show _ = _; rw [hf.out, ho]; rfl
      clear ho
      go_wp2_with fail
      go_ret
      exact Ret.mk (by rw [hf'.out]; rfl) (((((Ext.refl _).alloc _).alloc _).alloc _).trans b1)
    | false =>
      have hf' : Hid (freeB u dm do_ no = ownsB u no) := by show _ = _; rw [hf.out, ho]; rfl
      clear ho
      have hcA : ∀ i, w1.cell? ⟨w.heap.size, i, none⟩ = _ := fun i => (A0.ext b1).cell i
      have hcC : ∀ i, w1.cell? ⟨w.heap.size + 2, i, none⟩ = _ := fun i => (C0.ext b1).cell i
      go_wp2_with fail
      refine (powns_any _ _ _ _ _ _ _ _ _ _ _ _ _ _ _).mono ?_
      rintro e w2 ⟨rfl, b2⟩
      go_wp2_with fail
      go_ret
      exact Ret.mk (by rw [hf'.out]; rfl) ((((((Ext.refl _).alloc _).alloc _).alloc _).trans b1).trans b2)
set_option maxHeartbeats 400000 in
theorem rfine_any (u g : Int) (w : World) : Calls Try.prog 17 #[.agg #[.int .i64 u, .int .i64 g]] w (Ret w (.bool (fineB u g))) := by
  go_enter Try.func17, Try.ntmps17
  go_wp2_with fail
  all_goals
    go_ret
    exact Ret.mk (by simp [fineB, *] <;> omega) ((Ext.refl _).alloc _)
set_option maxHeartbeats 400000 in
theorem rowns_any (u g : Int) (x0 x1 x2 x3 : Value) (o : Int) (x5 x6 x7 x8 x9 x10 x11 : Value) (w : World) :
    Calls Try.prog 21 #[.agg #[.int .i64 u, .int .i64 g], .agg #[x0, x1, x2, x3, .int .i64 o, x5, x6, x7, x8, x9, x10, x11]] w (Ret w (.bool (ownsB u o))) := by
  cases h : (u == 0) with
  | true =>
    have hf : Hid (ownsB u o = true) := by show _ = _; unfold ownsB; rw [h]; rfl
    go_enter Try.func21, Try.ntmps21
    go_wp2_with fail
    go_ret
    exact Ret.mk (by rw [hf.out]; rfl) (((Ext.refl _).alloc _).alloc _)
  | false =>
    have hf : Hid (ownsB u o = (u == o)) := by show _ = _; unfold ownsB; rw [h]; rfl
    go_enter Try.func21, Try.ntmps21
    go_wp2_with fail
    go_ret
    exact Ret.mk (by rw [hf.out]; rfl) (((Ext.refl _).alloc _).alloc _)
set_option maxHeartbeats 400000 in
theorem rnode_any (u g : Int) (x0 x1 x2 : Value) (mode o gr : Int) (x6 x7 x8 x9 x10 x11 : Value) (want : Int) (w : World) :
    Calls Try.prog 18 #[.agg #[.int .i64 u, .int .i64 g], .agg #[x0, x1, x2, .int .i64 mode, .int .i64 o, .int .i64 gr, x6, x7, x8, x9, x10, x11], .int .i64 want] w (Ret w (.bool (mayB u g o gr mode want))) := by
  go_enter Try.func18, Try.ntmps18
  go_wp2_with fail
  refine (rmay_any _ _ _ _ _ _ _).mono ?_
  rintro e w1 ⟨rfl, b1⟩
  go_wp2_with fail
  go_ret
  exact Ret.mk rfl ((((Ext.refl _).alloc _).alloc _).trans b1)
set_option maxHeartbeats 1000000 in
set_option maxRecDepth 100000 in
theorem rfree_any (u g : Int) (x0 x1 x2 : Value) (dm do_ : Int) (x5 x6 x7 x8 x9 x10 x11 y0 y1 y2 y3 : Value) (no : Int) (y5 y6 y7 y8 y9 y10 y11 : Value) (w : World) :
    Calls Try.prog 23 #[.agg #[.int .i64 u, .int .i64 g], .agg #[x0, x1, x2, .int .i64 dm, .int .i64 do_, x5, x6, x7, x8, x9, x10, x11], .agg #[y0, y1, y2, y3, .int .i64 no, y5, y6, y7, y8, y9, y10, y11]] w (Ret w (.bool (freeB u dm do_ no))) := by
  have A0 : Has (((w.alloc (.cells #[.int .i64 u, .int .i64 g] 27)).alloc (.cells #[x0, x1, x2, .int .i64 dm, .int .i64 do_, x5, x6, x7, x8, x9, x10, x11] 30)).alloc (.cells #[y0, y1, y2, y3, .int .i64 no, y5, y6, y7, y8, y9, y10, y11] 30)) w.heap.size (.cells #[.int .i64 u, .int .i64 g] 27) := ((Has.new _ _).alloc _).alloc _
  have B0 : Has (((w.alloc (.cells #[.int .i64 u, .int .i64 g] 27)).alloc (.cells #[x0, x1, x2, .int .i64 dm, .int .i64 do_, x5, x6, x7, x8, x9, x10, x11] 30)).alloc (.cells #[y0, y1, y2, y3, .int .i64 no, y5, y6, y7, y8, y9, y10, y11] 30)) (w.heap.size + 1) (.cells #[x0, x1, x2, .int .i64 dm, .int .i64 do_, x5, x6, x7, x8, x9, x10, x11] 30) := by
    have := (Has.new (w.alloc (.cells #[.int .i64 u, .int .i64 g] 27)) (.cells #[x0, x1, x2, .int .i64 dm, .int .i64 do_, x5, x6, x7, x8, x9, x10, x11] 30)).alloc (.cells #[y0, y1, y2, y3, .int .i64 no, y5, y6, y7, y8, y9, y10, y11] 30)
    rwa [World.size_alloc] at this
  have C0 : Has (((w.alloc (.cells #[.int .i64 u, .int .i64 g] 27)).alloc (.cells #[x0, x1, x2, .int .i64 dm, .int .i64 do_, x5, x6, x7, x8, x9, x10, x11] 30)).alloc (.cells #[y0, y1, y2, y3, .int .i64 no, y5, y6, y7, y8, y9, y10, y11] 30)) (w.heap.size + 2) (.cells #[y0, y1, y2, y3, .int .i64 no, y5, y6, y7, y8, y9, y10, y11] 30) := by
    have := Has.new ((w.alloc (.cells #[.int .i64 u, .int .i64 g] 27)).alloc (.cells #[x0, x1, x2, .int .i64 dm, .int .i64 do_, x5, x6, x7, x8, x9, x10, x11] 30)) (.cells #[y0, y1, y2, y3, .int .i64 no, y5, y6, y7, y8, y9, y10, y11] 30)
    rwa [World.size_alloc, World.size_alloc] at this
  go_enter Try.func23, Try.ntmps23
  go_wp2_with fail
  refine (rbit_any _ _ _ (by omega) (by omega)).mono ?_
  rintro e w0 ⟨rfl, b0⟩
  have hA := A0.ext b0
  have hB := B0.ext b0
  have hC := C0.ext b0
  clear A0 B0 C0
  have A0 := hA
  have B0 := hB
  have C0 := hC
  clear hA hB hC
  rw [show (9 : Int).toNat = 9 from rfl]
  cases hb : bitOn dm 9 with
  | false =>
    have hf : Hid (freeB u dm do_ no = true) := by show _ = _; unfold freeB; rw [hb]; rfl
    clear hb
    go_wp2_with fail
    go_ret
    exact Ret.mk (by rw [hf.out]; rfl) (((((Ext.refl _).alloc _).alloc _).alloc _).trans b0)
  | true =>
    have hf : Hid (freeB u dm do_ no = (ownsB u do_ || ownsB u no)) := by show _ = _; unfold freeB; rw [hb]; rfl
    clear hb
    have hcA : ∀ i, w0.cell? ⟨w.heap.size, i, none⟩ = _ := fun i => A0.cell i
    have hcB : ∀ i, w0.cell? ⟨w.heap.size + 1, i, none⟩ = _ := fun i => B0.cell i
    go_wp2_with fail
    clear hcA hcB
    refine (rowns_any _ _ _ _ _ _ _ _ _ _ _ _ _ _ _).mono ?_
    rintro e w1 ⟨rfl, b1⟩
    cases ho : ownsB u do_ with
    | true =>
      have hf' : Hid (freeB u dm do_ no = true) := by show _ = _; rw [hf.out, ho]; rfl
      clear ho
      go_wp2_with fail
      go_ret
      exact Ret.mk (by rw [hf'.out]; rfl) ((((((Ext.refl _).alloc _).alloc _).alloc _).trans b0).trans b1)
    | false =>
      have hf' : Hid (freeB u dm do_ no = ownsB u no) := by show _ = _; rw [hf.out, ho]; rfl
      clear ho
      have hcA : ∀ i, w1.cell? ⟨w.heap.size, i, none⟩ = _ := fun i => (A0.ext b1).cell i
      have hcC : ∀ i, w1.cell? ⟨w.heap.size + 2, i, none⟩ = _ := fun i => (C0.ext b1).cell i
      go_wp2_with fail
      refine (rowns_any _ _ _ _ _ _ _ _ _ _ _ _ _ _ _).mono ?_
      rintro e w2 ⟨rfl, b2⟩
      go_wp2_with fail
      go_ret
      exact Ret.mk (by rw [hf'.out]; rfl) (((((((Ext.refl _).alloc _).alloc _).alloc _).trans b0).trans b1).trans b2)
end Go.Proofs.Ytegiknfnhgjhfaa
