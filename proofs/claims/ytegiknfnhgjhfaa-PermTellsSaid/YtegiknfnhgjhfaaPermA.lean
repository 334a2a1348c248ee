/- Layer 10 (perm): May, Node, Owns, Free, Fine, and the chapter's examples. -/
import Derived.Test.YtegiknfnhgjhfaaPermW
namespace Go.Proofs.Ytegiknfnhgjhfaa
open Go.ChangeShapes Go.WideShapes Go.ChangeAt Go.RowKit

/-- All wanted bits of three are there. -/
def has (m want : Int) : Bool := bits .and .i64 (bits .and .i64 m want) 7 == bits .and .i64 want 7
def part (u g uid gid mode : Int) : Int := if u = uid then mode / 64 else if g = gid then mode / 8 else mode
def mayB (u g uid gid mode want : Int) : Bool := if u = 0 then true else has (part u g uid gid mode) want
theorem mayB_0 (g uid gid mode want : Int) {u : Int} (h : u = 0) : mayB u g uid gid mode want = true := by unfold mayB; rw [if_pos h]
theorem mayB_1 (g gid mode want : Int) {u uid : Int} (h : ¬ u = 0) (h1 : u = uid) : mayB u g uid gid mode want = has (mode / 64) want := by unfold mayB part; rw [if_neg h, if_pos h1]
theorem mayB_2 (mode want : Int) {u g uid gid : Int} (h : ¬ u = 0) (h1 : ¬ u = uid) (h2 : g = gid) : mayB u g uid gid mode want = has (mode / 8) want := by unfold mayB part; rw [if_neg h, if_neg h1, if_pos h2]
theorem mayB_3 (mode want : Int) {u g uid gid : Int} (h : ¬ u = 0) (h1 : ¬ u = uid) (h2 : ¬ g = gid) : mayB u g uid gid mode want = has mode want := by unfold mayB part; rw [if_neg h, if_neg h1, if_neg h2]

set_option maxHeartbeats 400000 in
theorem may_any (u g uid gid mode want : Int) (w : World) :
    Calls Try.prog 19 #[.agg #[.int .i64 u, .int .i64 g], .int .i64 uid, .int .i64 gid, .int .i64 mode, .int .i64 want] w (Ret w (.bool (mayB u g uid gid mode want))) := by
  by_cases h0 : u = 0
  · have hfin := Lib.hid (mayB_0 g uid gid mode want h0)
    have b0 : (u == 0) = true := beq_iff_eq.2 h0
    clear h0
    go_enter Try.func19, Try.ntmps19
    go_wp2_with fail
    go_ret
    exact Ret.mk (by rw [hfin.out]; rfl) ((Ext.refl _).alloc _)
  · have b0 : (u == 0) = false := beq_eq_false_iff_ne.2 h0
    by_cases h1 : u = uid
    · have hfin := Lib.hid (mayB_1 g gid mode want h0 h1)
      have b1 : (u == uid) = true := beq_iff_eq.2 h1
      clear h0 h1
      go_enter Try.func19, Try.ntmps19
      go_wp2_with fail
      go_ret
      exact Ret.mk (by rw [hfin.out]; rfl) ((Ext.refl _).alloc _)
    · have b1 : (u == uid) = false := beq_eq_false_iff_ne.2 h1
      by_cases h2 : g = gid
      · have hfin := Lib.hid (mayB_2 mode want h0 h1 h2)
        have b2 : (g == gid) = true := beq_iff_eq.2 h2
        clear h0 h1 h2
        go_enter Try.func19, Try.ntmps19
        go_wp2_with fail
        go_ret
        exact Ret.mk (by rw [hfin.out]; rfl) ((Ext.refl _).alloc _)
      · have hfin := Lib.hid (mayB_3 mode want h0 h1 h2)
        have b2 : (g == gid) = false := beq_eq_false_iff_ne.2 h2
        clear h0 h1 h2
        go_enter Try.func19, Try.ntmps19
        go_wp2_with fail
        go_ret
        exact Ret.mk (by rw [hfin.out]; rfl) ((Ext.refl _).alloc _)

/-! ### The chapter's examples. -/
theorem ex_text : (strOfNums (lettersOf 1 1023)).toList = [100, 114, 119, 120, 114, 119, 120, 114, 119, 116] := by decide +kernel
set_option maxHeartbeats 400000 in
set_option maxRecDepth 100000 in
theorem awake10 (w : World) : Calls Try.prog 14 #[] w (Ret w (.bool true)) := by
  have m1 : mayB 5 6 5 0 416 6 = true := by decide +kernel
  have m2 : mayB 5 6 5 0 416 1 = false := by decide +kernel
  have m3 : mayB 5 6 1 6 32 4 = true := by decide +kernel
  have m4 : mayB 5 6 5 6 63 4 = false := by decide +kernel
  have m5 := ex_text
  have A0 : Has (w.alloc (.cells #[.int .i64 5, .int .i64 6] 27)) w.heap.size (.cells #[.int .i64 5, .int .i64 6] 27) := Has.new _ _
  go_enter Try.func14, Try.ntmps14
  go_wp2_with fail
  refine (may_any _ _ _ _ _ _ _).mono ?_
  rintro e w1 ⟨rfl, b1⟩
  have A1 := A0.ext b1
  have c1 : w1.cell? ⟨w.heap.size, 0, none⟩ = some (.int .i64 5) := A1.cell 0
  have d1 : w1.cell? ⟨w.heap.size, 1, none⟩ = some (.int .i64 6) := A1.cell 1
  go_wp2_with fail
  refine (may_any _ _ _ _ _ _ _).mono ?_
  rintro e w2 ⟨rfl, b2⟩
  have A2 := A1.ext b2
  clear c1 d1
  have c1 : w2.cell? ⟨w.heap.size, 0, none⟩ = some (.int .i64 5) := A2.cell 0
  have d1 : w2.cell? ⟨w.heap.size, 1, none⟩ = some (.int .i64 6) := A2.cell 1
  go_wp2_with fail
  refine (may_any _ _ _ _ _ _ _).mono ?_
  rintro e w3 ⟨rfl, b3⟩
  have A3 := A2.ext b3
  clear c1 d1
  have c1 : w3.cell? ⟨w.heap.size, 0, none⟩ = some (.int .i64 5) := A3.cell 0
  have d1 : w3.cell? ⟨w.heap.size, 1, none⟩ = some (.int .i64 6) := A3.cell 1
  go_wp2_with fail
  refine (may_any _ _ _ _ _ _ _).mono ?_
  rintro e w4 ⟨rfl, b4⟩
  clear c1 d1
  go_wp2_with fail
  refine (text_any _ _ _).mono ?_
  rintro e w5 ⟨rfl, b5⟩
  go_wp2_with fail
  go_ret
  exact Ret.mk rfl (((((((Ext.refl _).alloc _).trans b1).trans b2).trans b3).trans b4).trans b5)
end Go.Proofs.Ytegiknfnhgjhfaa
