/- Layer 11 (ents): cmp.Compare of texts, the comparing functions. -/
import Derived.Test.YtneideokodhciaaEntP
import Derived.WalkLawsBesides
import Derived.Below
import Derived.Laws.OwnMore
import Derived.Deep.AppendLies
import Derived.Deep.Draws
namespace Go.Proofs.Ytneideokodhciaa
open Go.ChangeShapes Go.WideShapes Go.ChangeAt Go.RowKit

def cmpL (a b : List UInt8) : Int := if bl a b = true then -1 else if bl b a = true then 1 else 0
set_option maxRecDepth 100000 in
set_option maxHeartbeats 1000000 in
theorem isnan_any (s : ByteArray) (w : World) : Calls Try.prog 46 #[.string s] w (Ret w (.bool false)) := by
  go_enter Try.func46, Try.ntmps46
  go_wp2_with fail
  go_ret
  exact Ret.mk rfl (Ext.refl _)
theorem cmpL_lt {a b : List UInt8} (h : bl a b = true) : cmpL a b = -1 := by unfold cmpL; rw [if_pos h]
theorem cmpL_gt {a b : List UInt8} (h : bl b a = true) : cmpL a b = 1 := by unfold cmpL; rw [if_neg (by rw [bl_asymm h]; decide), if_pos h]
theorem cmpL_eq (a : List UInt8) : cmpL a a = 0 := by unfold cmpL; rw [bl_irrefl]; rfl
set_option maxRecDepth 100000 in
set_option maxHeartbeats 1000000 in
theorem compare_any (a b : List UInt8) (w : World) : Calls Try.prog 36 #[.string (bs a), .string (bs b)] w (Ret w (.int .i64 (cmpL a b))) := by
  obtain ⟨x, y, c, hx, hy, hc, hf⟩ : ∃ (x y : Bool) (c : Int), bl a b = x ∧ (a == b) = y ∧ cmpL a b = c ∧ ((x = true ∧ y = false ∧ c = -1) ∨ (x = false ∧ y = true ∧ c = 0) ∨ (x = false ∧ y = false ∧ c = 1)) := by
    refine ⟨_, _, _, rfl, rfl, rfl, ?_⟩
    rcases bl_tri a b with h | h | h
    · refine .inl ⟨h, ?_, cmpL_lt h⟩
      rw [beq_eq_false_iff_ne]; intro e; rw [e, bl_irrefl] at h; cases h
    · subst h; exact .inr (.inl ⟨bl_irrefl a, beq_self_eq_true a, cmpL_eq a⟩)
    · refine .inr (.inr ⟨bl_asymm h, ?_, cmpL_gt h⟩)
      rw [beq_eq_false_iff_ne]; intro e; rw [e, bl_irrefl] at h; cases h
  have e1 : Go.Op.bytesLess (bs a).toList (bs b).toList = x := by rw [bs_toList, bs_toList]; exact hx
  have e2 : ((bs a).toList == (bs b).toList) = y := by rw [bs_toList, bs_toList]; exact hy
  have HC := Lib.hid hc
  clear hx hy hc
  rcases hf with ⟨rfl, rfl, rfl⟩ | ⟨rfl, rfl, rfl⟩ | ⟨rfl, rfl, rfl⟩
  all_goals
    go_enter Try.func36, Try.ntmps36
    go_wp2_with fail
    refine (isnan_any _ _).mono ?_
    rintro e w1 ⟨rfl, b1⟩
    go_wp2_with fail
    refine (isnan_any _ _).mono ?_
    rintro e w2 ⟨rfl, b2⟩
    go_wp2_with fail
    go_ret
    exact Ret.mk (ret_int (by rw [HC.out])) (b1.trans b2)
set_option maxRecDepth 100000 in
set_option maxHeartbeats 1000000 in
theorem by_any (a n : List UInt8) (no : Int) (w : World) : Calls Try.prog 38 #[.agg #[.string (bs a), .int .i64 no], .string (bs n)] w (Ret w (.int .i64 (cmpL a n))) := by
  go_enter Try.func38, Try.ntmps38
  go_wp2_with fail
  refine (compare_any a n _).mono ?_
  rintro e w1 ⟨rfl, b1⟩
  go_wp2_with fail
  go_ret
  exact Ret.mk rfl (((Ext.refl _).alloc _).trans b1)
def or2 (c : Int) : Int := if c = 0 then -1 else c
theorem or2_zero : or2 0 = -1 := rfl
theorem or2_not {c : Int} (h : ¬ c = 0) : or2 c = c := by unfold or2; rw [if_neg h]
set_option maxRecDepth 100000 in
set_option maxHeartbeats 1000000 in
theorem or_any (b : Nat) (c : Int) (w : World) (h0 : w.cell? ⟨b, 0, none⟩ = some (.int .i64 c)) (h1 : w.cell? ⟨b, 1, none⟩ = some (.int .i64 (-1))) : Calls Try.prog 35 #[.slice (some ⟨b, 0, none⟩) 2 2] w (Ret w (.int .i64 (or2 c))) := by
  by_cases hc : c = 0
  · subst hc
    rw [or2_zero]
    go_enter Try.func35, Try.ntmps35
    go_wp2_with fail
    refine wp_loop_rounds 2 ?_
    rw [rounds_succ]
    go_wp2_with fail
    rw [rounds_succ]
    go_wp2_with fail
    go_ret
    exact Ret.mk rfl (Ext.refl _)
  · have hc2 : (c != 0) = true := by simpa using hc
    rw [or2_not hc]
    clear hc
    go_enter Try.func35, Try.ntmps35
    go_wp2_with fail
    refine wp_loop_rounds 1 ?_
    rw [rounds_succ]
    go_wp2_with fail
    go_ret
    exact Ret.mk rfl (Ext.refl _)
set_option maxRecDepth 100000 in
set_option maxHeartbeats 1000000 in
theorem checkfn_any (a b : List UInt8) (no no' : Int) (w : World) : Calls Try.prog 34 #[.agg #[.string (bs a), .int .i64 no], .agg #[.string (bs b), .int .i64 no']] w (Ret w (.int .i64 (or2 (cmpL a b)))) := by
  go_enter Try.func34, Try.ntmps34
  go_wp2_with fail
  refine (compare_any a b _).mono ?_
  rintro e w1 ⟨rfl, b1⟩
  go_wp2_with fail
  refine (or_any _ (cmpL a b) _ ?_ ?_).mono ?_
  · exact (Has.new _ _).cell 0
  · exact (Has.new _ _).cell 1
  rintro e w2 ⟨rfl, b2⟩
  go_wp2_with fail
  go_ret
  exact Ret.mk rfl (((((Ext.refl _).alloc _).alloc _).trans b1).alloc _ |>.trans b2)
end Go.Proofs.Ytneideokodhciaa
