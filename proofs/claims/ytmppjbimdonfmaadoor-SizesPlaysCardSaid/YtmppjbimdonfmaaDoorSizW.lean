/- Layer 7 (sizes): cmp.Compare of texts, the comparing functions. -/
import Derived.Test.YtmppjbimdonfmaaDoorSizE
import Derived.WalkLawsBesides
import Derived.Below
import Derived.Laws.OwnMore
import Derived.Deep.AppendLies
import Derived.Deep.Draws
namespace Go.Proofs.YtmppjbimdonfmaaDoor
open Go.ChangeShapes Go.WideShapes Go.ChangeAt Go.RowKit

def cmpL (a b : List UInt8) : Int := if bl a b = true then -1 else if bl b a = true then 1 else 0
set_option maxRecDepth 100000 in
set_option maxHeartbeats 1000000 in
theorem isnan_any (s : ByteArray) (w : World) : Calls Tryd.prog 141 #[.string s] w (Ret w (.bool false)) := by
  go_enter Tryd.func141, Tryd.ntmps141
  go_wp2_with fail
  go_ret
  exact Ret.mk rfl (Ext.refl _)
theorem cmpL_lt {a b : List UInt8} (h : bl a b = true) : cmpL a b = -1 := by unfold cmpL; rw [if_pos h]
theorem cmpL_gt {a b : List UInt8} (h : bl b a = true) : cmpL a b = 1 := by unfold cmpL; rw [if_neg (by rw [bl_asymm h]; decide), if_pos h]
theorem cmpL_eq (a : List UInt8) : cmpL a a = 0 := by unfold cmpL; rw [bl_irrefl]; rfl
set_option maxRecDepth 100000 in
set_option maxHeartbeats 1000000 in
theorem compare_any (a b : List UInt8) (w : World) : Calls Tryd.prog 123 #[.string (bs a), .string (bs b)] w (Ret w (.int .i64 (cmpL a b))) := by
  obtain ⟨x, y, c, hx, hy, hc, hf⟩ : ∃ (x y : Bool) (c : Int), bl a b = x ∧ (a == b) = y ∧ cmpL a b = c ∧ ((x = true ∧ y = false ∧ c = -1) ∨ (x = false ∧ y = true ∧ c = 0) ∨ (x = false ∧ y = false ∧ c = 1)) := by
    refine ⟨_, _, _, rfl, rfl, rfl, ?_⟩
    rcases bl_tri a b with h | h | h
    · refine .inl ⟨h, ?_, cmpL_lt h⟩
      rw [beq_eq_false_iff_ne]; intro e; rw [e, bl_irrefl] at h; cases h
    · subst h; exact .inr (.inl ⟨bl_irrefl a, beq_self_eq_true a, cmpL_eq a⟩)
    · refine .inr (.inr ⟨bl_asymm h, ?_, cmpL_gt h⟩)
      rw [beq_eq_false_iff_ne]; intro e; rw [e, bl_irrefl] at h; cases h
  have e1 : Go.Op.bytesLess (bs a).toList (bs b).toList = x := by rw [bs_toList, bs_toList]; exact hx
  have e2 : ((bs a).toList == (bs b).toList) = y := by rw [bs_toList, bs_toList]; exact hy
  have HC := Lib.hid hc
  clear hx hy hc
  rcases hf with ⟨rfl, rfl, rfl⟩ | ⟨rfl, rfl, rfl⟩ | ⟨rfl, rfl, rfl⟩
  all_goals
    go_enter Tryd.func123, Tryd.ntmps123
    go_wp2_with fail
    refine (isnan_any _ _).mono ?_
    rintro e w1 ⟨rfl, b1⟩
    go_wp2_with fail
    refine (isnan_any _ _).mono ?_
    rintro e w2 ⟨rfl, b2⟩
    go_wp2_with fail
    go_ret
    exact Ret.mk (ret_int (by rw [HC.out])) (b1.trans b2)
set_option maxRecDepth 100000 in
set_option maxHeartbeats 1000000 in
theorem by_any (a n : List UInt8) (sz tm : Int) (w : World) : Calls Tryd.prog 94 #[.agg #[.int .i64 sz, .int .i64 tm, .string (bs a)], .string (bs n)] w (Ret w (.int .i64 (cmpL a n))) := by
  go_enter Tryd.func94, Tryd.ntmps94
  go_wp2_with fail
  refine (compare_any a n _).mono ?_
  rintro e w1 ⟨rfl, b1⟩
  go_wp2_with fail
  go_ret
  exact Ret.mk rfl (((Ext.refl _).alloc _).trans b1)
end Go.Proofs.YtmppjbimdonfmaaDoor
