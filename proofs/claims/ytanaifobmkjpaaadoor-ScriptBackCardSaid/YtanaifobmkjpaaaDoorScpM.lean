/- Layer 48 (script): word, May (both). -/
import Derived.Test.YtanaifobmkjpaaaDoorScpP
import Derived.Test.YtanaifobmkjpaaaDoorArgR
import Derived.Test.YtanaifobmkjpaaaDoorApdT
namespace Go.Proofs.YtanaifobmkjpaaaDoor
open Go.ChangeShapes Go.WideShapes Go.ChangeAt Go.RowKit

set_option maxHeartbeats 1000000 in
theorem word_any (l : List UInt8) (w : World) (hlen : l.length ≤ 1000000) : Calls Tryd.prog 33 #[.string (bs l)] w (Ret w (.bool (!anySZ l))) := by
  go_enter Tryd.func33, Tryd.ntmps33
  go_wp2_with fail
  refine (cany_anyZ l _ hlen).mono ?_
  rintro e w1 ⟨rfl, hE⟩
  go_wp2_with fail
  go_ret
  exact Ret.mk rfl hE
theorem len_any (ws : List Txt) : ((ws.length : Int) == 0) = true ∨ ((ws.length : Int) == 0) = false := by cases ((ws.length : Int) == 0) <;> simp
set_option maxRecDepth 100000 in
set_option maxHeartbeats 2000000 in
theorem pmay2_w (ws : List Txt) (n y : Int) (A : Option Addr) (cap : Nat) (w : World) (hw : ws ≠ []) : Calls Tryd.prog 13 #[.agg #[.int .i64 2, .slice A ws.length cap, .int .i64 n, .int .i64 y]] w (Ret w (.bool (mayB ⟨2, ws, n, y⟩))) := by
  have HF : Hid (mayB ⟨2, ws, n, y⟩ = false) := by show _ = _; simp [mayB, hw]
  have e1 : ((ws.length : Int) == 0) = false := by rw [beq_eq_false_iff_ne]; have := List.length_pos_iff.2 hw; omega
  clear hw
  go_enter Tryd.func13, Tryd.ntmps13
  go_wp2_with fail
  go_ret
  exact Ret.mk (ret_bool (by first | exact HF.out.symm | (rw [HF.out]; exact decide_eq_false (by omega)))) ((Ext.refl _).alloc _)
set_option maxRecDepth 100000 in
set_option maxHeartbeats 2000000 in
theorem pmay2_y (n y : Int) (A : Option Addr) (cap : Nat) (w : World) (hy : y ≠ 0) : Calls Tryd.prog 13 #[.agg #[.int .i64 2, .slice A 0 cap, .int .i64 n, .int .i64 y]] w (Ret w (.bool (mayB ⟨2, [], n, y⟩))) := by
  have HF : Hid (mayB ⟨2, [], n, y⟩ = false) := by show _ = _; simp [mayB, hy]
  have e1 : (y == 0) = false := beq_eq_false_iff_ne.2 hy
  clear hy
  go_enter Tryd.func13, Tryd.ntmps13
  go_wp2_with fail
  go_ret
  exact Ret.mk (ret_bool (by first | exact HF.out.symm | (rw [HF.out]; exact decide_eq_false (by omega)))) ((Ext.refl _).alloc _)
set_option maxRecDepth 100000 in
set_option maxHeartbeats 2000000 in
theorem pmay2_n (n : Int) (A : Option Addr) (cap : Nat) (w : World) (hn : n < 0) : Calls Tryd.prog 13 #[.agg #[.int .i64 2, .slice A 0 cap, .int .i64 n, .int .i64 0]] w (Ret w (.bool (mayB ⟨2, [], n, 0⟩))) := by
  have HF : Hid (mayB ⟨2, [], n, 0⟩ = false) := by show _ = _; simp [mayB]; omega
  go_enter Tryd.func13, Tryd.ntmps13
  go_wp2_with fail
  go_ret
  exact Ret.mk (ret_bool (by first | exact HF.out.symm | (rw [HF.out]; exact decide_eq_false (by omega)))) ((Ext.refl _).alloc _)
set_option maxRecDepth 100000 in
set_option maxHeartbeats 2000000 in
theorem pmay2_g (n : Int) (A : Option Addr) (cap : Nat) (w : World) (hn : 0 ≤ n) : Calls Tryd.prog 13 #[.agg #[.int .i64 2, .slice A 0 cap, .int .i64 n, .int .i64 0]] w (Ret w (.bool (mayB ⟨2, [], n, 0⟩))) := by
  have HF : Hid (mayB ⟨2, [], n, 0⟩ = true) := by show _ = _; simp [mayB, hn]
  go_enter Tryd.func13, Tryd.ntmps13
  go_wp2_with fail
  go_ret
  exact Ret.mk (ret_bool (by first | exact HF.out.symm | (rw [HF.out]; exact decide_eq_false (by omega)))) ((Ext.refl _).alloc _)
set_option maxRecDepth 100000 in
set_option maxHeartbeats 2000000 in
theorem pmay3_w (ws : List Txt) (n y : Int) (A : Option Addr) (cap : Nat) (w : World) (hw : ws ≠ []) : Calls Tryd.prog 13 #[.agg #[.int .i64 3, .slice A ws.length cap, .int .i64 n, .int .i64 y]] w (Ret w (.bool (mayB ⟨3, ws, n, y⟩))) := by
  have HF : Hid (mayB ⟨3, ws, n, y⟩ = false) := by show _ = _; simp [mayB, hw]
  have e1 : ((ws.length : Int) == 0) = false := by rw [beq_eq_false_iff_ne]; have := List.length_pos_iff.2 hw; omega
  clear hw
  go_enter Tryd.func13, Tryd.ntmps13
  go_wp2_with fail
  go_ret
  exact Ret.mk (ret_bool (by first | exact HF.out.symm | (rw [HF.out]; exact decide_eq_false (by omega)))) ((Ext.refl _).alloc _)
set_option maxRecDepth 100000 in
set_option maxHeartbeats 2000000 in
theorem pmay3_y (n y : Int) (A : Option Addr) (cap : Nat) (w : World) (hy : y ≠ 0) : Calls Tryd.prog 13 #[.agg #[.int .i64 3, .slice A 0 cap, .int .i64 n, .int .i64 y]] w (Ret w (.bool (mayB ⟨3, [], n, y⟩))) := by
  have HF : Hid (mayB ⟨3, [], n, y⟩ = false) := by show _ = _; simp [mayB, hy]
  have e1 : (y == 0) = false := beq_eq_false_iff_ne.2 hy
  clear hy
  go_enter Tryd.func13, Tryd.ntmps13
  go_wp2_with fail
  go_ret
  exact Ret.mk (ret_bool (by first | exact HF.out.symm | (rw [HF.out]; exact decide_eq_false (by omega)))) ((Ext.refl _).alloc _)
set_option maxRecDepth 100000 in
set_option maxHeartbeats 2000000 in
theorem pmay3_n (n : Int) (A : Option Addr) (cap : Nat) (w : World) (hn : n < 0) : Calls Tryd.prog 13 #[.agg #[.int .i64 3, .slice A 0 cap, .int .i64 n, .int .i64 0]] w (Ret w (.bool (mayB ⟨3, [], n, 0⟩))) := by
  have HF : Hid (mayB ⟨3, [], n, 0⟩ = false) := by show _ = _; simp [mayB]; omega
  go_enter Tryd.func13, Tryd.ntmps13
  go_wp2_with fail
  go_ret
  exact Ret.mk (ret_bool (by first | exact HF.out.symm | (rw [HF.out]; exact decide_eq_false (by omega)))) ((Ext.refl _).alloc _)
set_option maxRecDepth 100000 in
set_option maxHeartbeats 2000000 in
theorem pmay3_g (n : Int) (A : Option Addr) (cap : Nat) (w : World) (hn : 0 ≤ n) : Calls Tryd.prog 13 #[.agg #[.int .i64 3, .slice A 0 cap, .int .i64 n, .int .i64 0]] w (Ret w (.bool (mayB ⟨3, [], n, 0⟩))) := by
  have HF : Hid (mayB ⟨3, [], n, 0⟩ = true) := by show _ = _; simp [mayB, hn]
  go_enter Tryd.func13, Tryd.ntmps13
  go_wp2_with fail
  go_ret
  exact Ret.mk (ret_bool (by first | exact HF.out.symm | (rw [HF.out]; exact decide_eq_false (by omega)))) ((Ext.refl _).alloc _)
set_option maxRecDepth 100000 in
set_option maxHeartbeats 2000000 in
theorem pmay5_w (ws : List Txt) (n y : Int) (A : Option Addr) (cap : Nat) (w : World) (hw : ws ≠ []) : Calls Tryd.prog 13 #[.agg #[.int .i64 5, .slice A ws.length cap, .int .i64 n, .int .i64 y]] w (Ret w (.bool (mayB ⟨5, ws, n, y⟩))) := by
  have HF : Hid (mayB ⟨5, ws, n, y⟩ = false) := by show _ = _; simp [mayB, hw]
  have e1 : ((ws.length : Int) == 0) = false := by rw [beq_eq_false_iff_ne]; have := List.length_pos_iff.2 hw; omega
  clear hw
  go_enter Tryd.func13, Tryd.ntmps13
  go_wp2_with fail
  go_ret
  exact Ret.mk (ret_bool (by first | exact HF.out.symm | (rw [HF.out]; exact decide_eq_false (by omega)))) ((Ext.refl _).alloc _)
set_option maxRecDepth 100000 in
set_option maxHeartbeats 2000000 in
theorem pmay5_y (n y : Int) (A : Option Addr) (cap : Nat) (w : World) (hy : y ≠ 0) : Calls Tryd.prog 13 #[.agg #[.int .i64 5, .slice A 0 cap, .int .i64 n, .int .i64 y]] w (Ret w (.bool (mayB ⟨5, [], n, y⟩))) := by
  have HF : Hid (mayB ⟨5, [], n, y⟩ = false) := by show _ = _; simp [mayB, hy]
  have e1 : (y == 0) = false := beq_eq_false_iff_ne.2 hy
  clear hy
  go_enter Tryd.func13, Tryd.ntmps13
  go_wp2_with fail
  go_ret
  exact Ret.mk (ret_bool (by first | exact HF.out.symm | (rw [HF.out]; exact decide_eq_false (by omega)))) ((Ext.refl _).alloc _)
set_option maxRecDepth 100000 in
set_option maxHeartbeats 2000000 in
theorem pmay5_n (n : Int) (A : Option Addr) (cap : Nat) (w : World) (hn : n ≠ 0) : Calls Tryd.prog 13 #[.agg #[.int .i64 5, .slice A 0 cap, .int .i64 n, .int .i64 0]] w (Ret w (.bool (mayB ⟨5, [], n, 0⟩))) := by
  have HF : Hid (mayB ⟨5, [], n, 0⟩ = false) := by show _ = _; simp [mayB, hn]
  have e1 : (n == 0) = false := beq_eq_false_iff_ne.2 hn
  clear hn
  go_enter Tryd.func13, Tryd.ntmps13
  go_wp2_with fail
  go_ret
  exact Ret.mk (ret_bool (by first | exact HF.out.symm | (rw [HF.out]; exact decide_eq_false (by omega)))) ((Ext.refl _).alloc _)
set_option maxRecDepth 100000 in
set_option maxHeartbeats 2000000 in
theorem pmay5_g (A : Option Addr) (cap : Nat) (w : World) : Calls Tryd.prog 13 #[.agg #[.int .i64 5, .slice A 0 cap, .int .i64 0, .int .i64 0]] w (Ret w (.bool (mayB ⟨5, [], 0, 0⟩))) := by
  have HF : Hid (mayB ⟨5, [], 0, 0⟩ = true) := by show _ = _; rfl
  go_enter Tryd.func13, Tryd.ntmps13
  go_wp2_with fail
  go_ret
  exact Ret.mk (ret_bool (by first | exact HF.out.symm | (rw [HF.out]; exact decide_eq_false (by omega)))) ((Ext.refl _).alloc _)
set_option maxRecDepth 100000 in
set_option maxHeartbeats 2000000 in
theorem pmay4_w (ws : List Txt) (n y : Int) (A : Option Addr) (cap : Nat) (w : World) (hw : ws ≠ []) : Calls Tryd.prog 13 #[.agg #[.int .i64 4, .slice A ws.length cap, .int .i64 n, .int .i64 y]] w (Ret w (.bool (mayB ⟨4, ws, n, y⟩))) := by
  have HF : Hid (mayB ⟨4, ws, n, y⟩ = false) := by show _ = _; simp [mayB, hw]
  have e1 : ((ws.length : Int) == 0) = false := by rw [beq_eq_false_iff_ne]; have := List.length_pos_iff.2 hw; omega
  clear hw
  go_enter Tryd.func13, Tryd.ntmps13
  go_wp2_with fail
  go_ret
  exact Ret.mk (ret_bool (by first | exact HF.out.symm | (rw [HF.out]; exact decide_eq_false (by omega)))) ((Ext.refl _).alloc _)
set_option maxRecDepth 100000 in
set_option maxHeartbeats 2000000 in
theorem pmay4_n (n y : Int) (A : Option Addr) (cap : Nat) (w : World) (hn : n < 1) : Calls Tryd.prog 13 #[.agg #[.int .i64 4, .slice A 0 cap, .int .i64 n, .int .i64 y]] w (Ret w (.bool (mayB ⟨4, [], n, y⟩))) := by
  have HF : Hid (mayB ⟨4, [], n, y⟩ = false) := by show _ = _; simp [mayB]; omega
  go_enter Tryd.func13, Tryd.ntmps13
  go_wp2_with fail
  go_ret
  exact Ret.mk (ret_bool (by first | exact HF.out.symm | (rw [HF.out]; exact decide_eq_false (by omega)))) ((Ext.refl _).alloc _)
set_option maxRecDepth 100000 in
set_option maxHeartbeats 2000000 in
theorem pmay4_y (n y : Int) (A : Option Addr) (cap : Nat) (w : World) (hn : 1 ≤ n) (hy : y < 1) : Calls Tryd.prog 13 #[.agg #[.int .i64 4, .slice A 0 cap, .int .i64 n, .int .i64 y]] w (Ret w (.bool (mayB ⟨4, [], n, y⟩))) := by
  have HF : Hid (mayB ⟨4, [], n, y⟩ = false) := by show _ = _; simp [mayB]; omega
  go_enter Tryd.func13, Tryd.ntmps13
  go_wp2_with fail
  go_ret
  exact Ret.mk (ret_bool (by first | exact HF.out.symm | (rw [HF.out]; exact decide_eq_false (by omega)))) ((Ext.refl _).alloc _)
set_option maxRecDepth 100000 in
set_option maxHeartbeats 2000000 in
theorem pmay4_z (n y : Int) (A : Option Addr) (cap : Nat) (w : World) (hn : 1 ≤ n) (hy : 21 ≤ y) : Calls Tryd.prog 13 #[.agg #[.int .i64 4, .slice A 0 cap, .int .i64 n, .int .i64 y]] w (Ret w (.bool (mayB ⟨4, [], n, y⟩))) := by
  have HF : Hid (mayB ⟨4, [], n, y⟩ = false) := by show _ = _; simp [mayB]; omega
  have hy1 : 1 ≤ y := by omega
  go_enter Tryd.func13, Tryd.ntmps13
  go_wp2_with fail
  go_ret
  exact Ret.mk (ret_bool (by first | exact HF.out.symm | (rw [HF.out]; exact decide_eq_false (by omega)))) ((Ext.refl _).alloc _)
set_option maxRecDepth 100000 in
set_option maxHeartbeats 2000000 in
theorem pmay4_g (n y : Int) (A : Option Addr) (cap : Nat) (w : World) (hn : 1 ≤ n) (hy : 1 ≤ y) (hy2 : y < 21) : Calls Tryd.prog 13 #[.agg #[.int .i64 4, .slice A 0 cap, .int .i64 n, .int .i64 y]] w (Ret w (.bool (mayB ⟨4, [], n, y⟩))) := by
  have HF : Hid (mayB ⟨4, [], n, y⟩ = true) := by show _ = _; simp [mayB]; omega
  go_enter Tryd.func13, Tryd.ntmps13
  go_wp2_with fail
  go_ret
  exact Ret.mk (ret_bool (by first | exact HF.out.symm | (rw [HF.out]; exact decide_eq_false (by omega)))) ((Ext.refl _).alloc _)
set_option maxRecDepth 100000 in
set_option maxHeartbeats 2000000 in
theorem pmay_o (k : Int) (ws : List Txt) (n y : Int) (A : Option Addr) (cap : Nat) (w : World) (h1 : k ≠ 1) (h2 : k ≠ 2) (h3 : k ≠ 3) (h4 : k ≠ 4) (h5 : k ≠ 5) : Calls Tryd.prog 13 #[.agg #[.int .i64 k, .slice A ws.length cap, .int .i64 n, .int .i64 y]] w (Ret w (.bool (mayB ⟨k, ws, n, y⟩))) := by
  have HF : Hid (mayB ⟨k, ws, n, y⟩ = false) := by show _ = _; simp [mayB, h1, h2, h3, h4, h5]
  have e1 : (k == 1) = false := beq_eq_false_iff_ne.2 h1
  have e2 : (k == 2) = false := beq_eq_false_iff_ne.2 h2
  have e3 : (k == 3) = false := beq_eq_false_iff_ne.2 h3
  have e4 : (k == 4) = false := beq_eq_false_iff_ne.2 h4
  have e5 : (k == 5) = false := beq_eq_false_iff_ne.2 h5
  have l0 := len_any ws
  clear h1 h2 h3 h4 h5
  go_enter Tryd.func13, Tryd.ntmps13
  go_wp2_with fail
  all_goals
    go_ret
    exact Ret.mk (ret_bool (by first | exact HF.out.symm | (rw [HF.out]; exact decide_eq_false (by omega)))) ((Ext.refl _).alloc _)
end Go.Proofs.YtanaifobmkjpaaaDoor
