/- Layer 5 (date): the reference's Seconds, a valid time from 1970 on. -/
import Derived.Test.YtanaifobmkjpaaaDoorDateS
namespace Go.Proofs.YtanaifobmkjpaaaDoor
open Go.ChangeShapes Go.WideShapes Go.ChangeAt Go.RowKit

def Secs (Q : Prop) : Prop := Q
set_option maxRecDepth 100000 in
set_option maxHeartbeats 4000000 in
theorem rsec_ok (y m d : Nat) (h mi s : Int) (w : World) (b0 : 0 ≤ (y : Int)) (b1 : (y : Int) ≤ 9999) (b2 : 1 ≤ (d : Int)) (b3 : (d : Int) ≤ daysZ y m) (b4 : 0 ≤ h) (b5 : h ≤ 23) (b6 : 0 ≤ mi) (b7 : mi ≤ 59) (b8 : 0 ≤ s) (b9 : s ≤ 59) (hd : (d : Int) ≤ 31) (b : 1970 ≤ (y : Int)) (hm1 : 1 ≤ (m : Int)) (hm2 : (m : Int) ≤ 12) :
    Calls Tryd.prog 86 #[six y m d h mi s] w (SecRet w y m d h mi s) := by
  have hoff : Hid (¬ Off y m d h mi s) := by show ¬ Off _ _ _ _ _ _; unfold Off; omega
  have hbase : Hid ((d : Int) ≤ daysZ y m) := b3
  obtain ⟨W0, hW0⟩ : ∃ W0, W0 = w.alloc (.cells #[.int .i64 (y : Int), .int .i64 (m : Int), .int .i64 (d : Int), .int .i64 h, .int .i64 mi, .int .i64 s] 121) := ⟨_, rfl⟩
  have A1 : Has W0 w.heap.size (.cells #[.int .i64 (y : Int), .int .i64 (m : Int), .int .i64 (d : Int), .int .i64 h, .int .i64 mi, .int .i64 s] 121) := by rw [hW0]; exact Has.new _ _
  have X1 : Ext w W0 := by rw [hW0]; exact (Ext.refl _).alloc _
  have HW := Lib.hid hW0
  clear hW0
  have t0 : decide ((y : Int) < 0) = false := decide_eq_false (by omega)
  have t1 : decide (9999 < (y : Int)) = false := decide_eq_false (by omega)
  have t2 : decide ((d : Int) < 1) = false := decide_eq_false (by omega)
  have t3 : decide (daysZ y m < (d : Int)) = false := decide_eq_false (by omega)
  have t4 : decide (h < 0) = false := decide_eq_false (by omega)
  have t5 : decide (23 < h) = false := decide_eq_false (by omega)
  have t6 : decide (mi < 0) = false := decide_eq_false (by omega)
  have t7 : decide (59 < mi) = false := decide_eq_false (by omega)
  have t8 : decide (s < 0) = false := decide_eq_false (by omega)
  have t9 : decide (59 < s) = false := decide_eq_false (by omega)
  have t10 : decide ((y : Int) < 1970) = false := decide_eq_false (by omega)
  unfold six
  go_enter Tryd.func86, Tryd.ntmps86
  go_wp2_with fail
  rw [← HW.out]
  clear HW
  refine wp_region_held_drew (S := (fun w' => (Has w' w.heap.size (.cells #[.int .i64 (y : Int), .int .i64 (m : Int), .int .i64 (d : Int), .int .i64 h, .int .i64 mi, .int .i64 s] 121) ∧ Ext w w') ∧ (∀ i, w'.cell? ⟨w.heap.size, i, none⟩ = (#[.int .i64 (y : Int), .int .i64 (m : Int), .int .i64 (d : Int), .int .i64 h, .int .i64 mi, .int .i64 s] : Array Value)[i]?))) (by kernel_rfl) (⟨⟨A1.ext ((Ext.refl _).drew), X1.drew⟩, fun i => (A1.ext ((Ext.refl _).drew)).cell i⟩) (fun hS => ?_)
  refine wpAnyH_take (i := 0) (oi := { dst := some 7, op := Op.indexAddr 121 (Operand.tmp 1) (Operand.const (Value.int IntKind.i64 0)), type := 0, pos := "ref.go:49", after := #[], guard := none }) (v := ?_) rfl (by kernel_rfl) (by kernel_rfl) (by kernel_rfl) (fun _ _ _ h => h) (Or.inl ⟨by rfl, ?_⟩) hS ?_
  rotate_left
  · (intro w0 hS0; (try dsimp only at hS0); go_simp; try with_reducible rfl)
  try simp only [Act.put, List.setIfInBounds_toArray, List.set_cons_zero, List.set_cons_succ]
  refine wpAnyH_take (i := 1) (oi := { dst := some 8, op := Op.load 3 (Operand.tmp 7), type := 3, pos := "ref.go:49", after := #[{ on := 0, ground := Ground.data }], guard := none }) (v := ?_) rfl (by kernel_rfl) (by kernel_rfl) (by kernel_rfl) (fun _ _ _ h => h) (Or.inl ⟨by rfl, ?_⟩) hS ?_
  rotate_left
  · (intro w0 hS0; (try dsimp only at hS0); go_simp; try with_reducible rfl)
  try simp only [Act.put, List.setIfInBounds_toArray, List.set_cons_zero, List.set_cons_succ]
  refine wpAnyH_take (i := 2) (oi := { dst := some 9, op := Op.binOp BinOp.lss 3 (Operand.tmp 8) (Operand.const (Value.int IntKind.i64 0)) 3, type := 4, pos := "ref.go:49", after := #[{ on := 1, ground := Ground.data }], guard := none }) (v := ?_) rfl (by kernel_rfl) (by kernel_rfl) (by kernel_rfl) (fun _ _ _ h => h) (Or.inl ⟨by rfl, ?_⟩) hS ?_
  rotate_left
  · (intro w0 hS0; (try dsimp only at hS0); go_simp; try with_reducible rfl)
  try simp only [Act.put, List.setIfInBounds_toArray, List.set_cons_zero, List.set_cons_succ]
  refine wpAnyH_take (i := 3) (oi := { dst := some 10, op := Op.move (Operand.tmp 9), type := 4, pos := "ref.go:49", after := #[{ on := 2, ground := Ground.data }], guard := none }) (v := ?_) rfl (by kernel_rfl) (by kernel_rfl) (by kernel_rfl) (fun _ _ _ h => h) (Or.inl ⟨by rfl, ?_⟩) hS ?_
  rotate_left
  · (intro w0 hS0; (try dsimp only at hS0); go_simp; try with_reducible rfl)
  try simp only [Act.put, List.setIfInBounds_toArray, List.set_cons_zero, List.set_cons_succ]
  refine wpAnyH_take (i := 4) (oi := { dst := some 11, op := Op.indexAddr 121 (Operand.tmp 1) (Operand.const (Value.int IntKind.i64 0)), type := 0, pos := "ref.go:49", after := #[{ on := 3, ground := Ground.guard }], guard := some (3, false) }) (v := ?_) rfl (by kernel_rfl) (by kernel_rfl) (by kernel_rfl) (fun _ _ _ h => h) (Or.inl ⟨by rfl, ?_⟩) hS ?_
  rotate_left
  · (intro w0 hS0; (try dsimp only at hS0); go_simp; try with_reducible rfl)
  try simp only [Act.put, List.setIfInBounds_toArray, List.set_cons_zero, List.set_cons_succ]
  refine wpAnyH_take (i := 5) (oi := { dst := some 12, op := Op.load 3 (Operand.tmp 11), type := 3, pos := "ref.go:49", after := #[{ on := 4, ground := Ground.data }, { on := 3, ground := Ground.guard }], guard := some (3, false) }) (v := ?_) rfl (by kernel_rfl) (by kernel_rfl) (by kernel_rfl) (fun _ _ _ h => h) (Or.inl ⟨by rfl, ?_⟩) hS ?_
  rotate_left
  · (intro w0 hS0; (try dsimp only at hS0); go_simp; try with_reducible rfl)
  try simp only [Act.put, List.setIfInBounds_toArray, List.set_cons_zero, List.set_cons_succ]
  refine wpAnyH_take (i := 6) (oi := { dst := some 13, op := Op.binOp BinOp.gtr 3 (Operand.tmp 12) (Operand.const (Value.int IntKind.i64 9999)) 3, type := 4, pos := "ref.go:49", after := #[{ on := 5, ground := Ground.data }, { on := 3, ground := Ground.guard }], guard := some (3, false) }) (v := ?_) rfl (by kernel_rfl) (by kernel_rfl) (by kernel_rfl) (fun _ _ _ h => h) (Or.inl ⟨by rfl, ?_⟩) hS ?_
  rotate_left
  · (intro w0 hS0; (try dsimp only at hS0); go_simp; try with_reducible rfl)
  try simp only [Act.put, List.setIfInBounds_toArray, List.set_cons_zero, List.set_cons_succ]
  refine wpAnyH_take (i := 7) (oi := { dst := some 14, op := Op.pick (Operand.tmp 10) (Operand.const (Value.bool true)) (Operand.tmp 13), type := 4, pos := "ref.go:49", after := #[{ on := 3, ground := Ground.data }, { on := 6, ground := Ground.data }], guard := none }) (v := ?_) rfl (by kernel_rfl) (by kernel_rfl) (by kernel_rfl) (fun _ _ _ h => h) (Or.inl ⟨by rfl, ?_⟩) hS ?_
  rotate_left
  · (intro w0 hS0; (try dsimp only at hS0); go_simp; try with_reducible rfl)
  try simp only [Act.put, List.setIfInBounds_toArray, List.set_cons_zero, List.set_cons_succ]
  refine wpAnyH_take (i := 8) (oi := { dst := some 15, op := Op.move (Operand.tmp 14), type := 4, pos := "ref.go:49", after := #[{ on := 7, ground := Ground.data }, { on := 3, ground := Ground.chain }], guard := none }) (v := ?_) rfl (by kernel_rfl) (by kernel_rfl) (by kernel_rfl) (fun _ _ _ h => h) (Or.inl ⟨by rfl, ?_⟩) hS ?_
  rotate_left
  · (intro w0 hS0; (try dsimp only at hS0); go_simp; try with_reducible rfl)
  try simp only [Act.put, List.setIfInBounds_toArray, List.set_cons_zero, List.set_cons_succ]
  refine wpAnyH_take (i := 9) (oi := { dst := some 16, op := Op.indexAddr 121 (Operand.tmp 1) (Operand.const (Value.int IntKind.i64 2)), type := 0, pos := "ref.go:49", after := #[{ on := 8, ground := Ground.guard }], guard := some (8, false) }) (v := ?_) rfl (by kernel_rfl) (by kernel_rfl) (by kernel_rfl) (fun _ _ _ h => h) (Or.inl ⟨by rfl, ?_⟩) hS ?_
  rotate_left
  · (intro w0 hS0; (try dsimp only at hS0); go_simp; try with_reducible rfl)
  try simp only [Act.put, List.setIfInBounds_toArray, List.set_cons_zero, List.set_cons_succ]
  refine wpAnyH_take (i := 10) (oi := { dst := some 17, op := Op.load 3 (Operand.tmp 16), type := 3, pos := "ref.go:49", after := #[{ on := 9, ground := Ground.data }, { on := 8, ground := Ground.guard }], guard := some (8, false) }) (v := ?_) rfl (by kernel_rfl) (by kernel_rfl) (by kernel_rfl) (fun _ _ _ h => h) (Or.inl ⟨by rfl, ?_⟩) hS ?_
  rotate_left
  · (intro w0 hS0; (try dsimp only at hS0); go_simp; try with_reducible rfl)
  try simp only [Act.put, List.setIfInBounds_toArray, List.set_cons_zero, List.set_cons_succ]
  refine wpAnyH_take (i := 11) (oi := { dst := some 18, op := Op.binOp BinOp.lss 3 (Operand.tmp 17) (Operand.const (Value.int IntKind.i64 1)) 3, type := 4, pos := "ref.go:49", after := #[{ on := 10, ground := Ground.data }, { on := 8, ground := Ground.guard }], guard := some (8, false) }) (v := ?_) rfl (by kernel_rfl) (by kernel_rfl) (by kernel_rfl) (fun _ _ _ h => h) (Or.inl ⟨by rfl, ?_⟩) hS ?_
  rotate_left
  · (intro w0 hS0; (try dsimp only at hS0); go_simp; try with_reducible rfl)
  try simp only [Act.put, List.setIfInBounds_toArray, List.set_cons_zero, List.set_cons_succ]
  refine wpAnyH_take (i := 12) (oi := { dst := some 19, op := Op.pick (Operand.tmp 15) (Operand.const (Value.bool true)) (Operand.tmp 18), type := 4, pos := "ref.go:49", after := #[{ on := 8, ground := Ground.data }, { on := 11, ground := Ground.data }], guard := none }) (v := ?_) rfl (by kernel_rfl) (by kernel_rfl) (by kernel_rfl) (fun _ _ _ h => h) (Or.inl ⟨by rfl, ?_⟩) hS ?_
  rotate_left
  · (intro w0 hS0; (try dsimp only at hS0); go_simp; try with_reducible rfl)
  try simp only [Act.put, List.setIfInBounds_toArray, List.set_cons_zero, List.set_cons_succ]
  refine wpAnyH_take (i := 13) (oi := { dst := some 20, op := Op.move (Operand.tmp 19), type := 4, pos := "ref.go:49", after := #[{ on := 12, ground := Ground.data }, { on := 8, ground := Ground.chain }], guard := none }) (v := ?_) rfl (by kernel_rfl) (by kernel_rfl) (by kernel_rfl) (fun _ _ _ h => h) (Or.inl ⟨by rfl, ?_⟩) hS ?_
  rotate_left
  · (intro w0 hS0; (try dsimp only at hS0); go_simp; try with_reducible rfl)
  try simp only [Act.put, List.setIfInBounds_toArray, List.set_cons_zero, List.set_cons_succ]
  refine wpAnyH_take (i := 14) (oi := { dst := some 21, op := Op.indexAddr 121 (Operand.tmp 1) (Operand.const (Value.int IntKind.i64 2)), type := 0, pos := "ref.go:49", after := #[{ on := 13, ground := Ground.guard }], guard := some (13, false) }) (v := ?_) rfl (by kernel_rfl) (by kernel_rfl) (by kernel_rfl) (fun _ _ _ h => h) (Or.inl ⟨by rfl, ?_⟩) hS ?_
  rotate_left
  · (intro w0 hS0; (try dsimp only at hS0); go_simp; try with_reducible rfl)
  try simp only [Act.put, List.setIfInBounds_toArray, List.set_cons_zero, List.set_cons_succ]
  refine wpAnyH_take (i := 15) (oi := { dst := some 22, op := Op.load 3 (Operand.tmp 21), type := 3, pos := "ref.go:49", after := #[{ on := 14, ground := Ground.data }, { on := 13, ground := Ground.guard }], guard := some (13, false) }) (v := ?_) rfl (by kernel_rfl) (by kernel_rfl) (by kernel_rfl) (fun _ _ _ h => h) (Or.inl ⟨by rfl, ?_⟩) hS ?_
  rotate_left
  · (intro w0 hS0; (try dsimp only at hS0); go_simp; try with_reducible rfl)
  try simp only [Act.put, List.setIfInBounds_toArray, List.set_cons_zero, List.set_cons_succ]
  refine wpAnyH_take (i := 16) (oi := { dst := some 23, op := Op.indexAddr 121 (Operand.tmp 1) (Operand.const (Value.int IntKind.i64 0)), type := 0, pos := "ref.go:49", after := #[{ on := 13, ground := Ground.guard }], guard := some (13, false) }) (v := ?_) rfl (by kernel_rfl) (by kernel_rfl) (by kernel_rfl) (fun _ _ _ h => h) (Or.inl ⟨by rfl, ?_⟩) hS ?_
  rotate_left
  · (intro w0 hS0; (try dsimp only at hS0); go_simp; try with_reducible rfl)
  try simp only [Act.put, List.setIfInBounds_toArray, List.set_cons_zero, List.set_cons_succ]
  refine wpAnyH_take (i := 17) (oi := { dst := some 24, op := Op.load 3 (Operand.tmp 23), type := 3, pos := "ref.go:49", after := #[{ on := 16, ground := Ground.data }, { on := 13, ground := Ground.guard }], guard := some (13, false) }) (v := ?_) rfl (by kernel_rfl) (by kernel_rfl) (by kernel_rfl) (fun _ _ _ h => h) (Or.inl ⟨by rfl, ?_⟩) hS ?_
  rotate_left
  · (intro w0 hS0; (try dsimp only at hS0); go_simp; try with_reducible rfl)
  try simp only [Act.put, List.setIfInBounds_toArray, List.set_cons_zero, List.set_cons_succ]
  refine wpAnyH_take (i := 18) (oi := { dst := some 25, op := Op.indexAddr 121 (Operand.tmp 1) (Operand.const (Value.int IntKind.i64 1)), type := 0, pos := "ref.go:49", after := #[{ on := 13, ground := Ground.guard }], guard := some (13, false) }) (v := ?_) rfl (by kernel_rfl) (by kernel_rfl) (by kernel_rfl) (fun _ _ _ h => h) (Or.inl ⟨by rfl, ?_⟩) hS ?_
  rotate_left
  · (intro w0 hS0; (try dsimp only at hS0); go_simp; try with_reducible rfl)
  try simp only [Act.put, List.setIfInBounds_toArray, List.set_cons_zero, List.set_cons_succ]
  refine wpAnyH_take (i := 19) (oi := { dst := some 26, op := Op.load 3 (Operand.tmp 25), type := 3, pos := "ref.go:49", after := #[{ on := 18, ground := Ground.data }, { on := 13, ground := Ground.guard }], guard := some (13, false) }) (v := ?_) rfl (by kernel_rfl) (by kernel_rfl) (by kernel_rfl) (fun _ _ _ h => h) (Or.inl ⟨by rfl, ?_⟩) hS ?_
  rotate_left
  · (intro w0 hS0; (try dsimp only at hS0); go_simp; try with_reducible rfl)
  try simp only [Act.put, List.setIfInBounds_toArray, List.set_cons_zero, List.set_cons_succ]
  refine wpAnyH_ready (rs := [20]) (by kernel_rfl) (by simp) ?_
  refine AllReadyH.cons (o := { dst := some 27, op := Op.call { callee := Callee.value (Operand.func 99), args := #[Operand.tmp 24, Operand.tmp 26], argTypes := #[3, 3] }, type := 3, pos := "ref.go:49", after := #[{ on := 17, ground := Ground.data }, { on := 19, ground := Ground.data }, { on := 13, ground := Ground.chain }, { on := 13, ground := Ground.guard }], guard := some (13, false) }) rfl (fun K hK => ?_) AllReadyH.nil
  go_simp
  (go_at_call 99; refine (rdays_any _ _ _).mono ?_; rintro e w1 ⟨rfl, hb⟩; have keepS := held1 hb hS; clear hS)
  refine hK.out _ _ ?_ (fun hS => ?_)
  · exact keepS
  clear hK K
  try simp only [Act.put, List.setIfInBounds_toArray, List.set_cons_zero, List.set_cons_succ]
  refine wpAnyH_take (i := 21) (oi := { dst := some 28, op := Op.binOp BinOp.gtr 3 (Operand.tmp 22) (Operand.tmp 27) 3, type := 4, pos := "ref.go:49", after := #[{ on := 15, ground := Ground.data }, { on := 20, ground := Ground.data }, { on := 13, ground := Ground.guard }], guard := some (13, false) }) (v := ?_) rfl (by kernel_rfl) (by kernel_rfl) (by kernel_rfl) (fun _ _ _ h => h) (Or.inl ⟨by rfl, ?_⟩) hS ?_
  rotate_left
  · (intro w0 hS0; (try dsimp only at hS0); go_simp; try with_reducible rfl)
  try simp only [Act.put, List.setIfInBounds_toArray, List.set_cons_zero, List.set_cons_succ]
  refine wpAnyH_take (i := 22) (oi := { dst := some 29, op := Op.pick (Operand.tmp 20) (Operand.const (Value.bool true)) (Operand.tmp 28), type := 4, pos := "ref.go:49", after := #[{ on := 13, ground := Ground.data }, { on := 21, ground := Ground.data }], guard := none }) (v := ?_) rfl (by kernel_rfl) (by kernel_rfl) (by kernel_rfl) (fun _ _ _ h => h) (Or.inl ⟨by rfl, ?_⟩) hS ?_
  rotate_left
  · (intro w0 hS0; (try dsimp only at hS0); go_simp; try with_reducible rfl)
  try simp only [Act.put, List.setIfInBounds_toArray, List.set_cons_zero, List.set_cons_succ]
  refine wpAnyH_take (i := 23) (oi := { dst := some 30, op := Op.move (Operand.tmp 29), type := 4, pos := "ref.go:49", after := #[{ on := 22, ground := Ground.data }, { on := 20, ground := Ground.chain }], guard := none }) (v := ?_) rfl (by kernel_rfl) (by kernel_rfl) (by kernel_rfl) (fun _ _ _ h => h) (Or.inl ⟨by rfl, ?_⟩) hS ?_
  rotate_left
  · (intro w0 hS0; (try dsimp only at hS0); go_simp; try with_reducible rfl)
  try simp only [Act.put, List.setIfInBounds_toArray, List.set_cons_zero, List.set_cons_succ]
  refine wpAnyH_take (i := 24) (oi := { dst := some 31, op := Op.indexAddr 121 (Operand.tmp 1) (Operand.const (Value.int IntKind.i64 3)), type := 0, pos := "ref.go:49", after := #[{ on := 23, ground := Ground.guard }], guard := some (23, false) }) (v := ?_) rfl (by kernel_rfl) (by kernel_rfl) (by kernel_rfl) (fun _ _ _ h => h) (Or.inl ⟨by rfl, ?_⟩) hS ?_
  rotate_left
  · (intro w0 hS0; (try dsimp only at hS0); go_simp; try with_reducible rfl)
  try simp only [Act.put, List.setIfInBounds_toArray, List.set_cons_zero, List.set_cons_succ]
  refine wpAnyH_take (i := 25) (oi := { dst := some 32, op := Op.load 3 (Operand.tmp 31), type := 3, pos := "ref.go:49", after := #[{ on := 24, ground := Ground.data }, { on := 23, ground := Ground.guard }], guard := some (23, false) }) (v := ?_) rfl (by kernel_rfl) (by kernel_rfl) (by kernel_rfl) (fun _ _ _ h => h) (Or.inl ⟨by rfl, ?_⟩) hS ?_
  rotate_left
  · (intro w0 hS0; (try dsimp only at hS0); go_simp; try with_reducible rfl)
  try simp only [Act.put, List.setIfInBounds_toArray, List.set_cons_zero, List.set_cons_succ]
  refine wpAnyH_take (i := 26) (oi := { dst := some 33, op := Op.binOp BinOp.lss 3 (Operand.tmp 32) (Operand.const (Value.int IntKind.i64 0)) 3, type := 4, pos := "ref.go:49", after := #[{ on := 25, ground := Ground.data }, { on := 23, ground := Ground.guard }], guard := some (23, false) }) (v := ?_) rfl (by kernel_rfl) (by kernel_rfl) (by kernel_rfl) (fun _ _ _ h => h) (Or.inl ⟨by rfl, ?_⟩) hS ?_
  rotate_left
  · (intro w0 hS0; (try dsimp only at hS0); go_simp; try with_reducible rfl)
  try simp only [Act.put, List.setIfInBounds_toArray, List.set_cons_zero, List.set_cons_succ]
  refine wpAnyH_take (i := 27) (oi := { dst := some 34, op := Op.pick (Operand.tmp 30) (Operand.const (Value.bool true)) (Operand.tmp 33), type := 4, pos := "ref.go:49", after := #[{ on := 23, ground := Ground.data }, { on := 26, ground := Ground.data }], guard := none }) (v := ?_) rfl (by kernel_rfl) (by kernel_rfl) (by kernel_rfl) (fun _ _ _ h => h) (Or.inl ⟨by rfl, ?_⟩) hS ?_
  rotate_left
  · (intro w0 hS0; (try dsimp only at hS0); go_simp; try with_reducible rfl)
  try simp only [Act.put, List.setIfInBounds_toArray, List.set_cons_zero, List.set_cons_succ]
  refine wpAnyH_take (i := 28) (oi := { dst := some 35, op := Op.move (Operand.tmp 34), type := 4, pos := "ref.go:49", after := #[{ on := 27, ground := Ground.data }, { on := 23, ground := Ground.chain }], guard := none }) (v := ?_) rfl (by kernel_rfl) (by kernel_rfl) (by kernel_rfl) (fun _ _ _ h => h) (Or.inl ⟨by rfl, ?_⟩) hS ?_
  rotate_left
  · (intro w0 hS0; (try dsimp only at hS0); go_simp; try with_reducible rfl)
  try simp only [Act.put, List.setIfInBounds_toArray, List.set_cons_zero, List.set_cons_succ]
  refine wpAnyH_take (i := 29) (oi := { dst := some 36, op := Op.indexAddr 121 (Operand.tmp 1) (Operand.const (Value.int IntKind.i64 3)), type := 0, pos := "ref.go:49", after := #[{ on := 28, ground := Ground.guard }], guard := some (28, false) }) (v := ?_) rfl (by kernel_rfl) (by kernel_rfl) (by kernel_rfl) (fun _ _ _ h => h) (Or.inl ⟨by rfl, ?_⟩) hS ?_
  rotate_left
  · (intro w0 hS0; (try dsimp only at hS0); go_simp; try with_reducible rfl)
  try simp only [Act.put, List.setIfInBounds_toArray, List.set_cons_zero, List.set_cons_succ]
  refine wpAnyH_take (i := 30) (oi := { dst := some 37, op := Op.load 3 (Operand.tmp 36), type := 3, pos := "ref.go:49", after := #[{ on := 29, ground := Ground.data }, { on := 28, ground := Ground.guard }], guard := some (28, false) }) (v := ?_) rfl (by kernel_rfl) (by kernel_rfl) (by kernel_rfl) (fun _ _ _ h => h) (Or.inl ⟨by rfl, ?_⟩) hS ?_
  rotate_left
  · (intro w0 hS0; (try dsimp only at hS0); go_simp; try with_reducible rfl)
  try simp only [Act.put, List.setIfInBounds_toArray, List.set_cons_zero, List.set_cons_succ]
  refine wpAnyH_take (i := 31) (oi := { dst := some 38, op := Op.binOp BinOp.gtr 3 (Operand.tmp 37) (Operand.const (Value.int IntKind.i64 23)) 3, type := 4, pos := "ref.go:49", after := #[{ on := 30, ground := Ground.data }, { on := 28, ground := Ground.guard }], guard := some (28, false) }) (v := ?_) rfl (by kernel_rfl) (by kernel_rfl) (by kernel_rfl) (fun _ _ _ h => h) (Or.inl ⟨by rfl, ?_⟩) hS ?_
  rotate_left
  · (intro w0 hS0; (try dsimp only at hS0); go_simp; try with_reducible rfl)
  try simp only [Act.put, List.setIfInBounds_toArray, List.set_cons_zero, List.set_cons_succ]
  refine wpAnyH_take (i := 32) (oi := { dst := some 39, op := Op.pick (Operand.tmp 35) (Operand.const (Value.bool true)) (Operand.tmp 38), type := 4, pos := "ref.go:49", after := #[{ on := 28, ground := Ground.data }, { on := 31, ground := Ground.data }], guard := none }) (v := ?_) rfl (by kernel_rfl) (by kernel_rfl) (by kernel_rfl) (fun _ _ _ h => h) (Or.inl ⟨by rfl, ?_⟩) hS ?_
  rotate_left
  · (intro w0 hS0; (try dsimp only at hS0); go_simp; try with_reducible rfl)
  try simp only [Act.put, List.setIfInBounds_toArray, List.set_cons_zero, List.set_cons_succ]
  refine wpAnyH_take (i := 33) (oi := { dst := some 40, op := Op.move (Operand.tmp 39), type := 4, pos := "ref.go:49", after := #[{ on := 32, ground := Ground.data }, { on := 28, ground := Ground.chain }], guard := none }) (v := ?_) rfl (by kernel_rfl) (by kernel_rfl) (by kernel_rfl) (fun _ _ _ h => h) (Or.inl ⟨by rfl, ?_⟩) hS ?_
  rotate_left
  · (intro w0 hS0; (try dsimp only at hS0); go_simp; try with_reducible rfl)
  try simp only [Act.put, List.setIfInBounds_toArray, List.set_cons_zero, List.set_cons_succ]
  refine wpAnyH_take (i := 34) (oi := { dst := some 41, op := Op.indexAddr 121 (Operand.tmp 1) (Operand.const (Value.int IntKind.i64 4)), type := 0, pos := "ref.go:49", after := #[{ on := 33, ground := Ground.guard }], guard := some (33, false) }) (v := ?_) rfl (by kernel_rfl) (by kernel_rfl) (by kernel_rfl) (fun _ _ _ h => h) (Or.inl ⟨by rfl, ?_⟩) hS ?_
  rotate_left
  · (intro w0 hS0; (try dsimp only at hS0); go_simp; try with_reducible rfl)
  try simp only [Act.put, List.setIfInBounds_toArray, List.set_cons_zero, List.set_cons_succ]
  refine wpAnyH_take (i := 35) (oi := { dst := some 42, op := Op.load 3 (Operand.tmp 41), type := 3, pos := "ref.go:49", after := #[{ on := 34, ground := Ground.data }, { on := 33, ground := Ground.guard }], guard := some (33, false) }) (v := ?_) rfl (by kernel_rfl) (by kernel_rfl) (by kernel_rfl) (fun _ _ _ h => h) (Or.inl ⟨by rfl, ?_⟩) hS ?_
  rotate_left
  · (intro w0 hS0; (try dsimp only at hS0); go_simp; try with_reducible rfl)
  try simp only [Act.put, List.setIfInBounds_toArray, List.set_cons_zero, List.set_cons_succ]
  refine wpAnyH_take (i := 36) (oi := { dst := some 43, op := Op.binOp BinOp.lss 3 (Operand.tmp 42) (Operand.const (Value.int IntKind.i64 0)) 3, type := 4, pos := "ref.go:49", after := #[{ on := 35, ground := Ground.data }, { on := 33, ground := Ground.guard }], guard := some (33, false) }) (v := ?_) rfl (by kernel_rfl) (by kernel_rfl) (by kernel_rfl) (fun _ _ _ h => h) (Or.inl ⟨by rfl, ?_⟩) hS ?_
  rotate_left
  · (intro w0 hS0; (try dsimp only at hS0); go_simp; try with_reducible rfl)
  try simp only [Act.put, List.setIfInBounds_toArray, List.set_cons_zero, List.set_cons_succ]
  refine wpAnyH_take (i := 37) (oi := { dst := some 44, op := Op.pick (Operand.tmp 40) (Operand.const (Value.bool true)) (Operand.tmp 43), type := 4, pos := "ref.go:49", after := #[{ on := 33, ground := Ground.data }, { on := 36, ground := Ground.data }], guard := none }) (v := ?_) rfl (by kernel_rfl) (by kernel_rfl) (by kernel_rfl) (fun _ _ _ h => h) (Or.inl ⟨by rfl, ?_⟩) hS ?_
  rotate_left
  · (intro w0 hS0; (try dsimp only at hS0); go_simp; try with_reducible rfl)
  try simp only [Act.put, List.setIfInBounds_toArray, List.set_cons_zero, List.set_cons_succ]
  refine wpAnyH_take (i := 38) (oi := { dst := some 45, op := Op.move (Operand.tmp 44), type := 4, pos := "ref.go:49", after := #[{ on := 37, ground := Ground.data }, { on := 33, ground := Ground.chain }], guard := none }) (v := ?_) rfl (by kernel_rfl) (by kernel_rfl) (by kernel_rfl) (fun _ _ _ h => h) (Or.inl ⟨by rfl, ?_⟩) hS ?_
  rotate_left
  · (intro w0 hS0; (try dsimp only at hS0); go_simp; try with_reducible rfl)
  try simp only [Act.put, List.setIfInBounds_toArray, List.set_cons_zero, List.set_cons_succ]
  refine wpAnyH_take (i := 39) (oi := { dst := some 46, op := Op.indexAddr 121 (Operand.tmp 1) (Operand.const (Value.int IntKind.i64 4)), type := 0, pos := "ref.go:49", after := #[{ on := 38, ground := Ground.guard }], guard := some (38, false) }) (v := ?_) rfl (by kernel_rfl) (by kernel_rfl) (by kernel_rfl) (fun _ _ _ h => h) (Or.inl ⟨by rfl, ?_⟩) hS ?_
  rotate_left
  · (intro w0 hS0; (try dsimp only at hS0); go_simp; try with_reducible rfl)
  try simp only [Act.put, List.setIfInBounds_toArray, List.set_cons_zero, List.set_cons_succ]
  refine wpAnyH_take (i := 40) (oi := { dst := some 47, op := Op.load 3 (Operand.tmp 46), type := 3, pos := "ref.go:49", after := #[{ on := 39, ground := Ground.data }, { on := 38, ground := Ground.guard }], guard := some (38, false) }) (v := ?_) rfl (by kernel_rfl) (by kernel_rfl) (by kernel_rfl) (fun _ _ _ h => h) (Or.inl ⟨by rfl, ?_⟩) hS ?_
  rotate_left
  · (intro w0 hS0; (try dsimp only at hS0); go_simp; try with_reducible rfl)
  try simp only [Act.put, List.setIfInBounds_toArray, List.set_cons_zero, List.set_cons_succ]
  refine wpAnyH_take (i := 41) (oi := { dst := some 48, op := Op.binOp BinOp.gtr 3 (Operand.tmp 47) (Operand.const (Value.int IntKind.i64 59)) 3, type := 4, pos := "ref.go:49", after := #[{ on := 40, ground := Ground.data }, { on := 38, ground := Ground.guard }], guard := some (38, false) }) (v := ?_) rfl (by kernel_rfl) (by kernel_rfl) (by kernel_rfl) (fun _ _ _ h => h) (Or.inl ⟨by rfl, ?_⟩) hS ?_
  rotate_left
  · (intro w0 hS0; (try dsimp only at hS0); go_simp; try with_reducible rfl)
  try simp only [Act.put, List.setIfInBounds_toArray, List.set_cons_zero, List.set_cons_succ]
  refine wpAnyH_take (i := 42) (oi := { dst := some 49, op := Op.pick (Operand.tmp 45) (Operand.const (Value.bool true)) (Operand.tmp 48), type := 4, pos := "ref.go:49", after := #[{ on := 38, ground := Ground.data }, { on := 41, ground := Ground.data }], guard := none }) (v := ?_) rfl (by kernel_rfl) (by kernel_rfl) (by kernel_rfl) (fun _ _ _ h => h) (Or.inl ⟨by rfl, ?_⟩) hS ?_
  rotate_left
  · (intro w0 hS0; (try dsimp only at hS0); go_simp; try with_reducible rfl)
  try simp only [Act.put, List.setIfInBounds_toArray, List.set_cons_zero, List.set_cons_succ]
  refine wpAnyH_take (i := 43) (oi := { dst := some 50, op := Op.move (Operand.tmp 49), type := 4, pos := "ref.go:49", after := #[{ on := 42, ground := Ground.data }, { on := 38, ground := Ground.chain }], guard := none }) (v := ?_) rfl (by kernel_rfl) (by kernel_rfl) (by kernel_rfl) (fun _ _ _ h => h) (Or.inl ⟨by rfl, ?_⟩) hS ?_
  rotate_left
  · (intro w0 hS0; (try dsimp only at hS0); go_simp; try with_reducible rfl)
  try simp only [Act.put, List.setIfInBounds_toArray, List.set_cons_zero, List.set_cons_succ]
  refine wpAnyH_take (i := 44) (oi := { dst := some 51, op := Op.indexAddr 121 (Operand.tmp 1) (Operand.const (Value.int IntKind.i64 5)), type := 0, pos := "ref.go:49", after := #[{ on := 43, ground := Ground.guard }], guard := some (43, false) }) (v := ?_) rfl (by kernel_rfl) (by kernel_rfl) (by kernel_rfl) (fun _ _ _ h => h) (Or.inl ⟨by rfl, ?_⟩) hS ?_
  rotate_left
  · (intro w0 hS0; (try dsimp only at hS0); go_simp; try with_reducible rfl)
  try simp only [Act.put, List.setIfInBounds_toArray, List.set_cons_zero, List.set_cons_succ]
  refine wpAnyH_take (i := 45) (oi := { dst := some 52, op := Op.load 3 (Operand.tmp 51), type := 3, pos := "ref.go:49", after := #[{ on := 44, ground := Ground.data }, { on := 43, ground := Ground.guard }], guard := some (43, false) }) (v := ?_) rfl (by kernel_rfl) (by kernel_rfl) (by kernel_rfl) (fun _ _ _ h => h) (Or.inl ⟨by rfl, ?_⟩) hS ?_
  rotate_left
  · (intro w0 hS0; (try dsimp only at hS0); go_simp; try with_reducible rfl)
  try simp only [Act.put, List.setIfInBounds_toArray, List.set_cons_zero, List.set_cons_succ]
  refine wpAnyH_take (i := 46) (oi := { dst := some 53, op := Op.binOp BinOp.lss 3 (Operand.tmp 52) (Operand.const (Value.int IntKind.i64 0)) 3, type := 4, pos := "ref.go:49", after := #[{ on := 45, ground := Ground.data }, { on := 43, ground := Ground.guard }], guard := some (43, false) }) (v := ?_) rfl (by kernel_rfl) (by kernel_rfl) (by kernel_rfl) (fun _ _ _ h => h) (Or.inl ⟨by rfl, ?_⟩) hS ?_
  rotate_left
  · (intro w0 hS0; (try dsimp only at hS0); go_simp; try with_reducible rfl)
  try simp only [Act.put, List.setIfInBounds_toArray, List.set_cons_zero, List.set_cons_succ]
  refine wpAnyH_take (i := 47) (oi := { dst := some 54, op := Op.pick (Operand.tmp 50) (Operand.const (Value.bool true)) (Operand.tmp 53), type := 4, pos := "ref.go:49", after := #[{ on := 43, ground := Ground.data }, { on := 46, ground := Ground.data }], guard := none }) (v := ?_) rfl (by kernel_rfl) (by kernel_rfl) (by kernel_rfl) (fun _ _ _ h => h) (Or.inl ⟨by rfl, ?_⟩) hS ?_
  rotate_left
  · (intro w0 hS0; (try dsimp only at hS0); go_simp; try with_reducible rfl)
  try simp only [Act.put, List.setIfInBounds_toArray, List.set_cons_zero, List.set_cons_succ]
  refine wpAnyH_take (i := 48) (oi := { dst := some 55, op := Op.move (Operand.tmp 54), type := 4, pos := "ref.go:49", after := #[{ on := 47, ground := Ground.data }, { on := 43, ground := Ground.chain }], guard := none }) (v := ?_) rfl (by kernel_rfl) (by kernel_rfl) (by kernel_rfl) (fun _ _ _ h => h) (Or.inl ⟨by rfl, ?_⟩) hS ?_
  rotate_left
  · (intro w0 hS0; (try dsimp only at hS0); go_simp; try with_reducible rfl)
  try simp only [Act.put, List.setIfInBounds_toArray, List.set_cons_zero, List.set_cons_succ]
  refine wpAnyH_take (i := 49) (oi := { dst := some 56, op := Op.indexAddr 121 (Operand.tmp 1) (Operand.const (Value.int IntKind.i64 5)), type := 0, pos := "ref.go:49", after := #[{ on := 48, ground := Ground.guard }], guard := some (48, false) }) (v := ?_) rfl (by kernel_rfl) (by kernel_rfl) (by kernel_rfl) (fun _ _ _ h => h) (Or.inl ⟨by rfl, ?_⟩) hS ?_
  rotate_left
  · (intro w0 hS0; (try dsimp only at hS0); go_simp; try with_reducible rfl)
  try simp only [Act.put, List.setIfInBounds_toArray, List.set_cons_zero, List.set_cons_succ]
  refine wpAnyH_take (i := 50) (oi := { dst := some 57, op := Op.load 3 (Operand.tmp 56), type := 3, pos := "ref.go:49", after := #[{ on := 49, ground := Ground.data }, { on := 48, ground := Ground.guard }], guard := some (48, false) }) (v := ?_) rfl (by kernel_rfl) (by kernel_rfl) (by kernel_rfl) (fun _ _ _ h => h) (Or.inl ⟨by rfl, ?_⟩) hS ?_
  rotate_left
  · (intro w0 hS0; (try dsimp only at hS0); go_simp; try with_reducible rfl)
  try simp only [Act.put, List.setIfInBounds_toArray, List.set_cons_zero, List.set_cons_succ]
  refine wpAnyH_take (i := 51) (oi := { dst := some 58, op := Op.binOp BinOp.gtr 3 (Operand.tmp 57) (Operand.const (Value.int IntKind.i64 59)) 3, type := 4, pos := "ref.go:49", after := #[{ on := 50, ground := Ground.data }, { on := 48, ground := Ground.guard }], guard := some (48, false) }) (v := ?_) rfl (by kernel_rfl) (by kernel_rfl) (by kernel_rfl) (fun _ _ _ h => h) (Or.inl ⟨by rfl, ?_⟩) hS ?_
  rotate_left
  · (intro w0 hS0; (try dsimp only at hS0); go_simp; try with_reducible rfl)
  try simp only [Act.put, List.setIfInBounds_toArray, List.set_cons_zero, List.set_cons_succ]
  refine wpAnyH_take (i := 52) (oi := { dst := some 59, op := Op.pick (Operand.tmp 55) (Operand.const (Value.bool true)) (Operand.tmp 58), type := 4, pos := "ref.go:49", after := #[{ on := 48, ground := Ground.data }, { on := 51, ground := Ground.data }], guard := none }) (v := ?_) rfl (by kernel_rfl) (by kernel_rfl) (by kernel_rfl) (fun _ _ _ h => h) (Or.inl ⟨by rfl, ?_⟩) hS ?_
  rotate_left
  · (intro w0 hS0; (try dsimp only at hS0); go_simp; try with_reducible rfl)
  try simp only [Act.put, List.setIfInBounds_toArray, List.set_cons_zero, List.set_cons_succ]
  refine wpAnyH_done (by kernel_rfl) ?_ _
  obtain ⟨⟨A2, X2⟩, -⟩ := hS
  clear b3 hb X1 A1
  have c0 := A2.cell 0
  have c1 := A2.cell 1
  have c2 := A2.cell 2
  simp at c0 c1 c2
  clear keepS t0 t1 t2 t3 t4 t5 t6 t7 t8 t9
  go_wp2_with fail
  go_loopw [4, 5] (fun n v wr => ∃ (x Y : Nat), n = .int .i64 x ∧ v = .int .i64 Y ∧ x ≤ 3000000 ∧ 1970 ≤ Y ∧ Y ≤ y ∧ Hid (jan Y + d = x + 719469) ∧ Ext w1 wr) (fun _ v _ => y - (intOf v).toNat)
  case atStart => exact ⟨d - 1, 1970, by rw [show ((d - 1 : Nat) : Int) = (d : Int) - 1 by omega], rfl, by omega, by omega, by omega, by show _ = _; rw [jan_1970]; omega, Ext.refl _⟩
  case round =>
    obtain ⟨x, Y, rfl, rfl, hx, hY0, hY1, hj, hE⟩ := hrel
    have A3 := A2.ext hE
    have c0' := A3.cell 0
    have c1' := A3.cell 1
    simp at c0' c1'
    by_cases hlt : (Y : Int) < y
    · obtain ⟨D, hD⟩ : ∃ D : Nat, D = if leap Y then 366 else 365 := ⟨_, rfl⟩
      have hyz := yearZ_nat Y
      rw [← hD] at hyz
      have hst := jan_step Y (by omega)
      rw [← hD] at hst
      have hDb : 365 ≤ D ∧ D ≤ 366 := by rw [hD]; split <;> omega
      have hj2 : Hid (jan (Y + 1) + d = (x + D) + 719469) := by show _ = _; have := hj.out; omega
      have hx2 : x + D ≤ 3000000 := by
        have h1 := hj2.out
        have h2 := jan_mono (a := Y + 1) (b := 10000) (by omega) (by omega)
        rw [jan_10000] at h2
        omega
      have HZ := Lib.hid hyz
      clear hD hst hyz
      go_wp2_with fail
      refine (ryear_any _ _).mono ?_
      rintro e w3 ⟨rfl, b3⟩
      rw [HZ.out]
      go_wp2_with fail
      go_roundw
      case rel => exact ⟨x + D, Y + 1, by go_num, by go_num, hx2, by omega, by omega, hj2, hE.trans b3⟩
      case measure => simp [intOf]; omega
    · have hYy : Y = y := by omega
      subst hYy
      obtain ⟨wo, hwo⟩ : ∃ wo : World, wo = wr := ⟨_, rfl⟩
      rw [← hwo] at hE A3 c0' c1'
      rw [← hwo]
      clear hwo hlt c0 c1 c2
      go_wp2_with fail
      go_loopw [4, 6] (fun n v wr => ∃ (z M : Nat), n = .int .i64 z ∧ v = .int .i64 M ∧ z ≤ 3001000 ∧ 1 ≤ M ∧ M ≤ m ∧ Hid (jan Y + mcum Y M + d = z + 719469) ∧ Ext wo wr) (fun _ v _ => m - (intOf v).toNat)
      case atStart => exact ⟨x, 1, rfl, rfl, by omega, by omega, by omega, by show _ = _; have := hj.out; have h1 : mcum Y 1 = 0 := (by unfold mcum; cases leap Y <;> simp); omega, Ext.refl _⟩
      case round =>
        obtain ⟨z, M, rfl, rfl, hz, hM1, hM2, hc, hE2⟩ := hrel
        have A4 := A3.ext hE2
        have c0'' := A4.cell 0
        have c1'' := A4.cell 1
        have c3'' := A4.cell 3
        have c4'' := A4.cell 4
        have c5'' := A4.cell 5
        simp at c0'' c1'' c3'' c4'' c5''
        clear c0' c1'
        by_cases hlt : (M : Int) < m
        · have hdz := daysZ_nat Y M
          have hms := mcum_step Y M hM1 (by omega)
          have hmy := mcum_mono Y (a := M + 1) (b := 13) (by omega) (by omega) (by omega)
          rw [mcum_year] at hmy
          have hml : mcum Y (M + 1) ≤ 366 := by split at hmy <;> omega
          obtain ⟨K, hK⟩ : ∃ K, K = days Y M := ⟨_, rfl⟩
          rw [← hK] at hdz hms
          have hc2 : Hid (jan Y + mcum Y (M + 1) + d = (z + K) + 719469) := by show _ = _; have := hc.out; omega
          have hz2 : z + K ≤ 3001000 := by
            have h1 := hc2.out
            have h2 := jan_mono (a := Y) (b := 10000) (by omega) (by omega)
            rw [jan_10000] at h2
            omega
          have HZ := Lib.hid hdz
          clear hK hms hdz hmy hml
          go_wp2_with fail
          refine (rdays_any _ _ _).mono ?_
          rintro e w3 ⟨rfl, b3⟩
          rw [HZ.out]
          go_wp2_with fail
          go_roundw
          case rel => exact ⟨z + K, M + 1, by go_num, by go_num, hz2, by omega, by omega, hc2, hE2.trans b3⟩
          case measure => simp [intOf]; omega
        · have hMm : M = m := by omega
          subst hMm
          clear hlt
          go_wp2_with fail
          go_returns
          exact SecRet.ok hoff b b2 hbase.out (by have := hc.out; unfold secN dayN; omega) rfl (X2.trans (hE.trans hE2))
end Go.Proofs.YtanaifobmkjpaaaDoor
