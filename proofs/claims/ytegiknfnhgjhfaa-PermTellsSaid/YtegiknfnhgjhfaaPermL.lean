/- Layer 10: the walk of the law PermLess. -/
import Derived.Test.YtegiknfnhgjhfaaPermN
namespace Go.Proofs.Ytegiknfnhgjhfaa
open Go.ChangeShapes Go.WideShapes Go.ChangeAt Go.RowKit

theorem bitOn_nat8 (x : Int) (i : Nat) (hi : i ≤ 8) : bitOn x i = ((x % 18446744073709551616).toNat).testBit i := by
  have : i = 0 ∨ i = 1 ∨ i = 2 ∨ i = 3 ∨ i = 4 ∨ i = 5 ∨ i = 6 ∨ i = 7 ∨ i = 8 := by omega
  rw [Nat.testBit_eq_decide_div_mod_eq]
  unfold bitOn
  rcases this with rfl | rfl | rfl | rfl | rfl | rfl | rfl | rfl | rfl <;> rw [Bool.eq_iff_iff, beq_iff_eq, decide_eq_true_iff] <;> omega
theorem bitOn_or8 (x y : Int) (i : Nat) (hi : i ≤ 8) : bitOn (bits .or .i64 x y) i = (bitOn x i || bitOn y i) := by
  have h : bits .or .i64 x y = IntKind.i64.wrap ((BitVec.ofInt 64 x ||| BitVec.ofInt 64 y).toNat : Int) := rfl
  rw [h, IntKind.wrap_i64, bitOn_nat8 _ i hi, bitOn_nat8 x i hi, bitOn_nat8 y i hi, ← Nat.testBit_or, ← ofInt_toNat, ← ofInt_toNat x, ← ofInt_toNat y, ← BitVec.toNat_or]
  rw [ofInt_toNat, wrap_mod _ (BitVec.ofInt 64 x ||| BitVec.ofInt 64 y).isLt]
theorem mayB_or (u g uid gid mode a b : Int) : mayB u g uid gid mode (bits .or .i64 a b) = (mayB u g uid gid mode a && mayB u g uid gid mode b) := by
  unfold mayB
  by_cases h : u = 0
  · simp [h]
  · rw [if_neg h, if_neg h, if_neg h, has_bits, has_bits, has_bits, bitOn_or8 _ _ 0 (by omega), bitOn_or8 _ _ 1 (by omega), bitOn_or8 _ _ 2 (by omega)]
    generalize part u g uid gid mode = m
    cases bitOn a 0 <;> cases bitOn a 1 <;> cases bitOn a 2 <;> cases bitOn b 0 <;> cases bitOn b 1 <;> cases bitOn b 2 <;> cases bitOn m 0 <;> cases bitOn m 1 <;> cases bitOn m 2 <;> rfl
theorem mayB_none (u g uid gid mode : Int) : mayB u g uid gid mode 0 = true := by
  rw [mayB_has, rhas_3, has_bits]
  have h0 : bitOn 0 0 = false := rfl
  have h1 : bitOn 0 1 = false := rfl
  have h2 : bitOn 0 2 = false := rfl
  rw [h0, h1, h2]; simp
theorem mayB_more (u g uid gid mode l a : Int) (h : mayB u g uid gid mode a = true) : mayB u g uid gid (bits .or .i64 mode l) a = true := by
  rw [mayB_has, rhas_3, has_bits, bitOn_div, bitOn_div, bitOn_div] at h ⊢
  have hf : fromOf u g uid gid = 6 ∨ fromOf u g uid gid = 3 ∨ fromOf u g uid gid = 0 := by
    unfold fromOf
    by_cases h1 : u = uid
    · rw [if_pos h1]; exact .inl rfl
    · rw [if_neg h1]
      by_cases h2 : g = gid
      · rw [if_pos h2]; exact .inr (.inl rfl)
      · rw [if_neg h2]; exact .inr (.inr rfl)
  rw [bitOn_or8 _ _ _ (by omega), bitOn_or8 _ _ _ (by omega), bitOn_or8 _ _ _ (by omega)]
  generalize fromOf u g uid gid = f at h ⊢
  revert h
  generalize (u == 0) = z
  generalize bitOn l (f + 0) = q0
  generalize bitOn l (f + 1) = q1
  generalize bitOn l (f + 2) = q2
  cases bitOn a 0 <;> cases bitOn a 1 <;> cases bitOn a 2 <;> cases bitOn mode (f + 0) <;> cases bitOn mode (f + 1) <;> cases bitOn mode (f + 2) <;> cases z <;> simp

set_option maxRecDepth 100000 in
set_option maxHeartbeats 4000000 in
theorem permLess_core (u g : Int) (no dev kind mode o gr mt ct ln up : Int) (dat : ByteArray) (sa : Option Addr) (sl sc : Nat) (l0 l1 l2 : Int) (w : World) :
    Calls Try.prog 4 #[.agg #[.int .i64 u, .int .i64 g], .agg #[.int .i64 no, .int .i64 dev, .int .i64 kind, .int .i64 mode, .int .i64 o, .int .i64 gr, .int .i64 mt, .int .i64 ct, .int .i64 ln, .int .i64 up, .string dat, .slice sa sl sc], .agg #[.int .i64 l0, .int .i64 l1, .int .i64 l2]] w (Ret w (.bool true)) := by
  obtain ⟨W0, hW0⟩ : ∃ W0, W0 = (((w.alloc (.cells #[.int .i64 u, .int .i64 g] 27)).alloc (.cells #[.int .i64 no, .int .i64 dev, .int .i64 kind, .int .i64 mode, .int .i64 o, .int .i64 gr, .int .i64 mt, .int .i64 ct, .int .i64 ln, .int .i64 up, .string dat, .slice sa sl sc] 30)).alloc (.cells #[.int .i64 l0, .int .i64 l1, .int .i64 l2] 31)) := ⟨_, rfl⟩
  have X0 : Ext w W0 := by rw [hW0]; exact (((Ext.refl _).alloc _).alloc _).alloc _
  have A0 : Has W0 w.heap.size (.cells #[.int .i64 u, .int .i64 g] 27) := by rw [hW0]; exact ((Has.new _ _).alloc _).alloc _
  have B0 : Has W0 (w.heap.size + 1) (.cells #[.int .i64 no, .int .i64 dev, .int .i64 kind, .int .i64 mode, .int .i64 o, .int .i64 gr, .int .i64 mt, .int .i64 ct, .int .i64 ln, .int .i64 up, .string dat, .slice sa sl sc] 30) := by rw [hW0]; have := (Has.new (w.alloc (.cells #[.int .i64 u, .int .i64 g] 27)) (.cells #[.int .i64 no, .int .i64 dev, .int .i64 kind, .int .i64 mode, .int .i64 o, .int .i64 gr, .int .i64 mt, .int .i64 ct, .int .i64 ln, .int .i64 up, .string dat, .slice sa sl sc] 30)).alloc (.cells #[.int .i64 l0, .int .i64 l1, .int .i64 l2] 31); rwa [World.size_alloc] at this
  have C0 : Has W0 (w.heap.size + 1 + 1) (.cells #[.int .i64 l0, .int .i64 l1, .int .i64 l2] 31) := by rw [hW0]; have := Has.new ((w.alloc (.cells #[.int .i64 u, .int .i64 g] 27)).alloc (.cells #[.int .i64 no, .int .i64 dev, .int .i64 kind, .int .i64 mode, .int .i64 o, .int .i64 gr, .int .i64 mt, .int .i64 ct, .int .i64 ln, .int .i64 up, .string dat, .slice sa sl sc] 30)) (.cells #[.int .i64 l0, .int .i64 l1, .int .i64 l2] 31); rwa [World.size_alloc, World.size_alloc] at this
  have m1 := Lib.hid (mayB_or u g o gr mode (bits .and .i64 l0 7) (bits .and .i64 l1 7))
  have m2 := Lib.hid (mayB_none u g o gr mode)
  have m3 := Lib.hid (mayB_more u g o gr mode l2 (bits .and .i64 l0 7))
  go_enter Try.func4, Try.ntmps4
  go_wp2_with fail
  rw [← hW0]
  clear hW0
  have cA : ∀ i, W0.cell? ⟨w.heap.size, i, none⟩ = _ := fun i => A0.cell i
  have cB : ∀ i, W0.cell? ⟨w.heap.size + 1, i, none⟩ = _ := fun i => B0.cell i
  have cC : ∀ i, W0.cell? ⟨w.heap.size + 2, i, none⟩ = _ := fun i => C0.cell i
  go_quiet (fail)
  have A1 := A0.ext ((Ext.refl _).drewN nq)
  have B1 := B0.ext ((Ext.refl _).drewN nq)
  have C1 := C0.ext ((Ext.refl _).drewN nq)
  have X1 := X0.drewN nq
  clear cA cB cC A0 B0 C0 X0
  generalize W0.drewN nq = w1 at A1 B1 C1 X1 ⊢
  have cA : ∀ i, w1.cell? ⟨w.heap.size, i, none⟩ = _ := fun i => A1.cell i
  have cB : ∀ i, w1.cell? ⟨w.heap.size + 1, i, none⟩ = _ := fun i => B1.cell i
  go_wp2_with fail
  clear cA cB
  refine (pnode_any _ _ _ _ _ _ _ _ _ _ _ _ _ _ _ _).mono ?_
  rintro e w2 ⟨rfl, b1⟩
  have A2 := A1.ext b1
  have B2 := B1.ext b1
  have C2 := C1.ext b1
  have X2 := X1.trans b1
  clear A1 B1 C1 X1
  rw [m1.out]
  have cA : ∀ i, w2.cell? ⟨w.heap.size, i, none⟩ = _ := fun i => A2.cell i
  have cB : ∀ i, w2.cell? ⟨w.heap.size + 1, i, none⟩ = _ := fun i => B2.cell i
  go_wp2_with fail
  clear cA cB
  refine (pnode_any _ _ _ _ _ _ _ _ _ _ _ _ _ _ _ _).mono ?_
  rintro e w3 ⟨rfl, b2⟩
  have A3 := A2.ext b2
  have B3 := B2.ext b2
  have C3 := C2.ext b2
  have X3 := X2.trans b2
  clear A2 B2 C2 X2
  cases ha : mayB u g o gr mode (bits .and .i64 l0 7) with
  | false =>
    have hA : Hid (mayB u g o gr mode (bits .and .i64 l0 7) = false) := ha
    clear ha
    have cA : ∀ i, w3.cell? ⟨w.heap.size, i, none⟩ = _ := fun i => A3.cell i
    have cB : ∀ i, w3.cell? ⟨w.heap.size + 1, i, none⟩ = _ := fun i => B3.cell i
    go_wp2_with fail
    clear cA cB
    refine (pnode_any _ _ _ _ _ _ _ _ _ _ _ _ _ _ _ _).mono ?_
    rintro e w4 ⟨rfl, b3⟩
    have A4 := A3.ext b3
    have B4 := B3.ext b3
    have C4 := C3.ext b3
    have X4 := X3.trans b3
    clear A3 B3 C3 X3
    rw [m2.out]
    have cA : ∀ i, w4.cell? ⟨w.heap.size, i, none⟩ = _ := fun i => A4.cell i
    have cB : ∀ i, w4.cell? ⟨w.heap.size + 1, i, none⟩ = _ := fun i => B4.cell i
    have cC : ∀ i, w4.cell? ⟨w.heap.size + 1 + 1, i, none⟩ = _ := fun i => C4.cell i
    have zA := A4.lt
    have zB := B4.lt
    have zC := C4.lt
    go_wp2_with fail
    clear cA cB cC
    refine (pnode_any _ _ _ _ _ _ _ _ _ _ _ _ _ _ _ _).mono ?_
    rintro e w5 ⟨rfl, b4⟩
    have A5 := (A4.alloc _).ext b4
    have D5 := (Has.new _ _).ext b4
    have X5 := (X4.alloc _).trans b4
    clear zA zB zC
    rw [hA.out]
    go_wp2_with fail
    refine (awake10 _).mono ?_
    rintro e w6 ⟨rfl, b5⟩
    go_wp2_with fail
    go_ret
    exact Ret.mk rfl (X5.trans b5)
  | true =>
    have hA : Hid (mayB u g o gr mode (bits .and .i64 l0 7) = true) := ha
    clear ha
    have cA : ∀ i, w3.cell? ⟨w.heap.size, i, none⟩ = _ := fun i => A3.cell i
    have cB : ∀ i, w3.cell? ⟨w.heap.size + 1, i, none⟩ = _ := fun i => B3.cell i
    go_wp2_with fail
    clear cA cB
    refine (pnode_any _ _ _ _ _ _ _ _ _ _ _ _ _ _ _ _).mono ?_
    rintro e w4 ⟨rfl, b3⟩
    have A4 := A3.ext b3
    have B4 := B3.ext b3
    have C4 := C3.ext b3
    have X4 := X3.trans b3
    clear A3 B3 C3 X3
    cases hb : mayB u g o gr mode (bits .and .i64 l1 7) with
    | false =>
      clear hb
      have cA : ∀ i, w4.cell? ⟨w.heap.size, i, none⟩ = _ := fun i => A4.cell i
      have cB : ∀ i, w4.cell? ⟨w.heap.size + 1, i, none⟩ = _ := fun i => B4.cell i
      go_wp2_with fail
      clear cA cB
      refine (pnode_any _ _ _ _ _ _ _ _ _ _ _ _ _ _ _ _).mono ?_
      rintro e w5 ⟨rfl, b4⟩
      have A5 := A4.ext b4
      have B5 := B4.ext b4
      have C5 := C4.ext b4
      have X5 := X4.trans b4
      clear A4 B4 C4 X4
      rw [m2.out]
      have cA : ∀ i, w5.cell? ⟨w.heap.size, i, none⟩ = _ := fun i => A5.cell i
      have cB : ∀ i, w5.cell? ⟨w.heap.size + 1, i, none⟩ = _ := fun i => B5.cell i
      have cC : ∀ i, w5.cell? ⟨w.heap.size + 1 + 1, i, none⟩ = _ := fun i => C5.cell i
      have zA := A5.lt
      have zB := B5.lt
      have zC := C5.lt
      go_wp2_with fail
      clear cA cB cC
      refine (pnode_any _ _ _ _ _ _ _ _ _ _ _ _ _ _ _ _).mono ?_
      rintro e w6 ⟨rfl, b5⟩
      have A6 := (A5.alloc _).ext b5
      have D6 := (Has.new _ _).ext b5
      have X6 := (X5.alloc _).trans b5
      clear zA zB zC
      rw [hA.out]
      have cA : ∀ i, w6.cell? ⟨w.heap.size, i, none⟩ = _ := fun i => A6.cell i
      have cD : ∀ i, w6.cell? ⟨w5.heap.size, i, none⟩ = _ := fun i => D6.cell i
      go_wp2_with fail
      clear cA cD
      refine (pnode_any _ _ _ _ _ _ _ _ _ _ _ _ _ _ _ _).mono ?_
      rintro e w7 ⟨rfl, b6⟩
      rw [m3.out hA.out]
      have X7 := X6.trans b6
      go_wp2_with fail
      refine (awake10 _).mono ?_
      rintro e w8 ⟨rfl, b7⟩
      go_wp2_with fail
      go_ret
      exact Ret.mk rfl (X7.trans b7)
    | true =>
      clear hb
      have cA : ∀ i, w4.cell? ⟨w.heap.size, i, none⟩ = _ := fun i => A4.cell i
      have cB : ∀ i, w4.cell? ⟨w.heap.size + 1, i, none⟩ = _ := fun i => B4.cell i
      go_wp2_with fail
      clear cA cB
      refine (pnode_any _ _ _ _ _ _ _ _ _ _ _ _ _ _ _ _).mono ?_
      rintro e w5 ⟨rfl, b4⟩
      have A5 := A4.ext b4
      have B5 := B4.ext b4
      have C5 := C4.ext b4
      have X5 := X4.trans b4
      clear A4 B4 C4 X4
      rw [m2.out]
      have cA : ∀ i, w5.cell? ⟨w.heap.size, i, none⟩ = _ := fun i => A5.cell i
      have cB : ∀ i, w5.cell? ⟨w.heap.size + 1, i, none⟩ = _ := fun i => B5.cell i
      have cC : ∀ i, w5.cell? ⟨w.heap.size + 1 + 1, i, none⟩ = _ := fun i => C5.cell i
      have zA := A5.lt
      have zB := B5.lt
      have zC := C5.lt
      go_wp2_with fail
      clear cA cB cC
      refine (pnode_any _ _ _ _ _ _ _ _ _ _ _ _ _ _ _ _).mono ?_
      rintro e w6 ⟨rfl, b5⟩
      have A6 := (A5.alloc _).ext b5
      have D6 := (Has.new _ _).ext b5
      have X6 := (X5.alloc _).trans b5
      clear zA zB zC
      rw [hA.out]
      have cA : ∀ i, w6.cell? ⟨w.heap.size, i, none⟩ = _ := fun i => A6.cell i
      have cD : ∀ i, w6.cell? ⟨w5.heap.size, i, none⟩ = _ := fun i => D6.cell i
      go_wp2_with fail
      clear cA cD
      refine (pnode_any _ _ _ _ _ _ _ _ _ _ _ _ _ _ _ _).mono ?_
      rintro e w7 ⟨rfl, b6⟩
      rw [m3.out hA.out]
      have X7 := X6.trans b6
      go_wp2_with fail
      refine (awake10 _).mono ?_
      rintro e w8 ⟨rfl, b7⟩
      go_wp2_with fail
      go_ret
      exact Ret.mk rfl (X7.trans b7)
end Go.Proofs.Ytegiknfnhgjhfaa
