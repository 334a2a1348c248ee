/- Layer 10: the reference's functions return what the program's do; a node's fields. -/
import Derived.Test.YtegiknfnhgjhfaaPermB
namespace Go.Proofs.Ytegiknfnhgjhfaa
open Go.ChangeShapes Go.WideShapes Go.ChangeAt Go.RowKit

/-! ### Bits, plain. -/
theorem bitOn_nat (x : Int) (i : Nat) (hi : i ≤ 2) : bitOn x i = ((x % 18446744073709551616).toNat).testBit i := by
  have : i = 0 ∨ i = 1 ∨ i = 2 := by omega
  rw [Nat.testBit_eq_decide_div_mod_eq]
  unfold bitOn
  rcases this with rfl | rfl | rfl <;> rw [Bool.eq_iff_iff, beq_iff_eq, decide_eq_true_iff] <;> omega
theorem mod8_bits (x : Int) : x % 8 = (if bitOn x 0 = true then 1 else 0) + (if bitOn x 1 = true then 2 else 0) + (if bitOn x 2 = true then 4 else 0) := by
  unfold bitOn
  simp only [beq_iff_eq]
  split <;> split <;> split <;> omega
theorem wrap_mod (n : Nat) (h : n < 2 ^ 64) : ((((n : Int) + 9223372036854775808) % 18446744073709551616 - 9223372036854775808) % 18446744073709551616).toNat = n := by omega
theorem bitOn_and (x y : Int) (i : Nat) (hi : i ≤ 2) : bitOn (bits .and .i64 x y) i = (bitOn x i && bitOn y i) := by
  have h : bits .and .i64 x y = IntKind.i64.wrap ((BitVec.ofInt 64 x &&& BitVec.ofInt 64 y).toNat : Int) := rfl
  rw [h, IntKind.wrap_i64, bitOn_nat _ i hi, bitOn_nat x i hi, bitOn_nat y i hi, ← Nat.testBit_and, ← ofInt_toNat, ← ofInt_toNat x, ← ofInt_toNat y, ← BitVec.toNat_and]
  rw [ofInt_toNat, wrap_mod _ (BitVec.ofInt 64 x &&& BitVec.ofInt 64 y).isLt]
theorem bitOn_or (x y : Int) (i : Nat) (hi : i ≤ 2) : bitOn (bits .or .i64 x y) i = (bitOn x i || bitOn y i) := by
  have h : bits .or .i64 x y = IntKind.i64.wrap ((BitVec.ofInt 64 x ||| BitVec.ofInt 64 y).toNat : Int) := rfl
  rw [h, IntKind.wrap_i64, bitOn_nat _ i hi, bitOn_nat x i hi, bitOn_nat y i hi, ← Nat.testBit_or, ← ofInt_toNat, ← ofInt_toNat x, ← ofInt_toNat y, ← BitVec.toNat_or]
  rw [ofInt_toNat, wrap_mod _ (BitVec.ofInt 64 x ||| BitVec.ofInt 64 y).isLt]
/-- 'has', bit by bit. -/
theorem has_bits (m want : Int) : has m want = ((!bitOn want 0 || bitOn m 0) && ((!bitOn want 1 || bitOn m 1) && (!bitOn want 2 || bitOn m 2))) := by
  unfold has
  rw [and_7, and_7, mod8_bits, mod8_bits want, bitOn_and _ _ 0 (by omega), bitOn_and _ _ 1 (by omega), bitOn_and _ _ 2 (by omega)]
  cases bitOn want 0 <;> cases bitOn want 1 <;> cases bitOn want 2 <;> cases bitOn m 0 <;> cases bitOn m 1 <;> cases bitOn m 2 <;> rfl
theorem bitOn_div (m : Int) (k i : Nat) : bitOn (m / 2 ^ k) i = bitOn m (k + i) := by
  unfold bitOn
  rw [Int.pow_add, Int.ediv_ediv_of_nonneg (Int.le_of_lt (Int.pow_pos (by decide)))]
theorem div_half (m : Int) (k : Nat) : m / 2 ^ k / 2 = m / 2 ^ (k + 1) := by
  rw [Int.ediv_ediv_of_nonneg (Int.le_of_lt (Int.pow_pos (by decide))), Int.pow_succ]

/-! ### The reference's Bit. -/
set_option maxHeartbeats 400000 in
theorem rbit_nat (mode : Int) (n : Nat) (w : World) (hn : n ≤ 1000) : Calls Try.prog 50 #[.int .i64 mode, .int .i64 n] w (Ret w (.bool (bitOn mode n))) := by
  go_enter Try.func50, Try.ntmps50
  go_wp2_with fail
  go_loop [0, 5] (fun m i => ∃ k : Nat, k ≤ n ∧ i = .int .i64 k ∧ m = .int .i64 (mode / 2 ^ k)) (fun _ i => n - (intOf i).toNat)
  case atStart => exact ⟨0, by omega, rfl, by simp⟩
  case round =>
    obtain ⟨k, hk, rfl, rfl⟩ := hrel
    by_cases hlt : k < n
    · have hd := Lib.hid (div_half mode k)
      go_wp2_with fail
      go_round
      case rel => exact ⟨k + 1, by omega, by go_num, by rw [← hd.out]⟩
      case measure => simp [intOf]; omega
    · obtain rfl : k = n := by omega
      have hfin := Lib.hid (bit_and mode k)
      go_wp2_with fail
      go_ret
      exact Ret.mk (by rw [hfin.out]; rfl) (Ext.refl _)
theorem rbit_any (mode at_ : Int) (w : World) (h0 : 0 ≤ at_) (h1 : at_ ≤ 1000) : Calls Try.prog 50 #[.int .i64 mode, .int .i64 at_] w (Ret w (.bool (bitOn mode at_.toNat))) := by
  obtain ⟨n, rfl⟩ := Int.eq_ofNat_of_zero_le h0
  exact rbit_nat mode n w (by omega)

/-! ### The reference's May. -/
def rhas (m want : Int) (f : Nat) (k : Nat) : Bool := (List.range k).all fun j => !bitOn want j || bitOn m (f + j)
theorem rhas_succ (m want : Int) (f k : Nat) : rhas m want f (k + 1) = (rhas m want f k && (!bitOn want k || bitOn m (f + k))) := by
  simp [rhas, List.range_succ]
theorem rhas_3 (m want : Int) (f : Nat) : rhas m want f 3 = has (m / 2 ^ f) want := by
  rw [has_bits, bitOn_div, bitOn_div, bitOn_div]; simp [rhas, List.range, List.range.loop]
theorem rhas_mono (m want : Int) (f : Nat) : ∀ k j, rhas m want f (k + j) = true → rhas m want f k = true
  | _, 0, h => h
  | k, j + 1, h => rhas_mono m want f k j (by rw [← Nat.add_assoc, rhas_succ] at h; simp at h; exact h.1)
def fromOf (u g uid gid : Int) : Nat := if u = uid then 6 else if g = gid then 3 else 0
theorem mayB_has (u g uid gid mode want : Int) : mayB u g uid gid mode want = (u == 0 || rhas mode want (fromOf u g uid gid) 3) := by
  rw [rhas_3]; unfold mayB part fromOf
  by_cases h0 : u = 0
  · rw [if_pos h0]; simp [h0]
  · rw [if_neg h0, beq_eq_false_iff_ne.2 h0, Bool.false_or]
    split
    · rfl
    · split <;> simp
theorem mayB_true {u g uid gid mode want : Int} (h : rhas mode want (fromOf u g uid gid) 3 = true) : mayB u g uid gid mode want = true := by rw [mayB_has, h]; simp
theorem mayB_zero {u g uid gid mode want : Int} {k : Nat} (hk : k < 3) (h : (bitOn want k && !bitOn mode (fromOf u g uid gid + k)) = true) : mayB u g uid gid mode want = (u == 0) := by
  have : rhas mode want (fromOf u g uid gid) 3 = false := by
    cases hh : rhas mode want (fromOf u g uid gid) 3 with
    | false => rfl
    | true =>
      have h1 := rhas_mono mode want (fromOf u g uid gid) (k + 1) (3 - (k + 1)) (by rw [show k + 1 + (3 - (k + 1)) = 3 from by omega]; exact hh)
      rw [rhas_succ] at h1
      simp at h1 h
      rcases h1.2 with h2 | h2
      · rw [h.1] at h2; cases h2
      · rw [h.2] at h2; cases h2
  rw [mayB_has, this]; simp

set_option maxRecDepth 100000 in
set_option maxHeartbeats 2000000 in
theorem rmay_any (u g uid gid mode want : Int) (w : World) :
    Calls Try.prog 49 #[.agg #[.int .i64 u, .int .i64 g], .int .i64 uid, .int .i64 gid, .int .i64 mode, .int .i64 want] w (Ret w (.bool (mayB u g uid gid mode want))) := by
  have A0 : Has (w.alloc (.cells #[.int .i64 u, .int .i64 g] 27)) w.heap.size (.cells #[.int .i64 u, .int .i64 g] 27) := Has.new _ _
  by_cases h1 : u = uid
  · have hfr : Hid (fromOf u g uid gid = 6) := by show _ = _; unfold fromOf; rw [if_pos h1]
    have b1 : (u == uid) = true := beq_iff_eq.2 h1
    clear h1
    go_enter Try.func49, Try.ntmps49
    go_wp2_with fail
    go_loopw [12] (fun i wr => ∃ k : Nat, k ≤ 3 ∧ i = .int .i64 k ∧ Hid (rhas mode want 6 k = true) ∧ Ext (w.alloc (.cells #[.int .i64 u, .int .i64 g] 27)) wr) (fun i _ => 3 - (intOf i).toNat)
    case atStart => exact ⟨0, by omega, rfl, rfl, Ext.refl _⟩
    case round =>
      obtain ⟨k, hk, rfl, hr, hx⟩ := hrel
      by_cases hlt : k < 3
      · go_wp2_with fail
        refine (rbit_any _ _ _ (by omega) (by omega)).mono ?_
        rintro e w1 ⟨rfl, b1⟩
        rw [Int.toNat_natCast]
        cases hw : bitOn want k with
        | false =>
          have hs : Hid (rhas mode want 6 (k + 1) = true) := by show _ = _; rw [rhas_succ, hr.out, hw]; rfl
          clear hw
          go_wp2_with fail
          go_roundw
          case rel => exact ⟨k + 1, by omega, by go_num, hs, hx.trans b1⟩
          case measure => simp [intOf]; omega
        | true =>
          have hW : Hid (bitOn want k = true) := hw
          clear hw
          go_wp2_with fail
          refine (rbit_any _ _ _ (by omega) (by omega)).mono ?_
          rintro e w2 ⟨rfl, b2⟩
          rw [show (6 + (k : Int)).toNat = 6 + k from by omega]
          cases hm : bitOn mode (6 + k) with
          | true =>
            have hs : Hid (rhas mode want 6 (k + 1) = true) := by show _ = _; rw [rhas_succ, hr.out, hm]; simp
            clear hm
            go_wp2_with fail
            go_roundw
            case rel => exact ⟨k + 1, by omega, by go_num, hs, (hx.trans b1).trans b2⟩
            case measure => simp [intOf]; omega
          | false =>
            have hs : Hid (mayB u g uid gid mode want = (u == 0)) := by show _ = _; refine mayB_zero (k := k) hlt ?_; rw [hfr.out, hW.out, hm]; rfl
            clear hm
            have A1 := ((A0.ext hx).ext b1).ext b2
            have hc : ∀ i, w2.cell? ⟨w.heap.size, i, none⟩ = _ := fun i => A1.cell i
            go_wp2_with fail
            go_ret
            exact Ret.mk (by rw [hs.out]; rfl) ((((Ext.refl _).alloc _).trans hx).trans (b1.trans b2))
      · obtain rfl : k = 3 := by omega
        have hs : Hid (mayB u g uid gid mode want = true) := by show _ = _; refine mayB_true ?_; rw [hfr.out]; exact hr.out
        go_wp2_with fail
        go_ret
        exact Ret.mk (by rw [hs.out]; rfl) (((Ext.refl _).alloc _).trans hx)
  · have b1 : (u == uid) = false := beq_eq_false_iff_ne.2 h1
    by_cases h2 : g = gid
    · have hfr : Hid (fromOf u g uid gid = 3) := by show _ = _; unfold fromOf; rw [if_neg h1, if_pos h2]
      have b2 : (g == gid) = true := beq_iff_eq.2 h2
      clear h1 h2
      go_enter Try.func49, Try.ntmps49
      go_wp2_with fail
      go_loopw [12] (fun i wr => ∃ k : Nat, k ≤ 3 ∧ i = .int .i64 k ∧ Hid (rhas mode want 3 k = true) ∧ Ext (w.alloc (.cells #[.int .i64 u, .int .i64 g] 27)) wr) (fun i _ => 3 - (intOf i).toNat)
      case atStart => exact ⟨0, by omega, rfl, rfl, Ext.refl _⟩
      case round =>
        obtain ⟨k, hk, rfl, hr, hx⟩ := hrel
        by_cases hlt : k < 3
        · go_wp2_with fail
          refine (rbit_any _ _ _ (by omega) (by omega)).mono ?_
          rintro e w1 ⟨rfl, b1⟩
          rw [Int.toNat_natCast]
          cases hw : bitOn want k with
          | false =>
            have hs : Hid (rhas mode want 3 (k + 1) = true) := by show _ = _; rw [rhas_succ, hr.out, hw]; rfl
            clear hw
            go_wp2_with fail
            go_roundw
            case rel => exact ⟨k + 1, by omega, by go_num, hs, hx.trans b1⟩
            case measure => simp [intOf]; omega
          | true =>
            have hW : Hid (bitOn want k = true) := hw
            clear hw
            go_wp2_with fail
            refine (rbit_any _ _ _ (by omega) (by omega)).mono ?_
            rintro e w2 ⟨rfl, b2⟩
            rw [show (3 + (k : Int)).toNat = 3 + k from by omega]
            cases hm : bitOn mode (3 + k) with
            | true =>
              have hs : Hid (rhas mode want 3 (k + 1) = true) := by show _ = _; rw [rhas_succ, hr.out, hm]; simp
              clear hm
              go_wp2_with fail
              go_roundw
              case rel => exact ⟨k + 1, by omega, by go_num, hs, (hx.trans b1).trans b2⟩
              case measure => simp [intOf]; omega
            | false =>
              have hs : Hid (mayB u g uid gid mode want = (u == 0)) := by show _ = _; refine mayB_zero (k := k) hlt ?_; rw [hfr.out, hW.out, hm]; rfl
              clear hm
              have A1 := ((A0.ext hx).ext b1).ext b2
              have hc : ∀ i, w2.cell? ⟨w.heap.size, i, none⟩ = _ := fun i => A1.cell i
              go_wp2_with fail
              go_ret
              exact Ret.mk (by rw [hs.out]; rfl) ((((Ext.refl _).alloc _).trans hx).trans (b1.trans b2))
        · obtain rfl : k = 3 := by omega
          have hs : Hid (mayB u g uid gid mode want = true) := by show _ = _; refine mayB_true ?_; rw [hfr.out]; exact hr.out
          go_wp2_with fail
          go_ret
          exact Ret.mk (by rw [hs.out]; rfl) (((Ext.refl _).alloc _).trans hx)
    · have hfr : Hid (fromOf u g uid gid = 0) := by show _ = _; unfold fromOf; rw [if_neg h1, if_neg h2]
      have b2 : (g == gid) = false := beq_eq_false_iff_ne.2 h2
      clear h1 h2
      go_enter Try.func49, Try.ntmps49
      go_wp2_with fail
      go_loopw [12] (fun i wr => ∃ k : Nat, k ≤ 3 ∧ i = .int .i64 k ∧ Hid (rhas mode want 0 k = true) ∧ Ext (w.alloc (.cells #[.int .i64 u, .int .i64 g] 27)) wr) (fun i _ => 3 - (intOf i).toNat)
      case atStart => exact ⟨0, by omega, rfl, rfl, Ext.refl _⟩
      case round =>
        obtain ⟨k, hk, rfl, hr, hx⟩ := hrel
        by_cases hlt : k < 3
        · go_wp2_with fail
          refine (rbit_any _ _ _ (by omega) (by omega)).mono ?_
          rintro e w1 ⟨rfl, b1⟩
          rw [Int.toNat_natCast]
          cases hw : bitOn want k with
          | false =>
            have hs : Hid (rhas mode want 0 (k + 1) = true) := by show _ = _; rw [rhas_succ, hr.out, hw]; rfl
            clear hw
            go_wp2_with fail
            go_roundw
            case rel => exact ⟨k + 1, by omega, by go_num, hs, hx.trans b1⟩
            case measure => simp [intOf]; omega
          | true =>
            have hW : Hid (bitOn want k = true) := hw
            clear hw
            go_wp2_with fail
            refine (rbit_any _ _ _ (by omega) (by omega)).mono ?_
            rintro e w2 ⟨rfl, b2⟩
            rw [show ((k : Int)).toNat = 0 + k from by omega]
            cases hm : bitOn mode (0 + k) with
            | true =>
              have hs : Hid (rhas mode want 0 (k + 1) = true) := by show _ = _; rw [rhas_succ, hr.out, hm]; simp
              clear hm
              go_wp2_with fail
              go_roundw
              case rel => exact ⟨k + 1, by omega, by go_num, hs, (hx.trans b1).trans b2⟩
              case measure => simp [intOf]; omega
            | false =>
              have hs : Hid (mayB u g uid gid mode want = (u == 0)) := by show _ = _; refine mayB_zero (k := k) hlt ?_; rw [hfr.out, hW.out, hm]; rfl
              clear hm
              have A1 := ((A0.ext hx).ext b1).ext b2
              have hc : ∀ i, w2.cell? ⟨w.heap.size, i, none⟩ = _ := fun i => A1.cell i
              go_wp2_with fail
              go_ret
              exact Ret.mk (by rw [hs.out]; rfl) ((((Ext.refl _).alloc _).trans hx).trans (b1.trans b2))
        · obtain rfl : k = 3 := by omega
          have hs : Hid (mayB u g uid gid mode want = true) := by show _ = _; refine mayB_true ?_; rw [hfr.out]; exact hr.out
          go_wp2_with fail
          go_ret
          exact Ret.mk (by rw [hs.out]; rfl) (((Ext.refl _).alloc _).trans hx)
end Go.Proofs.Ytegiknfnhgjhfaa
