/- Layer 10 (perm): what each function returns, for all arguments. -/
import Derived.Test.YtegiknfnhgjhfaaBase
namespace Go.Proofs.Ytegiknfnhgjhfaa
open Go.ChangeShapes Go.WideShapes Go.ChangeAt Go.RowKit

/-! ### The plain functions. -/
def bitOn (m : Int) (i : Nat) : Bool := m / 2 ^ i % 2 == 1
def kindLetter (kind : Int) : Int := if kind = 1 then 100 else if kind = 2 then 45 else if kind = 3 then 108 else 63
def rwx (j : Nat) : Int := if j % 3 = 0 then 114 else if j % 3 = 1 then 119 else 120
/-- Letter j of ten behind k rounds. -/
def letterAt (kind mode : Int) (k j : Nat) : Int := if j = 0 then kindLetter kind else if j ≤ k ∧ bitOn mode (9 - j) = true then rwx (j - 1) else 45
def lettersAt (kind mode : Int) (k : Nat) : List Int := (List.range 10).map (letterAt kind mode k)
def lettersOf (kind mode : Int) : List Int := if bitOn mode 9 = true then (lettersAt kind mode 9).set 9 (if bitOn mode 0 = true then 116 else 84) else lettersAt kind mode 9
attribute [local go_sem] World.cell?_alloc_mark World.frozen?_alloc_mark setCell_mark
theorem lettersAt_len (kind mode : Int) (k : Nat) : (lettersAt kind mode k).length = 10 := by simp [lettersAt]
theorem lettersAt_get (kind mode : Int) (k j : Nat) (hj : j < 10) : (lettersAt kind mode k).getD j 0 = letterAt kind mode k j := by
  simp [lettersAt, List.getD, hj]
theorem bit_and (mode : Int) (i : Nat) : (bits BinOp.and IntKind.i64 (mode / 2 ^ i) 1 == 1) = bitOn mode i := by rw [and_1]; rfl
theorem lettersAt_skip (kind mode : Int) (k : Nat) (h : bitOn mode (8 - k) = false) : lettersAt kind mode (k + 1) = lettersAt kind mode k := by
  unfold lettersAt
  refine List.map_congr_left fun j hj => ?_
  unfold letterAt
  by_cases h0 : j = 0
  · simp [h0]
  · rw [if_neg h0, if_neg h0]
    by_cases h1 : j = k + 1
    · subst h1
      rw [if_neg, if_neg (by omega)]
      rw [show 9 - (k + 1) = 8 - k from by omega, h]; simp
    · have : (j ≤ k + 1) ↔ j ≤ k := by omega
      simp only [this]
theorem rwx_get (k : Nat) (h : k % 3 < 3) : (((⟨#[114, 119, 120]⟩ : ByteArray)[k % 3]'h).toNat : Int) = rwx k := by
  have : k % 3 = 0 ∨ k % 3 = 1 ∨ k % 3 = 2 := by omega
  unfold rwx
  rcases this with e | e | e <;> simp only [e] <;> rfl
theorem lettersAt_put (kind mode : Int) (k : Nat) (h : bitOn mode (8 - k) = true) (hk : k < 9) : (lettersAt kind mode k).set (k + 1) (rwx k) = lettersAt kind mode (k + 1) := by
  apply List.ext_getElem
  · simp [lettersAt]
  · intro j h1 h2
    simp only [lettersAt, List.length_map, List.length_range] at h2
    simp only [List.getElem_set, lettersAt, List.getElem_map, List.getElem_range]
    unfold letterAt
    by_cases h0 : k + 1 = j
    · subst h0
      rw [if_pos rfl, if_neg (by omega), if_pos ⟨by omega, by rw [show 9 - (k + 1) = 8 - k from by omega]; exact h⟩]; rfl
    · rw [if_neg h0]
      have : (j ≤ k + 1) ↔ j ≤ k := by omega
      simp only [this]
theorem cells_put (kind mode : Int) (k : Nat) (h : bitOn mode (8 - k) = true) (hk : k < 9) (h3 : k % 3 < 3) :
    (bytesArr (lettersAt kind mode k)).setIfInBounds (k + 1) (.int .u8 (((⟨#[114, 119, 120]⟩ : ByteArray)[k % 3]'h3).toNat : Int)) = bytesArr (lettersAt kind mode (k + 1)) := by
  rw [rwx_get, bytesArr_set, lettersAt_put kind mode k h hk]
theorem lettersOf_no (kind mode : Int) (h : bitOn mode 9 = false) : lettersOf kind mode = lettersAt kind mode 9 := by unfold lettersOf; rw [if_neg (by simp [h])]
theorem lettersOf_yes (kind mode : Int) (x : Int) (h : bitOn mode 9 = true) (hx : x = if bitOn mode 0 = true then 116 else 84) : lettersOf kind mode = (lettersAt kind mode 9).set 9 x := by
  unfold lettersOf; rw [if_pos h, hx]

theorem sticky_and (mode : Int) : (bits BinOp.and IntKind.i64 mode 512 != 0) = bitOn mode 9 := by
  rw [and_512]; unfold bitOn
  have h : mode / 512 % 2 = 0 ∨ mode / 512 % 2 = 1 := by omega
  rcases h with h | h <;> simp [h]
theorem lettersAt_none (kind mode : Int) (h : ¬ (1 ≤ kind ∧ kind ≤ 3)) : lettersAt kind mode 0 = [63, 45, 45, 45, 45, 45, 45, 45, 45, 45] := by
  have : kindLetter kind = 63 := by unfold kindLetter; rw [if_neg (by omega), if_neg (by omega), if_neg (by omega)]
  simp [lettersAt, letterAt, this, List.range, List.range.loop]

set_option maxRecDepth 100000 in
set_option maxHeartbeats 1000000 in
theorem text_any (kind mode : Int) (w : World) :
    Calls Try.prog 13 #[.int .i64 kind, .int .i64 mode] w (Ret w (.string (strOfNums (lettersOf kind mode)))) := by
  have kc := fun (w : World) (C : Array Value) (n c : Nat) => Lib.run_convert_bytes_const (P := Try.prog) w 63 5 C n c Try.underlying63 Try.underlying5
  by_cases hk : 1 ≤ kind ∧ kind ≤ 3
  · obtain ⟨ha, hb⟩ := hk
    have hi : kind = 1 ∨ kind = 2 ∨ kind = 3 := by omega
    clear ha hb
    rcases hi with rfl | rfl | rfl
    · go_enter Try.func13, Try.ntmps13
      go_wp2_with fail
      clear kc
      go_loopw [20] (fun i wr => ∃ k : Nat, k ≤ 9 ∧ i = .int .i64 k ∧ wr = w.alloc (.cells (bytesArr (lettersAt 1 mode k)) 5 (10, 11))) (fun i _ => 9 - (intOf i).toNat)
      case atStart => exact ⟨0, by omega, rfl, by rfl⟩
      case round =>
        obtain ⟨k, hk, rfl, rfl⟩ := hrel
        by_cases hlt : k < 9
        · have hget := bytesArr_get (lettersAt 1 mode k) (k + 1) (by rw [lettersAt_len]; omega)
          cases hb : bitOn mode (8 - k) with
          | true =>
            have hbit : (bits BinOp.and IntKind.i64 (mode / 2 ^ (8 - k)) 1 == 1) = true := by rw [bit_and]; exact hb
            have hput := cells_put 1 mode k hb hlt (by omega)
            clear hb
            go_wp2_with fail
            go_roundw
            case rel => exact ⟨k + 1, by omega, by go_num, rfl⟩
            case measure => simp [intOf]; omega
          | false =>
            have hbit : (bits BinOp.and IntKind.i64 (mode / 2 ^ (8 - k)) 1 == 1) = false := by rw [bit_and]; exact hb
            have hskip := Lib.hid (lettersAt_skip 1 mode k hb)
            clear hb
            go_wp2_with fail
            go_roundw
            case rel => exact ⟨k + 1, by omega, by go_num, by rw [hskip.out]⟩
            case measure => simp [intOf]; omega
        · obtain rfl : k = 9 := by omega
          have hget := bytesArr_get (lettersAt 1 mode 9) 9 (by rw [lettersAt_len]; omega)
          cases hb : bitOn mode 9 with
          | false =>
            have h512 : (bits BinOp.and IntKind.i64 mode 512 != 0) = false := by rw [sticky_and]; exact hb
            have hfin := Lib.hid (lettersOf_no 1 mode hb)
            have hcv := convert_block (P := Try.prog) w 63 9 5 Try.underlying63 Try.underlying5 Try.underlying9 (lettersAt 1 mode 9) 10 10 (lettersAt_len _ _ _) (10, 11)
            clear hb
            go_wp2_with fail
            go_ret
            exact Ret.mk (by rw [hfin.out]; rfl) ((Ext.refl _).alloc _)
          | true =>
            have h512 : (bits BinOp.and IntKind.i64 mode 512 != 0) = true := by rw [sticky_and]; exact hb
            have h2 : mode % 2 = 0 ∨ mode % 2 = 1 := by omega
            rcases h2 with h2 | h2
            · have h1 : bits BinOp.and IntKind.i64 mode 1 = 0 := by rw [and_1]; exact h2
              have hfin := Lib.hid (lettersOf_yes 1 mode 84 hb (by unfold bitOn; simp [h2]))
              have hset := bytesArr_set (lettersAt 1 mode 9) 9 84
              have hidx : (((⟨#[84, 116]⟩ : ByteArray)[0]'(by decide)).toNat : Int) = 84 := rfl
              have hcv := convert_block (P := Try.prog) w 63 9 5 Try.underlying63 Try.underlying5 Try.underlying9 ((lettersAt 1 mode 9).set 9 84) 10 10 (by rw [List.length_set]; exact lettersAt_len _ _ _) (10, 11)
              clear hb h2
              go_wp2_with fail
              go_ret
              exact Ret.mk (by rw [hfin.out]; rfl) ((Ext.refl _).alloc _)
            · have h1 : bits BinOp.and IntKind.i64 mode 1 = 1 := by rw [and_1]; exact h2
              have hfin := Lib.hid (lettersOf_yes 1 mode 116 hb (by unfold bitOn; simp [h2]))
              have hset := bytesArr_set (lettersAt 1 mode 9) 9 116
              have hidx : (((⟨#[84, 116]⟩ : ByteArray)[1]'(by decide)).toNat : Int) = 116 := rfl
              have hcv := convert_block (P := Try.prog) w 63 9 5 Try.underlying63 Try.underlying5 Try.underlying9 ((lettersAt 1 mode 9).set 9 116) 10 10 (by rw [List.length_set]; exact lettersAt_len _ _ _) (10, 11)
              clear hb h2
              go_wp2_with fail
              go_ret
              exact Ret.mk (by rw [hfin.out]; rfl) ((Ext.refl _).alloc _)
    · go_enter Try.func13, Try.ntmps13
      go_wp2_with fail
      clear kc
      go_loopw [20] (fun i wr => ∃ k : Nat, k ≤ 9 ∧ i = .int .i64 k ∧ wr = w.alloc (.cells (bytesArr (lettersAt 2 mode k)) 5 (10, 11))) (fun i _ => 9 - (intOf i).toNat)
      case atStart => exact ⟨0, by omega, rfl, by rfl⟩
      case round =>
        obtain ⟨k, hk, rfl, rfl⟩ := hrel
        by_cases hlt : k < 9
        · have hget := bytesArr_get (lettersAt 2 mode k) (k + 1) (by rw [lettersAt_len]; omega)
          cases hb : bitOn mode (8 - k) with
          | true =>
            have hbit : (bits BinOp.and IntKind.i64 (mode / 2 ^ (8 - k)) 1 == 1) = true := by rw [bit_and]; exact hb
            have hput := cells_put 2 mode k hb hlt (by omega)
            clear hb
            go_wp2_with fail
            go_roundw
            case rel => exact ⟨k + 1, by omega, by go_num, rfl⟩
            case measure => simp [intOf]; omega
          | false =>
            have hbit : (bits BinOp.and IntKind.i64 (mode / 2 ^ (8 - k)) 1 == 1) = false := by rw [bit_and]; exact hb
            have hskip := Lib.hid (lettersAt_skip 2 mode k hb)
            clear hb
            go_wp2_with fail
            go_roundw
            case rel => exact ⟨k + 1, by omega, by go_num, by rw [hskip.out]⟩
            case measure => simp [intOf]; omega
        · obtain rfl : k = 9 := by omega
          have hget := bytesArr_get (lettersAt 2 mode 9) 9 (by rw [lettersAt_len]; omega)
          cases hb : bitOn mode 9 with
          | false =>
            have h512 : (bits BinOp.and IntKind.i64 mode 512 != 0) = false := by rw [sticky_and]; exact hb
            have hfin := Lib.hid (lettersOf_no 2 mode hb)
            have hcv := convert_block (P := Try.prog) w 63 9 5 Try.underlying63 Try.underlying5 Try.underlying9 (lettersAt 2 mode 9) 10 10 (lettersAt_len _ _ _) (10, 11)
            clear hb
            go_wp2_with fail
            go_ret
            exact Ret.mk (by rw [hfin.out]; rfl) ((Ext.refl _).alloc _)
          | true =>
            have h512 : (bits BinOp.and IntKind.i64 mode 512 != 0) = true := by rw [sticky_and]; exact hb
            have h2 : mode % 2 = 0 ∨ mode % 2 = 1 := by omega
            rcases h2 with h2 | h2
            · have h1 : bits BinOp.and IntKind.i64 mode 1 = 0 := by rw [and_1]; exact h2
              have hfin := Lib.hid (lettersOf_yes 2 mode 84 hb (by unfold bitOn; simp [h2]))
              have hset := bytesArr_set (lettersAt 2 mode 9) 9 84
              have hidx : (((⟨#[84, 116]⟩ : ByteArray)[0]'(by decide)).toNat : Int) = 84 := rfl
              have hcv := convert_block (P := Try.prog) w 63 9 5 Try.underlying63 Try.underlying5 Try.underlying9 ((lettersAt 2 mode 9).set 9 84) 10 10 (by rw [List.length_set]; exact lettersAt_len _ _ _) (10, 11)
              clear hb h2
              go_wp2_with fail
              go_ret
              exact Ret.mk (by rw [hfin.out]; rfl) ((Ext.refl _).alloc _)
            · have h1 : bits BinOp.and IntKind.i64 mode 1 = 1 := by rw [and_1]; exact h2
              have hfin := Lib.hid (lettersOf_yes 2 mode 116 hb (by unfold bitOn; simp [h2]))
              have hset := bytesArr_set (lettersAt 2 mode 9) 9 116
              have hidx : (((⟨#[84, 116]⟩ : ByteArray)[1]'(by decide)).toNat : Int) = 116 := rfl
              have hcv := convert_block (P := Try.prog) w 63 9 5 Try.underlying63 Try.underlying5 Try.underlying9 ((lettersAt 2 mode 9).set 9 116) 10 10 (by rw [List.length_set]; exact lettersAt_len _ _ _) (10, 11)
              clear hb h2
              go_wp2_with fail
              go_ret
              exact Ret.mk (by rw [hfin.out]; rfl) ((Ext.refl _).alloc _)
    · go_enter Try.func13, Try.ntmps13
      go_wp2_with fail
      clear kc
      go_loopw [20] (fun i wr => ∃ k : Nat, k ≤ 9 ∧ i = .int .i64 k ∧ wr = w.alloc (.cells (bytesArr (lettersAt 3 mode k)) 5 (10, 11))) (fun i _ => 9 - (intOf i).toNat)
      case atStart => exact ⟨0, by omega, rfl, by rfl⟩
      case round =>
        obtain ⟨k, hk, rfl, rfl⟩ := hrel
        by_cases hlt : k < 9
        · have hget := bytesArr_get (lettersAt 3 mode k) (k + 1) (by rw [lettersAt_len]; omega)
          cases hb : bitOn mode (8 - k) with
          | true =>
            have hbit : (bits BinOp.and IntKind.i64 (mode / 2 ^ (8 - k)) 1 == 1) = true := by rw [bit_and]; exact hb
            have hput := cells_put 3 mode k hb hlt (by omega)
            clear hb
            go_wp2_with fail
            go_roundw
            case rel => exact ⟨k + 1, by omega, by go_num, rfl⟩
            case measure => simp [intOf]; omega
          | false =>
            have hbit : (bits BinOp.and IntKind.i64 (mode / 2 ^ (8 - k)) 1 == 1) = false := by rw [bit_and]; exact hb
            have hskip := Lib.hid (lettersAt_skip 3 mode k hb)
            clear hb
            go_wp2_with fail
            go_roundw
            case rel => exact ⟨k + 1, by omega, by go_num, by rw [hskip.out]⟩
            case measure => simp [intOf]; omega
        · obtain rfl : k = 9 := by omega
          have hget := bytesArr_get (lettersAt 3 mode 9) 9 (by rw [lettersAt_len]; omega)
          cases hb : bitOn mode 9 with
          | false =>
            have h512 : (bits BinOp.and IntKind.i64 mode 512 != 0) = false := by rw [sticky_and]; exact hb
            have hfin := Lib.hid (lettersOf_no 3 mode hb)
            have hcv := convert_block (P := Try.prog) w 63 9 5 Try.underlying63 Try.underlying5 Try.underlying9 (lettersAt 3 mode 9) 10 10 (lettersAt_len _ _ _) (10, 11)
            clear hb
            go_wp2_with fail
            go_ret
            exact Ret.mk (by rw [hfin.out]; rfl) ((Ext.refl _).alloc _)
          | true =>
            have h512 : (bits BinOp.and IntKind.i64 mode 512 != 0) = true := by rw [sticky_and]; exact hb
            have h2 : mode % 2 = 0 ∨ mode % 2 = 1 := by omega
            rcases h2 with h2 | h2
            · have h1 : bits BinOp.and IntKind.i64 mode 1 = 0 := by rw [and_1]; exact h2
              have hfin := Lib.hid (lettersOf_yes 3 mode 84 hb (by unfold bitOn; simp [h2]))
              have hset := bytesArr_set (lettersAt 3 mode 9) 9 84
              have hidx : (((⟨#[84, 116]⟩ : ByteArray)[0]'(by decide)).toNat : Int) = 84 := rfl
              have hcv := convert_block (P := Try.prog) w 63 9 5 Try.underlying63 Try.underlying5 Try.underlying9 ((lettersAt 3 mode 9).set 9 84) 10 10 (by rw [List.length_set]; exact lettersAt_len _ _ _) (10, 11)
              clear hb h2
              go_wp2_with fail
              go_ret
              exact Ret.mk (by rw [hfin.out]; rfl) ((Ext.refl _).alloc _)
            · have h1 : bits BinOp.and IntKind.i64 mode 1 = 1 := by rw [and_1]; exact h2
              have hfin := Lib.hid (lettersOf_yes 3 mode 116 hb (by unfold bitOn; simp [h2]))
              have hset := bytesArr_set (lettersAt 3 mode 9) 9 116
              have hidx : (((⟨#[84, 116]⟩ : ByteArray)[1]'(by decide)).toNat : Int) = 116 := rfl
              have hcv := convert_block (P := Try.prog) w 63 9 5 Try.underlying63 Try.underlying5 Try.underlying9 ((lettersAt 3 mode 9).set 9 116) 10 10 (by rw [List.length_set]; exact lettersAt_len _ _ _) (10, 11)
              clear hb h2
              go_wp2_with fail
              go_ret
              exact Ret.mk (by rw [hfin.out]; rfl) ((Ext.refl _).alloc _)
  · have hl' := Lib.hid (lettersAt_none kind mode hk)
    by_cases ha : 1 ≤ kind
    · have hb : 3 < kind := by omega
      clear hk
      go_enter Try.func13, Try.ntmps13
      go_wp2_with fail
      clear kc
      go_loopw [20] (fun i wr => ∃ k : Nat, k ≤ 9 ∧ i = .int .i64 k ∧ wr = w.alloc (.cells (bytesArr (lettersAt kind mode k)) 5 (10, 11))) (fun i _ => 9 - (intOf i).toNat)
      case atStart => exact ⟨0, by omega, rfl, by rw [hl'.out]; rfl⟩
      case round =>
        obtain ⟨k, hk, rfl, rfl⟩ := hrel
        by_cases hlt : k < 9
        · have hget := bytesArr_get (lettersAt kind mode k) (k + 1) (by rw [lettersAt_len]; omega)
          cases hb : bitOn mode (8 - k) with
          | true =>
            have hbit : (bits BinOp.and IntKind.i64 (mode / 2 ^ (8 - k)) 1 == 1) = true := by rw [bit_and]; exact hb
            have hput := cells_put kind mode k hb hlt (by omega)
            clear hb
            go_wp2_with fail
            go_roundw
            case rel => exact ⟨k + 1, by omega, by go_num, rfl⟩
            case measure => simp [intOf]; omega
          | false =>
            have hbit : (bits BinOp.and IntKind.i64 (mode / 2 ^ (8 - k)) 1 == 1) = false := by rw [bit_and]; exact hb
            have hskip := Lib.hid (lettersAt_skip kind mode k hb)
            clear hb
            go_wp2_with fail
            go_roundw
            case rel => exact ⟨k + 1, by omega, by go_num, by rw [hskip.out]⟩
            case measure => simp [intOf]; omega
        · obtain rfl : k = 9 := by omega
          have hget := bytesArr_get (lettersAt kind mode 9) 9 (by rw [lettersAt_len]; omega)
          cases hb : bitOn mode 9 with
          | false =>
            have h512 : (bits BinOp.and IntKind.i64 mode 512 != 0) = false := by rw [sticky_and]; exact hb
            have hfin := Lib.hid (lettersOf_no kind mode hb)
            have hcv := convert_block (P := Try.prog) w 63 9 5 Try.underlying63 Try.underlying5 Try.underlying9 (lettersAt kind mode 9) 10 10 (lettersAt_len _ _ _) (10, 11)
            clear hb
            go_wp2_with fail
            go_ret
            exact Ret.mk (by rw [hfin.out]; rfl) ((Ext.refl _).alloc _)
          | true =>
            have h512 : (bits BinOp.and IntKind.i64 mode 512 != 0) = true := by rw [sticky_and]; exact hb
            have h2 : mode % 2 = 0 ∨ mode % 2 = 1 := by omega
            rcases h2 with h2 | h2
            · have h1 : bits BinOp.and IntKind.i64 mode 1 = 0 := by rw [and_1]; exact h2
              have hfin := Lib.hid (lettersOf_yes kind mode 84 hb (by unfold bitOn; simp [h2]))
              have hset := bytesArr_set (lettersAt kind mode 9) 9 84
              have hidx : (((⟨#[84, 116]⟩ : ByteArray)[0]'(by decide)).toNat : Int) = 84 := rfl
              have hcv := convert_block (P := Try.prog) w 63 9 5 Try.underlying63 Try.underlying5 Try.underlying9 ((lettersAt kind mode 9).set 9 84) 10 10 (by rw [List.length_set]; exact lettersAt_len _ _ _) (10, 11)
              clear hb h2
              go_wp2_with fail
              go_ret
              exact Ret.mk (by rw [hfin.out]; rfl) ((Ext.refl _).alloc _)
            · have h1 : bits BinOp.and IntKind.i64 mode 1 = 1 := by rw [and_1]; exact h2
              have hfin := Lib.hid (lettersOf_yes kind mode 116 hb (by unfold bitOn; simp [h2]))
              have hset := bytesArr_set (lettersAt kind mode 9) 9 116
              have hidx : (((⟨#[84, 116]⟩ : ByteArray)[1]'(by decide)).toNat : Int) = 116 := rfl
              have hcv := convert_block (P := Try.prog) w 63 9 5 Try.underlying63 Try.underlying5 Try.underlying9 ((lettersAt kind mode 9).set 9 116) 10 10 (by rw [List.length_set]; exact lettersAt_len _ _ _) (10, 11)
              clear hb h2
              go_wp2_with fail
              go_ret
              exact Ret.mk (by rw [hfin.out]; rfl) ((Ext.refl _).alloc _)
    · have hb : kind < 1 := by omega
      clear hk ha
      go_enter Try.func13, Try.ntmps13
      go_wp2_with fail
      clear kc
      go_loopw [20] (fun i wr => ∃ k : Nat, k ≤ 9 ∧ i = .int .i64 k ∧ wr = w.alloc (.cells (bytesArr (lettersAt kind mode k)) 5 (10, 11))) (fun i _ => 9 - (intOf i).toNat)
      case atStart => exact ⟨0, by omega, rfl, by rw [hl'.out]; rfl⟩
      case round =>
        obtain ⟨k, hk, rfl, rfl⟩ := hrel
        by_cases hlt : k < 9
        · have hget := bytesArr_get (lettersAt kind mode k) (k + 1) (by rw [lettersAt_len]; omega)
          cases hb : bitOn mode (8 - k) with
          | true =>
            have hbit : (bits BinOp.and IntKind.i64 (mode / 2 ^ (8 - k)) 1 == 1) = true := by rw [bit_and]; exact hb
            have hput := cells_put kind mode k hb hlt (by omega)
            clear hb
            go_wp2_with fail
            go_roundw
            case rel => exact ⟨k + 1, by omega, by go_num, rfl⟩
            case measure => simp [intOf]; omega
          | false =>
            have hbit : (bits BinOp.and IntKind.i64 (mode / 2 ^ (8 - k)) 1 == 1) = false := by rw [bit_and]; exact hb
            have hskip := Lib.hid (lettersAt_skip kind mode k hb)
            clear hb
            go_wp2_with fail
            go_roundw
            case rel => exact ⟨k + 1, by omega, by go_num, by rw [hskip.out]⟩
            case measure => simp [intOf]; omega
        · obtain rfl : k = 9 := by omega
          have hget := bytesArr_get (lettersAt kind mode 9) 9 (by rw [lettersAt_len]; omega)
          cases hb : bitOn mode 9 with
          | false =>
            have h512 : (bits BinOp.and IntKind.i64 mode 512 != 0) = false := by rw [sticky_and]; exact hb
            have hfin := Lib.hid (lettersOf_no kind mode hb)
            have hcv := convert_block (P := Try.prog) w 63 9 5 Try.underlying63 Try.underlying5 Try.underlying9 (lettersAt kind mode 9) 10 10 (lettersAt_len _ _ _) (10, 11)
            clear hb
            go_wp2_with fail
            go_ret
            exact Ret.mk (by rw [hfin.out]; rfl) ((Ext.refl _).alloc _)
          | true =>
            have h512 : (bits BinOp.and IntKind.i64 mode 512 != 0) = true := by rw [sticky_and]; exact hb
            have h2 : mode % 2 = 0 ∨ mode % 2 = 1 := by omega
            rcases h2 with h2 | h2
            · have h1 : bits BinOp.and IntKind.i64 mode 1 = 0 := by rw [and_1]; exact h2
              have hfin := Lib.hid (lettersOf_yes kind mode 84 hb (by unfold bitOn; simp [h2]))
              have hset := bytesArr_set (lettersAt kind mode 9) 9 84
              have hidx : (((⟨#[84, 116]⟩ : ByteArray)[0]'(by decide)).toNat : Int) = 84 := rfl
              have hcv := convert_block (P := Try.prog) w 63 9 5 Try.underlying63 Try.underlying5 Try.underlying9 ((lettersAt kind mode 9).set 9 84) 10 10 (by rw [List.length_set]; exact lettersAt_len _ _ _) (10, 11)
              clear hb h2
              go_wp2_with fail
              go_ret
              exact Ret.mk (by rw [hfin.out]; rfl) ((Ext.refl _).alloc _)
            · have h1 : bits BinOp.and IntKind.i64 mode 1 = 1 := by rw [and_1]; exact h2
              have hfin := Lib.hid (lettersOf_yes kind mode 116 hb (by unfold bitOn; simp [h2]))
              have hset := bytesArr_set (lettersAt kind mode 9) 9 116
              have hidx : (((⟨#[84, 116]⟩ : ByteArray)[1]'(by decide)).toNat : Int) = 116 := rfl
              have hcv := convert_block (P := Try.prog) w 63 9 5 Try.underlying63 Try.underlying5 Try.underlying9 ((lettersAt kind mode 9).set 9 116) 10 10 (by rw [List.length_set]; exact lettersAt_len _ _ _) (10, 11)
              clear hb h2
              go_wp2_with fail
              go_ret
              exact Ret.mk (by rw [hfin.out]; rfl) ((Ext.refl _).alloc _)
end Go.Proofs.Ytegiknfnhgjhfaa
