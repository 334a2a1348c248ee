/- Layer 4 (pct): the small functions, the program's and the reference's. -/
import Derived.Test.YtanaifobmkjpaaaDoorPctP
import Derived.Test.YtanaifobmkjpaaaDoorStr
namespace Go.Proofs.YtanaifobmkjpaaaDoor
open Go.ChangeShapes Go.WideShapes Go.ChangeAt Go.RowKit

theorem plainC_iff (c : UInt8) : plainC c = true ↔ ((97 ≤ (c.toNat : Int) ∧ (c.toNat : Int) ≤ 122) ∨ (65 ≤ (c.toNat : Int) ∧ (c.toNat : Int) ≤ 90) ∨ (48 ≤ (c.toNat : Int) ∧ (c.toNat : Int) ≤ 57) ∨ (c.toNat : Int) = 45 ∨ (c.toNat : Int) = 46 ∨ (c.toNat : Int) = 95 ∨ (c.toNat : Int) = 126 ∨ (c.toNat : Int) = 47) := by
  have : ∀ n : Fin 256, plainC (UInt8.ofNat n.val) = true ↔ ((97 ≤ (n.val : Int) ∧ (n.val : Int) ≤ 122) ∨ (65 ≤ (n.val : Int) ∧ (n.val : Int) ≤ 90) ∨ (48 ≤ (n.val : Int) ∧ (n.val : Int) ≤ 57) ∨ (n.val : Int) = 45 ∨ (n.val : Int) = 46 ∨ (n.val : Int) = 95 ∨ (n.val : Int) = 126 ∨ (n.val : Int) = 47) := by decide +kernel
  have h := this ⟨c.toNat, c.toNat_lt⟩
  simp only [UInt8.ofNat_toNat] at h
  exact h
theorem bool_true {p : Prop} {a : Bool} (h : a = true ↔ p) (hp : p) : true = a := (h.2 hp).symm
theorem bool_false {p : Prop} {a : Bool} (h : a = true ↔ p) (hp : ¬ p) : false = a := by
  cases a with
  | false => rfl
  | true => exact absurd (h.1 rfl) hp
set_option maxHeartbeats 1000000 in
theorem rplain_any (c : UInt8) (w : World) : Calls Tryd.prog 79 #[.int .u8 c.toNat] w (Ret w (.bool (plainC c))) := by
  have hp := Lib.hid (plainC_iff c)
  go_enter Tryd.func79, Tryd.ntmps79
  go_wp2_with fail
  all_goals
    go_ret
    refine Ret.mk (ret_bool ?_) (Ext.refl _)
    rw [Bool.eq_iff_iff]
    refine Iff.trans ?_ hp.out.symm
    simp
    omega

/-! ### Digits. -/
def digP (c : UInt8) : Int := if digC c = 16 then -1 else digC c
theorem digC_cases (c : UInt8) : (48 ≤ (c.toNat : Int) ∧ (c.toNat : Int) ≤ 57 ∧ (digC c : Int) = (c.toNat : Int) - 48) ∨ (97 ≤ (c.toNat : Int) ∧ (c.toNat : Int) ≤ 102 ∧ (digC c : Int) = (c.toNat : Int) - 87) ∨ (65 ≤ (c.toNat : Int) ∧ (c.toNat : Int) ≤ 70 ∧ (digC c : Int) = (c.toNat : Int) - 55) ∨
    (¬ (48 ≤ (c.toNat : Int) ∧ (c.toNat : Int) ≤ 57) ∧ ¬ (97 ≤ (c.toNat : Int) ∧ (c.toNat : Int) ≤ 102) ∧ ¬ (65 ≤ (c.toNat : Int) ∧ (c.toNat : Int) ≤ 70) ∧ digC c = 16) := by
  have : ∀ n : Fin 256, (48 ≤ (n.val : Int) ∧ (n.val : Int) ≤ 57 ∧ (digC (UInt8.ofNat n.val) : Int) = (n.val : Int) - 48) ∨ (97 ≤ (n.val : Int) ∧ (n.val : Int) ≤ 102 ∧ (digC (UInt8.ofNat n.val) : Int) = (n.val : Int) - 87) ∨ (65 ≤ (n.val : Int) ∧ (n.val : Int) ≤ 70 ∧ (digC (UInt8.ofNat n.val) : Int) = (n.val : Int) - 55) ∨
    (¬ (48 ≤ (n.val : Int) ∧ (n.val : Int) ≤ 57) ∧ ¬ (97 ≤ (n.val : Int) ∧ (n.val : Int) ≤ 102) ∧ ¬ (65 ≤ (n.val : Int) ∧ (n.val : Int) ≤ 70) ∧ digC (UInt8.ofNat n.val) = 16) := by decide +kernel
  have h := this ⟨c.toNat, c.toNat_lt⟩
  simp only [UInt8.ofNat_toNat] at h
  exact h
set_option maxHeartbeats 1000000 in
theorem pdigit_any (c : UInt8) (w : World) : Calls Tryd.prog 81 #[.int .u8 c.toNat] w (Ret w (.int .i64 (digP c))) := by
  have hp := Lib.hid (digC_cases c)
  go_enter Tryd.func81, Tryd.ntmps81
  go_wp2_with fail
  all_goals
    go_ret
    refine Ret.mk (ret_int ?_) (Ext.refl _)
    have hq := hp.out
    unfold digP
    generalize digC c = d at hq ⊢
    first | rw [if_neg (by omega)] | rw [if_pos (by omega)]
    try omega
set_option maxRecDepth 100000 in
set_option maxHeartbeats 4000000 in
theorem rdigit_any (c : UInt8) (w : World) : Calls Tryd.prog 85 #[.int .u8 c.toNat] w (Ret w (.int .i64 (digC c))) := by
  have hp := Lib.hid (digC_cases c)
  have hc : (c.toNat : Int) ≤ 255 := by have := c.toNat_lt; omega
  have i0 : (((⟨#[48, 49, 50, 51, 52, 53, 54, 55, 56, 57, 97, 98, 99, 100, 101, 102]⟩ : ByteArray)[0]'(by decide)).toNat : Int) = 48 := rfl
  have i1 : (((⟨#[48, 49, 50, 51, 52, 53, 54, 55, 56, 57, 97, 98, 99, 100, 101, 102]⟩ : ByteArray)[1]'(by decide)).toNat : Int) = 49 := rfl
  have i2 : (((⟨#[48, 49, 50, 51, 52, 53, 54, 55, 56, 57, 97, 98, 99, 100, 101, 102]⟩ : ByteArray)[2]'(by decide)).toNat : Int) = 50 := rfl
  have i3 : (((⟨#[48, 49, 50, 51, 52, 53, 54, 55, 56, 57, 97, 98, 99, 100, 101, 102]⟩ : ByteArray)[3]'(by decide)).toNat : Int) = 51 := rfl
  have i4 : (((⟨#[48, 49, 50, 51, 52, 53, 54, 55, 56, 57, 97, 98, 99, 100, 101, 102]⟩ : ByteArray)[4]'(by decide)).toNat : Int) = 52 := rfl
  have i5 : (((⟨#[48, 49, 50, 51, 52, 53, 54, 55, 56, 57, 97, 98, 99, 100, 101, 102]⟩ : ByteArray)[5]'(by decide)).toNat : Int) = 53 := rfl
  have i6 : (((⟨#[48, 49, 50, 51, 52, 53, 54, 55, 56, 57, 97, 98, 99, 100, 101, 102]⟩ : ByteArray)[6]'(by decide)).toNat : Int) = 54 := rfl
  have i7 : (((⟨#[48, 49, 50, 51, 52, 53, 54, 55, 56, 57, 97, 98, 99, 100, 101, 102]⟩ : ByteArray)[7]'(by decide)).toNat : Int) = 55 := rfl
  have i8 : (((⟨#[48, 49, 50, 51, 52, 53, 54, 55, 56, 57, 97, 98, 99, 100, 101, 102]⟩ : ByteArray)[8]'(by decide)).toNat : Int) = 56 := rfl
  have i9 : (((⟨#[48, 49, 50, 51, 52, 53, 54, 55, 56, 57, 97, 98, 99, 100, 101, 102]⟩ : ByteArray)[9]'(by decide)).toNat : Int) = 57 := rfl
  have i10 : (((⟨#[48, 49, 50, 51, 52, 53, 54, 55, 56, 57, 97, 98, 99, 100, 101, 102]⟩ : ByteArray)[10]'(by decide)).toNat : Int) = 97 := rfl
  have i11 : (((⟨#[48, 49, 50, 51, 52, 53, 54, 55, 56, 57, 97, 98, 99, 100, 101, 102]⟩ : ByteArray)[11]'(by decide)).toNat : Int) = 98 := rfl
  have i12 : (((⟨#[48, 49, 50, 51, 52, 53, 54, 55, 56, 57, 97, 98, 99, 100, 101, 102]⟩ : ByteArray)[12]'(by decide)).toNat : Int) = 99 := rfl
  have i13 : (((⟨#[48, 49, 50, 51, 52, 53, 54, 55, 56, 57, 97, 98, 99, 100, 101, 102]⟩ : ByteArray)[13]'(by decide)).toNat : Int) = 100 := rfl
  have i14 : (((⟨#[48, 49, 50, 51, 52, 53, 54, 55, 56, 57, 97, 98, 99, 100, 101, 102]⟩ : ByteArray)[14]'(by decide)).toNat : Int) = 101 := rfl
  have i15 : (((⟨#[48, 49, 50, 51, 52, 53, 54, 55, 56, 57, 97, 98, 99, 100, 101, 102]⟩ : ByteArray)[15]'(by decide)).toNat : Int) = 102 := rfl
  go_enter Tryd.func85, Tryd.ntmps85
  go_wp2_with fail
  all_goals go_rounds 17
  all_goals
    go_ret
    refine Ret.mk (ret_int ?_) (Ext.refl _)
    have hq := hp.out
    simp only [beq_iff_eq, beq_eq_false_iff_ne, ne_eq] at *
    omega
end Go.Proofs.YtanaifobmkjpaaaDoor
