/- Layer 1 (num): with noughts ahead a greater number has a greater text; the walk of the law NumOrder. -/
import Derived.Test.YtegiknfnhgjhfaaNumL
namespace Go.Proofs.Ytegiknfnhgjhfaa
open Go.ChangeShapes Go.WideShapes Go.ChangeAt Go.RowKit

theorem fold_split (b : Nat) : ∀ (l : List UInt8) (n : Nat), l.foldl (fun n c => n * b + (c.toNat - 48)) n = n * b ^ l.length + valL b l
  | [], n => by simp [valL]
  | c :: l, n => by
    have h1 := fold_split b l (n * b + (c.toNat - 48))
    have h2 := fold_split b l (0 * b + (c.toNat - 48))
    have h3 : valL b (c :: l) = l.foldl (fun n c => n * b + (c.toNat - 48)) (0 * b + (c.toNat - 48)) := rfl
    rw [List.foldl_cons, h1, h3, h2, List.length_cons, Nat.pow_succ, Nat.zero_mul, Nat.zero_add, Nat.add_mul, Nat.mul_assoc, Nat.mul_comm b]
    omega
theorem valL_cons (b : Nat) (c : UInt8) (l : List UInt8) : valL b (c :: l) = (c.toNat - 48) * b ^ l.length + valL b l := by
  show l.foldl _ (0 * b + (c.toNat - 48)) = _
  rw [fold_split]; simp
theorem less_val : ∀ (l m : List UInt8), l.length = m.length → l.all (digitB 10) = true → m.all (digitB 10) = true → Go.Op.bytesLess l m = decide (valL 10 l < valL 10 m)
  | [], [], _, _, _ => rfl
  | [], _ :: _, h, _, _ => by cases h
  | _ :: _, [], h, _, _ => by cases h
  | c :: l, d :: m, h, hl, hm => by
    have h' : l.length = m.length := by simpa using h
    rw [List.all_cons, Bool.and_eq_true] at hl hm
    have ih := less_val l m h' hl.2 hm.2
    have v1 := valL_lt 10 (by decide) _ l rfl hl.2
    have v2 := valL_lt 10 (by decide) _ m rfl hm.2
    rw [valL_cons, valL_cons, h']
    rw [h'] at v1
    have hc := hl.1
    have hd := hm.1
    unfold digitB at hc hd
    simp at hc hd
    generalize 10 ^ m.length = P at v1 v2
    unfold Go.Op.bytesLess
    rw [ih]
    by_cases h1 : c < d
    · have h1' : c.toNat < d.toNat := UInt8.lt_iff_toNat_lt.1 h1
      have h2 : (c.toNat - 48 + 1) * P ≤ (d.toNat - 48) * P := Nat.mul_le_mul_right P (by omega)
      rw [Nat.add_mul] at h2
      have g : decide ((c.toNat - 48) * P + valL 10 l < (d.toNat - 48) * P + valL 10 m) = true := decide_eq_true (by omega)
      rw [decide_eq_true h1, Bool.true_or, g]
    · have h1' : ¬ c.toNat < d.toNat := fun h => h1 (UInt8.lt_iff_toNat_lt.2 h)
      rw [decide_eq_false h1, Bool.false_or]
      by_cases h2 : c = d
      · subst h2
        rw [beq_self_eq_true, Bool.true_and, decide_eq_decide]; omega
      · have h3 : c.toNat ≠ d.toNat := fun h => h2 (UInt8.toNat_inj.1 h)
        have h4 : (d.toNat - 48 + 1) * P ≤ (c.toNat - 48) * P := Nat.mul_le_mul_right P (by omega)
        rw [Nat.add_mul] at h4
        have g : decide ((c.toNat - 48) * P + valL 10 l < (d.toNat - 48) * P + valL 10 m) = false := decide_eq_false (by omega)
        rw [beq_eq_false_iff_ne.2 h2, Bool.false_and, g]
theorem valL_zeros : ∀ (c : Nat) (l : List UInt8), valL 10 (List.replicate c 48 ++ l) = valL 10 l
  | 0, l => rfl
  | c + 1, l => by
    rw [List.replicate_succ, List.cons_append, valL_cons, valL_zeros c l]
    have : (48 : UInt8).toNat - 48 = 0 := rfl
    rw [this]; omega
/-- A padded number: ten digits with its value. -/
theorem pad_ten {n : Int} (h0 : 0 ≤ n) (h1 : n ≤ 4294967295) : (padI n 10).length = 10 ∧ (padI n 10).all (digitB 10) = true ∧ (valL 10 (padI n 10) : Int) = n := by
  have e : padI n 10 = List.replicate (10 - (digL 10 n.toNat).length) 48 ++ digL 10 n.toNat := by
    unfold padI; rw [if_neg (by omega), decI_pos (by omega)]; rfl
  have hl : (digL 10 n.toNat).length ≤ 10 := by
    unfold digL
    split
    · simp
    · rw [List.length_map, List.length_reverse]
      exact low_short 10 (by decide) 64 10 _ (by have : (4294967295 : Nat) < 10 ^ 10 := by decide
                                                 omega)
  rw [e]
  refine ⟨by rw [List.length_append, List.length_replicate]; omega, ?_, ?_⟩
  · rw [List.all_append, digL_all 10 (by decide) (by decide), Bool.and_true, List.all_eq_true]
    intro c hc
    rw [List.eq_of_mem_replicate hc]; decide
  · rw [valL_zeros, valL_digL 10 (by decide) (by decide) _ (ten64 (by omega))]; omega
theorem pad_less {a b : Int} (a0 : 0 ≤ a) (a1 : a ≤ 4294967295) (b0 : 0 ≤ b) (b1 : b ≤ 4294967295) : Go.Op.bytesLess (bs (padI a 10)).toList (bs (padI b 10)).toList = decide (a < b) := by
  obtain ⟨x1, x2, x3⟩ := pad_ten a0 a1
  obtain ⟨y1, y2, y3⟩ := pad_ten b0 b1
  rw [bs_toList, bs_toList, less_val _ _ (by rw [x1, y1]) x2 y2, decide_eq_decide]
  omega
theorem pad_eq {a b : Int} (a0 : 0 ≤ a) (a1 : a ≤ 4294967295) (b0 : 0 ≤ b) (b1 : b ≤ 4294967295) : ((bs (padI a 10)).toList == (bs (padI b 10)).toList) = (a == b) := by
  obtain ⟨x1, x2, x3⟩ := pad_ten a0 a1
  obtain ⟨y1, y2, y3⟩ := pad_ten b0 b1
  rw [Bool.eq_iff_iff, beq_iff_eq, beq_iff_eq, bs_toList, bs_toList]
  exact ⟨fun h => by rw [h] at x3; omega, fun h => by rw [h]⟩
set_option maxRecDepth 100000 in
set_option maxHeartbeats 2000000 in
theorem numOrder_core (a b : Int) (w : World) (a0 : 0 ≤ a) (a1 : a ≤ 4294967295) (b0 : 0 ≤ b) (b1 : b ≤ 4294967295) : Calls Try.prog 12 #[.int .u32 a, .int .u32 b] w (Ret w (.bool true)) := by
  have hl := pad_less a0 a1 b0 b1
  have he := pad_eq a0 a1 b0 b1
  have z1 : (bs (padI a 10)).size = 10 := by rw [bs_size, (pad_ten a0 a1).1]
  have z2 : (bs (padI b 10)).size = 10 := by rw [bs_size, (pad_ten b0 b1).1]
  have HA : Hid (I64 a) := ⟨by omega, by omega⟩
  have HB : Hid (I64 b) := ⟨by omega, by omega⟩
  go_enter Try.func12, Try.ntmps12
  go_wp2_with fail
  refine (ppad_any _ _ _ HA.out).mono ?_
  rintro e w1 ⟨rfl, b1⟩
  go_wp2_with fail
  refine (ppad_any _ _ _ HB.out).mono ?_
  rintro e w2 ⟨rfl, b2⟩
  go_wp2_with fail
  refine (awake1 _).mono ?_
  rintro e w3 ⟨rfl, b3⟩
  go_wp2_with fail
  go_ret
  exact Ret.mk rfl ((b1.trans b2).trans b3)
theorem numOrder_walk {H : Type} {enc : TypeId × Value → H} (W : World) (base : Nat) (v0 v1 : Value) (d0 d1 : DataW H) (p0 p1 : List MemPlace)
    (k0 : Value.okWide Try.prog W .any base 61 v0) (h0 : DataW.Trod enc Try.prog W 0 (fun _ => true) true 61 v0 d0 p0)
    (k1 : Value.okWide Try.prog W .any base 61 v1) (h1 : DataW.Trod enc Try.prog W 0 (fun _ => true) true 61 v1 d1 p1)
    : Calls Try.prog 12 #[v0, v1] W (Ret W (.bool true)) := by
  obtain ⟨a0, rfl, rfl, rfl, w0⟩ := open_int Try.underlying61 k0 h0
  obtain ⟨a1, rfl, rfl, rfl, w1⟩ := open_int Try.underlying61 k1 h1
  have hb := bounds_u32 w0
  have hc := bounds_u32 w1
  exact numOrder_core a0 a1 W (by omega) (by omega) (by omega) (by omega)
end Go.Proofs.Ytegiknfnhgjhfaa
