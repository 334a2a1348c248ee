/- Layer 1 (num): the chapter's examples; the walks of the laws NumTells and NumBack. -/
import Derived.Test.YtegiknfnhgjhfaaNumS
namespace Go.Proofs.Ytegiknfnhgjhfaa
open Go.ChangeShapes Go.WideShapes Go.ChangeAt Go.RowKit

theorem ex1_1 : parseV (⟨#[48, 55]⟩ : ByteArray).data.toList = .tuple #[.int .i64 0, .bool false] := by
  refine parseV_no (pos_no (by decide) (.inr ?_))
  intro h
  exact h (by decide) rfl
theorem ex1_2 : octV (⟨#[48, 49, 55]⟩ : ByteArray).data.toList = .tuple #[.int .i64 15, .bool true] := by kernel_rfl
theorem ex1_3 : bs (decI (-7)) = ⟨#[45, 55]⟩ := by kernel_rfl
theorem ex1_4 : bs (octI 9) = ⟨#[49, 49]⟩ := by kernel_rfl
theorem ex1_5 : bs (padI 7 3) = ⟨#[48, 48, 55]⟩ := by kernel_rfl
set_option maxRecDepth 100000 in
set_option maxHeartbeats 1000000 in
theorem awake1 (w : World) : Calls Try.prog 39 #[] w (Ret w (.bool true)) := by
  go_enter Try.func39, Try.ntmps39
  go_wp2_with fail
  refine (pparse_any _ _).mono ?_
  rintro e w1 ⟨rfl, b1⟩
  rw [ex1_1]
  go_wp2_with fail
  refine (pparseoct_any _ _).mono ?_
  rintro e w2 ⟨rfl, b2⟩
  rw [ex1_2]
  go_wp2_with fail
  refine (pdec_any _ _ ⟨by decide, by decide⟩).mono ?_
  rintro e w3 ⟨rfl, b3⟩
  rw [ex1_3]
  go_wp2_with fail
  refine (poct_any _ _ ⟨by decide, by decide⟩).mono ?_
  rintro e w4 ⟨rfl, b4⟩
  rw [ex1_4]
  go_wp2_with fail
  refine (ppad_any _ _ _ ⟨by decide, by decide⟩).mono ?_
  rintro e w5 ⟨rfl, b5⟩
  rw [ex1_5]
  go_wp2_with fail
  go_ret
  exact Ret.mk rfl ((((b1.trans b2).trans b3).trans b4).trans b5)

theorem parseV_cases (l : List UInt8) : ∃ (n : Int) (b : Bool), parseV l = .tuple #[.int .i64 n, .bool b] := by
  unfold parseV
  split
  · exact ⟨_, _, rfl⟩
  · exact ⟨_, _, rfl⟩
theorem octV_cases (l : List UInt8) : ∃ (n : Int) (b : Bool), octV l = .tuple #[.int .i64 n, .bool b] := by
  unfold octV
  split
  · exact ⟨_, _, rfl⟩
  · exact ⟨_, _, rfl⟩
set_option maxRecDepth 100000 in
set_option maxHeartbeats 2000000 in
theorem numTells_core (n wide : Int) (s : ByteArray) (w : World) (hn : I64 n) : Calls Try.prog 10 #[.int .i64 n, .int .i64 wide, .string s] w (Ret w (.bool true)) := by
  have HN := Lib.hid hn
  clear hn
  by_cases hs : s.size ≤ 300
  · have h1 : ¬ ((300 : Int) < (s.size : Int)) := by omega
    obtain ⟨x, b, hp⟩ := parseV_cases s.data.toList
    obtain ⟨y, c, ho⟩ := octV_cases s.data.toList
    have hp := Lib.hid hp
    have ho := Lib.hid ho
    go_enter Try.func10, Try.ntmps10
    go_wp2_with fail
    refine (pparse_any _ _).mono ?_
    rintro e w1 ⟨rfl, b1⟩
    rw [hp.out]
    go_wp2_with fail
    refine (rparse_any _ _).mono ?_
    rintro e w2 ⟨rfl, b2⟩
    rw [hp.out]
    go_wp2_with fail
    refine (pparseoct_any _ _).mono ?_
    rintro e w3 ⟨rfl, b3⟩
    rw [ho.out]
    go_wp2_with fail
    refine (rparseoct_any _ _).mono ?_
    rintro e w4 ⟨rfl, b4⟩
    rw [ho.out]
    go_wp2_with fail
    refine (pdec_any _ _ HN.out).mono ?_
    rintro e w5 ⟨rfl, b5⟩
    go_wp2_with fail
    refine (rdec_any _ _ HN.out).mono ?_
    rintro e w6 ⟨rfl, b6⟩
    go_wp2_with fail
    refine (poct_any _ _ HN.out).mono ?_
    rintro e w7 ⟨rfl, b7⟩
    go_wp2_with fail
    refine (roct_any _ _ HN.out).mono ?_
    rintro e w8 ⟨rfl, b8⟩
    go_wp2_with fail
    refine (ppad_any _ _ _ HN.out).mono ?_
    rintro e w9 ⟨rfl, b9⟩
    go_wp2_with fail
    refine (rpad_any _ _ _ HN.out).mono ?_
    rintro e w10 ⟨rfl, b10⟩
    go_wp2_with fail
    refine (awake1 _).mono ?_
    rintro e w11 ⟨rfl, b11⟩
    go_wp2_with fail
    go_ret
    exact Ret.mk rfl ((((((((((b1.trans b2).trans b3).trans b4).trans b5).trans b6).trans b7).trans b8).trans b9).trans b10).trans b11)
  · have h1 : (300 : Int) < (s.size : Int) := by omega
    go_enter Try.func10, Try.ntmps10
    go_wp2_with fail
    refine (awake1 _).mono ?_
    rintro e w7 ⟨rfl, b7⟩
    go_wp2_with fail
    go_ret
    exact Ret.mk rfl b7
theorem numTells_walk {H : Type} {enc : TypeId × Value → H} (W : World) (base : Nat) (v0 v1 v2 : Value) (d0 d1 d2 : DataW H) (p0 p1 p2 : List MemPlace)
    (k0 : Value.okWide Try.prog W .any base 3 v0) (h0 : DataW.Trod enc Try.prog W 0 (fun _ => true) true 3 v0 d0 p0)
    (k1 : Value.okWide Try.prog W .any base 3 v1) (h1 : DataW.Trod enc Try.prog W 0 (fun _ => true) true 3 v1 d1 p1)
    (k2 : Value.okWide Try.prog W .any base 9 v2) (h2 : DataW.Trod enc Try.prog W 0 (fun _ => true) true 9 v2 d2 p2)
    : Calls Try.prog 10 #[v0, v1, v2] W (Ret W (.bool true)) := by
  obtain ⟨a0, rfl, rfl, rfl, w0⟩ := open_int Try.underlying3 k0 h0
  obtain ⟨a1, rfl, rfl, rfl, w1⟩ := open_int Try.underlying3 k1 h1
  obtain ⟨a2, rfl, rfl, rfl, w2⟩ := Go.ChangeMaps.open_string Try.underlying9 k2 h2
  have hb := bounds_i64 w0
  exact numTells_core a0 a1 a2 W ⟨by omega, by omega⟩

/-! ### NumBack -/
theorem dec_bool {a b : Int} (ha : I64 a) (hb : I64 b) : ((bs (decI a)).toList == (bs (decI b)).toList) = (a == b) := by
  rw [Bool.eq_iff_iff, beq_iff_eq, beq_iff_eq, bs_toList, bs_toList]
  exact ⟨decI_inj ha hb, fun h => by rw [h]⟩
theorem parse_dec {a : Int} (ha : I64 a) : parseV (bs (decI a)).data.toList = .tuple #[.int .i64 a, .bool true] := parseV_yes ha (by rw [bs_list])
set_option maxRecDepth 100000 in
set_option maxHeartbeats 2000000 in
theorem numBack_core (a b : Int) (w : World) (ha : I64 a) (hb : I64 b) : Calls Try.prog 11 #[.int .i64 a, .int .i64 b] w (Ret w (.bool true)) := by
  have hi := dec_bool ha hb
  have hp := Lib.hid (parse_dec ha)
  have HA := Lib.hid ha
  have HB := Lib.hid hb
  clear ha hb
  go_enter Try.func11, Try.ntmps11
  go_wp2_with fail
  refine (pdec_any _ _ HA.out).mono ?_
  rintro e w1 ⟨rfl, b1⟩
  go_wp2_with fail
  refine (pparse_any _ _).mono ?_
  rintro e w2 ⟨rfl, b2⟩
  rw [hp.out]
  go_wp2_with fail
  refine (pdec_any _ _ HA.out).mono ?_
  rintro e w3 ⟨rfl, b3⟩
  go_wp2_with fail
  refine (pdec_any _ _ HB.out).mono ?_
  rintro e w4 ⟨rfl, b4⟩
  go_wp2_with fail
  refine (awake1 _).mono ?_
  rintro e w5 ⟨rfl, b5⟩
  go_wp2_with fail
  go_ret
  exact Ret.mk rfl ((((b1.trans b2).trans b3).trans b4).trans b5)
theorem numBack_walk {H : Type} {enc : TypeId × Value → H} (W : World) (base : Nat) (v0 v1 : Value) (d0 d1 : DataW H) (p0 p1 : List MemPlace)
    (k0 : Value.okWide Try.prog W .any base 3 v0) (h0 : DataW.Trod enc Try.prog W 0 (fun _ => true) true 3 v0 d0 p0)
    (k1 : Value.okWide Try.prog W .any base 3 v1) (h1 : DataW.Trod enc Try.prog W 0 (fun _ => true) true 3 v1 d1 p1)
    : Calls Try.prog 11 #[v0, v1] W (Ret W (.bool true)) := by
  obtain ⟨a0, rfl, rfl, rfl, w0⟩ := open_int Try.underlying3 k0 h0
  obtain ⟨a1, rfl, rfl, rfl, w1⟩ := open_int Try.underlying3 k1 h1
  have hb := bounds_i64 w0
  have hc := bounds_i64 w1
  exact numBack_core a0 a1 W ⟨by omega, by omega⟩ ⟨by omega, by omega⟩
end Go.Proofs.Ytegiknfnhgjhfaa
