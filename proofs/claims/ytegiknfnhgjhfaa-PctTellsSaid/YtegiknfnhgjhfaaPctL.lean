/- Layer 4 (pct): the chapter's examples; the walks of the laws PctTells and PctBack. -/
import Derived.Test.YtegiknfnhgjhfaaPctG
namespace Go.Proofs.Ytegiknfnhgjhfaa
open Go.ChangeShapes Go.WideShapes Go.ChangeAt Go.RowKit

theorem ex4_1 : decV (⟨#[37, 52, 97]⟩ : ByteArray).data.toList = .tuple #[.string ⟨#[74]⟩, .int .i64 0] := by kernel_rfl
theorem ex4_2 : decV (⟨#[37, 52]⟩ : ByteArray).data.toList = .tuple #[.string ⟨#[]⟩, .int .i64 2] := by kernel_rfl
theorem ex4_3 : bs (encL (⟨#[97, 32, 98, 37]⟩ : ByteArray).data.toList) = ⟨#[97, 37, 50, 48, 98, 37, 50, 53]⟩ := by kernel_rfl
set_option maxRecDepth 100000 in
set_option maxHeartbeats 1000000 in
theorem awake4 (w : World) : Calls Try.prog 25 #[] w (Ret w (.bool true)) := by
  go_enter Try.func25, Try.ntmps25
  go_wp2_with fail
  refine (pdecode_any _ _ (by decide)).mono ?_
  rintro e w1 ⟨rfl, b1⟩
  rw [ex4_1]
  go_wp2_with fail
  refine (pdecode_any _ _ (by decide)).mono ?_
  rintro e w2 ⟨rfl, b2⟩
  rw [ex4_2]
  go_wp2_with fail
  refine (pencode_any _ _ (by decide)).mono ?_
  rintro e w3 ⟨rfl, b3⟩
  rw [ex4_3]
  go_wp2_with fail
  go_ret
  exact Ret.mk rfl ((b1.trans b2).trans b3)

theorem decV_cases (l : List UInt8) : (∃ r, decV l = .tuple #[.string (bs r), .int .i64 0]) ∨ decV l = .tuple #[.string ⟨#[]⟩, .int .i64 2] := by
  unfold decV
  cases decL l with
  | none => exact .inr rfl
  | some r => exact .inl ⟨r, rfl⟩

set_option maxRecDepth 100000 in
set_option maxHeartbeats 2000000 in
theorem pctTells_core (s : ByteArray) (w : World) : Calls Try.prog 7 #[.string s] w (Ret w (.bool true)) := by
  by_cases hs : s.size ≤ 300
  · have h1 : ¬ ((300 : Int) < (s.size : Int)) := by omega
    have hs' : s.size ≤ 1000000 := by omega
    have z := bs_size (encL s.data.toList)
    rcases decV_cases s.data.toList with ⟨r, hd⟩ | hd
    all_goals
      have hd := Lib.hid hd
      go_enter Try.func7, Try.ntmps7
      go_wp2_with fail
      refine (pdecode_any _ _ hs').mono ?_
      rintro e w1 ⟨rfl, b1⟩
      rw [hd.out]
      go_wp2_with fail
      refine (rdecode_any _ _ hs').mono ?_
      rintro e w2 ⟨rfl, b2⟩
      rw [hd.out]
      go_wp2_with fail
      refine (pencode_any _ _ hs').mono ?_
      rintro e w3 ⟨rfl, b3⟩
      go_wp2_with fail
      refine (rencode_any _ _ hs').mono ?_
      rintro e w4 ⟨rfl, b4⟩
      go_wp2_with fail
      refine (plen_any _ _ hs').mono ?_
      rintro e w5 ⟨rfl, b5⟩
      go_wp2_with fail
      refine (rencode_any _ _ hs').mono ?_
      rintro e w6 ⟨rfl, b6⟩
      go_wp2_with fail
      refine (awake4 _).mono ?_
      rintro e w7 ⟨rfl, b7⟩
      go_wp2_with fail
      go_ret
      exact Ret.mk rfl ((((((b1.trans b2).trans b3).trans b4).trans b5).trans b6).trans b7)
  · have h1 : (300 : Int) < (s.size : Int) := by omega
    go_enter Try.func7, Try.ntmps7
    go_wp2_with fail
    refine (awake4 _).mono ?_
    rintro e w7 ⟨rfl, b7⟩
    go_wp2_with fail
    go_ret
    exact Ret.mk rfl b7
theorem pctTells_walk {H : Type} {enc : TypeId × Value → H} (W : World) (base : Nat) (v0 : Value) (d0 : DataW H) (p0 : List MemPlace)
    (k0 : Value.okWide Try.prog W .any base 9 v0) (h0 : DataW.Trod enc Try.prog W 0 (fun _ => true) true 9 v0 d0 p0)
    : Calls Try.prog 7 #[v0] W (Ret W (.bool true)) := by
  obtain ⟨a0, rfl, rfl, rfl, w0⟩ := Go.ChangeMaps.open_string Try.underlying9 k0 h0
  exact pctTells_core a0 W

/-! ### PctBack -/
theorem inj_bool (a b : List UInt8) : ((bs (encL a)).toList == (bs (encL b)).toList) = ((bs a).toList == (bs b).toList) := by
  rw [Bool.eq_iff_iff, beq_iff_eq, beq_iff_eq, ByteArray.toList_eq, ByteArray.toList_eq, ByteArray.toList_eq, ByteArray.toList_eq, bs_list, bs_list, bs_list, bs_list]
  exact ⟨encL_inj, fun h => by rw [h]⟩
theorem decV_enc (l : List UInt8) : decV (bs (encL l)).data.toList = .tuple #[.string (bs l), .int .i64 0] := decV_some (by rw [bs_list]; exact decL_encL l)
theorem enc_byte (l : List UInt8) (k : Nat) (h : k < (bs (encL l)).size) : 33 ≤ (((bs (encL l))[k]'h).toNat : Int) ∧ (((bs (encL l))[k]'h).toNat : Int) ≤ 126 := by
  have hm : (bs (encL l))[k]'h ∈ encL l := by
    have : (bs (encL l))[k]'h = (encL l)[k]'(by simpa [bs_size] using h) := rfl
    rw [this]; exact List.getElem_mem _
  have := encL_vis l _ hm
  omega
set_option maxRecDepth 100000 in
set_option maxHeartbeats 2000000 in
theorem pctBack_core (l m : List UInt8) (w : World) : Calls Try.prog 6 #[.string (bs l), .string (bs m)] w (Ret w (.bool true)) := by
  have hl := bs_size l
  have hm := bs_size m
  by_cases hs : l.length ≤ 300 ∧ m.length ≤ 300
  · obtain ⟨hs1, hs2⟩ := hs
    have h1 : ¬ ((300 : Int) < (l.length : Int)) := by omega
    have h2 : ¬ ((300 : Int) < (m.length : Int)) := by omega
    have q1 : (bs l).size ≤ 1000000 := by omega
    have q2 : (bs m).size ≤ 1000000 := by omega
    have q3 : (bs (encL l)).size ≤ 1000000 := by rw [bs_size]; have := encL_le l; omega
    have z := bs_size (encL l)
    have hd := Lib.hid (decV_enc l)
    have hi := inj_bool l m
    go_enter Try.func6, Try.ntmps6
    go_wp2_with fail
    refine (pencode_any _ _ q1).mono ?_
    rintro e w1 ⟨rfl, b1⟩
    rw [bs_list]
    go_wp2_with fail
    refine (pencode_any _ _ q2).mono ?_
    rintro e w2 ⟨rfl, b2⟩
    rw [bs_list]
    go_wp2_with fail
    refine (pdecode_any _ _ q3).mono ?_
    rintro e w3 ⟨rfl, b3⟩
    rw [hd.out]
    go_wp2_with fail
    go_loop [9] (fun i => ∃ k : Nat, k ≤ (encL l).length ∧ i = .int .i64 k) (fun i => (encL l).length - (intOf i).toNat)
    case atStart => exact ⟨0, by omega, rfl⟩
    case round =>
      obtain ⟨k, hk, rfl⟩ := hrel
      by_cases hlt : k < (encL l).length
      · have hv := enc_byte l k (by rw [z]; exact hlt)
        obtain ⟨hv1, hv2⟩ := hv
        go_wp2_with fail
        go_round
        case rel => exact ⟨k + 1, by omega, by go_num⟩
        case measure => simp [intOf]; omega
      · obtain rfl : k = (encL l).length := by omega
        go_wp2_with fail
        refine (awake4 _).mono ?_
        rintro e w4 ⟨rfl, b4⟩
        go_wp2_with fail
        go_ret
        exact Ret.mk rfl (((b1.trans b2).trans b3).trans b4)
  · have h1 : (300 : Int) < (l.length : Int) ∨ (¬ ((300 : Int) < (l.length : Int)) ∧ (300 : Int) < (m.length : Int)) := by omega
    clear hs
    rcases h1 with h1 | ⟨h1, h2⟩
    all_goals
      go_enter Try.func6, Try.ntmps6
      go_wp2_with fail
      refine (awake4 _).mono ?_
      rintro e w7 ⟨rfl, b7⟩
      go_wp2_with fail
      go_ret
      exact Ret.mk rfl b7
theorem pctBack_walk {H : Type} {enc : TypeId × Value → H} (W : World) (base : Nat) (v0 v1 : Value) (d0 d1 : DataW H) (p0 p1 : List MemPlace)
    (k0 : Value.okWide Try.prog W .any base 9 v0) (h0 : DataW.Trod enc Try.prog W 0 (fun _ => true) true 9 v0 d0 p0)
    (k1 : Value.okWide Try.prog W .any base 9 v1) (h1 : DataW.Trod enc Try.prog W 0 (fun _ => true) true 9 v1 d1 p1)
    : Calls Try.prog 6 #[v0, v1] W (Ret W (.bool true)) := by
  obtain ⟨a0, rfl, rfl, rfl, w0⟩ := Go.ChangeMaps.open_string Try.underlying9 k0 h0
  obtain ⟨a1, rfl, rfl, rfl, w1⟩ := Go.ChangeMaps.open_string Try.underlying9 k1 h1
  have := pctBack_core a0.data.toList a1.data.toList W
  rwa [bs_self, bs_self] at this
end Go.Proofs.Ytegiknfnhgjhfaa
