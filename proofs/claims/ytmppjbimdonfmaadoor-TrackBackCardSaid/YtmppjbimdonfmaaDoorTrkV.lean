/- Layer 3 (track): Rel of both. -/
import Derived.Test.YtmppjbimdonfmaaDoorTrkU
namespace Go.Proofs.YtmppjbimdonfmaaDoor
open Go.ChangeShapes Go.WideShapes Go.ChangeAt Go.RowKit

theorem rel_room {a b : List UInt8} (h : insideN (cleanN a) (cleanN b) = true) : (cutN (cleanN a)).length ≤ (cleanN b).length ∧ (cleanN a ≠ cleanN b → (cutN (cleanN a)).length + 1 ≤ (cleanN b).length) := by
  unfold insideN at h
  rw [Bool.or_eq_true, beq_iff_eq] at h
  have hc := cutN_len (cleanN a)
  by_cases he : cleanN a = cleanN b
  · exact ⟨by rw [← he]; exact hc, fun h' => absurd he h'⟩
  · obtain ⟨t, ht⟩ := prefix_iff.1 (h.resolve_left he)
    have := congrArg List.length ht
    simp at this
    exact ⟨by omega, fun _ => by omega⟩
def relV (a b : List UInt8) : Value := .tuple #[.string (bs (relT a b)), .bool (relB a b)]
theorem relV_no {a b : List UInt8} (h : relB a b = false) : relV a b = .tuple #[.string ⟨#[]⟩, .bool false] := by
  unfold relV relT; rw [h]; rfl
theorem relB_eq (a b : List UInt8) : relB a b = (wholeB (cleanN a) && wholeB (cleanN b) && insideN (cleanN a) (cleanN b)) := rfl
set_option maxRecDepth 100000 in
set_option maxHeartbeats 2000000 in
theorem prel_any (a b : List UInt8) (w : World) (ha : a.length ≤ 10000) (hb : b.length ≤ 10000) : Calls Tryd.prog 31 #[.string (bs a), .string (bs b)] w (Ret w (relV a b)) := by
  have hla := clean_len1 a
  have hlb := clean_len1 b
  have hR := relB_eq a b
  have hroom := rel_room (a := a) (b := b)
  have htr := rel_trim (a := a) (b := b)
  obtain ⟨A, hA⟩ : ∃ A, A = cleanN a := ⟨_, rfl⟩
  obtain ⟨B, hB⟩ : ∃ B, B = cleanN b := ⟨_, rfl⟩
  rw [← hA] at hla hR hroom htr
  rw [← hB] at hlb hR hroom htr
  have HA := Lib.hid hA
  have HB := Lib.hid hB
  clear hA hB
  have hpA : Hid (Lib.hasPrefix (bs A).data.toList (⟨#[47]⟩ : ByteArray).data.toList = wholeB A) := by show _ = _; rw [bs_list]; exact hasPrefix_slash A
  have hpB : Hid (Lib.hasPrefix (bs B).data.toList (⟨#[47]⟩ : ByteArray).data.toList = wholeB B) := by show _ = _; rw [bs_list]; exact hasPrefix_slash B
  cases hwA : wholeB A with
  | false =>
    rw [hwA] at hR
    have hf := Lib.hid (relV_no hR)
    have HWA := Lib.hid hwA
    clear hR hroom htr hwA
    go_enter Tryd.func31, Tryd.ntmps31
    go_wp2_with fail
    refine (pclean_any a _ (by omega)).mono ?_
    rintro e w1 ⟨rfl, hE1⟩
    rw [← HA.out]
    go_wp2_with fail
    refine (pclean_any b _ (by omega)).mono ?_
    rintro e w2 ⟨rfl, hE2⟩
    rw [← HB.out]
    go_wp2_with fail
    refine (Tryd.strings_HasPrefix _ _ _).mono ?_
    rintro e w3 ⟨rfl, rfl⟩
    rw [hpA.out, HWA.out]
    go_wp2_with fail
    go_ret2
    exact Ret.mk (by rw [hf.out]; rfl) (hE1.trans hE2)
  | true =>
    rw [hwA] at hR
    have HWA := Lib.hid hwA
    clear hwA
    cases hwB : wholeB B with
    | false =>
      rw [hwB] at hR
      have hf := Lib.hid (relV_no hR)
      have HWB := Lib.hid hwB
      clear hR hroom htr hwB
      go_enter Tryd.func31, Tryd.ntmps31
      go_wp2_with fail
      refine (pclean_any a _ (by omega)).mono ?_
      rintro e w1 ⟨rfl, hE1⟩
      rw [← HA.out]
      go_wp2_with fail
      refine (pclean_any b _ (by omega)).mono ?_
      rintro e w2 ⟨rfl, hE2⟩
      rw [← HB.out]
      go_wp2_with fail
      refine (Tryd.strings_HasPrefix _ _ _).mono ?_
      rintro e w3 ⟨rfl, rfl⟩
      rw [hpA.out, HWA.out]
      go_wp2_with fail
      refine (Tryd.strings_HasPrefix _ _ _).mono ?_
      rintro e w3 ⟨rfl, rfl⟩
      rw [hpB.out, HWB.out]
      go_wp2_with fail
      go_ret2
      exact Ret.mk (by rw [hf.out]; rfl) (hE1.trans hE2)
    | true =>
      rw [hwB] at hR
      have HWB := Lib.hid hwB
      clear hwB
      cases hin : insideN A B with
      | false =>
        rw [hin] at hR
        have hf := Lib.hid (relV_no hR)
        have HIN := Lib.hid hin
        clear hR hroom htr hin
        go_enter Tryd.func31, Tryd.ntmps31
        go_wp2_with fail
        refine (pclean_any a _ (by omega)).mono ?_
        rintro e w1 ⟨rfl, hE1⟩
        rw [← HA.out]
        go_wp2_with fail
        refine (pclean_any b _ (by omega)).mono ?_
        rintro e w2 ⟨rfl, hE2⟩
        rw [← HB.out]
        go_wp2_with fail
        refine (Tryd.strings_HasPrefix _ _ _).mono ?_
        rintro e w3 ⟨rfl, rfl⟩
        rw [hpA.out, HWA.out]
        go_wp2_with fail
        refine (Tryd.strings_HasPrefix _ _ _).mono ?_
        rintro e w3 ⟨rfl, rfl⟩
        rw [hpB.out, HWB.out]
        go_wp2_with fail
        refine (pinside_any A B _ (by omega) (by omega)).mono ?_
        rintro e w4 ⟨rfl, hE3⟩
        rw [HIN.out]
        go_wp2_with fail
        go_ret2
        exact Ret.mk (by rw [hf.out]; rfl) ((hE1.trans hE2).trans hE3)
      | true =>
        rw [hin] at hR
        have htr := htr hR
        have hr1 := (hroom hin).1
        have HIN := Lib.hid hin
        have hRV : Hid (relV a b = .tuple #[.string (bs (relT a b)), .bool true]) := by show _ = _; unfold relV; rw [hR]; rfl
        obtain ⟨C, hC⟩ : ∃ C, C = cutN A := ⟨_, rfl⟩
        rw [← hC] at htr hr1
        have hTr : Hid (Lib.trimRightB A 47 = C) := hC.symm
        obtain ⟨D, hD⟩ : ∃ D, D = B.drop C.length := ⟨_, rfl⟩
        obtain ⟨T, hT⟩ : ∃ T, T = trimP D := ⟨_, rfl⟩
        rw [← hD, ← hT] at htr
        have z0 : (bs A).size = A.length := bs_size A
        have z1 : (bs C).size = C.length := bs_size C
        have z2 : (bs B).size = B.length := bs_size B
        have hTP : Hid ((⟨(Lib.trimPrefix (bs D).data.toList (⟨#[47]⟩ : ByteArray).data.toList).toArray⟩ : ByteArray) = bs T) := by
          show _ = _
          rw [bs_list, hT]; rfl
        have hsl := slice_from (P := Tryd.prog) Tryd.underlying9 (bs B) (C.length : Int) C.length rfl (by omega) (bs D) (by rw [bs_from, hD])
        obtain ⟨t0, _, _, t3⟩ := txt_tests (p := T)
        by_cases hn : T = []
        · rw [if_pos hn] at htr
          have HTR := Lib.hid htr
          rw [show (T == []) = true from by rw [hn]; rfl] at t0 t3
          clear hin hR hroom hC hD hT hn htr
          go_enter Tryd.func31, Tryd.ntmps31
          go_wp2_with fail
          refine (pclean_any a _ (by omega)).mono ?_
          rintro e w1 ⟨rfl, hE1⟩
          rw [← HA.out]
          go_wp2_with fail
          refine (pclean_any b _ (by omega)).mono ?_
          rintro e w2 ⟨rfl, hE2⟩
          rw [← HB.out]
          go_wp2_with fail
          refine (Tryd.strings_HasPrefix _ _ _).mono ?_
          rintro e w3 ⟨rfl, rfl⟩
          rw [hpA.out, HWA.out]
          go_wp2_with fail
          refine (Tryd.strings_HasPrefix _ _ _).mono ?_
          rintro e w3 ⟨rfl, rfl⟩
          rw [hpB.out, HWB.out]
          go_wp2_with fail
          refine (pinside_any A B _ (by omega) (by omega)).mono ?_
          rintro e w4 ⟨rfl, hE3⟩
          rw [HIN.out]
          go_wp2_with fail
          refine (Tryd.strings_TrimRight_one _ 47 (by decide) _ (by omega)).mono ?_
          rintro e w5 ⟨rfl, rfl⟩
          rw [bs_list, hTr.out, show (⟨C.toArray⟩ : ByteArray) = bs C from rfl]
          go_wp2_with fail
          refine (Tryd.strings_TrimPrefix _ _ _).mono ?_
          rintro e w5 ⟨rfl, rfl⟩
          rw [hTP.out]
          go_wp2_with fail
          go_ret2
          exact Ret.mk (by rw [hRV.out, ← HTR.out]; rfl) ((hE1.trans hE2).trans hE3)
        · rw [if_neg hn] at htr
          have HTR := Lib.hid htr
          rw [show (T == []) = false from beq_eq_false_iff_ne.2 hn] at t0 t3
          clear hin hR hroom hC hD hT hn htr
          go_enter Tryd.func31, Tryd.ntmps31
          go_wp2_with fail
          refine (pclean_any a _ (by omega)).mono ?_
          rintro e w1 ⟨rfl, hE1⟩
          rw [← HA.out]
          go_wp2_with fail
          refine (pclean_any b _ (by omega)).mono ?_
          rintro e w2 ⟨rfl, hE2⟩
          rw [← HB.out]
          go_wp2_with fail
          refine (Tryd.strings_HasPrefix _ _ _).mono ?_
          rintro e w3 ⟨rfl, rfl⟩
          rw [hpA.out, HWA.out]
          go_wp2_with fail
          refine (Tryd.strings_HasPrefix _ _ _).mono ?_
          rintro e w3 ⟨rfl, rfl⟩
          rw [hpB.out, HWB.out]
          go_wp2_with fail
          refine (pinside_any A B _ (by omega) (by omega)).mono ?_
          rintro e w4 ⟨rfl, hE3⟩
          rw [HIN.out]
          go_wp2_with fail
          refine (Tryd.strings_TrimRight_one _ 47 (by decide) _ (by omega)).mono ?_
          rintro e w5 ⟨rfl, rfl⟩
          rw [bs_list, hTr.out, show (⟨C.toArray⟩ : ByteArray) = bs C from rfl]
          go_wp2_with fail
          refine (Tryd.strings_TrimPrefix _ _ _).mono ?_
          rintro e w5 ⟨rfl, rfl⟩
          rw [hTP.out]
          go_wp2_with fail
          go_ret2
          exact Ret.mk (by rw [hRV.out, ← HTR.out]; rfl) ((hE1.trans hE2).trans hE3)
theorem first_slash (C : List UInt8) (hn : C ≠ []) (h : 0 < (bs C).size) : (((bs C)[0].toNat : Int) != 47) = !(wholeB C) := by
  cases C with
  | nil => exact absurd rfl hn
  | cons c t =>
    have : (((bs (c :: t))[0].toNat : Int) == 47) = wholeB (c :: t) := by
      refine (u8_eq (c := c) (d := 47)).trans ?_
      unfold wholeB
      rw [Bool.eq_iff_iff]; simp
    rw [bne, this]
set_option maxRecDepth 100000 in
set_option maxHeartbeats 2000000 in
theorem rrel_any (a b : List UInt8) (w : World) (ha : a.length ≤ 10000) (hb : b.length ≤ 10000) : Calls Tryd.prog 32 #[.string (bs a), .string (bs b)] w (Ret w (relV a b)) := by
  have hla := clean_len1 a
  have hlb := clean_len1 b
  have hR := relB_eq a b
  have hroom := rel_room (a := a) (b := b)
  have hnA := clean_ne a
  have hnB := clean_ne b
  have hrt : relB a b = true → relT a b = if cleanN a = cleanN b then [46] else (cleanN b).drop ((cutN (cleanN a)).length + 1) := fun h => by unfold relT; rw [if_pos h]
  have hse := str_eq (cleanN a) (cleanN b)
  obtain ⟨A, hA⟩ : ∃ A, A = cleanN a := ⟨_, rfl⟩
  obtain ⟨B, hB⟩ : ∃ B, B = cleanN b := ⟨_, rfl⟩
  rw [← hA] at hla hR hroom hnA hrt hse
  rw [← hB] at hlb hR hroom hnB hrt hse
  have HA := Lib.hid hA
  have HB := Lib.hid hB
  clear hA hB
  have hsA : 0 < (bs A).size := by rw [bs_size]; exact List.length_pos_iff.2 hnA
  have hsB : 0 < (bs B).size := by rw [bs_size]; exact List.length_pos_iff.2 hnB
  have hzA := first_slash A hnA hsA
  have hzB := first_slash B hnB hsB
  clear hnA hnB
  have z0 : (bs A).size = A.length := bs_size A
  have z2 : (bs B).size = B.length := bs_size B
  cases hwA : wholeB A with
  | false =>
    rw [hwA] at hR hzA
    have hf := Lib.hid (relV_no hR)
    clear hR hroom hrt hwA hse hzB
    go_enter Tryd.func32, Tryd.ntmps32
    go_wp2_with fail
    refine (rclean_any a _ (by omega)).mono ?_
    rintro e w1 ⟨rfl, hE1⟩
    rw [← HA.out]
    go_wp2_with fail
    refine (rclean_any b _ (by omega)).mono ?_
    rintro e w2 ⟨rfl, hE2⟩
    rw [← HB.out]
    go_wp2_with fail
    go_ret2
    exact Ret.mk (by rw [hf.out]; rfl) (hE1.trans hE2)
  | true =>
    rw [hwA] at hR hzA
    clear hwA
    cases hwB : wholeB B with
    | false =>
      rw [hwB] at hR hzB
      have hf := Lib.hid (relV_no hR)
      clear hR hroom hrt hwB hse
      go_enter Tryd.func32, Tryd.ntmps32
      go_wp2_with fail
      refine (rclean_any a _ (by omega)).mono ?_
      rintro e w1 ⟨rfl, hE1⟩
      rw [← HA.out]
      go_wp2_with fail
      refine (rclean_any b _ (by omega)).mono ?_
      rintro e w2 ⟨rfl, hE2⟩
      rw [← HB.out]
      go_wp2_with fail
      go_ret2
      exact Ret.mk (by rw [hf.out]; rfl) (hE1.trans hE2)
    | true =>
      rw [hwB] at hR hzB
      clear hwB
      cases hin : insideN A B with
      | false =>
        rw [hin] at hR
        have hf := Lib.hid (relV_no hR)
        have HIN := Lib.hid hin
        clear hR hroom hrt hin hse
        go_enter Tryd.func32, Tryd.ntmps32
        go_wp2_with fail
        refine (rclean_any a _ (by omega)).mono ?_
        rintro e w1 ⟨rfl, hE1⟩
        rw [← HA.out]
        go_wp2_with fail
        refine (rclean_any b _ (by omega)).mono ?_
        rintro e w2 ⟨rfl, hE2⟩
        rw [← HB.out]
        go_wp2_with fail
        refine (rinside_any A B _ (by omega) (by omega)).mono ?_
        rintro e w4 ⟨rfl, hE3⟩
        rw [HIN.out]
        go_wp2_with fail
        go_ret2
        exact Ret.mk (by rw [hf.out]; rfl) ((hE1.trans hE2).trans hE3)
      | true =>
        rw [hin] at hR
        have hrt := hrt hR
        have hr1 := (hroom hin).2
        have HIN := Lib.hid hin
        have hRV : Hid (relV a b = .tuple #[.string (bs (relT a b)), .bool true]) := by show _ = _; unfold relV; rw [hR]; rfl
        clear hin hR hroom
        by_cases he : A = B
        · rw [if_pos he] at hrt
          have HRT := Lib.hid hrt
          rw [show (A == B) = true from by rw [he]; exact beq_self_eq_true _] at hse
          clear he hrt hr1
          go_enter Tryd.func32, Tryd.ntmps32
          go_wp2_with fail
          refine (rclean_any a _ (by omega)).mono ?_
          rintro e w1 ⟨rfl, hE1⟩
          rw [← HA.out]
          go_wp2_with fail
          refine (rclean_any b _ (by omega)).mono ?_
          rintro e w2 ⟨rfl, hE2⟩
          rw [← HB.out]
          go_wp2_with fail
          refine (rinside_any A B _ (by omega) (by omega)).mono ?_
          rintro e w4 ⟨rfl, hE3⟩
          rw [HIN.out]
          go_wp2_with fail
          go_ret2
          exact Ret.mk (by rw [hRV.out, HRT.out]; rfl) ((hE1.trans hE2).trans hE3)
        · rw [if_neg he] at hrt
          have hr2 := hr1 he
          rw [show (A == B) = false from beq_eq_false_iff_ne.2 he] at hse
          obtain ⟨C, hC⟩ : ∃ C, C = cutN A := ⟨_, rfl⟩
          rw [← hC] at hrt hr2
          have HC := Lib.hid hC
          have HRT := Lib.hid hrt
          have z1 : (bs C).size = C.length := bs_size C
          have hsl := slice_from (P := Tryd.prog) Tryd.underlying9 (bs B) ((C.length : Int) + 1) (C.length + 1) (by omega) (by omega) (bs (B.drop (C.length + 1))) (bs_from B _)
          have hwp : IntKind.i64.wrap ((C.length : Int) + 1) = (C.length : Int) + 1 := wrap_i64_in (by omega) (by omega)
          clear he hrt hr1 hC
          go_enter Tryd.func32, Tryd.ntmps32
          go_wp2_with fail
          refine (rclean_any a _ (by omega)).mono ?_
          rintro e w1 ⟨rfl, hE1⟩
          rw [← HA.out]
          go_wp2_with fail
          refine (rclean_any b _ (by omega)).mono ?_
          rintro e w2 ⟨rfl, hE2⟩
          rw [← HB.out]
          go_wp2_with fail
          refine (rinside_any A B _ (by omega) (by omega)).mono ?_
          rintro e w4 ⟨rfl, hE3⟩
          rw [HIN.out]
          go_wp2_with fail
          refine (rcut_any A _ (by omega)).mono ?_
          rintro e w5 ⟨rfl, hE4⟩
          rw [← HC.out]
          go_wp2_with fail
          go_ret2
          exact Ret.mk (by rw [hRV.out, HRT.out]; rfl) (((hE1.trans hE2).trans hE3).trans hE4)
end Go.Proofs.YtmppjbimdonfmaaDoor
