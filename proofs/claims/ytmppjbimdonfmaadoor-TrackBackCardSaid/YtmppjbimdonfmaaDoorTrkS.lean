/- Layer 3 (track): Cut, Join, Inside, Below of both. -/
import Derived.Test.YtmppjbimdonfmaaDoorTrkR
namespace Go.Proofs.YtmppjbimdonfmaaDoor
open Go.ChangeShapes Go.WideShapes Go.ChangeAt Go.RowKit

set_option maxRecDepth 100000 in
set_option maxHeartbeats 1000000 in
theorem rcut_any (l : List UInt8) (w : World) (hlen : l.length ≤ 1000000) : Calls Tryd.prog 80 #[.string (bs l)] w (Ret w (.string (bs (cutN l)))) := by
  go_enter Tryd.func80, Tryd.ntmps80
  go_wp2_with fail
  go_loopw [0] (fun u wr => ∃ m : List UInt8, u = .string (bs m) ∧ m.length ≤ l.length ∧ Hid (cutN m = cutN l) ∧ wr = w) (fun u _ => (strOf u).size)
  case atStart => exact ⟨l, rfl, Nat.le_refl _, rfl, rfl⟩
  case round =>
    obtain ⟨m, rfl, hm, hc, rfl⟩ := hrel
    have z0 : (bs m).size = m.length := bs_size m
    rcases snoc_cases m with h | ⟨a, c, h⟩
    · have HF : Hid (cutN l = m) := by show _ = _; rw [← hc.out, h]; rfl
      have hm0 : m.length = 0 := by rw [h]; rfl
      clear h
      go_wp2_with fail
      go_ret
      exact Ret.mk (ret_str (by rw [HF.out])) (Ext.refl _)
    · have hml : m.length = a.length + 1 := by rw [h]; simp
      have hks : a.length < (bs m).size := by omega
      have hg : (bs m)[a.length] = c := by
        rw [bs_get m a.length hks (by omega)]
        simp [h]
      have hw1 : IntKind.i64.wrap (a.length : Int) = a.length := wrap_i64_in (by omega) (by omega)
      by_cases hcs : c = 47
      · have hs2 : (((bs m)[a.length].toNat : Int) == 47) = true := by rw [hg, hcs]; rfl
        have hn : Hid (cutN a = cutN l) := by
          show _ = _
          rw [← hc.out, h, hcs, cutN_snoc]
        have ha : (bs m).extract 0 a.length = bs a := by rw [bs_to, h]; simp
        have hsl := slice_to (P := Tryd.prog) Tryd.underlying9 (bs m) (a.length : Int) a.length rfl (by omega) (bs a) ha
        have za : (bs a).size = a.length := bs_size a
        clear hg hcs h ha
        go_wp2_with fail
        go_roundw
        case rel => exact ⟨a, rfl, by omega, hn, by first | trivial | rfl⟩
        case measure => simp [strOf]; omega
      · have HF : Hid (cutN l = m) := by show _ = _; rw [← hc.out, h]; exact cutN_stop hcs
        have hs2 : (((bs m)[a.length].toNat : Int) == 47) = false := by
          rw [hg]
          exact (u8_eq (c := c) (d := 47)).trans (beq_eq_false_iff_ne.2 hcs)
        clear hg hcs h
        go_wp2_with fail
        go_ret
        exact Ret.mk (ret_str (by rw [HF.out])) (Ext.refl _)
set_option maxRecDepth 100000 in
set_option maxHeartbeats 1000000 in
theorem pbelow_any (a b : List UInt8) (w : World) (ha : a.length ≤ 100000) (hb : b.length ≤ 100000) : Calls Tryd.prog 40 #[.string (bs a), .string (bs b)] w (Ret w (.string (bs (belowN a b)))) := by
  have z0 : (bs a).size = a.length := bs_size a
  have hcl := cutN_len a
  have hf : Hid (belowN a b = cutN a ++ 47 :: b) := rfl
  obtain ⟨C, hC⟩ : ∃ C, C = cutN a := ⟨_, rfl⟩
  have hTr : Hid (Lib.trimRightB a 47 = C) := hC.symm
  rw [← hC] at hcl hf
  have z1 : (bs C).size = C.length := bs_size C
  have z2 : (bs b).size = b.length := bs_size b
  have z3 : (bs (C ++ [47])).size = C.length + 1 := by rw [bs_size]; simp
  have c1 : bs C ++ (⟨#[47]⟩ : ByteArray) = bs (C ++ [47]) := bs_append C [47]
  have c2 : bs (C ++ [47]) ++ bs b = bs (C ++ 47 :: b) := by rw [bs_append]; simp
  have hb1 : ¬ 9223372036854775807 < C.length + 1 := by omega
  have hb2 : ¬ 9223372036854775807 < C.length + 1 + b.length := by omega
  clear hC
  go_enter Tryd.func40, Tryd.ntmps40
  go_wp2_with fail
  refine (Tryd.strings_TrimRight_one _ 47 (by decide) _ (by omega)).mono ?_
  rintro e w1 ⟨rfl, rfl⟩
  rw [bs_list, hTr.out, show (⟨C.toArray⟩ : ByteArray) = bs C from rfl]
  go_wp2_with fail
  go_ret
  exact Ret.mk (ret_str (by rw [hf.out])) (Ext.refl _)
set_option maxRecDepth 100000 in
set_option maxHeartbeats 1000000 in
theorem rbelow_any (a b : List UInt8) (w : World) (ha : a.length ≤ 100000) (hb : b.length ≤ 100000) : Calls Tryd.prog 41 #[.string (bs a), .string (bs b)] w (Ret w (.string (bs (belowN a b)))) := by
  have hcl := cutN_len a
  have hf : Hid (belowN a b = cutN a ++ 47 :: b) := rfl
  obtain ⟨C, hC⟩ : ∃ C, C = cutN a := ⟨_, rfl⟩
  rw [← hC] at hcl hf
  have z1 : (bs C).size = C.length := bs_size C
  have z2 : (bs b).size = b.length := bs_size b
  have z3 : (bs (C ++ [47])).size = C.length + 1 := by rw [bs_size]; simp
  have c1 : bs C ++ (⟨#[47]⟩ : ByteArray) = bs (C ++ [47]) := bs_append C [47]
  have c2 : bs (C ++ [47]) ++ bs b = bs (C ++ 47 :: b) := by rw [bs_append]; simp
  have hb1 : ¬ 9223372036854775807 < C.length + 1 := by omega
  have hb2 : ¬ 9223372036854775807 < C.length + 1 + b.length := by omega
  have HC := Lib.hid hC
  clear hC
  go_enter Tryd.func41, Tryd.ntmps41
  go_wp2_with fail
  refine (rcut_any a _ (by omega)).mono ?_
  rintro e w1 ⟨rfl, hE1⟩
  rw [← HC.out]
  go_wp2_with fail
  go_ret
  exact Ret.mk (ret_str (by rw [hf.out])) hE1
theorem joinN_one {a b : List UInt8} (h : wholeB b = true ∨ a = []) : joinN a b = cleanN b := by unfold joinN; rw [if_pos h]
theorem joinN_two {a b : List UInt8} (h1 : wholeB b = false) (h2 : a ≠ []) : joinN a b = cleanN (a ++ 47 :: b) := by unfold joinN; rw [if_neg (by rw [h1]; simp [h2])]
set_option maxRecDepth 100000 in
set_option maxHeartbeats 1000000 in
theorem pjoin_any (a b : List UInt8) (w : World) (ha : a.length ≤ 10000) (hb : b.length ≤ 10000) : Calls Tryd.prog 36 #[.string (bs a), .string (bs b)] w (Ret w (.string (bs (joinN a b)))) := by
  obtain ⟨t0, _, _, t3⟩ := txt_tests (p := a)
  have hp : Hid (Lib.hasPrefix (bs b).data.toList (⟨#[47]⟩ : ByteArray).data.toList = wholeB b) := by show _ = _; rw [bs_list]; exact hasPrefix_slash b
  cases hw : wholeB b with
  | true =>
    have hf := Lib.hid (joinN_one (a := a) (b := b) (.inl hw))
    have HW := Lib.hid hw
    clear t0 t3 hw
    go_enter Tryd.func36, Tryd.ntmps36
    go_wp2_with fail
    refine (Tryd.strings_HasPrefix _ _ _).mono ?_
    rintro e w1 ⟨rfl, rfl⟩
    rw [hp.out, HW.out]
    go_wp2_with fail
    refine (pclean_any b _ (by omega)).mono ?_
    rintro e w2 ⟨rfl, hE⟩
    go_wp2_with fail
    go_ret
    exact Ret.mk (ret_str (by rw [hf.out])) hE
  | false =>
    have HW := Lib.hid hw
    by_cases hn : a = []
    · have hf := Lib.hid (joinN_one (a := a) (b := b) (.inr hn))
      rw [show (a == []) = true from by rw [hn]; rfl] at t0 t3
      clear hw hn
      go_enter Tryd.func36, Tryd.ntmps36
      go_wp2_with fail
      refine (Tryd.strings_HasPrefix _ _ _).mono ?_
      rintro e w1 ⟨rfl, rfl⟩
      rw [hp.out, HW.out]
      go_wp2_with fail
      refine (pclean_any b _ (by omega)).mono ?_
      rintro e w2 ⟨rfl, hE⟩
      go_wp2_with fail
      go_ret
      exact Ret.mk (ret_str (by rw [hf.out])) hE
    · have hf := Lib.hid (joinN_two (a := a) (b := b) hw hn)
      rw [show (a == []) = false from beq_eq_false_iff_ne.2 hn] at t0 t3
      have z1 : (bs a).size = a.length := bs_size a
      have z2 : (bs b).size = b.length := bs_size b
      have z3 : (bs (a ++ [47])).size = a.length + 1 := by rw [bs_size]; simp
      have c1 : bs a ++ (⟨#[47]⟩ : ByteArray) = bs (a ++ [47]) := bs_append a [47]
      have c2 : bs (a ++ [47]) ++ bs b = bs (a ++ 47 :: b) := by rw [bs_append]; simp
      have hb1 : ¬ 9223372036854775807 < a.length + 1 := by omega
      have hb2 : ¬ 9223372036854775807 < a.length + 1 + b.length := by omega
      clear hw hn
      go_enter Tryd.func36, Tryd.ntmps36
      go_wp2_with fail
      refine (Tryd.strings_HasPrefix _ _ _).mono ?_
      rintro e w1 ⟨rfl, rfl⟩
      rw [hp.out, HW.out]
      go_wp2_with fail
      refine (pclean_any (a ++ 47 :: b) _ (by simp; omega)).mono ?_
      rintro e w2 ⟨rfl, hE⟩
      go_wp2_with fail
      go_ret
      exact Ret.mk (ret_str (by rw [hf.out])) hE
set_option maxRecDepth 100000 in
set_option maxHeartbeats 1000000 in
theorem rjoin_any (a b : List UInt8) (w : World) (ha : a.length ≤ 10000) (hb : b.length ≤ 10000) : Calls Tryd.prog 37 #[.string (bs a), .string (bs b)] w (Ret w (.string (bs (joinN a b)))) := by
  obtain ⟨t0, _, _, t3⟩ := txt_tests (p := a)
  have z2 : (bs b).size = b.length := bs_size b
  by_cases hn : a = []
  · have hf := Lib.hid (joinN_one (a := a) (b := b) (.inr hn))
    rw [show (a == []) = true from by rw [hn]; rfl] at t0 t3
    clear hn
    go_enter Tryd.func37, Tryd.ntmps37
    go_wp2_with fail
    refine (rclean_any b _ (by omega)).mono ?_
    rintro e w2 ⟨rfl, hE⟩
    go_wp2_with fail
    go_ret
    exact Ret.mk (ret_str (by rw [hf.out])) hE
  · rw [show (a == []) = false from beq_eq_false_iff_ne.2 hn] at t0 t3
    have z1 : (bs a).size = a.length := bs_size a
    have z3 : (bs (a ++ [47])).size = a.length + 1 := by rw [bs_size]; simp
    have c1 : bs a ++ (⟨#[47]⟩ : ByteArray) = bs (a ++ [47]) := bs_append a [47]
    have c2 : bs (a ++ [47]) ++ bs b = bs (a ++ 47 :: b) := by rw [bs_append]; simp
    have hb1 : ¬ 9223372036854775807 < a.length + 1 := by omega
    have hb2 : ¬ 9223372036854775807 < a.length + 1 + b.length := by omega
    rcases Nat.eq_zero_or_pos b.length with hb0 | hb0
    · have hw : wholeB b = false := by rw [List.eq_nil_of_length_eq_zero hb0]; rfl
      have hf := Lib.hid (joinN_two (a := a) (b := b) hw hn)
      clear hw hn
      go_enter Tryd.func37, Tryd.ntmps37
      go_wp2_with fail
      refine (rclean_any (a ++ 47 :: b) _ (by simp; omega)).mono ?_
      rintro e w2 ⟨rfl, hE⟩
      go_wp2_with fail
      go_ret
      exact Ret.mk (ret_str (by rw [hf.out])) hE
    · have hks : 0 < (bs b).size := by omega
      have hwb : (((bs b)[0].toNat : Int) == 47) = wholeB b := by
        cases b with
        | nil => simp at hb0
        | cons c t =>
          refine (u8_eq (c := c) (d := 47)).trans ?_
          unfold wholeB
          rw [Bool.eq_iff_iff]; simp
      have hb3 : (0 : Int) < (b.length : Int) := by omega
      cases hw : wholeB b with
      | true =>
        have hf := Lib.hid (joinN_one (a := a) (b := b) (.inl hw))
        rw [hw] at hwb
        clear hw hn
        go_enter Tryd.func37, Tryd.ntmps37
        go_wp2_with fail
        refine (rclean_any b _ (by omega)).mono ?_
        rintro e w2 ⟨rfl, hE⟩
        go_wp2_with fail
        go_ret
        exact Ret.mk (ret_str (by rw [hf.out])) hE
      | false =>
        have hf := Lib.hid (joinN_two (a := a) (b := b) hw hn)
        rw [hw] at hwb
        clear hw hn
        go_enter Tryd.func37, Tryd.ntmps37
        go_wp2_with fail
        refine (rclean_any (a ++ 47 :: b) _ (by simp; omega)).mono ?_
        rintro e w2 ⟨rfl, hE⟩
        go_wp2_with fail
        go_ret
        exact Ret.mk (ret_str (by rw [hf.out])) hE
end Go.Proofs.YtmppjbimdonfmaaDoor
