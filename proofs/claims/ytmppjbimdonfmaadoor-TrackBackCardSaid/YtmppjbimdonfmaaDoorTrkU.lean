/- Layer 3 (track): Inside and Rel of both. -/
import Derived.Test.YtmppjbimdonfmaaDoorTrkS
namespace Go.Proofs.YtmppjbimdonfmaaDoor
open Go.ChangeShapes Go.WideShapes Go.ChangeAt Go.RowKit

theorem prefix_take (a l : List UInt8) : a.isPrefixOf l = (decide (a.length ≤ l.length) && (l.take a.length == a)) := by
  rw [Bool.eq_iff_iff, Bool.and_eq_true, decide_eq_true_iff, beq_iff_eq]
  constructor
  · intro h
    obtain ⟨t, rfl⟩ := prefix_iff.1 h
    exact ⟨by simp, by simp⟩
  · rintro ⟨_, h⟩
    exact prefix_iff.2 ⟨l.drop a.length, by
      have := List.take_append_drop a.length l
      rw [h] at this
      exact this.symm⟩
set_option maxRecDepth 100000 in
set_option maxHeartbeats 1000000 in
theorem pinside_any (a b : List UInt8) (w : World) (ha : a.length ≤ 100000) (hb : b.length ≤ 100000) : Calls Tryd.prog 38 #[.string (bs a), .string (bs b)] w (Ret w (.bool (insideN a b))) := by
  have hcl := cutN_len a
  have hse := str_eq a b
  have z0 : (bs a).size = a.length := bs_size a
  cases he : (a == b) with
  | true =>
    have hf : Hid (insideN a b = true) := by show _ = _; unfold insideN; rw [he]; rfl
    rw [he] at hse
    clear he
    go_enter Tryd.func38, Tryd.ntmps38
    go_wp2_with fail
    go_ret
    exact Ret.mk (ret_bool (by rw [hf.out])) (Ext.refl _)
  | false =>
    have hf : Hid (insideN a b = (cutN a ++ [47]).isPrefixOf b) := by show _ = _; unfold insideN; rw [he]; rfl
    rw [he] at hse
    obtain ⟨C, hC⟩ : ∃ C, C = cutN a := ⟨_, rfl⟩
    have hTr : Hid (Lib.trimRightB a 47 = C) := hC.symm
    rw [← hC] at hcl hf
    have z1 : (bs C).size = C.length := bs_size C
    have c1 : bs C ++ (⟨#[47]⟩ : ByteArray) = bs (C ++ [47]) := bs_append C [47]
    have hb1 : ¬ 9223372036854775807 < C.length + 1 := by omega
    clear hC he
    go_enter Tryd.func38, Tryd.ntmps38
    go_wp2_with fail
    refine (Tryd.strings_TrimRight_one _ 47 (by decide) _ (by omega)).mono ?_
    rintro e w1 ⟨rfl, rfl⟩
    rw [bs_list, hTr.out, show (⟨C.toArray⟩ : ByteArray) = bs C from rfl]
    go_wp2_with fail
    refine (Tryd.strings_HasPrefix _ _ _).mono ?_
    rintro e w1 ⟨rfl, rfl⟩
    rw [bs_list, bs_list]
    go_wp2_with fail
    go_ret
    exact Ret.mk (ret_bool (by rw [hf.out]; rfl)) (Ext.refl _)
set_option maxRecDepth 100000 in
set_option maxHeartbeats 1000000 in
theorem rinside_any (a b : List UInt8) (w : World) (ha : a.length ≤ 100000) (hb : b.length ≤ 100000) : Calls Tryd.prog 39 #[.string (bs a), .string (bs b)] w (Ret w (.bool (insideN a b))) := by
  have hcl := cutN_len a
  have hse := str_eq b a
  obtain ⟨C, hC⟩ : ∃ C, C = cutN a := ⟨_, rfl⟩
  have hf0 : insideN a b = (a == b || (C ++ [47]).isPrefixOf b) := by rw [hC]; rfl
  rw [prefix_take] at hf0
  have hl1 : (C ++ [47]).length = C.length + 1 := by simp
  rw [hl1] at hf0
  have hab : (a == b) = (b == a) := by rw [Bool.eq_iff_iff, beq_iff_eq, beq_iff_eq]; exact ⟨fun h => h.symm, fun h => h.symm⟩
  rw [hab] at hf0
  rw [← hC] at hcl
  have HC := Lib.hid hC
  have z1 : (bs C).size = C.length := bs_size C
  have z2 : (bs b).size = b.length := bs_size b
  have z3 : (bs (C ++ [47])).size = C.length + 1 := by rw [bs_size]; simp
  have c1 : bs C ++ (⟨#[47]⟩ : ByteArray) = bs (C ++ [47]) := bs_append C [47]
  have hb1 : ¬ 9223372036854775807 < C.length + 1 := by omega
  clear hC hl1 hab
  cases he : (b == a) with
  | true =>
    have hf : Hid (insideN a b = true) := by show _ = _; rw [hf0, he]; rfl
    rw [he] at hse
    clear he hf0
    go_enter Tryd.func39, Tryd.ntmps39
    go_wp2_with fail
    refine (rcut_any a _ (by omega)).mono ?_
    rintro e w1 ⟨rfl, hE1⟩
    rw [← HC.out]
    go_wp2_with fail
    go_ret
    exact Ret.mk (ret_bool (by rw [hf.out])) hE1
  | false =>
    rw [he] at hse hf0
    by_cases hl : C.length + 1 ≤ b.length
    · have hf : Hid (insideN a b = (b.take (C.length + 1) == C ++ [47])) := by show _ = _; rw [hf0, decide_eq_true hl]; rfl
      have hli : (C.length : Int) + 1 ≤ b.length := by omega
      have hsl := slice_to (P := Tryd.prog) Tryd.underlying9 (bs b) ((C.length : Int) + 1) (C.length + 1) (by omega) (by omega) (bs (b.take (C.length + 1))) (bs_to b _)
      have hs2 := str_eq (b.take (C.length + 1)) (C ++ [47])
      obtain ⟨Bt, hBt⟩ : ∃ Bt, Bt = (b.take (C.length + 1) == C ++ [47]) := ⟨_, rfl⟩
      rw [← hBt] at hf hs2
      obtain ⟨T, hT⟩ : ∃ T, T = b.take (C.length + 1) := ⟨_, rfl⟩
      rw [← hT] at hsl hs2
      clear he hf0 hBt hT
      go_enter Tryd.func39, Tryd.ntmps39
      go_wp2_with fail
      refine (rcut_any a _ (by omega)).mono ?_
      rintro e w1 ⟨rfl, hE1⟩
      rw [← HC.out]
      go_wp2_with fail
      go_ret
      exact Ret.mk (ret_bool (by rw [hf.out])) hE1
    · have hf : Hid (insideN a b = false) := by show _ = _; rw [hf0, decide_eq_false hl]; rfl
      have hli : ¬ (C.length : Int) + 1 ≤ b.length := by omega
      clear he hf0
      go_enter Tryd.func39, Tryd.ntmps39
      go_wp2_with fail
      refine (rcut_any a _ (by omega)).mono ?_
      rintro e w1 ⟨rfl, hE1⟩
      rw [← HC.out]
      go_wp2_with fail
      go_ret
      exact Ret.mk (ret_bool (by rw [hf.out])) hE1
end Go.Proofs.YtmppjbimdonfmaaDoor
