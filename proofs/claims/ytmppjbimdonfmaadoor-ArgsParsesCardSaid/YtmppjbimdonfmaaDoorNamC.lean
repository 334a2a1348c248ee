/- Layer 2 (name): the program's Check. -/
import Derived.Test.YtmppjbimdonfmaaDoorTilP
import Derived.Test.YtmppjbimdonfmaaDoorShelf
import Derived.Lib.IndexAny
namespace Go.Proofs.YtmppjbimdonfmaaDoor
open Go.ChangeShapes Go.WideShapes Go.ChangeAt Go.RowKit

theorem hasB_index (l : List UInt8) (c : UInt8) : decide (0 ≤ Lib.indexByte l c) = hasB l c := by
  rw [← Lib.contains_iff_indexByte, Bool.eq_iff_iff]
  simp [hasB]
set_option maxRecDepth 100000 in
set_option maxHeartbeats 2000000 in
theorem pcheck_any (s : ByteArray) (w : World) : Calls Tryd.prog 18 #[.string s] w (Ret w (.int .i64 (checkN s.data.toList))) := by
  by_cases h0 : s.data.toList = []
  · have hf : Hid (checkN s.data.toList = 1) := by show _ = _; unfold checkN; rw [if_pos (.inl h0)]
    have e : s.toList = [] := by rw [ByteArray.toList_eq]; exact h0
    clear h0
    go_enter Tryd.func18, Tryd.ntmps18
    go_wp2_with fail
    go_ret
    exact Ret.mk (ret_int (by rw [hf.out])) (Ext.refl _)
  · by_cases h1 : s.data.toList = [46]
    · have hf : Hid (checkN s.data.toList = 1) := by show _ = _; unfold checkN; rw [if_pos (.inr (.inl h1))]
      have e : s.toList = [46] := by rw [ByteArray.toList_eq]; exact h1
      clear h0 h1
      go_enter Tryd.func18, Tryd.ntmps18
      go_wp2_with fail
      go_ret
      exact Ret.mk (ret_int (by rw [hf.out])) (Ext.refl _)
    · by_cases h2 : s.data.toList = [46, 46]
      · have hf : Hid (checkN s.data.toList = 1) := by show _ = _; unfold checkN; rw [if_pos (.inr (.inr (.inl h2)))]
        have e : s.toList = [46, 46] := by rw [ByteArray.toList_eq]; exact h2
        clear h0 h1 h2
        go_enter Tryd.func18, Tryd.ntmps18
        go_wp2_with fail
        go_ret
        exact Ret.mk (ret_int (by rw [hf.out])) (Ext.refl _)
      · have hk := checkN_no h0 h1 h2
        have e0 : s.toList.isEmpty = false := by rw [ByteArray.toList_eq, List.isEmpty_eq_false_iff]; exact h0
        have e1 : (s.toList == [46]) = false := by rw [ByteArray.toList_eq]; exact beq_eq_false_iff_ne.2 h1
        have e2 : (s.toList == [46, 46]) = false := by rw [ByteArray.toList_eq]; exact beq_eq_false_iff_ne.2 h2
        clear h0 h1 h2
        have hsz : s.data.toList.length = s.size := by simp
        rw [hsz] at hk
        have hx : ∀ c, Hid (decide (0 ≤ Lib.indexByte s.data.toList c) = hasB s.data.toList c) := fun c => hasB_index _ c
        cases hb : hasB s.data.toList 47 with
        | true =>
          have hf : Hid (checkN s.data.toList = 1) := by show _ = _; rw [hk, if_pos (.inl hb)]
          have HB := Lib.hid hb
          clear hk hb hsz
          go_enter Tryd.func18, Tryd.ntmps18
          go_wp2_with fail
          refine (Tryd.strings_Contains_one _ 47 _).mono ?_
          rintro e w1 ⟨rfl, rfl⟩
          rw [(hx 47).out, HB.out]
          go_wp2_with fail
          go_ret
          exact Ret.mk (ret_int (by rw [hf.out])) (Ext.refl _)
        | false =>
          cases hc : hasB s.data.toList 0 with
          | true =>
            have hf : Hid (checkN s.data.toList = 1) := by show _ = _; rw [hk, if_pos (.inr hc)]
            have HB := Lib.hid hb
            have HC := Lib.hid hc
            clear hk hb hc hsz
            go_enter Tryd.func18, Tryd.ntmps18
            go_wp2_with fail
            refine (Tryd.strings_Contains_one _ 47 _).mono ?_
            rintro e w1 ⟨rfl, rfl⟩
            rw [(hx 47).out, HB.out]
            go_wp2_with fail
            refine (Tryd.strings_Contains_one _ 0 _).mono ?_
            rintro e w1 ⟨rfl, rfl⟩
            rw [(hx 0).out, HC.out]
            go_wp2_with fail
            go_ret
            exact Ret.mk (ret_int (by rw [hf.out])) (Ext.refl _)
          | false =>
            have hf : Hid (checkN s.data.toList = if 255 < s.size then 13 else 0) := by show _ = _; rw [hk, if_neg (by rw [hb, hc]; simp)]
            have HB := Lib.hid hb
            have HC := Lib.hid hc
            clear hk hb hc hsz
            by_cases h : 255 < s.size
            · rw [if_pos h] at hf
              go_enter Tryd.func18, Tryd.ntmps18
              go_wp2_with fail
              refine (Tryd.strings_Contains_one _ 47 _).mono ?_
              rintro e w1 ⟨rfl, rfl⟩
              rw [(hx 47).out, HB.out]
              go_wp2_with fail
              refine (Tryd.strings_Contains_one _ 0 _).mono ?_
              rintro e w1 ⟨rfl, rfl⟩
              rw [(hx 0).out, HC.out]
              go_wp2_with fail
              go_ret
              exact Ret.mk (ret_int (by rw [hf.out])) (Ext.refl _)
            · rw [if_neg h] at hf
              go_enter Tryd.func18, Tryd.ntmps18
              go_wp2_with fail
              refine (Tryd.strings_Contains_one _ 47 _).mono ?_
              rintro e w1 ⟨rfl, rfl⟩
              rw [(hx 47).out, HB.out]
              go_wp2_with fail
              refine (Tryd.strings_Contains_one _ 0 _).mono ?_
              rintro e w1 ⟨rfl, rfl⟩
              rw [(hx 0).out, HC.out]
              go_wp2_with fail
              go_ret
              exact Ret.mk (ret_int (by rw [hf.out])) (Ext.refl _)
end Go.Proofs.YtmppjbimdonfmaaDoor
