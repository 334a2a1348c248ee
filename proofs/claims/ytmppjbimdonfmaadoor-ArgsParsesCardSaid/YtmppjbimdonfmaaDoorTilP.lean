/- Layer 2 (name): the error of a name, plain; the reference's Has and Check. -/
import Derived.Test.YtmppjbimdonfmaaDoorStr
namespace Go.Proofs.YtmppjbimdonfmaaDoor
open Go.ChangeShapes Go.WideShapes Go.ChangeAt Go.RowKit

def hasB (l : List UInt8) (c : UInt8) : Bool := decide (c ∈ l)
def checkN (l : List UInt8) : Int := if l = [] ∨ l = [46] ∨ l = [46, 46] ∨ hasB l 47 = true ∨ hasB l 0 = true then 1 else if 255 < l.length then 13 else 0
theorem mem_get {s : ByteArray} {k : Nat} (h : k < s.size) : s[k] ∈ s.data.toList := by
  have h1 := drop_at s k h
  exact List.mem_of_mem_drop (i := k) (by rw [h1]; exact List.mem_cons_self ..)
set_option maxRecDepth 100000 in
set_option maxHeartbeats 2000000 in
theorem rhas_any (s : ByteArray) (c : UInt8) (ci : Int) (hci : ci = c.toNat) (hs : s.size ≤ 1000000) (w : World) : Calls Tryd.prog 28 #[.string s, .int .u8 ci] w (Ret w (.bool (hasB s.data.toList c))) := by
  have HC := Lib.hid hci
  clear hci
  go_enter Tryd.func28, Tryd.ntmps28
  go_wp2_with fail
  go_loop [5] (fun i => ∃ k : Nat, k ≤ s.size ∧ i = .int .i64 k ∧ Hid (c ∉ s.data.toList.take k)) (fun i => s.size - (intOf i).toNat)
  case atStart => exact ⟨0, by omega, rfl, by show _ ∉ _; simp⟩
  case round =>
    obtain ⟨k, hk, rfl, hn⟩ := hrel
    by_cases hlt : k < s.size
    · have hcb : (s[k].toNat : Int) < 256 := by have := s[k].toNat_lt; omega
      by_cases he : s[k] = c
      · have hf : Hid (hasB s.data.toList c = true) := by show _ = _; rw [← he]; exact decide_eq_true (mem_get hlt)
        have he' : ((s[k].toNat : Int) == ci) = true := by rw [HC.out, he]; exact beq_self_eq_true _
        clear he
        go_wp2_with fail
        go_ret
        exact Ret.mk (ret_bool (by rw [hf.out])) (Ext.refl _)
      · have hnn : Hid (c ∉ s.data.toList.take (k + 1)) := by
          show _ ∉ _
          rw [take_snoc s k hlt, List.mem_append, not_or]
          exact ⟨hn.out, by simpa using fun h => he h.symm⟩
        have he' : ((s[k].toNat : Int) == ci) = false := by
          rw [HC.out, beq_eq_false_iff_ne]
          exact fun h => he (UInt8.toNat_inj.1 (by omega))
        clear he
        go_wp2_with fail
        go_round
        case rel => exact ⟨k + 1, by omega, by go_num, hnn⟩
        case measure => simp [intOf]; omega
    · obtain rfl : k = s.size := by omega
      have hf : Hid (hasB s.data.toList c = false) := by
        show _ = _
        have := hn.out
        rw [List.take_of_length_le (by simp)] at this
        exact decide_eq_false this
      go_wp2_with fail
      go_ret
      exact Ret.mk (ret_bool (by rw [hf.out])) (Ext.refl _)
theorem checkN_no {l : List UInt8} (h0 : ¬ l = []) (h1 : ¬ l = [46]) (h2 : ¬ l = [46, 46]) : checkN l = if hasB l 47 = true ∨ hasB l 0 = true then 1 else if 255 < l.length then 13 else 0 := by
  unfold checkN; simp [h0, h1, h2]
set_option maxRecDepth 100000 in
set_option maxHeartbeats 2000000 in
theorem rcheck_any (s : ByteArray) (hs : s.size ≤ 1000000) (w : World) : Calls Tryd.prog 19 #[.string s] w (Ret w (.int .i64 (checkN s.data.toList))) := by
  by_cases h0 : s.data.toList = []
  · have hf : Hid (checkN s.data.toList = 1) := by show _ = _; unfold checkN; rw [if_pos (.inl h0)]
    have e : s.toList = [] := by rw [ByteArray.toList_eq]; exact h0
    clear h0
    go_enter Tryd.func19, Tryd.ntmps19
    go_wp2_with fail
    go_ret
    exact Ret.mk (ret_int (by rw [hf.out])) (Ext.refl _)
  · by_cases h1 : s.data.toList = [46]
    · have hf : Hid (checkN s.data.toList = 1) := by show _ = _; unfold checkN; rw [if_pos (.inr (.inl h1))]
      have e : s.toList = [46] := by rw [ByteArray.toList_eq]; exact h1
      clear h0 h1
      go_enter Tryd.func19, Tryd.ntmps19
      go_wp2_with fail
      go_ret
      exact Ret.mk (ret_int (by rw [hf.out])) (Ext.refl _)
    · by_cases h2 : s.data.toList = [46, 46]
      · have hf : Hid (checkN s.data.toList = 1) := by show _ = _; unfold checkN; rw [if_pos (.inr (.inr (.inl h2)))]
        have e : s.toList = [46, 46] := by rw [ByteArray.toList_eq]; exact h2
        clear h0 h1 h2
        go_enter Tryd.func19, Tryd.ntmps19
        go_wp2_with fail
        go_ret
        exact Ret.mk (ret_int (by rw [hf.out])) (Ext.refl _)
      · have hk := checkN_no h0 h1 h2
        have e0 : s.toList.isEmpty = false := by rw [ByteArray.toList_eq, List.isEmpty_eq_false_iff]; exact h0
        have e1 : (s.toList == [46]) = false := by rw [ByteArray.toList_eq]; exact beq_eq_false_iff_ne.2 h1
        have e2 : (s.toList == [46, 46]) = false := by rw [ByteArray.toList_eq]; exact beq_eq_false_iff_ne.2 h2
        clear h0 h1 h2
        have hsz : s.data.toList.length = s.size := by simp
        rw [hsz] at hk
        cases hb : hasB s.data.toList 47 with
        | true =>
          have hf : Hid (checkN s.data.toList = 1) := by show _ = _; rw [hk, if_pos (.inl hb)]
          have HB := Lib.hid hb
          clear hk hb hsz
          go_enter Tryd.func19, Tryd.ntmps19
          go_wp2_with fail
          refine (rhas_any _ 47 _ (by rfl) hs _).mono ?_
          rintro e w1 ⟨rfl, b1⟩
          rw [HB.out]
          go_wp2_with fail
          go_ret
          exact Ret.mk (ret_int (by rw [hf.out])) b1
        | false =>
          cases hc : hasB s.data.toList 0 with
          | true =>
            have hf : Hid (checkN s.data.toList = 1) := by show _ = _; rw [hk, if_pos (.inr hc)]
            have HB := Lib.hid hb
            have HC := Lib.hid hc
            clear hk hb hc hsz
            go_enter Tryd.func19, Tryd.ntmps19
            go_wp2_with fail
            refine (rhas_any _ 47 _ (by rfl) hs _).mono ?_
            rintro e w1 ⟨rfl, b1⟩
            rw [HB.out]
            go_wp2_with fail
            refine (rhas_any _ 0 _ (by rfl) hs _).mono ?_
            rintro e w2 ⟨rfl, b2⟩
            rw [HC.out]
            go_wp2_with fail
            go_ret
            exact Ret.mk (ret_int (by rw [hf.out])) (b1.trans b2)
          | false =>
            have hf : Hid (checkN s.data.toList = if 255 < s.size then 13 else 0) := by show _ = _; rw [hk, if_neg (by rw [hb, hc]; simp)]
            have HB := Lib.hid hb
            have HC := Lib.hid hc
            clear hk hb hc hsz
            by_cases h : 255 < s.size
            · rw [if_pos h] at hf
              go_enter Tryd.func19, Tryd.ntmps19
              go_wp2_with fail
              refine (rhas_any _ 47 _ (by rfl) hs _).mono ?_
              rintro e w1 ⟨rfl, b1⟩
              rw [HB.out]
              go_wp2_with fail
              refine (rhas_any _ 0 _ (by rfl) hs _).mono ?_
              rintro e w2 ⟨rfl, b2⟩
              rw [HC.out]
              go_wp2_with fail
              go_ret
              exact Ret.mk (ret_int (by rw [hf.out])) (b1.trans b2)
            · rw [if_neg h] at hf
              go_enter Tryd.func19, Tryd.ntmps19
              go_wp2_with fail
              refine (rhas_any _ 47 _ (by rfl) hs _).mono ?_
              rintro e w1 ⟨rfl, b1⟩
              rw [HB.out]
              go_wp2_with fail
              refine (rhas_any _ 0 _ (by rfl) hs _).mono ?_
              rintro e w2 ⟨rfl, b2⟩
              rw [HC.out]
              go_wp2_with fail
              go_ret
              exact Ret.mk (ret_int (by rw [hf.out])) (b1.trans b2)
end Go.Proofs.YtmppjbimdonfmaaDoor
