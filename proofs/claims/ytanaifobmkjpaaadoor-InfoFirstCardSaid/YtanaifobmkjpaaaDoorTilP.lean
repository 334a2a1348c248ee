/- Layer 2 (name): the error of a name, plain; the reference's Has and Check. -/
import Derived.Test.YtanaifobmkjpaaaDoorStr
namespace Go.Proofs.YtanaifobmkjpaaaDoor
open Go.ChangeShapes Go.WideShapes Go.ChangeAt Go.RowKit

def hasB (l : List UInt8) (c : UInt8) : Bool := decide (c ∈ l)
def checkN (l : List UInt8) : Int := if l = [] ∨ l = [46] ∨ l = [46, 46] ∨ hasB l 47 = true ∨ hasB l 0 = true then 1 else if 255 < l.length then 13 else 0
theorem mem_get {s : ByteArray} {k : Nat} (h : k < s.size) : s[k] ∈ s.data.toList := by
  have h1 := drop_at s k h
  exact List.mem_of_mem_drop (i := k) (by rw [h1]; exact List.mem_cons_self ..)
set_option maxRecDepth 100000 in
set_option maxHeartbeats 2000000 in
theorem rhas_any (s : ByteArray) (c : UInt8) (ci : Int) (hci : ci = c.toNat) (hs : s.size ≤ 1000000) (w : World) : Calls Tryd.prog 27 #[.string s, .int .u8 ci] w (Ret w (.bool (hasB s.data.toList c))) := by
  have HC := Lib.hid hci
  clear hci
  go_enter Tryd.func27, Tryd.ntmps27
  go_wp2_with fail
  go_loop [5] (fun i => ∃ k : Nat, k ≤ s.size ∧ i = .int .i64 k ∧ Hid (c ∉ s.data.toList.take k)) (fun i => s.size - (intOf i).toNat)
  case atStart => exact ⟨0, by omega, rfl, by show _ ∉ _; simp⟩
  case round =>
    obtain ⟨k, hk, rfl, hn⟩ := hrel
    by_cases hlt : k < s.size
    · have hcb : (s[k].toNat : Int) < 256 := by have := s[k].toNat_lt; omega
      by_cases he : s[k] = c
      · have hf : Hid (hasB s.data.toList c = true) := by show _ = _; rw [← he]; exact decide_eq_true (mem_get hlt)
        have he' : ((s[k].toNat : Int) == ci) = true := by rw [HC.out, he]; exact beq_self_eq_true _
        clear he
        go_wp2_with fail
        go_ret
        exact Ret.mk (ret_bool (by rw [hf.out])) (Ext.refl _)
      · have hnn : Hid (c ∉ s.data.toList.take (k + 1)) := by
          show _ ∉ _
          rw [take_snoc s k hlt, List.mem_append, not_or]
          exact ⟨hn.out, by simpa using fun h => he h.symm⟩
        have he' : ((s[k].toNat : Int) == ci) = false := by
          rw [HC.out, beq_eq_false_iff_ne]
          exact fun h => he (UInt8.toNat_inj.1 (by omega))
        clear he
        go_wp2_with fail
        go_round
        case rel => exact ⟨k + 1, by omega, by go_num, hnn⟩
        case measure => simp [intOf]; omega
    · obtain rfl : k = s.size := by omega
      have hf : Hid (hasB s.data.toList c = false) := by
        show _ = _
        have := hn.out
        rw [List.take_of_length_le (by simp)] at this
        exact decide_eq_false this
      go_wp2_with fail
      go_ret
      exact Ret.mk (ret_bool (by rw [hf.out])) (Ext.refl _)
theorem checkN_no {l : List UInt8} (h0 : ¬ l = []) (h1 : ¬ l = [46]) (h2 : ¬ l = [46, 46]) : checkN l = if hasB l 47 = true ∨ hasB l 0 = true then 1 else if 255 < l.length then 13 else 0 := by
  unfold checkN; simp [h0, h1, h2]
end Go.Proofs.YtanaifobmkjpaaaDoor
