/- Layer 1 (num): reading digits. -/
import Derived.Test.YtmppjbimdonfmaaDoorNumP
import Derived.PlainAid
namespace Go.Proofs.YtmppjbimdonfmaaDoor
open Go.ChangeShapes Go.WideShapes Go.ChangeAt Go.RowKit

/-- The number that digits to a base tell. -/
def valL (b : Nat) (l : List UInt8) : Nat := l.foldl (fun n c => n * b + (c.toNat - 48)) 0
theorem valL_nil (b : Nat) : valL b [] = 0 := rfl
theorem valL_snoc (b : Nat) (l : List UInt8) (c : UInt8) : valL b (l ++ [c]) = valL b l * b + (c.toNat - 48) := by unfold valL; rw [List.foldl_append]; rfl
def digitB (b : Nat) (c : UInt8) : Bool := decide (48 ≤ c.toNat) && decide (c.toNat < 48 + b)
/-- What reads. -/
def readB (b most : Nat) (l : List UInt8) : Bool := !l.isEmpty && l.all (digitB b) && decide (valL b l ≤ most)
def readV (b most : Nat) (l : List UInt8) : Value := if readB b most l = true then .tuple #[.int .u64 (valL b l), .bool true] else .tuple #[.int .u64 0, .bool false]
theorem foldl_ge (b : Nat) (hb : 0 < b) : ∀ (l : List UInt8) (n : Nat), n ≤ l.foldl (fun n c => n * b + (c.toNat - 48)) n
  | [], n => Nat.le_refl _
  | c :: l, n => by
    rw [List.foldl_cons]
    have h := foldl_ge b hb l (n * b + (c.toNat - 48))
    have : n * 1 ≤ n * b := Nat.mul_le_mul_left n hb
    omega
theorem valL_mono (b : Nat) (hb : 0 < b) (l m : List UInt8) : valL b l ≤ valL b (l ++ m) := by
  unfold valL; rw [List.foldl_append]; exact foldl_ge b hb m _
theorem readV_yes {b most : Nat} {l : List UInt8} (h : readB b most l = true) : readV b most l = .tuple #[.int .u64 (valL b l), .bool true] := by unfold readV; rw [if_pos h]
theorem readV_no {b most : Nat} {l : List UInt8} (h : readB b most l = false) : readV b most l = .tuple #[.int .u64 0, .bool false] := by unfold readV; rw [if_neg (by simp [h])]
theorem take_split (s : ByteArray) (k : Nat) (h : k < s.size) : s.data.toList = s.data.toList.take k ++ [s[k]] ++ s.data.toList.drop (k + 1) := by
  rw [← take_snoc s k h, List.take_append_drop]
theorem readB_digit {b most : Nat} {s : ByteArray} {k : Nat} (h : k < s.size) (hd : digitB b s[k] = false) : readB b most s.data.toList = false := by
  unfold readB
  have hm : s[k] ∈ s.data.toList := by rw [take_split s k h]; simp
  have : s.data.toList.all (digitB b) = false := by
    rw [List.all_eq_false]; exact ⟨_, hm, by simp [hd]⟩
  rw [this]; simp
theorem readB_over {b most : Nat} {s : ByteArray} {k : Nat} (hb : 0 < b) (h : k < s.size) (hd : most < valL b (s.data.toList.take k) * b + (s[k].toNat - 48)) : readB b most s.data.toList = false := by
  unfold readB
  have h1 := valL_mono b hb (s.data.toList.take k ++ [s[k]]) (s.data.toList.drop (k + 1))
  rw [← take_split s k h, valL_snoc] at h1
  have : decide (valL b s.data.toList ≤ most) = false := decide_eq_false (by omega)
  rw [this]; simp
theorem readB_done {b most : Nat} {l : List UInt8} (h0 : l ≠ []) (h1 : l.all (digitB b) = true) (h2 : valL b l ≤ most) : readB b most l = true := by
  unfold readB
  rw [h1, decide_eq_true h2]
  cases l with
  | nil => exact absurd rfl h0
  | cons a l => rfl
theorem Ext.iter {a w : World} (h : Ext a w) (s : ByteArray) (p : Nat) : Ext a (w.iter s p) := h.alloc _

set_option maxRecDepth 100000 in
set_option maxHeartbeats 4000000 in
theorem read_10 (s : ByteArray) (most : Nat) (w : World) (hm0 : 10 ≤ most) (hm : Hid (most ≤ 9223372036854775808)) : Calls Tryd.prog 128 #[.string s, .int .u64 10, .int .u64 most] w (Ret w (readV 10 most s.data.toList)) := by
  by_cases h0 : s.data.toList = []
  · have hf := Lib.hid (readV_no (b := 10) (most := most) (l := s.data.toList) (by rw [h0]; rfl))
    have hem : s.toList.isEmpty = true := by rw [ByteArray.toList_eq, h0]; rfl
    clear h0
    go_enter Tryd.func128, Tryd.ntmps128
    go_wp2_with fail
    go_ret2
    exact Ret.mk (by rw [hf.out]; rfl) (Ext.refl _)
  · have hne : s.toList.isEmpty = false := by
      rw [ByteArray.toList_eq]
      cases h : s.data.toList with
      | nil => exact absurd h h0
      | cons a l => rfl
    have H0 := Lib.hid h0
    clear h0
    go_enter Tryd.func128, Tryd.ntmps128
    go_wp2_with fail
    go_loopw [8] (fun n wr => ∃ (k v : Nat), k ≤ s.size ∧ n = .int .u64 v ∧ Hid (v = valL 10 (s.data.toList.take k)) ∧ v ≤ most ∧ Hid ((s.data.toList.take k).all (digitB 10) = true) ∧ wr = w.iter s k) (fun _ wr => s.size - wr.iterPos w.heap.size)
    case atStart => exact ⟨0, 0, by omega, rfl, rfl, by omega, rfl, rfl⟩
    case round =>
      obtain ⟨k, v, hk, rfl, hv, hvm, had, rfl⟩ := hrel
      by_cases hlt : k < s.size
      · by_cases ha : s[k].toNat < 128
        · have hnx := run_next_ascii (P := Tryd.prog) w s k 0 hlt ha
          have hcb : (s[k].toNat : Int) < 128 := by omega
          have hcu : IntKind.u64.wrap (s[k].toNat : Int) = (s[k].toNat : Int) := PlainAid.u64_nonneg (by omega) (by omega)
          by_cases h48 : s[k].toNat < 48
          · have hf := Lib.hid (readV_no (most := most) (readB_digit (b := 10) hlt (by unfold digitB; simp; omega)))
            have h48' : (s[k].toNat : Int) < 48 := by omega
            go_wp2_with fail
            go_ret2
            exact Ret.mk (by rw [hf.out]; rfl) ((Ext.refl _).iter _ _)
          · have h48' : ¬ ((s[k].toNat : Int) < 48) := by omega
            obtain ⟨d, hd⟩ : ∃ d : Nat, d = s[k].toNat - 48 := ⟨_, rfl⟩
            have hdu : IntKind.u64.wrap ((s[k].toNat : Int) - 48) = (d : Int) := by rw [IntKind.wrap_u64]; omega
            by_cases hdb : d < 10
            · have hsub : IntKind.u64.wrap ((most : Int) - (d : Int)) = (most : Int) - (d : Int) := by have := hm.out; rw [IntKind.wrap_u64]; omega
              obtain ⟨Q, hQ⟩ : ∃ Q : Nat, Q = (most - d) / 10 := ⟨_, rfl⟩
              have hq : IntKind.u64.wrap (((most : Int) - (d : Int)).tdiv 10) = (Q : Int) := by
                have := hm.out
                rw [Int.tdiv_eq_ediv_of_nonneg (by omega), IntKind.wrap_u64]; omega
              by_cases hov : most < v * 10 + d
              · have hf := Lib.hid (readV_no (readB_over (b := 10) (most := most) (by decide) hlt (by rw [← hv.out, ← hd]; exact hov)))
                have hov' : (Q : Int) < (v : Int) := by omega
                have HD := Lib.hid hd
                clear hd hov hQ
                go_wp2_with fail
                go_ret2
                exact Ret.mk (by rw [hf.out]; rfl) ((Ext.refl _).iter _ _)
              · have hov' : ¬ ((Q : Int) < (v : Int)) := by omega
                have hmul : IntKind.u64.wrap ((v : Int) * 10) = ((v * 10 : Nat) : Int) := by have := hm.out; rw [IntKind.wrap_u64]; omega
                have hadd : IntKind.u64.wrap (((v * 10 : Nat) : Int) + (d : Int)) = ((v * 10 + d : Nat) : Int) := by have := hm.out; rw [IntKind.wrap_u64]; omega
                have hval : Hid (v * 10 + d = valL 10 (s.data.toList.take (k + 1))) := by show _ = _; rw [take_snoc s k hlt, valL_snoc, ← hv.out, ← hd]
                have hall : Hid ((s.data.toList.take (k + 1)).all (digitB 10) = true) := by
                  show _ = _
                  rw [take_snoc s k hlt, List.all_append, had.out]
                  unfold digitB
                  simp; omega
                have hle : v * 10 + d ≤ most := by omega
                have HD := Lib.hid hd
                clear hd hov hQ
                obtain ⟨M, hM⟩ : ∃ M, M = v * 10 := ⟨_, rfl⟩
                rw [← hM] at hmul hadd hval hle
                clear hM
                go_wp2_with fail
                go_roundw
                case rel => exact ⟨k + 1, M + d, by omega, by go_num, hval, hle, hall, rfl⟩
                case measure => simp; omega
            · have hf := Lib.hid (readV_no (most := most) (readB_digit (b := 10) hlt (by unfold digitB; simp; omega)))
              have hdb' : (10 : Int) ≤ (d : Int) := by omega
              clear hd hdb
              go_wp2_with fail
              go_ret2
              exact Ret.mk (by rw [hf.out]; rfl) ((Ext.refl _).iter _ _)
        · have hf := Lib.hid (readV_no (most := most) (readB_digit (b := 10) hlt (by unfold digitB; simp; omega)))
          obtain ⟨h1, h2⟩ := decode_high s k hlt (by omega)
          have h3 := decode_le s k
          have hnx := run_next_any (P := Tryd.prog) w s k 0 hlt
          generalize (Utf8.decode s k).1 = r at h1 h3 hnx
          generalize (Utf8.decode s k).2 = q at h2 hnx
          have hcu : IntKind.u64.wrap (r : Int) = (r : Int) := PlainAid.u64_nonneg (by omega) (by omega)
          have hdu : IntKind.u64.wrap ((r : Int) - 48) = (r : Int) - 48 := PlainAid.u64_nonneg (by omega) (by omega)
          have hr1 : ¬ ((r : Int) < 48) := by omega
          have hr2 : (10 : Int) ≤ (r : Int) - 48 := by omega
          clear ha
          go_wp2_with fail
          go_ret2
          exact Ret.mk (by rw [hf.out]; rfl) ((Ext.refl _).iter _ _)
      · obtain rfl : k = s.size := by omega
        have hnx := run_next_end (P := Tryd.prog) w s s.size 0 hlt
        have ht : s.data.toList.take s.size = s.data.toList := List.take_of_length_le (by simp)
        have hf := Lib.hid (readV_yes (readB_done (b := 10) (most := most) H0.out (by rw [← ht]; exact had.out) (by rw [← ht, ← hv.out]; exact hvm)))
        have hV : Hid (v = valL 10 s.data.toList) := by show _ = _; rw [hv.out, ht]
        clear ht
        go_wp2_with fail
        go_ret2
        exact Ret.mk (by rw [hf.out, ← hV.out]; rfl) ((Ext.refl _).iter _ _)
end Go.Proofs.YtmppjbimdonfmaaDoor
