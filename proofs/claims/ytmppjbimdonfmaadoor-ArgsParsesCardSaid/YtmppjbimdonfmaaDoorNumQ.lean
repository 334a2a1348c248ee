/- Layer 1 (num): base 8: reading, Base, Oct, ParseOct. -/
import Derived.Test.YtmppjbimdonfmaaDoorNumO
import Derived.Test.YtmppjbimdonfmaaDoorNumC
namespace Go.Proofs.YtmppjbimdonfmaaDoor
open Go.ChangeShapes Go.WideShapes Go.ChangeAt Go.RowKit
set_option maxRecDepth 100000 in
set_option maxHeartbeats 4000000 in
theorem read_8 (s : ByteArray) (most : Nat) (w : World) (hm0 : 8 ≤ most) (hm : Hid (most ≤ 9223372036854775808)) : Calls Tryd.prog 128 #[.string s, .int .u64 8, .int .u64 most] w (Ret w (readV 8 most s.data.toList)) := by
  by_cases h0 : s.data.toList = []
  · have hf := Lib.hid (readV_no (b := 8) (most := most) (l := s.data.toList) (by rw [h0]; rfl))
    have hem : s.toList.isEmpty = true := by rw [ByteArray.toList_eq, h0]; rfl
    clear h0
    go_enter Tryd.func128, Tryd.ntmps128
    go_wp2_with fail
    go_ret2
    exact Ret.mk (by rw [hf.out]; rfl) (Ext.refl _)
  · have hne : s.toList.isEmpty = false := by
      rw [ByteArray.toList_eq]
      cases h : s.data.toList with
      | nil => exact absurd h h0
      | cons a l => rfl
    have H0 := Lib.hid h0
    clear h0
    go_enter Tryd.func128, Tryd.ntmps128
    go_wp2_with fail
    go_loopw [8] (fun n wr => ∃ (k v : Nat), k ≤ s.size ∧ n = .int .u64 v ∧ Hid (v = valL 8 (s.data.toList.take k)) ∧ v ≤ most ∧ Hid ((s.data.toList.take k).all (digitB 8) = true) ∧ wr = w.iter s k) (fun _ wr => s.size - wr.iterPos w.heap.size)
    case atStart => exact ⟨0, 0, by omega, rfl, rfl, by omega, rfl, rfl⟩
    case round =>
      obtain ⟨k, v, hk, rfl, hv, hvm, had, rfl⟩ := hrel
      by_cases hlt : k < s.size
      · by_cases ha : s[k].toNat < 128
        · have hnx := run_next_ascii (P := Tryd.prog) w s k 0 hlt ha
          have hcb : (s[k].toNat : Int) < 128 := by omega
          have hcu : IntKind.u64.wrap (s[k].toNat : Int) = (s[k].toNat : Int) := PlainAid.u64_nonneg (by omega) (by omega)
          by_cases h48 : s[k].toNat < 48
          · have hf := Lib.hid (readV_no (most := most) (readB_digit (b := 8) hlt (by unfold digitB; simp; omega)))
            have h48' : (s[k].toNat : Int) < 48 := by omega
            go_wp2_with fail
            go_ret2
            exact Ret.mk (by rw [hf.out]; rfl) ((Ext.refl _).iter _ _)
          · have h48' : ¬ ((s[k].toNat : Int) < 48) := by omega
            obtain ⟨d, hd⟩ : ∃ d : Nat, d = s[k].toNat - 48 := ⟨_, rfl⟩
            have hdu : IntKind.u64.wrap ((s[k].toNat : Int) - 48) = (d : Int) := by rw [IntKind.wrap_u64]; omega
            by_cases hdb : d < 8
            · have hsub : IntKind.u64.wrap ((most : Int) - (d : Int)) = (most : Int) - (d : Int) := by have := hm.out; rw [IntKind.wrap_u64]; omega
              obtain ⟨Q, hQ⟩ : ∃ Q : Nat, Q = (most - d) / 8 := ⟨_, rfl⟩
              have hq : IntKind.u64.wrap (((most : Int) - (d : Int)).tdiv 8) = (Q : Int) := by
                have := hm.out
                rw [Int.tdiv_eq_ediv_of_nonneg (by omega), IntKind.wrap_u64]; omega
              by_cases hov : most < v * 8 + d
              · have hf := Lib.hid (readV_no (readB_over (b := 8) (most := most) (by decide) hlt (by rw [← hv.out, ← hd]; exact hov)))
                have hov' : (Q : Int) < (v : Int) := by omega
                have HD := Lib.hid hd
                clear hd hov hQ
                go_wp2_with fail
                go_ret2
                exact Ret.mk (by rw [hf.out]; rfl) ((Ext.refl _).iter _ _)
              · have hov' : ¬ ((Q : Int) < (v : Int)) := by omega
                have hmul : IntKind.u64.wrap ((v : Int) * 8) = ((v * 8 : Nat) : Int) := by have := hm.out; rw [IntKind.wrap_u64]; omega
                have hadd : IntKind.u64.wrap (((v * 8 : Nat) : Int) + (d : Int)) = ((v * 8 + d : Nat) : Int) := by have := hm.out; rw [IntKind.wrap_u64]; omega
                have hval : Hid (v * 8 + d = valL 8 (s.data.toList.take (k + 1))) := by show _ = _; rw [take_snoc s k hlt, valL_snoc, ← hv.out, ← hd]
                have hall : Hid ((s.data.toList.take (k + 1)).all (digitB 8) = true) := by
                  show _ = _
                  rw [take_snoc s k hlt, List.all_append, had.out]
                  unfold digitB
                  simp; omega
                have hle : v * 8 + d ≤ most := by omega
                have HD := Lib.hid hd
                clear hd hov hQ
                obtain ⟨M, hM⟩ : ∃ M, M = v * 8 := ⟨_, rfl⟩
                rw [← hM] at hmul hadd hval hle
                clear hM
                go_wp2_with fail
                go_roundw
                case rel => exact ⟨k + 1, M + d, by omega, by go_num, hval, hle, hall, rfl⟩
                case measure => simp; omega
            · have hf := Lib.hid (readV_no (most := most) (readB_digit (b := 8) hlt (by unfold digitB; simp; omega)))
              have hdb' : (8 : Int) ≤ (d : Int) := by omega
              clear hd hdb
              go_wp2_with fail
              go_ret2
              exact Ret.mk (by rw [hf.out]; rfl) ((Ext.refl _).iter _ _)
        · have hf := Lib.hid (readV_no (most := most) (readB_digit (b := 8) hlt (by unfold digitB; simp; omega)))
          obtain ⟨h1, h2⟩ := decode_high s k hlt (by omega)
          have h3 := decode_le s k
          have hnx := run_next_any (P := Tryd.prog) w s k 0 hlt
          generalize (Utf8.decode s k).1 = r at h1 h3 hnx
          generalize (Utf8.decode s k).2 = q at h2 hnx
          have hcu : IntKind.u64.wrap (r : Int) = (r : Int) := PlainAid.u64_nonneg (by omega) (by omega)
          have hdu : IntKind.u64.wrap ((r : Int) - 48) = (r : Int) - 48 := PlainAid.u64_nonneg (by omega) (by omega)
          have hr1 : ¬ ((r : Int) < 48) := by omega
          have hr2 : (8 : Int) ≤ (r : Int) - 48 := by omega
          clear ha
          go_wp2_with fail
          go_ret2
          exact Ret.mk (by rw [hf.out]; rfl) ((Ext.refl _).iter _ _)
      · obtain rfl : k = s.size := by omega
        have hnx := run_next_end (P := Tryd.prog) w s s.size 0 hlt
        have ht : s.data.toList.take s.size = s.data.toList := List.take_of_length_le (by simp)
        have hf := Lib.hid (readV_yes (readB_done (b := 8) (most := most) H0.out (by rw [← ht]; exact had.out) (by rw [← ht, ← hv.out]; exact hvm)))
        have hV : Hid (v = valL 8 s.data.toList) := by show _ = _; rw [hv.out, ht]
        clear ht
        go_wp2_with fail
        go_ret2
        exact Ret.mk (by rw [hf.out, ← hV.out]; rfl) ((Ext.refl _).iter _ _)
set_option maxRecDepth 100000 in
set_option maxHeartbeats 2000000 in
theorem rbase_8 (n : Nat) (w : World) (hn : n < 18446744073709551616) : Calls Tryd.prog 117 #[.int .u64 n, .int .u64 8] w (Ret w (.string (bs (digL 8 n)))) := by
  have hstart := Lib.hid (LowInv.start 8 n (by have : (2 : Nat) ^ 64 ≤ 8 ^ 64 := Nat.pow_le_pow_left (by decide) 64; omega))
  have hN := Lib.hid hn
  clear hn
  go_enter Tryd.func117, Tryd.ntmps117
  go_wp2_with fail
  go_loopw [0, 5] (fun m v wr => ∃ (x : Nat) (pre : List Nat) (l : List UInt8), m = .int .u64 x ∧ x ≤ 18446744073709551615 ∧ v = .string (bs l) ∧ l = pre.reverse.map chr ∧ LowInv 8 n pre x ∧ (0 < x ∨ (pre = [] ∧ n = x)) ∧ Ext w wr) (fun m _ _ => (intOf m).toNat)
  case atStart => exact ⟨n, [], [], rfl, by have := hN.out; omega, rfl, rfl, hstart.out, .inr ⟨rfl, rfl⟩, Ext.refl _⟩
  case round =>
    obtain ⟨x, pre, l, rfl, hxle, rfl, hl, hinv, hpos, hx⟩ := hrel
    have hpl := hinv.len
    have z0 : (bs l).size = pre.length := by rw [bs_size, hl]; simp
    have HL := Lib.hid hl
    clear hl
    by_cases hge : 8 ≤ x
    · have hst := Lib.hid (hinv.step (by decide) (by omega))
      have hm : x % 8 < 10 := by omega
      have hch := chr_nat (x % 8) hm
      obtain ⟨cb, hcb⟩ : ∃ cb, cb = chr (x % 8) := ⟨_, rfl⟩
      rw [← hcb] at hch
      have HC := Lib.hid hcb
      have hcv := fun W => convert_one (P := Tryd.prog) W Tryd.underlying77 Tryd.underlying5 Tryd.underlying9 (48 + (x : Int) % 8) cb (by omega)
      have HH := Lib.hid hinv
      clear hcb hch hinv hpos
      have z1 : (bs [cb]).size = 1 := bs_size _
      have a0 := bs_append [cb] l
      go_wp2_with fail
      go_roundw
      case rel => exact ⟨x / 8, pre ++ [x % 8], cb :: l, by go_num, by omega, rfl, by rw [HC.out, HL.out]; simp, hst.out, .inl (by omega), hx.alloc _⟩
      case measure => simp [intOf]; omega
    · have hfin := Lib.hid (hinv.top (by decide) hpos (by omega))
      have hch := chr_nat x (by omega)
      obtain ⟨cb, hcb⟩ : ∃ cb, cb = chr x := ⟨_, rfl⟩
      rw [← hcb] at hch
      have HC := Lib.hid hcb
      have hcv := fun W => convert_one (P := Tryd.prog) W Tryd.underlying77 Tryd.underlying5 Tryd.underlying9 (48 + (x : Int)) cb (by omega)
      clear hcb hch hinv hpos
      have z1 : (bs [cb]).size = 1 := bs_size _
      have a0 := bs_append [cb] l
      go_wp2_with fail
      go_ret
      exact Ret.mk (ret_str (by rw [hfin.out, ← HC.out, ← HL.out])) (hx.alloc _)

def octI (n : Int) : List UInt8 := if n < 0 then [] else digL 8 n.toNat
/-! ### ParseOct -/
theorem valL_lt (b : Nat) (hb : 0 < b) : ∀ (k : Nat) (l : List UInt8), l.length = k → l.all (digitB b) = true → valL b l < b ^ k
  | 0, l, hk, _ => by rw [List.eq_nil_of_length_eq_zero hk, Nat.pow_zero]; exact Nat.zero_lt_one
  | k + 1, l, hk, hl => by
    have h0 : l ≠ [] := by rintro rfl; simp at hk
    obtain ⟨m, c, rfl⟩ : ∃ m c, l = m ++ [c] := ⟨l.dropLast, l.getLast h0, (List.dropLast_concat_getLast h0).symm⟩
    rw [List.all_append, Bool.and_eq_true] at hl
    have hc : digitB b c = true := by simpa using hl.2
    unfold digitB at hc
    simp at hc
    have ih := valL_lt b hb k m (by simpa using hk) hl.1
    rw [valL_snoc, Nat.pow_succ]
    have h2 : (valL b m + 1) * b ≤ b ^ k * b := Nat.mul_le_mul_right b ih
    rw [Nat.add_mul] at h2
    omega
theorem valL_oct {l : List UInt8} (hk : l.length ≤ 7) (hl : l.all (digitB 8) = true) : valL 8 l < 2097152 := by
  have h := valL_lt 8 (by decide) _ l rfl hl
  have h2 : 8 ^ l.length ≤ 8 ^ 7 := Nat.pow_le_pow_right (by decide) hk
  exact Nat.lt_of_lt_of_le h h2
def octB (l : List UInt8) : Bool := !l.isEmpty && decide (l.length ≤ 7) && l.all (digitB 8)
def octV (l : List UInt8) : Value := if octB l = true then .tuple #[.int .i64 (valL 8 l), .bool true] else .tuple #[.int .i64 0, .bool false]
theorem octV_yes {l : List UInt8} (h : octB l = true) : octV l = .tuple #[.int .i64 (valL 8 l), .bool true] := by unfold octV; rw [if_pos h]
theorem octV_no {l : List UInt8} (h : octB l = false) : octV l = .tuple #[.int .i64 0, .bool false] := by unfold octV; rw [if_neg (by simp [h])]
theorem read_oct {l : List UInt8} (hk : l.length ≤ 7) : readB 8 2097152 l = octB l := by
  unfold readB octB
  rw [decide_eq_true hk]
  cases h : l.all (digitB 8) with
  | false => simp
  | true => rw [decide_eq_true (Nat.le_of_lt (valL_oct hk h))]
theorem all_digit {b : Nat} {s : ByteArray} {k : Nat} (h : k < s.size) (hd : digitB b s[k] = false) : s.data.toList.all (digitB b) = false := by
  have hm : s[k] ∈ s.data.toList := by rw [take_split s k h]; simp
  rw [List.all_eq_false]; exact ⟨_, hm, by simp [hd]⟩
end Go.Proofs.YtmppjbimdonfmaaDoor
