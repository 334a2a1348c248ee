/- Layer 1 (num): Dec and Pad of the program; Base, Dec and Pad of the reference. -/
import Derived.Test.YtanaifobmkjpaaaDoorNumD
import Derived.Lib.Repeat
import Derived.Test.YtanaifobmkjpaaaDoorShelf
import Derived.Deep.RegionHeld3
import Derived.WalkLawsBesides
namespace Go.Proofs.YtanaifobmkjpaaaDoor
open Go.ChangeShapes Go.WideShapes Go.ChangeAt Go.RowKit

def decI (n : Int) : List UInt8 := if n < 0 then 45 :: digL 10 (-n).toNat else digL 10 n.toNat
theorem digL_len (b n : Nat) : (digL b n).length ≤ 64 := by
  unfold digL
  split
  · simp
  · rw [List.length_map, List.length_reverse]; exact low_len b 64 n
theorem decI_len (n : Int) : (decI n).length ≤ 65 := by
  unfold decI
  split
  · have := digL_len 10 (-n).toNat; simp; omega
  · have := digL_len 10 n.toNat; omega
theorem neg_u64 {n : Int} (h : n < 0) (h1 : -9223372036854775808 ≤ n) : IntKind.u64.wrap (-IntKind.u64.wrap n) = ((-n).toNat : Int) := by
  rw [IntKind.wrap_u64, IntKind.wrap_u64]; omega
theorem nat_u64 {n : Int} (h : ¬ n < 0) (h1 : n ≤ 9223372036854775807) : IntKind.u64.wrap n = (n.toNat : Int) := by
  rw [IntKind.wrap_u64]; omega
theorem decI_neg {n : Int} (h : n < 0) : decI n = 45 :: digL 10 (-n).toNat := by unfold decI; rw [if_pos h]
theorem decI_pos {n : Int} (h : ¬ n < 0) : decI n = digL 10 n.toNat := by unfold decI; rw [if_neg h]
/-- The range of an int, kept from the walk. -/
def I64 (n : Int) : Prop := -9223372036854775808 ≤ n ∧ n ≤ 9223372036854775807
set_option maxHeartbeats 1000000 in
theorem pdec_any (n : Int) (w : World) (hn : I64 n) : Calls Tryd.prog 29 #[.int .i64 n] w (Ret w (.string (bs (decI n)))) := by
  by_cases h : n < 0
  · obtain ⟨m, hm⟩ : ∃ m : Nat, m = (-n).toNat := ⟨_, rfl⟩
    have e : IntKind.u64.wrap (-IntKind.u64.wrap n) = (m : Int) := by rw [hm]; exact neg_u64 h hn.1
    have hb : m < 18446744073709551616 := by have := hn.1; omega
    have hB := Lib.hid hb
    have hl := digL_len 10 m
    have z := bs_size (digL 10 m)
    have a : ⟨#[45]⟩ ++ bs (digL 10 m) = bs (45 :: digL 10 m) := bs_append [45] _
    have hf := Lib.hid (decI_neg h)
    have HM := Lib.hid hm
    clear hm hb
    go_enter Tryd.func29, Tryd.ntmps29
    go_wp2_with fail
    refine (digits_10 _ _ hB.out).mono ?_
    rintro e w1 ⟨rfl, b1⟩
    go_wp2_with fail
    go_ret
    exact Ret.mk (ret_str (by rw [hf.out, ← HM.out])) b1
  · obtain ⟨m, hm⟩ : ∃ m : Nat, m = n.toNat := ⟨_, rfl⟩
    have e : IntKind.u64.wrap n = (m : Int) := by rw [hm]; exact nat_u64 h hn.2
    have hb : m < 18446744073709551616 := by have := hn.2; omega
    have hB := Lib.hid hb
    have hf := Lib.hid (decI_pos h)
    have HM := Lib.hid hm
    clear hm hb
    go_enter Tryd.func29, Tryd.ntmps29
    go_wp2_with fail
    refine (digits_10 _ _ hB.out).mono ?_
    rintro e w1 ⟨rfl, b1⟩
    go_wp2_with fail
    go_ret
    exact Ret.mk (ret_str (by rw [hf.out, ← HM.out])) b1

/-! ### Pad -/
def padI (n wide : Int) : List UInt8 := if n < 0 ∨ 20 < wide then [] else List.replicate (wide.toNat - (decI n).length) 48 ++ decI n
theorem repeatL_48 : ∀ c, Lib.repeatL [48] c = List.replicate c 48
  | 0 => rfl
  | c + 1 => by rw [Lib.repeatL, repeatL_48 c, List.replicate_succ]; rfl
theorem repeat_48 (c : Nat) : (⟨(Lib.repeatL (⟨#[48]⟩ : ByteArray).data.toList c).toArray⟩ : ByteArray) = bs (List.replicate c 48) := by
  unfold bs; rw [← repeatL_48 c]
set_option maxHeartbeats 1000000 in
theorem ppad_any (n wide : Int) (w : World) (hn : I64 n) : Calls Tryd.prog 75 #[.int .i64 n, .int .i64 wide] w (Ret w (.string (bs (padI n wide)))) := by
  by_cases h : n < 0
  · have hf : Hid (padI n wide = []) := by show _ = _; unfold padI; rw [if_pos (.inl h)]
    go_enter Tryd.func75, Tryd.ntmps75
    go_wp2_with fail
    go_ret
    exact Ret.mk (ret_str (by rw [hf.out]; rfl)) (Ext.refl _)
  · by_cases h2 : 20 < wide
    · have hf : Hid (padI n wide = []) := by show _ = _; unfold padI; rw [if_pos (.inr h2)]
      go_enter Tryd.func75, Tryd.ntmps75
      go_wp2_with fail
      go_ret
      exact Ret.mk (ret_str (by rw [hf.out]; rfl)) (Ext.refl _)
    · have hf : Hid (padI n wide = List.replicate (wide.toNat - (decI n).length) 48 ++ decI n) := by show _ = _; unfold padI; rw [if_neg (by omega)]
      have hl := decI_len n
      have z := bs_size (decI n)
      go_enter Tryd.func75, Tryd.ntmps75
      go_wp2_with fail
      refine (pdec_any _ _ hn).mono ?_
      rintro e w1 ⟨rfl, b1⟩
      obtain ⟨c, hc⟩ : ∃ c : Nat, c = wide.toNat - (decI n).length := ⟨_, rfl⟩
      have hc20 : c ≤ 20 := by omega
      have hmx : max 0 (max 0 wide - ((decI n).length : Int)) = (c : Int) := by omega
      have HC := Lib.hid hc
      have hr := Lib.hid (repeat_48 c)
      have z1 : (bs (List.replicate c 48)).size = c := by rw [bs_size, List.length_replicate]
      have a1 := bs_append (List.replicate c 48) (decI n)
      clear hc
      go_wp2_with fail
      refine (Tryd.strings_Repeat _ c _ (by omega) (by show 1 * c ≤ _; omega)).mono ?_
      rintro e w2 ⟨rfl, b2⟩
      rw [hr.out]
      go_wp2_with fail
      go_ret
      exact Ret.mk (ret_str (by rw [hf.out, ← HC.out])) (b1.trans b2)

/-! ### The reference's Base, base 10. -/
theorem LowInv.top {b n : Nat} {pre : List Nat} {x : Nat} (hb : 0 < b) (h : LowInv b n pre x) (hx : 0 < x ∨ (pre = [] ∧ n = x)) (hlt : x < b) : digL b n = chr x :: (pre.reverse).map chr := by
  by_cases h0 : 0 < x
  · have h1 := h.step hb h0
    rw [Nat.div_eq_of_lt hlt, Nat.mod_eq_of_lt hlt] at h1
    have h2 := h1.done
    have hn : ¬ n = 0 := by
      rintro rfl
      rw [low_zero] at h2
      simp at h2
    unfold digL; rw [if_neg hn, ← h2]; simp
  · rcases hx with hx | ⟨rfl, rfl⟩
    · exact absurd hx h0
    · obtain rfl : n = 0 := by omega
      rfl

/-! ### The reference. -/
theorem chr_nat (d : Nat) (h : d < 10) : ((chr d).toNat : Int) = 48 + (d : Int) := by
  have : ∀ k : Fin 10, ((chr k.val).toNat : Int) = 48 + (k.val : Int) := by decide
  exact this ⟨d, h⟩
/-- 'string([]byte{x})'. -/
theorem convert_one {P : Program} (W : World) {src dst e : TypeId} (hs : P.underlying src = some (.slice e)) (he : P.underlying e = some (.int .u8)) (hd : P.underlying dst = some .string) (x : Int) (c : UInt8) (hx : x = c.toNat) :
    (convert src dst (.slice (some ⟨W.heap.size, 0, none⟩) 1 1)).run P (W.alloc (.cells #[.int .u8 x] e)) = .ok (.string (bs [c])) (W.alloc (.cells #[.int .u8 x] e)) := by
  subst hx
  refine run_convert_bytes_back _ src dst e ⟨W.heap.size, 0, none⟩ 1 [c] hs he hd ?_
  intro j hj
  match j, hj with
  | 0, _ => simp [Addr.add]
set_option maxRecDepth 100000 in
set_option maxHeartbeats 2000000 in
theorem rbase_10 (n : Nat) (w : World) (hn : n < 18446744073709551616) : Calls Tryd.prog 59 #[.int .u64 n, .int .u64 10] w (Ret w (.string (bs (digL 10 n)))) := by
  have hstart := Lib.hid (LowInv.start 10 n (by have : (2 : Nat) ^ 64 ≤ 10 ^ 64 := Nat.pow_le_pow_left (by decide) 64; omega))
  have hN := Lib.hid hn
  clear hn
  go_enter Tryd.func59, Tryd.ntmps59
  go_wp2_with fail
  go_loopw [0, 5] (fun m v wr => ∃ (x : Nat) (pre : List Nat) (l : List UInt8), m = .int .u64 x ∧ x ≤ 18446744073709551615 ∧ v = .string (bs l) ∧ l = pre.reverse.map chr ∧ LowInv 10 n pre x ∧ (0 < x ∨ (pre = [] ∧ n = x)) ∧ Ext w wr) (fun m _ _ => (intOf m).toNat)
  case atStart => exact ⟨n, [], [], rfl, by have := hN.out; omega, rfl, rfl, hstart.out, .inr ⟨rfl, rfl⟩, Ext.refl _⟩
  case round =>
    obtain ⟨x, pre, l, rfl, hxle, rfl, hl, hinv, hpos, hx⟩ := hrel
    have hpl := hinv.len
    have z0 : (bs l).size = pre.length := by rw [bs_size, hl]; simp
    have HL := Lib.hid hl
    clear hl
    by_cases hge : 10 ≤ x
    · have hst := Lib.hid (hinv.step (by decide) (by omega))
      have hm : x % 10 < 10 := by omega
      have hch := chr_nat (x % 10) hm
      obtain ⟨cb, hcb⟩ : ∃ cb, cb = chr (x % 10) := ⟨_, rfl⟩
      rw [← hcb] at hch
      have HC := Lib.hid hcb
      have hcv := fun W => convert_one (P := Tryd.prog) W Tryd.underlying63 Tryd.underlying5 Tryd.underlying9 (48 + (x : Int) % 10) cb (by omega)
      have HH := Lib.hid hinv
      clear hcb hch hinv hpos
      have z1 : (bs [cb]).size = 1 := bs_size _
      have a0 := bs_append [cb] l
      go_wp2_with fail
      go_roundw
      case rel => exact ⟨x / 10, pre ++ [x % 10], cb :: l, by go_num, by omega, rfl, by rw [HC.out, HL.out]; simp, hst.out, .inl (by omega), hx.alloc _⟩
      case measure => simp [intOf]; omega
    · have hfin := Lib.hid (hinv.top (by decide) hpos (by omega))
      have hch := chr_nat x (by omega)
      obtain ⟨cb, hcb⟩ : ∃ cb, cb = chr x := ⟨_, rfl⟩
      rw [← hcb] at hch
      have HC := Lib.hid hcb
      have hcv := fun W => convert_one (P := Tryd.prog) W Tryd.underlying63 Tryd.underlying5 Tryd.underlying9 (48 + (x : Int)) cb (by omega)
      clear hcb hch hinv hpos
      have z1 : (bs [cb]).size = 1 := bs_size _
      have a0 := bs_append [cb] l
      go_wp2_with fail
      go_ret
      exact Ret.mk (ret_str (by rw [hfin.out, ← HC.out, ← HL.out])) (hx.alloc _)
set_option maxHeartbeats 1000000 in
theorem rdec_any (n : Int) (w : World) (hn : I64 n) : Calls Tryd.prog 31 #[.int .i64 n] w (Ret w (.string (bs (decI n)))) := by
  by_cases h : n < 0
  · obtain ⟨m, hm⟩ : ∃ m : Nat, m = (-n).toNat := ⟨_, rfl⟩
    have e : IntKind.u64.wrap (-IntKind.u64.wrap n) = (m : Int) := by rw [hm]; exact neg_u64 h hn.1
    have hb : m < 18446744073709551616 := by have := hn.1; omega
    have hB := Lib.hid hb
    have hl := digL_len 10 m
    have z := bs_size (digL 10 m)
    have a : ⟨#[45]⟩ ++ bs (digL 10 m) = bs (45 :: digL 10 m) := bs_append [45] _
    have hf := Lib.hid (decI_neg h)
    have HM := Lib.hid hm
    clear hm hb
    go_enter Tryd.func31, Tryd.ntmps31
    go_wp2_with fail
    refine (rbase_10 _ _ hB.out).mono ?_
    rintro e w1 ⟨rfl, b1⟩
    go_wp2_with fail
    go_ret
    exact Ret.mk (ret_str (by rw [hf.out, ← HM.out])) b1
  · obtain ⟨m, hm⟩ : ∃ m : Nat, m = n.toNat := ⟨_, rfl⟩
    have e : IntKind.u64.wrap n = (m : Int) := by rw [hm]; exact nat_u64 h hn.2
    have hb : m < 18446744073709551616 := by have := hn.2; omega
    have hB := Lib.hid hb
    have hf := Lib.hid (decI_pos h)
    have HM := Lib.hid hm
    clear hm hb
    go_enter Tryd.func31, Tryd.ntmps31
    go_wp2_with fail
    refine (rbase_10 _ _ hB.out).mono ?_
    rintro e w1 ⟨rfl, b1⟩
    go_wp2_with fail
    go_ret
    exact Ret.mk (ret_str (by rw [hf.out, ← HM.out])) b1

set_option maxHeartbeats 1000000 in
theorem rpad_any (n wide : Int) (w : World) (hn : I64 n) : Calls Tryd.prog 78 #[.int .i64 n, .int .i64 wide] w (Ret w (.string (bs (padI n wide)))) := by
  by_cases h : n < 0
  · have hf : Hid (padI n wide = []) := by show _ = _; unfold padI; rw [if_pos (.inl h)]
    go_enter Tryd.func78, Tryd.ntmps78
    go_wp2_with fail
    go_ret
    exact Ret.mk (ret_str (by rw [hf.out]; rfl)) (Ext.refl _)
  · by_cases h2 : 20 < wide
    · have hf : Hid (padI n wide = []) := by show _ = _; unfold padI; rw [if_pos (.inr h2)]
      go_enter Tryd.func78, Tryd.ntmps78
      go_wp2_with fail
      go_ret
      exact Ret.mk (ret_str (by rw [hf.out]; rfl)) (Ext.refl _)
    · have hf : Hid (padI n wide = List.replicate (wide.toNat - (decI n).length) 48 ++ decI n) := by show _ = _; unfold padI; rw [if_neg (by omega)]
      have hl := decI_len n
      go_enter Tryd.func78, Tryd.ntmps78
      go_wp2_with fail
      refine (rdec_any _ _ hn).mono ?_
      rintro e w1 ⟨rfl, b1⟩
      obtain ⟨D, hD⟩ : ∃ D, D = decI n := ⟨_, rfl⟩
      rw [← hD] at hl ⊢
      have HD := Lib.hid hD
      clear hD
      go_wp2_with fail
      go_loop [5] (fun v => ∃ (c : Nat) (l : List UInt8), v = .string (bs l) ∧ l = List.replicate c 48 ++ D ∧ (c = 0 ∨ c + D.length ≤ wide.toNat)) (fun v => match v with | .string s => wide.toNat - s.size | _ => 0)
      case atStart => exact ⟨0, D, rfl, rfl, .inl rfl⟩
      case round =>
        obtain ⟨c, l, rfl, hll, hc⟩ := hrel
        have hlen : l.length = c + D.length := by rw [hll]; simp
        have z0 : (bs l).size = l.length := bs_size l
        have HL := Lib.hid hll
        have hcl : l.length ≤ 100 := by omega
        have hcc : c = 0 ∨ c + D.length ≤ 20 := by omega
        have HC := Lib.hid hc
        have HN := Lib.hid hlen
        clear hll hlen hc
        by_cases hlt : (l.length : Int) < wide
        · have a0 : ⟨#[48]⟩ ++ bs l = bs (48 :: l) := bs_append [48] l
          have z1 : (bs (48 :: l)).size = l.length + 1 := bs_size _
          go_wp2_with fail
          go_round
          case rel => exact ⟨c + 1, 48 :: l, rfl, by rw [HL.out, List.replicate_succ]; rfl, .inr (by have := HN.out; omega)⟩
          case measure => simp [z0, z1]; omega
        · have hfin : Hid (List.replicate (wide.toNat - (decI n).length) 48 ++ decI n = l) := by
            show _ = _
            rw [HL.out, ← HD.out]
            have := HN.out
            have := HC.out
            congr 2
            omega
          go_wp2_with fail
          go_ret
          exact Ret.mk (ret_str (by rw [hf.out, hfin.out])) b1
end Go.Proofs.YtanaifobmkjpaaaDoor
