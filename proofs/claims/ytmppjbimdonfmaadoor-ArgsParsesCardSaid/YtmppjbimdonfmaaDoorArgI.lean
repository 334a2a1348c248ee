/- Layer 46 (args): what strings.IndexRune says of a rune beyond ASCII in the three signs that a line's reader knows. -/
import Derived.Test.YtmppjbimdonfmaaDoorNamC
import Derived.Lib.OthersKept
import Derived.Laws.Runes
import Derived.WalkMore
import Derived.Test.YtmppjbimdonfmaaDoorStrC
import Derived.BigQuiet
namespace Go.Proofs.YtmppjbimdonfmaaDoor
open Go.ChangeShapes Go.WideShapes Go.ChangeAt Go.RowKit

theorem ofNat_ge {n : Nat} (h1 : 128 ≤ n) (h2 : n < 256) : 128 ≤ (UInt8.ofNat n).toNat := by
  rw [UInt8.toNat_ofNat']
  omega
/-- A rune beyond ASCII as bytes: two to four, the last one beyond ASCII. -/
theorem encode_big (r : Int) (h : 128 ≤ r) : ∃ a : List UInt8, ∃ b : UInt8, Utf8.encode r = bs (a ++ [b]) ∧ 1 ≤ a.length ∧ a.length ≤ 3 ∧ 128 ≤ b.toNat := by
  unfold Utf8.encode
  simp only []
  generalize hc : (if Utf8.valid r = true then r.toNat else Utf8.runeError) = c
  have hc2 : 128 ≤ c := by
    rw [← hc]
    split
    · omega
    · decide
  rw [if_neg (by omega)]
  split
  · exact ⟨[_], _, rfl, by simp, by simp, ofNat_ge (by omega) (by omega)⟩
  · split
    · exact ⟨[_, _], _, rfl, by simp, by simp, ofNat_ge (by omega) (by omega)⟩
    · exact ⟨[_, _, _], _, rfl, by simp, by simp, ofNat_ge (by omega) (by omega)⟩
def signs : List UInt8 := [32, 39, 92]
theorem indexByte_no {l : List UInt8} {b : UInt8} (h : b ∉ l) : ¬ (0 : Int) ≤ Lib.indexByte l b := by
  have := Lib.contains_iff_indexByte l b
  have h2 : l.contains b = false := by simpa using h
  rw [h2] at this
  exact of_decide_eq_false this.symm
set_option maxRecDepth 100000 in
set_option maxHeartbeats 4000000 in
theorem irune_err (w : World) : Calls Tryd.prog 143 #[.string (bs signs), .int .i32 65533] w (Ret w (.int .i64 (-1))) := by
  have z0 : (bs signs).size = 3 := rfl
  go_enter Tryd.func143, Tryd.ntmps143
  go_wp2_with fail
  go_loopw [5] (fun u wx => ∃ p : Nat, p ≤ 3 ∧ wx = w.iter (bs signs) p) (fun _ wx => 3 - wx.iterPos w.heap.size)
  case atStart => exact ⟨0, by omega, rfl⟩
  case round =>
    obtain ⟨p, hp, rfl⟩ := hrel
    by_cases hp3 : p = 3
    · subst hp3
      have hnx := fun ty => run_next_end (P := Tryd.prog) w (bs signs) 3 ty
      go_wp2_with fail
      go_ret
      exact Ret.mk rfl ((Ext.refl _).alloc _)
    · have hps : p < (bs signs).size := by omega
      have h128 : ((bs signs)[p]'hps).toNat < 128 := by
        have h3 : p = 0 ∨ p = 1 ∨ p = 2 := by omega
        rcases h3 with rfl | rfl | rfl
        · exact (by decide : (32 : UInt8).toNat < 128)
        · exact (by decide : (39 : UInt8).toNat < 128)
        · exact (by decide : (92 : UInt8).toNat < 128)
      have hnx := fun ty => run_next_ascii (P := Tryd.prog) w (bs signs) p ty hps h128
      have hne : ((((bs signs)[p]'hps).toNat : Int) == 65533) = false := beq_eq_false_iff_ne.2 (by omega)
      go_wp2_with fail
      go_roundw
      case rel => exact ⟨p + 1, by omega, rfl⟩
      case measure => rw [World.iterPos_iter, World.iterPos_iter]; omega
theorem encode_last (r : Int) (h : 128 ≤ r) : ∃ (E : ByteArray) (n : Nat) (b : UInt8), Utf8.encode r = E ∧ E.size = n + 1 ∧ (n = 1 ∨ n = 2 ∨ n = 3) ∧ 128 ≤ b.toNat ∧ ∀ hk : n < E.size, ((E[n]'hk).toNat : Int) = (b.toNat : Int) := by
  obtain ⟨a, b, hE, ha1, ha3, hb⟩ := encode_big r h
  refine ⟨_, a.length, b, hE, by rw [bs_size]; simp, by omega, hb, fun hk => ?_⟩
  rw [bs_get _ _ hk (by simp)]
  simp
set_option maxRecDepth 100000 in
set_option maxHeartbeats 4000000 in
theorem irune_big (r : Int) (h1 : 128 ≤ r) (h2 : r ≠ 65533) (h3 : r ≤ 1114111) (w : World) : Calls Tryd.prog 143 #[.string (bs signs), .int .i32 r] w (Ret w (.int .i64 (-1))) := by
  obtain ⟨E, n, b, hE, zE, hn, hb, hgl⟩ := encode_last r h1
  have z0 : (bs signs).size = 3 := rfl
  have n1 : (r == 65533) = false := beq_eq_false_iff_ne.2 h2
  have n2 : ¬ r < 128 := by omega
  have n3 : (0 : Int) ≤ r := by omega
  cases hv : Lib.validRune r with
  | false =>
    have HV := Lib.hid hv
    clear hv hE h2
    go_enter Tryd.func143, Tryd.ntmps143
    go_wp2_with fail
    refine (Tryd.utf8_ValidRune _ _).mono ?_
    rintro e w1 ⟨rfl, rfl⟩
    rw [HV.out]
    go_wp2_with fail
    go_ret
    exact Ret.mk rfl (Ext.refl _)
  | true =>
    have HV := Lib.hid hv
    have hin : ∀ l : List UInt8, (∀ x ∈ l, x.toNat < 128) → Hid (Lib.indexByte l b = -1) := fun l h => by
      have h2 := indexByte_no (l := l) (b := b) (fun hm => by have := h b hm; omega)
      have h3 := Lib.indexByte_ge l b
      show _ = _
      omega
    have hi1 := hin [92] (by decide)
    have hi2 := hin [] (by decide)
    have hbl : (b.toNat : Int) < 256 := by have := b.toNat_lt; omega
    have hbu : (b.toNat : Int).toNat.toUInt8 = b := by simp
    have hks : n < E.size := by omega
    have hbv := hgl hks
    have c1 : (((bs signs)[1]'(by decide)).toNat : Int) = 39 := rfl
    have c2 : ((39 : Int) != (b.toNat : Int)) = true := by simp; omega
    have c3 : (((bs signs)[2]'(by decide)).toNat : Int) = 92 := rfl
    have c4 : ((92 : Int) != (b.toNat : Int)) = true := by simp; omega
    have hs1 := slice_from (P := Tryd.prog) Tryd.underlying9 (bs signs) (2 : Int) 2 rfl (by decide) (bs [92]) rfl
    have hs2 := slice_from (P := Tryd.prog) Tryd.underlying9 (bs signs) (3 : Int) 3 rfl (by decide) (bs []) rfl
    have hw2 : IntKind.i64.wrap 2 = 2 := wrap_i64_in (by decide) (by decide)
    have hw3 : IntKind.i64.wrap 3 = 3 := wrap_i64_in (by decide) (by decide)
    clear hv h2 hin hgl
    have k1' : ∀ w, Calls Tryd.prog 135 #[.string (bs [92]), .int .u8 b.toNat] w fun e w' => e = .returned (.int .i64 (-1)) ∧ w' = w := fun w => (Tryd.strings_IndexByte (bs [92]) b.toNat w).mono fun e w' h => ⟨by rw [h.1, bs_list, hbu, hi1.out], h.2⟩
    have k2' : ∀ w, Calls Tryd.prog 135 #[.string (bs []), .int .u8 b.toNat] w fun e w' => e = .returned (.int .i64 (-1)) ∧ w' = w := fun w => (Tryd.strings_IndexByte (bs []) b.toNat w).mono fun e w' h => ⟨by rw [h.1, bs_list, hbu, hi2.out], h.2⟩
    have k1 := Lib.hid k1'
    have k2 := Lib.hid k2'
    clear hbu k1' k2'
    have e135 : ∀ args w, (callFunc 135 args).run Tryd.prog w = .ok (.enter 135 args) w := enters_of Tryd.func135 (by kernel_rfl) rfl
    rcases hn with rfl | rfl | rfl
    · go_enter Tryd.func143, Tryd.ntmps143
      go_wp2_with fail
      refine (Tryd.utf8_ValidRune _ _).mono ?_
      rintro e w1 ⟨rfl, rfl⟩
      rw [HV.out]
      go_wp2_with fail
      go_step3
      go_wp2_with fail
      go_loopw [9] (fun u wx => u = .int .i64 1 ∧ wx = w1) (fun _ _ => 0)
      case atStart => exact ⟨rfl, rfl⟩
      case round =>
        obtain ⟨rfl, rfl⟩ := hrel
        go_wp2_with fail
        go_step3
        go_wp2_with fail
        go_quiet (fail)
        go_wp2_with fail
        go_quiet (exact (k1.out _).mono fun e w' h => ⟨h.1, _, h.2⟩)
        go_wp2_with fail
        go_ret
        exact Ret.mk rfl ((Ext.refl _).drewN _)
    · go_enter Tryd.func143, Tryd.ntmps143
      go_wp2_with fail
      refine (Tryd.utf8_ValidRune _ _).mono ?_
      rintro e w1 ⟨rfl, rfl⟩
      rw [HV.out]
      go_wp2_with fail
      go_step3
      go_wp2_with fail
      go_loopw [9] (fun u wx => u = .int .i64 2 ∧ wx = w1) (fun _ _ => 0)
      case atStart => exact ⟨rfl, rfl⟩
      case round =>
        obtain ⟨rfl, rfl⟩ := hrel
        go_wp2_with fail
        go_step3
        go_wp2_with fail
        go_quiet (fail)
        go_wp2_with fail
        go_quiet (exact (k2.out _).mono fun e w' h => ⟨h.1, _, h.2⟩)
        go_wp2_with fail
        go_ret
        exact Ret.mk rfl ((Ext.refl _).drewN _)
    · go_enter Tryd.func143, Tryd.ntmps143
      go_wp2_with fail
      refine (Tryd.utf8_ValidRune _ _).mono ?_
      rintro e w1 ⟨rfl, rfl⟩
      rw [HV.out]
      go_wp2_with fail
      go_step3
      go_wp2_with fail
      go_loopw [9] (fun u wx => u = .int .i64 3 ∧ wx = w1) (fun _ _ => 0)
      case atStart => exact ⟨rfl, rfl⟩
      case round =>
        obtain ⟨rfl, rfl⟩ := hrel
        go_wp2_with fail
        simp only [Exit.noGoto_ret]
        go_wp2_with fail
        go_ret
        exact Ret.mk rfl (Ext.refl _)
/-- A text's rune beyond ASCII: it, and how many bytes it has: all of them beyond ASCII. -/
theorem decode_big (s : ByteArray) (i : Nat) (hi : i < s.size) (h : 128 ≤ (s[i]'hi).toNat) : 128 ≤ (Utf8.decode s i).1 ∧ (Utf8.decode s i).1 ≤ 1114111 ∧ 1 ≤ (Utf8.decode s i).2 ∧ i + (Utf8.decode s i).2 ≤ s.size ∧ ∀ k, i ≤ k → (hk : k < i + (Utf8.decode s i).2) → (hk2 : k < s.size) → 128 ≤ (s[k]'hk2).toNat := by
  have hget : ∀ k (hk : k < s.size), s.get! k = s[k]'hk := fun k hk => by cases s with | mk d => exact getElem!_pos d k hk
  have h0 : (s.get! (i + 0)).toNat = (s[i]'hi).toNat := by rw [Nat.add_zero, hget i hi]
  have hl : (s[i]'hi).toNat < 256 := (s[i]'hi).toNat_lt
  have hone : ∀ k, i ≤ k → k < i + 1 → (hk2 : k < s.size) → 128 ≤ (s[k]'hk2).toNat := fun k h1 h2 hk2 => by
    obtain rfl : k = i := by omega
    exact h
  have hcont : ∀ j, (decide (i + j < s.size) && (s.get! (i + j)).toNat / 64 == 2) = true → ∃ hk : i + j < s.size, 128 ≤ (s[i + j]'hk).toNat := fun j hj => by
    rw [Bool.and_eq_true, decide_eq_true_iff, beq_iff_eq] at hj
    have := hj.2
    rw [hget _ hj.1] at this
    exact ⟨hj.1, by omega⟩
  unfold Utf8.decode
  simp only [h0]
  rw [if_neg (by omega)]
  split
  · rename_i hc
    rw [Bool.and_eq_true] at hc
    obtain ⟨k1, b1⟩ := hcont 1 hc.2
    split
    · refine ⟨by assumption, by simp only; omega, by simp only; omega, by simp only; omega, fun k h1 h2 hk2 => ?_⟩
      simp only at h2
      rcases (show k = i ∨ k = i + 1 by omega) with rfl | rfl
      · exact h
      · exact b1
    · exact ⟨by decide, by decide, by decide, by simp only; omega, fun k h1 h2 hk2 => hone k h1 h2 hk2⟩
  · split
    · rename_i hc
      rw [Bool.and_eq_true, Bool.and_eq_true] at hc
      obtain ⟨k1, b1⟩ := hcont 1 hc.1.2
      obtain ⟨k2, b2⟩ := hcont 2 hc.2
      split
      · rename_i hv
        refine ⟨by simp only; have := hv; simp at this; omega, by simp only; omega, by simp only; omega, by simp only; omega, fun k h1 h2 hk2 => ?_⟩
        simp only at h2
        rcases (show k = i ∨ k = i + 1 ∨ k = i + 2 by omega) with rfl | rfl | rfl
        · exact h
        · exact b1
        · exact b2
      · exact ⟨by decide, by decide, by decide, by simp only; omega, fun k h1 h2 hk2 => hone k h1 h2 hk2⟩
    · split
      · rename_i hc
        rw [Bool.and_eq_true, Bool.and_eq_true, Bool.and_eq_true] at hc
        obtain ⟨k1, b1⟩ := hcont 1 hc.1.1.2
        obtain ⟨k2, b2⟩ := hcont 2 hc.1.2
        obtain ⟨k3, b3⟩ := hcont 3 hc.2
        split
        · rename_i hv
          refine ⟨by simp only; have := hv; simp at this; omega, ?_, by simp only; omega, by simp only; omega, fun k h1 h2 hk2 => ?_⟩
          · simp only
            rw [Bool.and_eq_true] at hv
            have := hv.2
            unfold Utf8.valid at this
            simp at this
            omega
          simp only at h2
          rcases (show k = i ∨ k = i + 1 ∨ k = i + 2 ∨ k = i + 3 by omega) with rfl | rfl | rfl | rfl
          · exact h
          · exact b1
          · exact b2
          · exact b3
        · exact ⟨by decide, by decide, by decide, by simp only; omega, fun k h1 h2 hk2 => hone k h1 h2 hk2⟩
      · exact ⟨by decide, by decide, by decide, by simp only; omega, fun k h1 h2 hk2 => hone k h1 h2 hk2⟩
end Go.Proofs.YtmppjbimdonfmaaDoor
