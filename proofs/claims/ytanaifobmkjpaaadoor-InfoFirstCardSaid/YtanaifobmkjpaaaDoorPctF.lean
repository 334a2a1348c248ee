/- Layer 4 (pct): Decode of the program. -/
import Derived.Test.YtanaifobmkjpaaaDoorPctD
namespace Go.Proofs.YtanaifobmkjpaaaDoor
open Go.ChangeShapes Go.WideShapes Go.ChangeAt Go.RowKit

theorem byteCells_snoc (o : List UInt8) (c : UInt8) : Lib.byteCells (o ++ [c]) = Lib.byteCells o ++ [.int .u8 (c.toNat : Int)] := by simp [Lib.byteCells]
def decV (l : List UInt8) : Value := match decL l with
  | some r => .tuple #[.string (bs r), .int .i64 0]
  | none => .tuple #[.string ⟨#[]⟩, .int .i64 2]
theorem decV_some {l r : List UInt8} (h : decL l = some r) : decV l = .tuple #[.string (bs r), .int .i64 0] := by unfold decV; rw [h]
theorem decV_none {l : List UInt8} (h : decL l = none) : decV l = .tuple #[.string ⟨#[]⟩, .int .i64 2] := by unfold decV; rw [h]
def DecInv (l : List UInt8) (k : Nat) (o : List UInt8) : Prop := decL l = (decL (l.drop k)).map (o ++ ·)
theorem DecInv.start (l : List UInt8) : DecInv l 0 [] := by unfold DecInv; simp
theorem DecInv.plain {s : ByteArray} {k : Nat} {o : List UInt8} (h : DecInv s.data.toList k o) (hk : k < s.size) (hc : s[k] ≠ 37) : DecInv s.data.toList (k + 1) (o ++ [s[k]]) := by
  unfold DecInv at *
  rw [h, drop_at s k hk, decL_cons_plain _ hc]
  cases decL (s.data.toList.drop (k + 1)) <;> simp
theorem DecInv.short {s : ByteArray} {k : Nat} {o : List UInt8} (h : DecInv s.data.toList k o) (hk : k < s.size) (hc : s[k] = 37) (h3 : s.size - k < 3) : decL s.data.toList = none := by
  unfold DecInv at h
  rw [h, drop_at s k hk, hc, decL_short (by rw [List.length_drop]; have : s.data.toList.length = s.size := by simp; 
                                            omega)]; rfl
theorem DecInv.bad {s : ByteArray} {k : Nat} {o : List UInt8} (h : DecInv s.data.toList k o) (hk : k + 2 < s.size) (hc : s[k] = 37) (hb : ¬ (digC s[k + 1] < 16 ∧ digC s[k + 2] < 16)) : decL s.data.toList = none := by
  unfold DecInv at h
  rw [h, drop_at s k (by omega), drop_at s (k + 1) (by omega), drop_at s (k + 2) (by omega), hc, decL_bad _ hb]; rfl
theorem DecInv.good {s : ByteArray} {k : Nat} {o : List UInt8} (h : DecInv s.data.toList k o) (hk : k + 2 < s.size) (hc : s[k] = 37) (hb : digC s[k + 1] < 16 ∧ digC s[k + 2] < 16) :
    DecInv s.data.toList (k + 3) (o ++ [UInt8.ofNat (16 * digC s[k + 1] + digC s[k + 2])]) := by
  unfold DecInv at *
  rw [h, drop_at s k (by omega), drop_at s (k + 1) (by omega), drop_at s (k + 2) (by omega), hc, decL_good _ hb]
  cases decL (s.data.toList.drop (k + 2 + 1)) <;> simp
theorem DecInv.done {s : ByteArray} {o : List UInt8} (h : DecInv s.data.toList s.size o) : decL s.data.toList = some o := by
  unfold DecInv at h
  rw [h, List.drop_of_length_le (by simp)]; simp [decL]
theorem or_digits (a b : Nat) (ha : a < 16) (hb : b < 16) : bits .or .i64 ((a : Int) * 16) (b : Int) = ((16 * a + b : Nat) : Int) := by
  have : ∀ x y : Fin 16, bits .or .i64 ((x.val : Int) * 16) (y.val : Int) = ((16 * x.val + y.val : Nat) : Int) := by decide +kernel
  exact this ⟨a, ha⟩ ⟨b, hb⟩
theorem digC_le (c : UInt8) : digC c ≤ 16 := by
  rcases digC_cases c with h | h | h | h <;> omega
theorem ofNat_byte (n : Nat) (h : n < 256) : ((UInt8.ofNat n).toNat : Int) = n := by simp; omega

set_option maxRecDepth 100000 in
set_option maxHeartbeats 4000000 in
theorem pdecode_any (s : ByteArray) (w : World) (hs : s.size ≤ 1000000) : Calls Tryd.prog 50 #[.string s] w (Ret w (decV s.data.toList)) := by
  obtain ⟨i0, hi, hz0, hz1, hz2⟩ := info_parts infoByte
  go_enter Tryd.func50, Tryd.ntmps50
  go_wp2_with fail
  go_loopw [4, 5] (fun v i wr => ∃ (k : Nat) (o : List UInt8), k ≤ s.size ∧ i = .int .i64 k ∧ wr.ownsRow w.heap.size 5 1 v o.length (Lib.byteCells o) ∧ o.length ≤ k ∧ DecInv s.data.toList k o ∧ Ext w wr) (fun _ i _ => s.size - (intOf i).toNat)
  case atStart => exact ⟨0, [], by omega, rfl, World.ownsRow_nil _ _ _ _, by simp, DecInv.start _, Ext.refl _⟩
  case round =>
    obtain ⟨k, o, hk, rfl, hown, hol, hinv, hx⟩ := hrel
    have hinv := Lib.hid hinv
    have hsz := hx.size
    by_cases hlt : k < s.size
    · by_cases hc : s[k] = 37
      · have hne : ((s[k].toNat : Int) != 37) = false := by rw [hc]; rfl
        by_cases h3 : s.size - k < 3
        · have hfin := Lib.hid (decV_none (hinv.out.short hlt hc h3))
          have h3' : (s.size : Int) - (k : Int) < 3 := by omega
          clear hc
          go_wp2_with fail
          go_ret2
          exact Ret.mk (by rw [hfin.out]; rfl) hx
        · have h3' : ¬ ((s.size : Int) - (k : Int) < 3) := by omega
          have hk2 : k + 2 < s.size := by omega
          have hb1 := digC_le s[k + 1]
          have hb2 := digC_le s[k + 2]
          have x0 : (0 : Int) ≤ (k : Int) + 1 := by omega
          have x1 : (k : Int) + 1 < (s.size : Int) := by omega
          have x2 : ((k : Int) + 1).toNat = k + 1 := by omega
          have x3 : IntKind.i64.wrap ((k : Int) + 1) = (k : Int) + 1 := wrap_i64_in (by omega) (by omega)
          have y0 : (0 : Int) ≤ (k : Int) + 2 := by omega
          have y1 : (k : Int) + 2 < (s.size : Int) := by omega
          have y2 : ((k : Int) + 2).toNat = k + 2 := by omega
          have y3 : IntKind.i64.wrap ((k : Int) + 2) = (k : Int) + 2 := wrap_i64_in (by omega) (by omega)
          by_cases hg : digC s[k + 1] < 16 ∧ digC s[k + 2] < 16
          · have hst := Lib.hid (hinv.out.good hk2 hc hg)
            have hor := or_digits _ _ hg.1 hg.2
            have hby := Lib.hid (ofNat_byte (16 * digC s[k + 1] + digC s[k + 2]) (by omega))
            have g1 : digP s[k + 1] = (digC s[k + 1] : Int) := by unfold digP; rw [if_neg (by omega)]
            have g2 : digP s[k + 2] = (digC s[k + 2] : Int) := by unfold digP; rw [if_neg (by omega)]
            obtain ⟨hg1, hg2⟩ := hg
            clear hc
            go_wp2_with fail
            go_region_held3 (fun w' => Ext wr w') ((first | assumption | exact (Ext.refl _).drew | (refine Ext.trans ?_ hb; assumption)))
              ((go_at_call 81; refine (pdigit_any _ _).mono ?_; rintro e w1 ⟨rfl, hb⟩))
            all_goals
              have hE : Ext wr w1 := by assumption
              have hownE := own_keep hown hE
              go_wp2_with (at_builtin; refine wpList_append_own _ rfl _ _ 63 rfl w.heap.size 5 i0 (.int .u8 0) 1 1 Tryd.underlying63 hi hz0 hz1 hz2 rfl (by decide) _ _ _ rfl (hownE.alloc _) ⟨w1.heap.size, 0, none⟩ 1 1 [.int .u8 ((16 * digC s[k + 1] + digC s[k + 2] : Nat) : Int)] rfl rfl ?c1 ?c2 ?c3 ?c4 ?c5 ?_)
              case c1 =>
                intro j u hj
                match j, hj with
                | 0, hj => simp at hj; subst hj; simp [Addr.add]
              case c2 => intro u hu; simp at hu; subst hu; rfl
              case c3 => unfold maxLen; omega
              case c4 => omega
              case c5 => have := (hx.trans hE).size; simp; omega
              intro v' w2 hown' hgrow _
              go_wp2_with fail
              go_roundw
              case rel => exact ⟨k + 3, o ++ [UInt8.ofNat (16 * digC s[k + 1] + digC s[k + 2])], by omega, by go_num, by rw [byteCells_snoc, hby.out, List.length_append]; exact hown', by simp; omega, hst.out, ((hx.trans hE).alloc _).grown hgrow (fun q hq => (hownE.lt q hq).1)⟩
              case measure => simp [intOf]; omega
          · have hfin := Lib.hid (decV_none (hinv.out.bad hk2 hc hg))
            have hn1 : digP s[k + 1] < 0 ∨ (0 ≤ digP s[k + 1] ∧ digP s[k + 2] < 0) := by
              unfold digP
              by_cases e1 : digC s[k + 1] = 16
              · left; rw [if_pos e1]; decide
              · right; rw [if_neg e1, if_pos (by omega)]; exact ⟨by omega, by decide⟩
            clear hc hg
            rcases hn1 with hn1 | ⟨hn0, hn1⟩
            all_goals
              go_wp2_with fail
              go_region_held3 (fun w' => Ext wr w') ((first | assumption | exact (Ext.refl _).drew | (refine Ext.trans ?_ hb; assumption)))
                ((go_at_call 81; refine (pdigit_any _ _).mono ?_; rintro e w1 ⟨rfl, hb⟩))
              all_goals
                have hE : Ext wr w1 := by assumption
                go_wp2_with fail
                go_ret2
                exact Ret.mk (by rw [hfin.out]; rfl) (hx.trans hE)
      · have hne : ((s[k].toNat : Int) != 37) = true := by
          rw [bne_iff_ne]; intro h; apply hc
          have : s[k].toNat = 37 := by omega
          exact UInt8.toNat_inj.1 this
        have hst := Lib.hid (hinv.out.plain hlt hc)
        clear hc
        go_wp2_with (at_builtin; refine wpList_append_own _ rfl _ _ 63 rfl w.heap.size 5 i0 (.int .u8 0) 1 1 Tryd.underlying63 hi hz0 hz1 hz2 rfl (by decide) _ _ _ rfl (hown.alloc _) ⟨wr.heap.size, 0, none⟩ 1 1 [.int .u8 (s[k].toNat : Int)] rfl rfl ?c1 ?c2 ?c3 ?c4 ?c5 ?_)
        case c1 =>
          intro j u hj
          match j, hj with
          | 0, hj => simp at hj; subst hj; simp [Addr.add]
        case c2 => intro u hu; simp at hu; subst hu; rfl
        case c3 => unfold maxLen; omega
        case c4 => omega
        case c5 => have := (hx).size; simp; omega
        intro v' w2 hown' hgrow _
        go_wp2_with fail
        go_roundw
        case rel => exact ⟨k + 1, o ++ [s[k]], by omega, by go_num, by rw [byteCells_snoc, List.length_append]; exact hown', by simp; omega, hst.out, ((hx).alloc _).grown hgrow (fun q hq => (hown.lt q hq).1)⟩
        case measure => simp [intOf]; omega
    · obtain rfl : k = s.size := by omega
      have hfin := Lib.hid (decV_some hinv.out.done)
      have hcv := convert_own (P := Tryd.prog) Tryd.underlying63 Tryd.underlying5 Tryd.underlying9 o _ hown rfl
      go_wp2_with fail
      go_ret2
      exact Ret.mk (by rw [hfin.out]; rfl) hx
end Go.Proofs.YtanaifobmkjpaaaDoor
