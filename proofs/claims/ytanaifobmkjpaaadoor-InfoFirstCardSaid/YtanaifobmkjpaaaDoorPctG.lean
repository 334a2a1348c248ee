/- Layer 4 (pct): Decode of the reference; the chapter's examples; the laws' walks. -/
import Derived.Test.YtanaifobmkjpaaaDoorPctF
namespace Go.Proofs.YtanaifobmkjpaaaDoor
open Go.ChangeShapes Go.WideShapes Go.ChangeAt Go.RowKit

/-- 'string([]byte{x})'. -/
theorem convert_oneP {P : Program} (W : World) {src dst e : TypeId} (hs : P.underlying src = some (.slice e)) (he : P.underlying e = some (.int .u8)) (hd : P.underlying dst = some .string) (x : Int) (c : UInt8) (hx : x = c.toNat) :
    (convert src dst (.slice (some ⟨W.heap.size, 0, none⟩) 1 1)).run P (W.alloc (.cells #[.int .u8 x] e)) = .ok (.string (bs [c])) (W.alloc (.cells #[.int .u8 x] e)) := by
  subst hx
  refine run_convert_bytes_back _ src dst e ⟨W.heap.size, 0, none⟩ 1 [c] hs he hd ?_
  intro j hj
  match j, hj with
  | 0, _ => simp [Addr.add]

set_option maxRecDepth 100000 in
set_option maxHeartbeats 4000000 in
theorem rdecode_any (s : ByteArray) (w : World) (hs : s.size ≤ 1000000) : Calls Tryd.prog 54 #[.string s] w (Ret w (decV s.data.toList)) := by
  go_enter Tryd.func54, Tryd.ntmps54
  go_wp2_with fail
  go_loopw [4, 5] (fun v i wr => ∃ (k : Nat) (o : List UInt8), k ≤ s.size ∧ i = .int .i64 k ∧ v = .string (bs o) ∧ o.length ≤ k ∧ DecInv s.data.toList k o ∧ Ext w wr) (fun _ i _ => s.size - (intOf i).toNat)
  case atStart => exact ⟨0, [], by omega, rfl, rfl, by simp, DecInv.start _, Ext.refl _⟩
  case round =>
    obtain ⟨k, o, hk, rfl, rfl, hol, hinv, hx⟩ := hrel
    have hinv := Lib.hid hinv
    have z0 := bs_size o
    by_cases hlt : k < s.size
    · by_cases hc : s[k] = 37
      · have hne : ((s[k].toNat : Int) != 37) = false := by rw [hc]; rfl
        by_cases h3 : s.size - k < 3
        · have hfin := Lib.hid (decV_none (hinv.out.short hlt hc h3))
          have h3' : (s.size : Int) ≤ (k : Int) + 2 := by omega
          clear hc
          go_wp2_with fail
          go_ret2
          exact Ret.mk (by rw [hfin.out]; rfl) hx
        · have h3' : ¬ ((s.size : Int) ≤ (k : Int) + 2) := by omega
          have hk2 : k + 2 < s.size := by omega
          have hb1 := digC_le s[k + 1]
          have hb2 := digC_le s[k + 2]
          have x0 : (0 : Int) ≤ (k : Int) + 1 := by omega
          have x1 : (k : Int) + 1 < (s.size : Int) := by omega
          have x2 : ((k : Int) + 1).toNat = k + 1 := by omega
          have x3 : IntKind.i64.wrap ((k : Int) + 1) = (k : Int) + 1 := wrap_i64_in (by omega) (by omega)
          have y0 : (0 : Int) ≤ (k : Int) + 2 := by omega
          have y1 : (k : Int) + 2 < (s.size : Int) := by omega
          have y2 : ((k : Int) + 2).toNat = k + 2 := by omega
          have y3 : IntKind.i64.wrap ((k : Int) + 2) = (k : Int) + 2 := wrap_i64_in (by omega) (by omega)
          by_cases hg1 : digC s[k + 1] < 16
          · by_cases hg2 : digC s[k + 2] < 16
            · have hst := Lib.hid (hinv.out.good hk2 hc ⟨hg1, hg2⟩)
              have hby := Lib.hid (ofNat_byte (16 * digC s[k + 1] + digC s[k + 2]) (by omega))
              clear hc
              go_wp2_with fail
              refine (rdigit_any _ _).mono ?_
              rintro e w1 ⟨rfl, b1⟩
              go_wp2_with fail
              refine (rdigit_any _ _).mono ?_
              rintro e w2 ⟨rfl, b2⟩
              go_wp2_with fail
              have t1 : IntKind.i64.wrap (16 * (digC s[k + 1] : Int)) = 16 * (digC s[k + 1] : Int) := wrap_i64_in (by omega) (by omega)
              have t2 : IntKind.i64.wrap (16 * (digC s[k + 1] : Int) + (digC s[k + 2] : Int)) = 16 * (digC s[k + 1] : Int) + (digC s[k + 2] : Int) := wrap_i64_in (by omega) (by omega)
              have t3 : IntKind.u8.wrap (16 * (digC s[k + 1] : Int) + (digC s[k + 2] : Int)) = 16 * (digC s[k + 1] : Int) + (digC s[k + 2] : Int) := by rw [IntKind.wrap_u8]; omega
              obtain ⟨cb, hcb⟩ : ∃ cb, cb = UInt8.ofNat (16 * digC s[k + 1] + digC s[k + 2]) := ⟨_, rfl⟩
              rw [← hcb] at hst hby
              clear hcb
              have hcv := fun W => convert_oneP (P := Tryd.prog) W Tryd.underlying63 Tryd.underlying5 Tryd.underlying9 (16 * (digC s[k + 1] : Int) + (digC s[k + 2] : Int)) cb (by rw [hby.out]; omega)
              have z1 : (bs [cb]).size = 1 := bs_size _
              have a0 := bs_append o [cb]
              have u0 : ¬ (9223372036854775807 < o.length + 1) := by omega
              go_region_with ((go_at_call 85; refine (rdigit_any _ _).mono ?_; rintro e w1 ⟨rfl, hb⟩))
              all_goals
                go_wp2_with fail
                go_roundw
                case rel => exact ⟨k + 3, o ++ [cb], by omega, by go_num, rfl, by simp; omega, hst.out, by
                  refine Ext.alloc ?_ _
                  repeat (refine Ext.trans ?_ (by assumption))
                  exact Ext.drew ((hx.trans b1).trans b2)⟩
                case measure => simp [intOf]; omega
            · have hfin := Lib.hid (decV_none (hinv.out.bad hk2 hc (fun h => hg2 h.2)))
              clear hc
              go_wp2_with fail
              refine (rdigit_any _ _).mono ?_
              rintro e w1 ⟨rfl, b1⟩
              go_wp2_with fail
              refine (rdigit_any _ _).mono ?_
              rintro e w2 ⟨rfl, b2⟩
              go_wp2_with fail
              go_ret2
              exact Ret.mk (by rw [hfin.out]; rfl) ((hx.trans b1).trans b2)
          · have hfin := Lib.hid (decV_none (hinv.out.bad hk2 hc (fun h => hg1 h.1)))
            clear hc
            go_wp2_with fail
            refine (rdigit_any _ _).mono ?_
            rintro e w1 ⟨rfl, b1⟩
            go_wp2_with fail
            go_ret2
            exact Ret.mk (by rw [hfin.out]; rfl) (hx.trans b1)
      · have hne : ((s[k].toNat : Int) != 37) = true := by
          rw [bne_iff_ne]; intro h; apply hc
          have : s[k].toNat = 37 := by omega
          exact UInt8.toNat_inj.1 this
        have hst := Lib.hid (hinv.out.plain hlt hc)
        have hsl := fun w => slice_str (P := Tryd.prog) Tryd.underlying9 s (k : Int) ((k : Int) + 1) k (k + 1) rfl (by omega) (by omega) (by omega) _ (ext_one s k hlt) w
        have z1 : (bs [s[k]]).size = 1 := bs_size _
        have a0 := bs_append o [s[k]]
        clear hc
        go_wp2_with fail
        go_roundw
        case rel => exact ⟨k + 1, o ++ [s[k]], by omega, by go_num, rfl, by simp; omega, hst.out, hx⟩
        case measure => simp [intOf]; omega
    · obtain rfl : k = s.size := by omega
      have hfin := Lib.hid (decV_some hinv.out.done)
      go_wp2_with fail
      go_ret2
      exact Ret.mk (by rw [hfin.out]; rfl) hx
end Go.Proofs.YtanaifobmkjpaaaDoor
