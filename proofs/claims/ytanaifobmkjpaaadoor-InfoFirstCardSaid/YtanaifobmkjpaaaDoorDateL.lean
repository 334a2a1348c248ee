/- Layer 5 (date): the program's Parse. -/
import Derived.Test.YtanaifobmkjpaaaDoorDateK
import Derived.Test.YtanaifobmkjpaaaDoorDateZ
import Derived.RegionTactic
import Derived.ChangeAlike
namespace Go.Proofs.YtanaifobmkjpaaaDoor
open Go.ChangeShapes Go.WideShapes Go.ChangeAt Go.RowKit

/-- What Parse gives. -/
def PrsZ (l : List UInt8) (n e : Int) : Prop :=
  (¬ (l.length = 19 ∧ okTo (byteN l) 19) ∧ n = 0 ∧ e = 2) ∨
  (l.length = 19 ∧ okTo (byteN l) 19 ∧ SecZ (fpar (byteN l) 19 0) (fpar (byteN l) 19 1) (fpar (byteN l) 19 2) (fpar (byteN l) 19 3) (fpar (byteN l) 19 4) (fpar (byteN l) 19 5) n e)
def PrsRet (w : World) (l : List UInt8) (E : Ending) (w' : World) : Prop := ∃ n e, PrsZ l n e ∧ E = .returned (.tuple #[.int .i64 n, .int .i64 e]) ∧ Ext w w'
theorem PrsRet.bad {w w' : World} {s : ByteArray} {k : Nat} {E : Ending} (hk : k < 19) (hb : Hid (¬ (if isMark k = true then byteN s.data.toList k = mk k else 48 ≤ byteN s.data.toList k ∧ byteN s.data.toList k ≤ 57))) (hE : E = .returned (.tuple #[.int .i64 0, .int .i64 2])) (h : Ext w w') : PrsRet w s.data.toList E w' :=
  ⟨0, 2, .inl ⟨fun ⟨_, h⟩ => hb.out (h k hk), rfl, rfl⟩, hE, h⟩
theorem PrsRet.size {w w' : World} {s : ByteArray} {E : Ending} (hs : Hid (¬ s.size = 19)) (hE : E = .returned (.tuple #[.int .i64 0, .int .i64 2])) (h : Ext w w') : PrsRet w s.data.toList E w' :=
  ⟨0, 2, .inl ⟨fun ⟨h, _⟩ => hs.out (by rw [← h]; simp), rfl, rfl⟩, hE, h⟩
theorem PrsRet.good {w w' : World} {s : ByteArray} {n e : Int} {E : Ending} (hs : Hid (s.size = 19)) (ho : Hid (okTo (byteN s.data.toList) 19)) (hz : SecZ (fpar (byteN s.data.toList) 19 0) (fpar (byteN s.data.toList) 19 1) (fpar (byteN s.data.toList) 19 2) (fpar (byteN s.data.toList) 19 3) (fpar (byteN s.data.toList) 19 4) (fpar (byteN s.data.toList) 19 5) n e) (hE : E = .returned (.tuple #[.int .i64 n, .int .i64 e])) (h : Ext w w') : PrsRet w s.data.toList E w' :=
  ⟨n, e, .inr ⟨by rw [← hs.out]; simp, ho.out, hz⟩, hE, h⟩
theorem Has.setv {w : World} {b a : Nat} {f : Nat → Int} {t : TypeId} (h : Has w b (.cells (cellsV f) t (0, 0))) (ha : a ≤ 5) (x : Int) : Has (w.setCell ⟨b, a, none⟩ (.int .i64 x)) b (.cells (cellsV (upd f a x)) t (0, 0)) := by
  have := h.set a (.int .i64 x)
  rwa [cellsV_set f a ha] at this
set_option maxRecDepth 100000 in
set_option maxHeartbeats 1000000 in
theorem pparse_any (s : ByteArray) (w : World) (_hsz : s.size ≤ 1000000) : Calls Tryd.prog 51 #[.string s] w (PrsRet w s.data.toList) := by
  by_cases h19 : s.size = 19
  · have H19 := Lib.hid h19
    go_enter Tryd.func51, Tryd.ntmps51
    go_wp2_with fail
    clear h19
    go_loopw [5, 10] (fun a i wr => ∃ k : Nat, k ≤ 19 ∧ i = .int .i64 k ∧ a = .int .i64 (fldAt k) ∧ Hid (okTo (byteN s.data.toList) k) ∧ Has wr w.heap.size (.cells (cellsV (fpar (byteN s.data.toList) k)) 121 (0, 0)) ∧ Ext w wr) (fun _ i _ => 19 - (intOf i).toNat)
    case atStart => exact ⟨0, by omega, rfl, rfl, fun i hi => absurd hi (by omega), Has.new _ _, (Ext.refl _).alloc _⟩
    case round =>
      obtain ⟨k, hk, rfl, rfl, ho, hb, hE⟩ := hrel
      by_cases hlt : k < 19
      · have hFk := frmP_at k hlt
        obtain ⟨c, hc⟩ : ∃ c : Int, c = byteN s.data.toList k := ⟨_, rfl⟩
        have hks : k < s.size := by rw [H19.out]; exact hlt
        have hcs := byteN_get s k hks
        rw [← hc] at hcs
        have hcb := byteN_lt s.data.toList k
        rw [← hc] at hcb
        have hle := fldAt_le k
        have hbd := fpar_bd (byteN s.data.toList) k (by omega) ho.out
        have hle := fldAt_le k
        have hbd := fpar_bd (byteN s.data.toList) k (by omega) ho.out
        cases hm : isMark k
        · rw [hm, if_neg (by decide)] at hFk
          unfold frmP at hFk
          obtain ⟨e1, e2, e3⟩ := fldAt_digit k hlt hm
          obtain ⟨V, hV⟩ : ∃ V : Int, V = fpar (byteN s.data.toList) k (fldAt k) := ⟨_, rfl⟩
          rw [← hV] at hbd
          have hV0 : 0 ≤ V := hbd.1
          have hV1 : V ≤ 1000 := by omega
          by_cases hc1 : c < 48
          · have hbad : Hid (¬ (if isMark k = true then byteN s.data.toList k = mk k else 48 ≤ byteN s.data.toList k ∧ byteN s.data.toList k ≤ 57)) := by
              show ¬ _; rw [hm, if_neg (by decide), ← hc]; omega
            clear hc hV hbd hm e1 e2 e3
            go_wp2_with fail
            go_returns
            exact PrsRet.bad hlt hbad rfl hE
          · by_cases hc2 : 57 < c
            · have hbad : Hid (¬ (if isMark k = true then byteN s.data.toList k = mk k else 48 ≤ byteN s.data.toList k ∧ byteN s.data.toList k ≤ 57)) := by
                show ¬ _; rw [hm, if_neg (by decide), ← hc]; omega
              clear hc hV hbd hm e1 e2 e3
              go_wp2_with fail
              go_returns
              exact PrsRet.bad hlt hbad rfl hE
            · have hok : Hid (okTo (byteN s.data.toList) (k + 1)) := okTo_step ho.out (by rw [hm, if_neg (by decide), ← hc]; omega)
              have hf : Hid (fpar (byteN s.data.toList) (k + 1) = upd (fpar (byteN s.data.toList) k) (fldAt k) (10 * V + (c - 48))) := by
                show fpar _ (k + 1) = _; rw [fpar, hm, if_neg (by decide), hV, hc]
              have hk1 := Lib.hid e1
              have hcell : wr.cell? ⟨w.heap.size, fldAt k, none⟩ = some (.int .i64 V) := by rw [hb.cell, hV]; exact cellsV_get _ _ hle
              have hfree : wr.frozen? ⟨w.heap.size, fldAt k, none⟩ = false := by rw [hb.free]; simp
              have w1 : IntKind.u8.wrap (c - 48) = c - 48 := by rw [IntKind.wrap_u8]; omega
              have w2 : IntKind.i64.wrap (10 * V) = 10 * V := wrap_i64_in (by omega) (by omega)
              have w3 : IntKind.i64.wrap (10 * V + (c - 48)) = 10 * V + (c - 48) := wrap_i64_in (by omega) (by omega)
              have w4 : IntKind.i64.wrap (c - 48) = c - 48 := wrap_i64_in (by omega) (by omega)
              have hle' : (fldAt k : Int) < 6 := by omega
              have hge' : (0 : Int) ≤ (fldAt k : Int) := by omega
              clear hc hV hbd hm e1 e2 e3
              go_wp2_with fail
              go_region
              go_wp2_with fail
              go_roundw
              case rel => exact ⟨k + 1, by omega, by go_num, by rw [hk1.out], hok, by rw [hf.out]; exact (hb.setv hle _).ext ((Ext.refl _).drew), (hE.setCell (Nat.le_refl _) _).drew⟩
              case measure => simp [intOf]; omega
        · obtain ⟨mkk, hmk⟩ : ∃ x : Int, x = mk k := ⟨_, rfl⟩
          have hne := (mk_ne k hlt hm).1
          rw [hm, if_pos rfl, ← hmk] at hFk
          rw [← hmk] at hne
          unfold frmP at hFk
          have b1 : (mkk != 100) = true := by simpa using hne
          obtain ⟨e1, e2⟩ := fldAt_mark k hlt hm
          by_cases hcm : c = mkk
          · have hok : Hid (okTo (byteN s.data.toList) (k + 1)) := okTo_step ho.out (by rw [if_pos hm, ← hc, ← hmk]; exact hcm)
            have b2 : (c != mkk) = false := by simpa using hcm
            have hf : Hid (fpar (byteN s.data.toList) (k + 1) = fpar (byteN s.data.toList) k) := by show fpar _ (k + 1) = _; rw [fpar, if_pos hm]
            have hk1 := Lib.hid e1
            clear hc hmk hcm e1 e2 hm hne hbd
            go_wp2_with fail
            go_quiet (fail)
            go_wp2_with fail
            go_roundw
            case rel => exact ⟨k + 1, by omega, by go_num, by rw [hk1.out]; go_num, hok, by rw [hf.out]; exact hb.ext ((Ext.refl _).drewN _), hE.drewN _⟩
            case measure => simp [intOf]; omega
          · have hbad : Hid (¬ (if isMark k = true then byteN s.data.toList k = mk k else 48 ≤ byteN s.data.toList k ∧ byteN s.data.toList k ≤ 57)) := by
              show ¬ _; rw [if_pos hm, ← hc, ← hmk]; exact hcm
            have b2 : (c != mkk) = true := by simpa using hcm
            clear hc hmk hcm e1 e2 hm hne hbd
            go_wp2_with fail
            go_quiet (fail)
            go_wp2_with fail
            go_returns
            exact PrsRet.bad hlt hbad rfl (hE.drewN _)
      · obtain rfl : k = 19 := by omega
        have c0 := hb.cell 0
        have c1 := hb.cell 1
        have c2 := hb.cell 2
        have c3 := hb.cell 3
        have c4 := hb.cell 4
        have c5 := hb.cell 5
        obtain ⟨f, hf⟩ : ∃ f, f = fpar (byteN s.data.toList) 19 := ⟨_, rfl⟩
        rw [← hf] at c0 c1 c2 c3 c4 c5
        have HF := Lib.hid hf
        clear hf
        simp [cellsV] at c0 c1 c2 c3 c4 c5
        go_wp2_with fail
        refine (psec_any (f 0) (f 1) (f 2) (f 3) (f 4) (f 5) _).mono ?_
        rintro e w1 ⟨n, er, hz, rfl, b1⟩
        go_wp2_with fail
        go_returns
        exact PrsRet.good H19 ho (by rw [HF.out] at hz; exact hz) rfl (hE.trans b1)
  · have hb1 : ((s.size : Int) != 19) = true := by simp; omega
    have HS := Lib.hid h19
    clear h19
    go_enter Tryd.func51, Tryd.ntmps51
    go_wp2_with fail
    go_returns
    exact PrsRet.size HS rfl (Ext.refl _)
end Go.Proofs.YtanaifobmkjpaaaDoor
