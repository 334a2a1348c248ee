/- Layer 48 (script): the reference's Step of a step. -/
import Derived.Test.YtanaifobmkjpaaaDoorScpX
namespace Go.Proofs.YtanaifobmkjpaaaDoor
open Go.ChangeShapes Go.WideShapes Go.ChangeAt Go.RowKit

set_option maxRecDepth 100000 in
set_option maxHeartbeats 16000000 in
theorem rstep_tick_ok (line : Txt) (x0 : Txt) (x : Txt) (w : World) (hlen : line.length ≤ 100000) (h : wordsN line = some (x0 :: [x])) (hx : x0 = wTick) : Calls Tryd.prog 18 #[.string (bs line)] w (StR w (stepN line)) := by
  have E0 : Ext w (w.alloc (.cells ZS 30)) := (Ext.refl _).alloc _
  have H0 : Has (w.alloc (.cells ZS 30)) w.heap.size (.cells ZS 30) := Has.new _ _
  have HF := Lib.hid (step_some h)
  have HW := Lib.hid h
  have hll := words_len h
  have HMM := Lib.hid (words_mem h)
  clear h
  go_enter Tryd.func18, Tryd.ntmps18
  go_wp2_with fail
  refine (rwords_any line _ hlen).mono ?_
  rintro e w1 (⟨h1, _⟩ | ⟨L1, v1, h1, rfl, hO1, hE1⟩)
  · rw [HW.out] at h1; cases h1
  rw [HW.out] at h1
  obtain rfl : (x0 :: [x]) = L1 := Option.some.inj h1
  obtain ⟨A1, k1, rfl, hk1, _, t1, _⟩ := hO1.at_
  obtain ⟨bl, o, rfl, hbl, hx0⟩ := t1.at_ (Ext.refl _) 0 (by simp)
  have hx0 : w1.cell? ⟨bl, o, none⟩ = some (.string (bs x0)) := hx0
  have HX0 := Lib.hid hx0
  obtain ⟨bl', o', hA', _, hp1⟩ := t1.at_ (Ext.refl _) 1 (by simp)
  have HP1 : Hid (w1.cell? ⟨bl, o + 1, none⟩ = some (.string (bs x))) := by
    injection hA' with hA'
    injection hA' with q1 q2
    show _ = _
    rw [q1, q2]; exact hp1
  clear hA' hp1
  have H1 := H0.ext hE1
  have E1 := E0.trans hE1
  have hw1 : w.heap.size < w1.heap.size := Has.lt H1
  have hk1 : 1 + 1 ≤ k1 := by simpa using hk1
  have hn : (x0 :: [x]).length = 1 + 1 := by simp
  obtain ⟨X, hsl, hX⟩ := from_oneS bl o (1 + 1) 1 k1 rfl hk1
  have HX : Hid (0 < ([x] : List Txt).length → X = ⟨bl, o + 1, none⟩) := fun h => hX (by first | (simp at h; done) | (simp; done) | (simpa using h))
  rw [hn]
  have T1 := Lib.hid t1
  have hrl : (1 : Int) ≤ 100001 := by simp at hll; omega
  have hbo : w.heap.size < bl := by have := (World.ownsRow.lt hO1 bl rfl).1; simp at this; omega
  have ez : ((1 : Int) + 1 == 0) = false := by rw [beq_eq_false_iff_ne]; omega
  have TY := Lib.hid (own_ty hO1)
  clear hO1 t1 h1 hn hll hX
  obtain ⟨u1, u2, u3, u4, u5⟩ := word_tests x0
  rw [show (x0 == wRun) = false from by rw [hx]; decide] at u1
  rw [show (x0 == wMend) = false from by rw [hx]; decide] at u5
  rw [show (x0 == wTick) = true from by rw [hx]; decide] at u2
  rw [show (x0 == wAs) = false from by rw [hx]; decide] at u3
  rw [show (x0 == wFail) = false from by rw [hx]; decide] at u4
  have mu2 : ((bs x0).toList != [116, 105, 99, 107]) = false := by show (!_) = _; rw [u2]; rfl
  have mu3 : ((bs x0).toList != [97, 115]) = true := by show (!_) = _; rw [u3]; rfl
  have mu4 : ((bs x0).toList != [102, 97, 105, 108]) = true := by show (!_) = _; rw [u4]; rfl
  have mu5 : ((bs x0).toList != [109, 101, 110, 100]) = true := by show (!_) = _; rw [u5]; rfl
  have HXX := Lib.hid hx
  clear hx
  obtain ⟨V1, hV1⟩ : ∃ W, W = w1.alloc (.cells #[.string ⟨#[]⟩, .string ⟨#[]⟩, .string ⟨#[116, 105, 99, 107]⟩, .string ⟨#[97, 115]⟩, .string ⟨#[102, 97, 105, 108]⟩, .string ⟨#[109, 101, 110, 100]⟩] 9) := ⟨_, rfl⟩
  have hQ : Has V1 w1.heap.size (.cells #[.string ⟨#[]⟩, .string ⟨#[]⟩, .string ⟨#[116, 105, 99, 107]⟩, .string ⟨#[97, 115]⟩, .string ⟨#[102, 97, 105, 108]⟩, .string ⟨#[109, 101, 110, 100]⟩] 9) := by rw [hV1]; exact Has.new _ _
  have EQ : Ext w1 V1 := by rw [hV1]; exact (Ext.refl _).alloc _
  have HV1 := Lib.hid hV1
  have HQ := Lib.hid hQ
  have HEQ := Lib.hid EQ
  have hql := Has.lt hQ
  clear hV1 hQ EQ
  go_upto_region 12 with (rw [← HV1.out])
  clear hx0 ez
  go_wp2_with fail
  go_loopw [8] (fun i wr => Ext V1 wr ∧ (i = .int .i64 2)) (fun i _ => 7 - (intOf i).toNat)
  case atStart => exact ⟨Ext.refl _, rfl⟩
  case round =>
    obtain ⟨hE, hcase⟩ := hrel
    have hbl2 : bl < V1.heap.size := by have := HEQ.out.size; omega
    have p0 : wr.cell? ⟨bl, o, none⟩ = some (.string (bs x0)) := (hE.cell hbl2).trans ((HEQ.out.cell hbl).trans HX0.out)
    have hnm : ∀ i, wr.cell? ⟨w1.heap.size, i, none⟩ = (#[.string ⟨#[]⟩, .string ⟨#[]⟩, .string ⟨#[116, 105, 99, 107]⟩, .string ⟨#[97, 115]⟩, .string ⟨#[102, 97, 105, 108]⟩, .string ⟨#[109, 101, 110, 100]⟩] : Array Value)[i]? := fun i => (hE.cell hql).trans (HQ.out.cell i)
    have hbl3 : bl < wr.heap.size := by have := hE.size; omega
    have hql3 : w1.heap.size < wr.heap.size := by have := hE.size; omega
    subst hcase
    have g0 : wr.cell? ⟨w1.heap.size, 2, none⟩ = some (.string ⟨#[116, 105, 99, 107]⟩) := hnm 2
    clear hnm
    go_wp2_with fail
    go_quiet (fail)
    generalize hU : wr.drewN _ = U
    have EU : Ext w1 U := by rw [← hU]; exact (HEQ.out.trans hE).drewN _
    clear hU p0 g0 hE hbl3 hql3 hbl2
    obtain ⟨V2, hV2⟩ : ∃ W, W = U.alloc (.cells #[.int .i64 2, .slice none 0 0, .int .i64 0, .int .i64 0] 30) := ⟨_, rfl⟩
    have E12 : Ext w1 V2 := by rw [hV2]; exact EU.alloc _
    have hB : Hid (Has V2 U.heap.size (.cells #[.int .i64 2, .slice none 0 0, .int .i64 0, .int .i64 0] 30)) := by show Has _ _ _; rw [hV2]; exact Has.new _ _
    have HV2 := Lib.hid hV2
    clear hV2
    go_upto_region 24 with (fail)
    rw [← HV2.out]
    go_wp2_with fail
    go_loopw [11] (fun i wr => Ext w1 wr ∧ ((i = .int .i64 1 ∧ Hid (True) ∧ Has wr U.heap.size (.cells #[.int .i64 2, .slice none 0 0, .int .i64 0, .int .i64 0] 30)) ∨ (i = .int .i64 2 ∧ Hid (gB x = true) ∧ Has wr U.heap.size (.cells #[.int .i64 2, .slice none 0 0, .int .i64 (vN x), .int .i64 0] 30)))) (fun i _ => 4 - (intOf i).toNat)
    case atStart => exact ⟨E12, .inl ⟨rfl, trivial, hB.out⟩⟩
    case round =>
      obtain ⟨hE, hcase⟩ := hrel
      rcases hcase with ⟨rfl, HG, hN⟩ | ⟨rfl, HG, hN⟩
      · have px : wr.cell? ⟨bl, o + 1, none⟩ = some (.string (bs x)) := (hE.cell hbl).trans HP1.out
        have hbl2 : bl < wr.heap.size := by have := hE.size; omega
        have hpv := rparse_any (bs x) wr
        rw [bs_list, parse_vg] at hpv
        have hUw := EU.size
        rcases (show gB x = true ∨ gB x = false by cases gB x <;> simp) with hg | hg
        · rw [hg] at hpv
          have HPV := Lib.hid hpv
          have HN := Lib.hid hN
          have hg2 : Hid (gB x = true) := by show gB x = true; exact hg
          clear hpv hN hg
          go_wp2_with fail
          refine (HPV.out).mono ?_
          rintro e w3 ⟨rfl, b3⟩
          have hN3 := HN.out.ext b3
          have E3 := hE.trans b3
          have n0 := hN3.cell 2
          have nf : ∀ i, w3.frozen? ⟨U.heap.size, i, none⟩ = false := fun i => (Has.free hN3 i).trans (by simp)
          have nl := Has.lt hN3
          go_wp2_with fail
          go_roundw
          case rel => exact ⟨E3.setCell hUw _, .inr (⟨rfl, hg2, Has.set hN3 2 _⟩)⟩
          case measure => simp [intOf]
        · rw [hg] at hpv
          have HPV := Lib.hid hpv
          have hf : Hid (stepN line = none) := by show _ = _; rw [HF.out, HXX.out, stepW_tick]; exact one_no hg
          clear hpv hg
          go_wp2_with fail
          refine (HPV.out).mono ?_
          rintro e w3 ⟨rfl, b3⟩
          have H3 := H1.ext (hE.trans b3)
          have E3 := E1.trans (hE.trans b3)
          obtain ⟨z0, z1, z2⟩ : (∀ i, w3.cell? ⟨w.heap.size, i, none⟩ = ZS[i]?) ∧ (∀ i, w3.frozen? ⟨w.heap.size, i, none⟩ = false) ∧ w.heap.size < w3.heap.size := ⟨fun i => H3.cell i, fun i => (Has.free H3 i).trans (by simp), Has.lt H3⟩
          have y0 : w3.cell? ⟨w.heap.size, 0, none⟩ = some (.int .i64 0) := z0 0
          have y1 : w3.cell? ⟨w.heap.size, 1, none⟩ = some (.slice none 0 0) := z0 1
          have y2 : w3.cell? ⟨w.heap.size, 2, none⟩ = some (.int .i64 0) := z0 2
          have y3 : w3.cell? ⟨w.heap.size, 3, none⟩ = some (.int .i64 0) := z0 3
          clear z0
          go_wp2_with fail
          refine bodyPost_ret (resS _ rfl _ _ w.heap.size ZS (.int .i64 2) rfl rfl (Has.put4 H3 _ _ _ _) (step_size _ _ _ _)) rfl ?_
          exact StR.bad hf rfl (E3.put4 (Nat.le_refl _) _ _ _ _)
      · obtain ⟨V3, hV3⟩ : ∃ V3, V3 = wr := ⟨_, rfl⟩
        rw [← hV3] at hN hE ⊢
        have HWR := Lib.hid hV3
        clear hV3
        have hB3 := hN
        have E13 := hE
        have hR3 : Has V3 w.heap.size (.cells ZS 30) := H1.ext E13
        have s0 : V3.cell? ⟨U.heap.size, 0, none⟩ = some (.int .i64 2) := hB3.cell 0
        have s1 : V3.cell? ⟨U.heap.size, 1, none⟩ = some (.slice none 0 0) := hB3.cell 1
        have s2 : V3.cell? ⟨U.heap.size, 2, none⟩ = some (.int .i64 ((vN x))) := hB3.cell 2
        have s3 : V3.cell? ⟨U.heap.size, 3, none⟩ = some (.int .i64 (0)) := hB3.cell 3
        have sl := Has.lt hB3
        have HB3 := Lib.hid hB3
        clear hB3 hN
        go_wp2_with fail
        have hmy := rmay_any 2 ((vN x)) (0) [] none 0 V3 (.inl rfl) (by decide) (fun q hq => by cases hq)
        have hchk : Hid (stepN line = chkS ⟨2, [], (vN x), 0⟩) := by show _ = _; rw [HF.out, HXX.out, stepW_tick]; exact one_yes HG.out
        cases hm : mayB ⟨2, [], (vN x), 0⟩ with
        | false =>
          rw [hm] at hmy
          refine hmy.mono ?_
          clear hmy
          have hf : Hid (stepN line = none) := by show _ = _; rw [hchk.out]; exact chkS_no hm
          clear hm
          rintro e w3 ⟨rfl, b3⟩
          have H3 := hR3.ext b3
          have E3 := (E1.trans E13).trans b3
          clear s0 s1 s2 s3 sl
          obtain ⟨z0, z1, z2⟩ : (∀ i, w3.cell? ⟨w.heap.size, i, none⟩ = ZS[i]?) ∧ (∀ i, w3.frozen? ⟨w.heap.size, i, none⟩ = false) ∧ w.heap.size < w3.heap.size := ⟨fun i => H3.cell i, fun i => (Has.free H3 i).trans (by simp), Has.lt H3⟩
          have y0 : w3.cell? ⟨w.heap.size, 0, none⟩ = some (.int .i64 0) := z0 0
          have y1 : w3.cell? ⟨w.heap.size, 1, none⟩ = some (.slice none 0 0) := z0 1
          have y2 : w3.cell? ⟨w.heap.size, 2, none⟩ = some (.int .i64 0) := z0 2
          have y3 : w3.cell? ⟨w.heap.size, 3, none⟩ = some (.int .i64 0) := z0 3
          clear z0
          go_wp2_with fail
          refine bodyPost_ret (resS _ rfl _ _ w.heap.size ZS (.int .i64 2) rfl rfl (Has.put4 H3 _ _ _ _) (step_size _ _ _ _)) rfl ?_
          exact StR.bad hf rfl (E3.put4 (Nat.le_refl _) _ _ _ _)
        | true =>
          rw [hm] at hmy
          refine hmy.mono ?_
          clear hmy
          have hf : Hid (stepN line = some ⟨2, [], (vN x), 0⟩) := by show _ = _; rw [hchk.out]; exact chkS_yes hm
          clear hm
          rintro e w3 ⟨rfl, b3⟩
          have H3 := hR3.ext b3
          have E3 := (E1.trans E13).trans b3
          have r0 : w3.cell? ⟨U.heap.size, 0, none⟩ = some (.int .i64 2) := (b3.cell sl).trans s0
          have r1 : w3.cell? ⟨U.heap.size, 1, none⟩ = some (.slice none 0 0) := (b3.cell sl).trans s1
          have r2 : w3.cell? ⟨U.heap.size, 2, none⟩ = some (.int .i64 ((vN x))) := (b3.cell sl).trans s2
          have r3 : w3.cell? ⟨U.heap.size, 3, none⟩ = some (.int .i64 (0)) := (b3.cell sl).trans s3
          clear s0 s1 s2 s3 sl
          obtain ⟨z0, z1, z2⟩ : (∀ i, w3.cell? ⟨w.heap.size, i, none⟩ = ZS[i]?) ∧ (∀ i, w3.frozen? ⟨w.heap.size, i, none⟩ = false) ∧ w.heap.size < w3.heap.size := ⟨fun i => H3.cell i, fun i => (Has.free H3 i).trans (by simp), Has.lt H3⟩
          have y0 : w3.cell? ⟨w.heap.size, 0, none⟩ = some (.int .i64 0) := z0 0
          have y1 : w3.cell? ⟨w.heap.size, 1, none⟩ = some (.slice none 0 0) := z0 1
          have y2 : w3.cell? ⟨w.heap.size, 2, none⟩ = some (.int .i64 0) := z0 2
          have y3 : w3.cell? ⟨w.heap.size, 3, none⟩ = some (.int .i64 0) := z0 3
          clear z0
          go_wp2_with fail
          refine bodyPost_ret (resS _ rfl _ _ w.heap.size _ (.int .i64 0) rfl rfl (Has.put4 H3 _ _ _ _) (step_size _ _ _ _)) rfl ?_
          exact StR.plain hf rfl (E3.put4 (Nat.le_refl _) _ _ _ _)
set_option maxRecDepth 100000 in
set_option maxHeartbeats 16000000 in
theorem rstep_as_ok (line : Txt) (x0 : Txt) (x : Txt) (w : World) (hlen : line.length ≤ 100000) (h : wordsN line = some (x0 :: [x])) (hx : x0 = wAs) : Calls Tryd.prog 18 #[.string (bs line)] w (StR w (stepN line)) := by
  have E0 : Ext w (w.alloc (.cells ZS 30)) := (Ext.refl _).alloc _
  have H0 : Has (w.alloc (.cells ZS 30)) w.heap.size (.cells ZS 30) := Has.new _ _
  have HF := Lib.hid (step_some h)
  have HW := Lib.hid h
  have hll := words_len h
  have HMM := Lib.hid (words_mem h)
  clear h
  go_enter Tryd.func18, Tryd.ntmps18
  go_wp2_with fail
  refine (rwords_any line _ hlen).mono ?_
  rintro e w1 (⟨h1, _⟩ | ⟨L1, v1, h1, rfl, hO1, hE1⟩)
  · rw [HW.out] at h1; cases h1
  rw [HW.out] at h1
  obtain rfl : (x0 :: [x]) = L1 := Option.some.inj h1
  obtain ⟨A1, k1, rfl, hk1, _, t1, _⟩ := hO1.at_
  obtain ⟨bl, o, rfl, hbl, hx0⟩ := t1.at_ (Ext.refl _) 0 (by simp)
  have hx0 : w1.cell? ⟨bl, o, none⟩ = some (.string (bs x0)) := hx0
  have HX0 := Lib.hid hx0
  obtain ⟨bl', o', hA', _, hp1⟩ := t1.at_ (Ext.refl _) 1 (by simp)
  have HP1 : Hid (w1.cell? ⟨bl, o + 1, none⟩ = some (.string (bs x))) := by
    injection hA' with hA'
    injection hA' with q1 q2
    show _ = _
    rw [q1, q2]; exact hp1
  clear hA' hp1
  have H1 := H0.ext hE1
  have E1 := E0.trans hE1
  have hw1 : w.heap.size < w1.heap.size := Has.lt H1
  have hk1 : 1 + 1 ≤ k1 := by simpa using hk1
  have hn : (x0 :: [x]).length = 1 + 1 := by simp
  obtain ⟨X, hsl, hX⟩ := from_oneS bl o (1 + 1) 1 k1 rfl hk1
  have HX : Hid (0 < ([x] : List Txt).length → X = ⟨bl, o + 1, none⟩) := fun h => hX (by first | (simp at h; done) | (simp; done) | (simpa using h))
  rw [hn]
  have T1 := Lib.hid t1
  have hrl : (1 : Int) ≤ 100001 := by simp at hll; omega
  have hbo : w.heap.size < bl := by have := (World.ownsRow.lt hO1 bl rfl).1; simp at this; omega
  have ez : ((1 : Int) + 1 == 0) = false := by rw [beq_eq_false_iff_ne]; omega
  have TY := Lib.hid (own_ty hO1)
  clear hO1 t1 h1 hn hll hX
  obtain ⟨u1, u2, u3, u4, u5⟩ := word_tests x0
  rw [show (x0 == wRun) = false from by rw [hx]; decide] at u1
  rw [show (x0 == wMend) = false from by rw [hx]; decide] at u5
  rw [show (x0 == wTick) = false from by rw [hx]; decide] at u2
  rw [show (x0 == wAs) = true from by rw [hx]; decide] at u3
  rw [show (x0 == wFail) = false from by rw [hx]; decide] at u4
  have mu2 : ((bs x0).toList != [116, 105, 99, 107]) = true := by show (!_) = _; rw [u2]; rfl
  have mu3 : ((bs x0).toList != [97, 115]) = false := by show (!_) = _; rw [u3]; rfl
  have mu4 : ((bs x0).toList != [102, 97, 105, 108]) = true := by show (!_) = _; rw [u4]; rfl
  have mu5 : ((bs x0).toList != [109, 101, 110, 100]) = true := by show (!_) = _; rw [u5]; rfl
  have HXX := Lib.hid hx
  clear hx
  obtain ⟨V1, hV1⟩ : ∃ W, W = w1.alloc (.cells #[.string ⟨#[]⟩, .string ⟨#[]⟩, .string ⟨#[116, 105, 99, 107]⟩, .string ⟨#[97, 115]⟩, .string ⟨#[102, 97, 105, 108]⟩, .string ⟨#[109, 101, 110, 100]⟩] 9) := ⟨_, rfl⟩
  have hQ : Has V1 w1.heap.size (.cells #[.string ⟨#[]⟩, .string ⟨#[]⟩, .string ⟨#[116, 105, 99, 107]⟩, .string ⟨#[97, 115]⟩, .string ⟨#[102, 97, 105, 108]⟩, .string ⟨#[109, 101, 110, 100]⟩] 9) := by rw [hV1]; exact Has.new _ _
  have EQ : Ext w1 V1 := by rw [hV1]; exact (Ext.refl _).alloc _
  have HV1 := Lib.hid hV1
  have HQ := Lib.hid hQ
  have HEQ := Lib.hid EQ
  have hql := Has.lt hQ
  clear hV1 hQ EQ
  go_upto_region 12 with (rw [← HV1.out])
  clear hx0 ez
  go_wp2_with fail
  go_loopw [8] (fun i wr => Ext V1 wr ∧ (i = .int .i64 2 ∨ i = .int .i64 3)) (fun i _ => 7 - (intOf i).toNat)
  case atStart => exact ⟨Ext.refl _, .inl rfl⟩
  case round =>
    obtain ⟨hE, hcase⟩ := hrel
    have hbl2 : bl < V1.heap.size := by have := HEQ.out.size; omega
    have p0 : wr.cell? ⟨bl, o, none⟩ = some (.string (bs x0)) := (hE.cell hbl2).trans ((HEQ.out.cell hbl).trans HX0.out)
    have hnm : ∀ i, wr.cell? ⟨w1.heap.size, i, none⟩ = (#[.string ⟨#[]⟩, .string ⟨#[]⟩, .string ⟨#[116, 105, 99, 107]⟩, .string ⟨#[97, 115]⟩, .string ⟨#[102, 97, 105, 108]⟩, .string ⟨#[109, 101, 110, 100]⟩] : Array Value)[i]? := fun i => (hE.cell hql).trans (HQ.out.cell i)
    have hbl3 : bl < wr.heap.size := by have := hE.size; omega
    have hql3 : w1.heap.size < wr.heap.size := by have := hE.size; omega
    rcases hcase with rfl | rfl
    · have g0 : wr.cell? ⟨w1.heap.size, 2, none⟩ = some (.string ⟨#[116, 105, 99, 107]⟩) := hnm 2
      clear hnm
      go_wp2_with fail
      go_quiet (fail)
      go_wp2_with fail
      go_roundw
      case rel => exact ⟨by first | exact hE | exact hE.drew | exact hE.drewN _, .inr (rfl)⟩
      case measure => simp [intOf]
    · have g0 : wr.cell? ⟨w1.heap.size, 3, none⟩ = some (.string ⟨#[97, 115]⟩) := hnm 3
      clear hnm
      go_wp2_with fail
      go_quiet (fail)
      generalize hU : wr.drewN _ = U
      have EU : Ext w1 U := by rw [← hU]; exact (HEQ.out.trans hE).drewN _
      clear hU p0 g0 hE hbl3 hql3 hbl2
      obtain ⟨V2, hV2⟩ : ∃ W, W = U.alloc (.cells #[.int .i64 3, .slice none 0 0, .int .i64 0, .int .i64 0] 30) := ⟨_, rfl⟩
      have E12 : Ext w1 V2 := by rw [hV2]; exact EU.alloc _
      have hB : Hid (Has V2 U.heap.size (.cells #[.int .i64 3, .slice none 0 0, .int .i64 0, .int .i64 0] 30)) := by show Has _ _ _; rw [hV2]; exact Has.new _ _
      have HV2 := Lib.hid hV2
      clear hV2
      go_upto_region 24 with (fail)
      rw [← HV2.out]
      go_wp2_with fail
      go_loopw [11] (fun i wr => Ext w1 wr ∧ ((i = .int .i64 1 ∧ Hid (True) ∧ Has wr U.heap.size (.cells #[.int .i64 3, .slice none 0 0, .int .i64 0, .int .i64 0] 30)) ∨ (i = .int .i64 2 ∧ Hid (gB x = true) ∧ Has wr U.heap.size (.cells #[.int .i64 3, .slice none 0 0, .int .i64 (vN x), .int .i64 0] 30)))) (fun i _ => 4 - (intOf i).toNat)
      case atStart => exact ⟨E12, .inl ⟨rfl, trivial, hB.out⟩⟩
      case round =>
        obtain ⟨hE, hcase⟩ := hrel
        rcases hcase with ⟨rfl, HG, hN⟩ | ⟨rfl, HG, hN⟩
        · have px : wr.cell? ⟨bl, o + 1, none⟩ = some (.string (bs x)) := (hE.cell hbl).trans HP1.out
          have hbl2 : bl < wr.heap.size := by have := hE.size; omega
          have hpv := rparse_any (bs x) wr
          rw [bs_list, parse_vg] at hpv
          have hUw := EU.size
          rcases (show gB x = true ∨ gB x = false by cases gB x <;> simp) with hg | hg
          · rw [hg] at hpv
            have HPV := Lib.hid hpv
            have HN := Lib.hid hN
            have hg2 : Hid (gB x = true) := by show gB x = true; exact hg
            clear hpv hN hg
            go_wp2_with fail
            refine (HPV.out).mono ?_
            rintro e w3 ⟨rfl, b3⟩
            have hN3 := HN.out.ext b3
            have E3 := hE.trans b3
            have n0 := hN3.cell 2
            have nf : ∀ i, w3.frozen? ⟨U.heap.size, i, none⟩ = false := fun i => (Has.free hN3 i).trans (by simp)
            have nl := Has.lt hN3
            go_wp2_with fail
            go_roundw
            case rel => exact ⟨E3.setCell hUw _, .inr (⟨rfl, hg2, Has.set hN3 2 _⟩)⟩
            case measure => simp [intOf]
          · rw [hg] at hpv
            have HPV := Lib.hid hpv
            have hf : Hid (stepN line = none) := by show _ = _; rw [HF.out, HXX.out, stepW_as]; exact one_no hg
            clear hpv hg
            go_wp2_with fail
            refine (HPV.out).mono ?_
            rintro e w3 ⟨rfl, b3⟩
            have H3 := H1.ext (hE.trans b3)
            have E3 := E1.trans (hE.trans b3)
            obtain ⟨z0, z1, z2⟩ : (∀ i, w3.cell? ⟨w.heap.size, i, none⟩ = ZS[i]?) ∧ (∀ i, w3.frozen? ⟨w.heap.size, i, none⟩ = false) ∧ w.heap.size < w3.heap.size := ⟨fun i => H3.cell i, fun i => (Has.free H3 i).trans (by simp), Has.lt H3⟩
            have y0 : w3.cell? ⟨w.heap.size, 0, none⟩ = some (.int .i64 0) := z0 0
            have y1 : w3.cell? ⟨w.heap.size, 1, none⟩ = some (.slice none 0 0) := z0 1
            have y2 : w3.cell? ⟨w.heap.size, 2, none⟩ = some (.int .i64 0) := z0 2
            have y3 : w3.cell? ⟨w.heap.size, 3, none⟩ = some (.int .i64 0) := z0 3
            clear z0
            go_wp2_with fail
            refine bodyPost_ret (resS _ rfl _ _ w.heap.size ZS (.int .i64 2) rfl rfl (Has.put4 H3 _ _ _ _) (step_size _ _ _ _)) rfl ?_
            exact StR.bad hf rfl (E3.put4 (Nat.le_refl _) _ _ _ _)
        · obtain ⟨V3, hV3⟩ : ∃ V3, V3 = wr := ⟨_, rfl⟩
          rw [← hV3] at hN hE ⊢
          have HWR := Lib.hid hV3
          clear hV3
          have hB3 := hN
          have E13 := hE
          have hR3 : Has V3 w.heap.size (.cells ZS 30) := H1.ext E13
          have s0 : V3.cell? ⟨U.heap.size, 0, none⟩ = some (.int .i64 3) := hB3.cell 0
          have s1 : V3.cell? ⟨U.heap.size, 1, none⟩ = some (.slice none 0 0) := hB3.cell 1
          have s2 : V3.cell? ⟨U.heap.size, 2, none⟩ = some (.int .i64 ((vN x))) := hB3.cell 2
          have s3 : V3.cell? ⟨U.heap.size, 3, none⟩ = some (.int .i64 (0)) := hB3.cell 3
          have sl := Has.lt hB3
          have HB3 := Lib.hid hB3
          clear hB3 hN
          go_wp2_with fail
          have hmy := rmay_any 3 ((vN x)) (0) [] none 0 V3 (.inl rfl) (by decide) (fun q hq => by cases hq)
          have hchk : Hid (stepN line = chkS ⟨3, [], (vN x), 0⟩) := by show _ = _; rw [HF.out, HXX.out, stepW_as]; exact one_yes HG.out
          cases hm : mayB ⟨3, [], (vN x), 0⟩ with
          | false =>
            rw [hm] at hmy
            refine hmy.mono ?_
            clear hmy
            have hf : Hid (stepN line = none) := by show _ = _; rw [hchk.out]; exact chkS_no hm
            clear hm
            rintro e w3 ⟨rfl, b3⟩
            have H3 := hR3.ext b3
            have E3 := (E1.trans E13).trans b3
            clear s0 s1 s2 s3 sl
            obtain ⟨z0, z1, z2⟩ : (∀ i, w3.cell? ⟨w.heap.size, i, none⟩ = ZS[i]?) ∧ (∀ i, w3.frozen? ⟨w.heap.size, i, none⟩ = false) ∧ w.heap.size < w3.heap.size := ⟨fun i => H3.cell i, fun i => (Has.free H3 i).trans (by simp), Has.lt H3⟩
            have y0 : w3.cell? ⟨w.heap.size, 0, none⟩ = some (.int .i64 0) := z0 0
            have y1 : w3.cell? ⟨w.heap.size, 1, none⟩ = some (.slice none 0 0) := z0 1
            have y2 : w3.cell? ⟨w.heap.size, 2, none⟩ = some (.int .i64 0) := z0 2
            have y3 : w3.cell? ⟨w.heap.size, 3, none⟩ = some (.int .i64 0) := z0 3
            clear z0
            go_wp2_with fail
            refine bodyPost_ret (resS _ rfl _ _ w.heap.size ZS (.int .i64 2) rfl rfl (Has.put4 H3 _ _ _ _) (step_size _ _ _ _)) rfl ?_
            exact StR.bad hf rfl (E3.put4 (Nat.le_refl _) _ _ _ _)
          | true =>
            rw [hm] at hmy
            refine hmy.mono ?_
            clear hmy
            have hf : Hid (stepN line = some ⟨3, [], (vN x), 0⟩) := by show _ = _; rw [hchk.out]; exact chkS_yes hm
            clear hm
            rintro e w3 ⟨rfl, b3⟩
            have H3 := hR3.ext b3
            have E3 := (E1.trans E13).trans b3
            have r0 : w3.cell? ⟨U.heap.size, 0, none⟩ = some (.int .i64 3) := (b3.cell sl).trans s0
            have r1 : w3.cell? ⟨U.heap.size, 1, none⟩ = some (.slice none 0 0) := (b3.cell sl).trans s1
            have r2 : w3.cell? ⟨U.heap.size, 2, none⟩ = some (.int .i64 ((vN x))) := (b3.cell sl).trans s2
            have r3 : w3.cell? ⟨U.heap.size, 3, none⟩ = some (.int .i64 (0)) := (b3.cell sl).trans s3
            clear s0 s1 s2 s3 sl
            obtain ⟨z0, z1, z2⟩ : (∀ i, w3.cell? ⟨w.heap.size, i, none⟩ = ZS[i]?) ∧ (∀ i, w3.frozen? ⟨w.heap.size, i, none⟩ = false) ∧ w.heap.size < w3.heap.size := ⟨fun i => H3.cell i, fun i => (Has.free H3 i).trans (by simp), Has.lt H3⟩
            have y0 : w3.cell? ⟨w.heap.size, 0, none⟩ = some (.int .i64 0) := z0 0
            have y1 : w3.cell? ⟨w.heap.size, 1, none⟩ = some (.slice none 0 0) := z0 1
            have y2 : w3.cell? ⟨w.heap.size, 2, none⟩ = some (.int .i64 0) := z0 2
            have y3 : w3.cell? ⟨w.heap.size, 3, none⟩ = some (.int .i64 0) := z0 3
            clear z0
            go_wp2_with fail
            refine bodyPost_ret (resS _ rfl _ _ w.heap.size _ (.int .i64 0) rfl rfl (Has.put4 H3 _ _ _ _) (step_size _ _ _ _)) rfl ?_
            exact StR.plain hf rfl (E3.put4 (Nat.le_refl _) _ _ _ _)
set_option maxRecDepth 100000 in
set_option maxHeartbeats 16000000 in
theorem rstep_fail_ok (line : Txt) (x0 : Txt) (x z : Txt) (w : World) (hlen : line.length ≤ 100000) (h : wordsN line = some (x0 :: [x, z])) (hx : x0 = wFail) : Calls Tryd.prog 18 #[.string (bs line)] w (StR w (stepN line)) := by
  have E0 : Ext w (w.alloc (.cells ZS 30)) := (Ext.refl _).alloc _
  have H0 : Has (w.alloc (.cells ZS 30)) w.heap.size (.cells ZS 30) := Has.new _ _
  have HF := Lib.hid (step_some h)
  have HW := Lib.hid h
  have hll := words_len h
  have HMM := Lib.hid (words_mem h)
  clear h
  go_enter Tryd.func18, Tryd.ntmps18
  go_wp2_with fail
  refine (rwords_any line _ hlen).mono ?_
  rintro e w1 (⟨h1, _⟩ | ⟨L1, v1, h1, rfl, hO1, hE1⟩)
  · rw [HW.out] at h1; cases h1
  rw [HW.out] at h1
  obtain rfl : (x0 :: [x, z]) = L1 := Option.some.inj h1
  obtain ⟨A1, k1, rfl, hk1, _, t1, _⟩ := hO1.at_
  obtain ⟨bl, o, rfl, hbl, hx0⟩ := t1.at_ (Ext.refl _) 0 (by simp)
  have hx0 : w1.cell? ⟨bl, o, none⟩ = some (.string (bs x0)) := hx0
  have HX0 := Lib.hid hx0
  obtain ⟨bl', o', hA', _, hp1⟩ := t1.at_ (Ext.refl _) 1 (by simp)
  have HP1 : Hid (w1.cell? ⟨bl, o + 1, none⟩ = some (.string (bs x))) := by
    injection hA' with hA'
    injection hA' with q1 q2
    show _ = _
    rw [q1, q2]; exact hp1
  clear hA' hp1
  obtain ⟨bl', o', hA', _, hp2⟩ := t1.at_ (Ext.refl _) 2 (by simp)
  have HP2 : Hid (w1.cell? ⟨bl, o + 2, none⟩ = some (.string (bs z))) := by
    injection hA' with hA'
    injection hA' with q1 q2
    show _ = _
    rw [q1, q2]; exact hp2
  clear hA' hp2
  have H1 := H0.ext hE1
  have E1 := E0.trans hE1
  have hw1 : w.heap.size < w1.heap.size := Has.lt H1
  have hk1 : 2 + 1 ≤ k1 := by simpa using hk1
  have hn : (x0 :: [x, z]).length = 2 + 1 := by simp
  obtain ⟨X, hsl, hX⟩ := from_oneS bl o (2 + 1) 2 k1 rfl hk1
  have HX : Hid (0 < ([x, z] : List Txt).length → X = ⟨bl, o + 1, none⟩) := fun h => hX (by first | (simp at h; done) | (simp; done) | (simpa using h))
  rw [hn]
  have T1 := Lib.hid t1
  have hrl : (2 : Int) ≤ 100001 := by simp at hll; omega
  have hbo : w.heap.size < bl := by have := (World.ownsRow.lt hO1 bl rfl).1; simp at this; omega
  have ez : ((2 : Int) + 1 == 0) = false := by rw [beq_eq_false_iff_ne]; omega
  have TY := Lib.hid (own_ty hO1)
  clear hO1 t1 h1 hn hll hX
  obtain ⟨u1, u2, u3, u4, u5⟩ := word_tests x0
  rw [show (x0 == wRun) = false from by rw [hx]; decide] at u1
  rw [show (x0 == wMend) = false from by rw [hx]; decide] at u5
  rw [show (x0 == wTick) = false from by rw [hx]; decide] at u2
  rw [show (x0 == wAs) = false from by rw [hx]; decide] at u3
  rw [show (x0 == wFail) = true from by rw [hx]; decide] at u4
  have mu2 : ((bs x0).toList != [116, 105, 99, 107]) = true := by show (!_) = _; rw [u2]; rfl
  have mu3 : ((bs x0).toList != [97, 115]) = true := by show (!_) = _; rw [u3]; rfl
  have mu4 : ((bs x0).toList != [102, 97, 105, 108]) = false := by show (!_) = _; rw [u4]; rfl
  have mu5 : ((bs x0).toList != [109, 101, 110, 100]) = true := by show (!_) = _; rw [u5]; rfl
  have HXX := Lib.hid hx
  clear hx
  obtain ⟨V1, hV1⟩ : ∃ W, W = w1.alloc (.cells #[.string ⟨#[]⟩, .string ⟨#[]⟩, .string ⟨#[116, 105, 99, 107]⟩, .string ⟨#[97, 115]⟩, .string ⟨#[102, 97, 105, 108]⟩, .string ⟨#[109, 101, 110, 100]⟩] 9) := ⟨_, rfl⟩
  have hQ : Has V1 w1.heap.size (.cells #[.string ⟨#[]⟩, .string ⟨#[]⟩, .string ⟨#[116, 105, 99, 107]⟩, .string ⟨#[97, 115]⟩, .string ⟨#[102, 97, 105, 108]⟩, .string ⟨#[109, 101, 110, 100]⟩] 9) := by rw [hV1]; exact Has.new _ _
  have EQ : Ext w1 V1 := by rw [hV1]; exact (Ext.refl _).alloc _
  have HV1 := Lib.hid hV1
  have HQ := Lib.hid hQ
  have HEQ := Lib.hid EQ
  have hql := Has.lt hQ
  clear hV1 hQ EQ
  go_upto_region 12 with (rw [← HV1.out])
  clear hx0 ez
  go_wp2_with fail
  go_loopw [8] (fun i wr => Ext V1 wr ∧ (i = .int .i64 2 ∨ i = .int .i64 3 ∨ i = .int .i64 4)) (fun i _ => 7 - (intOf i).toNat)
  case atStart => exact ⟨Ext.refl _, .inl rfl⟩
  case round =>
    obtain ⟨hE, hcase⟩ := hrel
    have hbl2 : bl < V1.heap.size := by have := HEQ.out.size; omega
    have p0 : wr.cell? ⟨bl, o, none⟩ = some (.string (bs x0)) := (hE.cell hbl2).trans ((HEQ.out.cell hbl).trans HX0.out)
    have hnm : ∀ i, wr.cell? ⟨w1.heap.size, i, none⟩ = (#[.string ⟨#[]⟩, .string ⟨#[]⟩, .string ⟨#[116, 105, 99, 107]⟩, .string ⟨#[97, 115]⟩, .string ⟨#[102, 97, 105, 108]⟩, .string ⟨#[109, 101, 110, 100]⟩] : Array Value)[i]? := fun i => (hE.cell hql).trans (HQ.out.cell i)
    have hbl3 : bl < wr.heap.size := by have := hE.size; omega
    have hql3 : w1.heap.size < wr.heap.size := by have := hE.size; omega
    rcases hcase with rfl | rfl | rfl
    · have g0 : wr.cell? ⟨w1.heap.size, 2, none⟩ = some (.string ⟨#[116, 105, 99, 107]⟩) := hnm 2
      clear hnm
      go_wp2_with fail
      go_quiet (fail)
      go_wp2_with fail
      go_roundw
      case rel => exact ⟨by first | exact hE | exact hE.drew | exact hE.drewN _, .inr (.inl rfl)⟩
      case measure => simp [intOf]
    · have g0 : wr.cell? ⟨w1.heap.size, 3, none⟩ = some (.string ⟨#[97, 115]⟩) := hnm 3
      clear hnm
      go_wp2_with fail
      go_quiet (fail)
      go_wp2_with fail
      go_roundw
      case rel => exact ⟨by first | exact hE | exact hE.drew | exact hE.drewN _, .inr (.inr (rfl))⟩
      case measure => simp [intOf]
    · have g0 : wr.cell? ⟨w1.heap.size, 4, none⟩ = some (.string ⟨#[102, 97, 105, 108]⟩) := hnm 4
      clear hnm
      go_wp2_with fail
      go_quiet (fail)
      generalize hU : wr.drewN _ = U
      have EU : Ext w1 U := by rw [← hU]; exact (HEQ.out.trans hE).drewN _
      clear hU p0 g0 hE hbl3 hql3 hbl2
      obtain ⟨V2, hV2⟩ : ∃ W, W = U.alloc (.cells #[.int .i64 4, .slice none 0 0, .int .i64 0, .int .i64 0] 30) := ⟨_, rfl⟩
      have E12 : Ext w1 V2 := by rw [hV2]; exact EU.alloc _
      have hB : Hid (Has V2 U.heap.size (.cells #[.int .i64 4, .slice none 0 0, .int .i64 0, .int .i64 0] 30)) := by show Has _ _ _; rw [hV2]; exact Has.new _ _
      have HV2 := Lib.hid hV2
      clear hV2
      go_upto_region 24 with (fail)
      rw [← HV2.out]
      go_wp2_with fail
      go_loopw [11] (fun i wr => Ext w1 wr ∧ ((i = .int .i64 1 ∧ Hid (True) ∧ Has wr U.heap.size (.cells #[.int .i64 4, .slice none 0 0, .int .i64 0, .int .i64 0] 30)) ∨ (i = .int .i64 2 ∧ Hid (gB x = true) ∧ Has wr U.heap.size (.cells #[.int .i64 4, .slice none 0 0, .int .i64 (vN x), .int .i64 0] 30)) ∨ (i = .int .i64 3 ∧ Hid ((gB x && gB z) = true) ∧ Has wr U.heap.size (.cells #[.int .i64 4, .slice none 0 0, .int .i64 (vN x), .int .i64 (vN z)] 30)))) (fun i _ => 4 - (intOf i).toNat)
      case atStart => exact ⟨E12, .inl ⟨rfl, trivial, hB.out⟩⟩
      case round =>
        obtain ⟨hE, hcase⟩ := hrel
        rcases hcase with ⟨rfl, HG, hN⟩ | ⟨rfl, HG, hN⟩ | ⟨rfl, HG, hN⟩
        · have px : wr.cell? ⟨bl, o + 1, none⟩ = some (.string (bs x)) := (hE.cell hbl).trans HP1.out
          have hbl2 : bl < wr.heap.size := by have := hE.size; omega
          have hpv := rparse_any (bs x) wr
          rw [bs_list, parse_vg] at hpv
          have hUw := EU.size
          rcases (show gB x = true ∨ gB x = false by cases gB x <;> simp) with hg | hg
          · rw [hg] at hpv
            have HPV := Lib.hid hpv
            have HN := Lib.hid hN
            have hg2 : Hid (gB x = true) := by show gB x = true; exact hg
            clear hpv hN hg
            go_wp2_with fail
            refine (HPV.out).mono ?_
            rintro e w3 ⟨rfl, b3⟩
            have hN3 := HN.out.ext b3
            have E3 := hE.trans b3
            have n0 := hN3.cell 2
            have nf : ∀ i, w3.frozen? ⟨U.heap.size, i, none⟩ = false := fun i => (Has.free hN3 i).trans (by simp)
            have nl := Has.lt hN3
            go_wp2_with fail
            go_roundw
            case rel => exact ⟨E3.setCell hUw _, .inr (.inl ⟨rfl, hg2, Has.set hN3 2 _⟩)⟩
            case measure => simp [intOf]
          · rw [hg] at hpv
            have HPV := Lib.hid hpv
            have hf : Hid (stepN line = none) := by show _ = _; rw [HF.out, HXX.out, stepW_fail]; exact two_no (by rw [hg]; rfl)
            clear hpv hg
            go_wp2_with fail
            refine (HPV.out).mono ?_
            rintro e w3 ⟨rfl, b3⟩
            have H3 := H1.ext (hE.trans b3)
            have E3 := E1.trans (hE.trans b3)
            obtain ⟨z0, z1, z2⟩ : (∀ i, w3.cell? ⟨w.heap.size, i, none⟩ = ZS[i]?) ∧ (∀ i, w3.frozen? ⟨w.heap.size, i, none⟩ = false) ∧ w.heap.size < w3.heap.size := ⟨fun i => H3.cell i, fun i => (Has.free H3 i).trans (by simp), Has.lt H3⟩
            have y0 : w3.cell? ⟨w.heap.size, 0, none⟩ = some (.int .i64 0) := z0 0
            have y1 : w3.cell? ⟨w.heap.size, 1, none⟩ = some (.slice none 0 0) := z0 1
            have y2 : w3.cell? ⟨w.heap.size, 2, none⟩ = some (.int .i64 0) := z0 2
            have y3 : w3.cell? ⟨w.heap.size, 3, none⟩ = some (.int .i64 0) := z0 3
            clear z0
            go_wp2_with fail
            refine bodyPost_ret (resS _ rfl _ _ w.heap.size ZS (.int .i64 2) rfl rfl (Has.put4 H3 _ _ _ _) (step_size _ _ _ _)) rfl ?_
            exact StR.bad hf rfl (E3.put4 (Nat.le_refl _) _ _ _ _)
        · have px : wr.cell? ⟨bl, o + 2, none⟩ = some (.string (bs z)) := (hE.cell hbl).trans HP2.out
          have hbl2 : bl < wr.heap.size := by have := hE.size; omega
          have hpv := rparse_any (bs z) wr
          rw [bs_list, parse_vg] at hpv
          have hUw := EU.size
          rcases (show gB z = true ∨ gB z = false by cases gB z <;> simp) with hg | hg
          · rw [hg] at hpv
            have HPV := Lib.hid hpv
            have HN := Lib.hid hN
            have hg2 : Hid ((gB x && gB z) = true) := by show (gB x && gB z) = true; rw [HG.out, hg]; rfl
            clear hpv hN hg
            go_wp2_with fail
            refine (HPV.out).mono ?_
            rintro e w3 ⟨rfl, b3⟩
            have hN3 := HN.out.ext b3
            have E3 := hE.trans b3
            have n0 := hN3.cell 3
            have nf : ∀ i, w3.frozen? ⟨U.heap.size, i, none⟩ = false := fun i => (Has.free hN3 i).trans (by simp)
            have nl := Has.lt hN3
            go_wp2_with fail
            go_roundw
            case rel => exact ⟨E3.setCell hUw _, .inr (.inr (⟨rfl, hg2, Has.set hN3 3 _⟩))⟩
            case measure => simp [intOf]
          · rw [hg] at hpv
            have HPV := Lib.hid hpv
            have hf : Hid (stepN line = none) := by show _ = _; rw [HF.out, HXX.out, stepW_fail]; exact two_no (by rw [hg]; simp)
            clear hpv hg
            go_wp2_with fail
            refine (HPV.out).mono ?_
            rintro e w3 ⟨rfl, b3⟩
            have H3 := H1.ext (hE.trans b3)
            have E3 := E1.trans (hE.trans b3)
            obtain ⟨z0, z1, z2⟩ : (∀ i, w3.cell? ⟨w.heap.size, i, none⟩ = ZS[i]?) ∧ (∀ i, w3.frozen? ⟨w.heap.size, i, none⟩ = false) ∧ w.heap.size < w3.heap.size := ⟨fun i => H3.cell i, fun i => (Has.free H3 i).trans (by simp), Has.lt H3⟩
            have y0 : w3.cell? ⟨w.heap.size, 0, none⟩ = some (.int .i64 0) := z0 0
            have y1 : w3.cell? ⟨w.heap.size, 1, none⟩ = some (.slice none 0 0) := z0 1
            have y2 : w3.cell? ⟨w.heap.size, 2, none⟩ = some (.int .i64 0) := z0 2
            have y3 : w3.cell? ⟨w.heap.size, 3, none⟩ = some (.int .i64 0) := z0 3
            clear z0
            go_wp2_with fail
            refine bodyPost_ret (resS _ rfl _ _ w.heap.size ZS (.int .i64 2) rfl rfl (Has.put4 H3 _ _ _ _) (step_size _ _ _ _)) rfl ?_
            exact StR.bad hf rfl (E3.put4 (Nat.le_refl _) _ _ _ _)
        · obtain ⟨V3, hV3⟩ : ∃ V3, V3 = wr := ⟨_, rfl⟩
          rw [← hV3] at hN hE ⊢
          have HWR := Lib.hid hV3
          clear hV3
          have hB3 := hN
          have E13 := hE
          have hR3 : Has V3 w.heap.size (.cells ZS 30) := H1.ext E13
          have s0 : V3.cell? ⟨U.heap.size, 0, none⟩ = some (.int .i64 4) := hB3.cell 0
          have s1 : V3.cell? ⟨U.heap.size, 1, none⟩ = some (.slice none 0 0) := hB3.cell 1
          have s2 : V3.cell? ⟨U.heap.size, 2, none⟩ = some (.int .i64 ((vN x))) := hB3.cell 2
          have s3 : V3.cell? ⟨U.heap.size, 3, none⟩ = some (.int .i64 ((vN z))) := hB3.cell 3
          have sl := Has.lt hB3
          have HB3 := Lib.hid hB3
          clear hB3 hN
          go_wp2_with fail
          have hmy := rmay_any 4 ((vN x)) ((vN z)) [] none 0 V3 (.inl rfl) (by decide) (fun q hq => by cases hq)
          have hchk : Hid (stepN line = chkS ⟨4, [], (vN x), (vN z)⟩) := by show _ = _; rw [HF.out, HXX.out, stepW_fail]; have hg := HG.out; rw [Bool.and_eq_true] at hg; exact two_yes hg.1 hg.2
          cases hm : mayB ⟨4, [], (vN x), (vN z)⟩ with
          | false =>
            rw [hm] at hmy
            refine hmy.mono ?_
            clear hmy
            have hf : Hid (stepN line = none) := by show _ = _; rw [hchk.out]; exact chkS_no hm
            clear hm
            rintro e w3 ⟨rfl, b3⟩
            have H3 := hR3.ext b3
            have E3 := (E1.trans E13).trans b3
            clear s0 s1 s2 s3 sl
            obtain ⟨z0, z1, z2⟩ : (∀ i, w3.cell? ⟨w.heap.size, i, none⟩ = ZS[i]?) ∧ (∀ i, w3.frozen? ⟨w.heap.size, i, none⟩ = false) ∧ w.heap.size < w3.heap.size := ⟨fun i => H3.cell i, fun i => (Has.free H3 i).trans (by simp), Has.lt H3⟩
            have y0 : w3.cell? ⟨w.heap.size, 0, none⟩ = some (.int .i64 0) := z0 0
            have y1 : w3.cell? ⟨w.heap.size, 1, none⟩ = some (.slice none 0 0) := z0 1
            have y2 : w3.cell? ⟨w.heap.size, 2, none⟩ = some (.int .i64 0) := z0 2
            have y3 : w3.cell? ⟨w.heap.size, 3, none⟩ = some (.int .i64 0) := z0 3
            clear z0
            go_wp2_with fail
            refine bodyPost_ret (resS _ rfl _ _ w.heap.size ZS (.int .i64 2) rfl rfl (Has.put4 H3 _ _ _ _) (step_size _ _ _ _)) rfl ?_
            exact StR.bad hf rfl (E3.put4 (Nat.le_refl _) _ _ _ _)
          | true =>
            rw [hm] at hmy
            refine hmy.mono ?_
            clear hmy
            have hf : Hid (stepN line = some ⟨4, [], (vN x), (vN z)⟩) := by show _ = _; rw [hchk.out]; exact chkS_yes hm
            clear hm
            rintro e w3 ⟨rfl, b3⟩
            have H3 := hR3.ext b3
            have E3 := (E1.trans E13).trans b3
            have r0 : w3.cell? ⟨U.heap.size, 0, none⟩ = some (.int .i64 4) := (b3.cell sl).trans s0
            have r1 : w3.cell? ⟨U.heap.size, 1, none⟩ = some (.slice none 0 0) := (b3.cell sl).trans s1
            have r2 : w3.cell? ⟨U.heap.size, 2, none⟩ = some (.int .i64 ((vN x))) := (b3.cell sl).trans s2
            have r3 : w3.cell? ⟨U.heap.size, 3, none⟩ = some (.int .i64 ((vN z))) := (b3.cell sl).trans s3
            clear s0 s1 s2 s3 sl
            obtain ⟨z0, z1, z2⟩ : (∀ i, w3.cell? ⟨w.heap.size, i, none⟩ = ZS[i]?) ∧ (∀ i, w3.frozen? ⟨w.heap.size, i, none⟩ = false) ∧ w.heap.size < w3.heap.size := ⟨fun i => H3.cell i, fun i => (Has.free H3 i).trans (by simp), Has.lt H3⟩
            have y0 : w3.cell? ⟨w.heap.size, 0, none⟩ = some (.int .i64 0) := z0 0
            have y1 : w3.cell? ⟨w.heap.size, 1, none⟩ = some (.slice none 0 0) := z0 1
            have y2 : w3.cell? ⟨w.heap.size, 2, none⟩ = some (.int .i64 0) := z0 2
            have y3 : w3.cell? ⟨w.heap.size, 3, none⟩ = some (.int .i64 0) := z0 3
            clear z0
            go_wp2_with fail
            refine bodyPost_ret (resS _ rfl _ _ w.heap.size _ (.int .i64 0) rfl rfl (Has.put4 H3 _ _ _ _) (step_size _ _ _ _)) rfl ?_
            exact StR.plain hf rfl (E3.put4 (Nat.le_refl _) _ _ _ _)
set_option maxRecDepth 100000 in
set_option maxHeartbeats 16000000 in
theorem rstep_mend_ok (line : Txt) (x0 : Txt) (w : World) (hlen : line.length ≤ 100000) (h : wordsN line = some (x0 :: [])) (hx : x0 = wMend) : Calls Tryd.prog 18 #[.string (bs line)] w (StR w (stepN line)) := by
  have E0 : Ext w (w.alloc (.cells ZS 30)) := (Ext.refl _).alloc _
  have H0 : Has (w.alloc (.cells ZS 30)) w.heap.size (.cells ZS 30) := Has.new _ _
  have HF := Lib.hid (step_some h)
  have HW := Lib.hid h
  have hll := words_len h
  have HMM := Lib.hid (words_mem h)
  clear h
  go_enter Tryd.func18, Tryd.ntmps18
  go_wp2_with fail
  refine (rwords_any line _ hlen).mono ?_
  rintro e w1 (⟨h1, _⟩ | ⟨L1, v1, h1, rfl, hO1, hE1⟩)
  · rw [HW.out] at h1; cases h1
  rw [HW.out] at h1
  obtain rfl : (x0 :: []) = L1 := Option.some.inj h1
  obtain ⟨A1, k1, rfl, hk1, _, t1, _⟩ := hO1.at_
  obtain ⟨bl, o, rfl, hbl, hx0⟩ := t1.at_ (Ext.refl _) 0 (by simp)
  have hx0 : w1.cell? ⟨bl, o, none⟩ = some (.string (bs x0)) := hx0
  have HX0 := Lib.hid hx0
  have H1 := H0.ext hE1
  have E1 := E0.trans hE1
  have hw1 : w.heap.size < w1.heap.size := Has.lt H1
  have hk1 : 0 + 1 ≤ k1 := by simpa using hk1
  have hn : (x0 :: []).length = 0 + 1 := by simp
  obtain ⟨X, hsl, hX⟩ := from_oneS bl o (0 + 1) 0 k1 rfl hk1
  have HX : Hid (0 < ([] : List Txt).length → X = ⟨bl, o + 1, none⟩) := fun h => hX (by first | (simp at h; done) | (simp; done) | (simpa using h))
  rw [hn]
  have T1 := Lib.hid t1
  have hrl : (0 : Int) ≤ 100001 := by simp at hll; omega
  have hbo : w.heap.size < bl := by have := (World.ownsRow.lt hO1 bl rfl).1; simp at this; omega
  have ez : ((0 : Int) + 1 == 0) = false := by rw [beq_eq_false_iff_ne]; omega
  have TY := Lib.hid (own_ty hO1)
  clear hO1 t1 h1 hn hll hX
  obtain ⟨u1, u2, u3, u4, u5⟩ := word_tests x0
  rw [show (x0 == wRun) = false from by rw [hx]; decide] at u1
  rw [show (x0 == wMend) = true from by rw [hx]; decide] at u5
  rw [show (x0 == wTick) = false from by rw [hx]; decide] at u2
  rw [show (x0 == wAs) = false from by rw [hx]; decide] at u3
  rw [show (x0 == wFail) = false from by rw [hx]; decide] at u4
  have mu2 : ((bs x0).toList != [116, 105, 99, 107]) = true := by show (!_) = _; rw [u2]; rfl
  have mu3 : ((bs x0).toList != [97, 115]) = true := by show (!_) = _; rw [u3]; rfl
  have mu4 : ((bs x0).toList != [102, 97, 105, 108]) = true := by show (!_) = _; rw [u4]; rfl
  have mu5 : ((bs x0).toList != [109, 101, 110, 100]) = false := by show (!_) = _; rw [u5]; rfl
  have HXX := Lib.hid hx
  clear hx
  obtain ⟨V1, hV1⟩ : ∃ W, W = w1.alloc (.cells #[.string ⟨#[]⟩, .string ⟨#[]⟩, .string ⟨#[116, 105, 99, 107]⟩, .string ⟨#[97, 115]⟩, .string ⟨#[102, 97, 105, 108]⟩, .string ⟨#[109, 101, 110, 100]⟩] 9) := ⟨_, rfl⟩
  have hQ : Has V1 w1.heap.size (.cells #[.string ⟨#[]⟩, .string ⟨#[]⟩, .string ⟨#[116, 105, 99, 107]⟩, .string ⟨#[97, 115]⟩, .string ⟨#[102, 97, 105, 108]⟩, .string ⟨#[109, 101, 110, 100]⟩] 9) := by rw [hV1]; exact Has.new _ _
  have EQ : Ext w1 V1 := by rw [hV1]; exact (Ext.refl _).alloc _
  have HV1 := Lib.hid hV1
  have HQ := Lib.hid hQ
  have HEQ := Lib.hid EQ
  have hql := Has.lt hQ
  clear hV1 hQ EQ
  go_upto_region 12 with (rw [← HV1.out])
  clear hx0 ez
  go_wp2_with fail
  go_loopw [8] (fun i wr => Ext V1 wr ∧ (i = .int .i64 2 ∨ i = .int .i64 3 ∨ i = .int .i64 4 ∨ i = .int .i64 5)) (fun i _ => 7 - (intOf i).toNat)
  case atStart => exact ⟨Ext.refl _, .inl rfl⟩
  case round =>
    obtain ⟨hE, hcase⟩ := hrel
    have hbl2 : bl < V1.heap.size := by have := HEQ.out.size; omega
    have p0 : wr.cell? ⟨bl, o, none⟩ = some (.string (bs x0)) := (hE.cell hbl2).trans ((HEQ.out.cell hbl).trans HX0.out)
    have hnm : ∀ i, wr.cell? ⟨w1.heap.size, i, none⟩ = (#[.string ⟨#[]⟩, .string ⟨#[]⟩, .string ⟨#[116, 105, 99, 107]⟩, .string ⟨#[97, 115]⟩, .string ⟨#[102, 97, 105, 108]⟩, .string ⟨#[109, 101, 110, 100]⟩] : Array Value)[i]? := fun i => (hE.cell hql).trans (HQ.out.cell i)
    have hbl3 : bl < wr.heap.size := by have := hE.size; omega
    have hql3 : w1.heap.size < wr.heap.size := by have := hE.size; omega
    rcases hcase with rfl | rfl | rfl | rfl
    · have g0 : wr.cell? ⟨w1.heap.size, 2, none⟩ = some (.string ⟨#[116, 105, 99, 107]⟩) := hnm 2
      clear hnm
      go_wp2_with fail
      go_quiet (fail)
      go_wp2_with fail
      go_roundw
      case rel => exact ⟨by first | exact hE | exact hE.drew | exact hE.drewN _, .inr (.inl rfl)⟩
      case measure => simp [intOf]
    · have g0 : wr.cell? ⟨w1.heap.size, 3, none⟩ = some (.string ⟨#[97, 115]⟩) := hnm 3
      clear hnm
      go_wp2_with fail
      go_quiet (fail)
      go_wp2_with fail
      go_roundw
      case rel => exact ⟨by first | exact hE | exact hE.drew | exact hE.drewN _, .inr (.inr (.inl rfl))⟩
      case measure => simp [intOf]
    · have g0 : wr.cell? ⟨w1.heap.size, 4, none⟩ = some (.string ⟨#[102, 97, 105, 108]⟩) := hnm 4
      clear hnm
      go_wp2_with fail
      go_quiet (fail)
      go_wp2_with fail
      go_roundw
      case rel => exact ⟨by first | exact hE | exact hE.drew | exact hE.drewN _, .inr (.inr (.inr (rfl)))⟩
      case measure => simp [intOf]
    · have g0 : wr.cell? ⟨w1.heap.size, 5, none⟩ = some (.string ⟨#[109, 101, 110, 100]⟩) := hnm 5
      clear hnm
      go_wp2_with fail
      go_quiet (fail)
      generalize hU : wr.drewN _ = U
      have EU : Ext w1 U := by rw [← hU]; exact (HEQ.out.trans hE).drewN _
      clear hU p0 g0 hE hbl3 hql3 hbl2
      obtain ⟨V2, hV2⟩ : ∃ W, W = U.alloc (.cells #[.int .i64 5, .slice none 0 0, .int .i64 0, .int .i64 0] 30) := ⟨_, rfl⟩
      have E12 : Ext w1 V2 := by rw [hV2]; exact EU.alloc _
      have hB : Hid (Has V2 U.heap.size (.cells #[.int .i64 5, .slice none 0 0, .int .i64 0, .int .i64 0] 30)) := by show Has _ _ _; rw [hV2]; exact Has.new _ _
      have HV2 := Lib.hid hV2
      clear hV2
      go_upto_region 24 with (fail)
      rw [← HV2.out]
      go_wp2_with fail
      go_loopw [11] (fun i wr => Ext w1 wr ∧ ((i = .int .i64 1 ∧ Hid (True) ∧ Has wr U.heap.size (.cells #[.int .i64 5, .slice none 0 0, .int .i64 0, .int .i64 0] 30)))) (fun i _ => 4 - (intOf i).toNat)
      case atStart => exact ⟨E12, rfl, trivial, hB.out⟩
      case round =>
        obtain ⟨hE, hcase⟩ := hrel
        obtain ⟨rfl, HG, hN⟩ := hcase
        obtain ⟨V3, hV3⟩ : ∃ V3, V3 = wr := ⟨_, rfl⟩
        rw [← hV3] at hN hE ⊢
        have HWR := Lib.hid hV3
        clear hV3
        have hB3 := hN
        have E13 := hE
        have hR3 : Has V3 w.heap.size (.cells ZS 30) := H1.ext E13
        have s0 : V3.cell? ⟨U.heap.size, 0, none⟩ = some (.int .i64 5) := hB3.cell 0
        have s1 : V3.cell? ⟨U.heap.size, 1, none⟩ = some (.slice none 0 0) := hB3.cell 1
        have s2 : V3.cell? ⟨U.heap.size, 2, none⟩ = some (.int .i64 (0)) := hB3.cell 2
        have s3 : V3.cell? ⟨U.heap.size, 3, none⟩ = some (.int .i64 (0)) := hB3.cell 3
        have sl := Has.lt hB3
        have HB3 := Lib.hid hB3
        clear hB3 hN
        go_wp2_with fail
        have hmy := rmay_any 5 (0) (0) [] none 0 V3 (.inl rfl) (by decide) (fun q hq => by cases hq)
        have hchk : Hid (stepN line = chkS ⟨5, [], 0, 0⟩) := by show _ = _; rw [HF.out, HXX.out, stepW_mend, if_pos rfl]; exact (chkS_yes rfl).symm
        cases hm : mayB ⟨5, [], 0, 0⟩ with
        | false =>
          rw [hm] at hmy
          refine hmy.mono ?_
          clear hmy
          have hf : Hid (stepN line = none) := by show _ = _; rw [hchk.out]; exact chkS_no hm
          clear hm
          rintro e w3 ⟨rfl, b3⟩
          have H3 := hR3.ext b3
          have E3 := (E1.trans E13).trans b3
          clear s0 s1 s2 s3 sl
          obtain ⟨z0, z1, z2⟩ : (∀ i, w3.cell? ⟨w.heap.size, i, none⟩ = ZS[i]?) ∧ (∀ i, w3.frozen? ⟨w.heap.size, i, none⟩ = false) ∧ w.heap.size < w3.heap.size := ⟨fun i => H3.cell i, fun i => (Has.free H3 i).trans (by simp), Has.lt H3⟩
          have y0 : w3.cell? ⟨w.heap.size, 0, none⟩ = some (.int .i64 0) := z0 0
          have y1 : w3.cell? ⟨w.heap.size, 1, none⟩ = some (.slice none 0 0) := z0 1
          have y2 : w3.cell? ⟨w.heap.size, 2, none⟩ = some (.int .i64 0) := z0 2
          have y3 : w3.cell? ⟨w.heap.size, 3, none⟩ = some (.int .i64 0) := z0 3
          clear z0
          go_wp2_with fail
          refine bodyPost_ret (resS _ rfl _ _ w.heap.size ZS (.int .i64 2) rfl rfl (Has.put4 H3 _ _ _ _) (step_size _ _ _ _)) rfl ?_
          exact StR.bad hf rfl (E3.put4 (Nat.le_refl _) _ _ _ _)
        | true =>
          rw [hm] at hmy
          refine hmy.mono ?_
          clear hmy
          have hf : Hid (stepN line = some ⟨5, [], 0, 0⟩) := by show _ = _; rw [hchk.out]; exact chkS_yes hm
          clear hm
          rintro e w3 ⟨rfl, b3⟩
          have H3 := hR3.ext b3
          have E3 := (E1.trans E13).trans b3
          have r0 : w3.cell? ⟨U.heap.size, 0, none⟩ = some (.int .i64 5) := (b3.cell sl).trans s0
          have r1 : w3.cell? ⟨U.heap.size, 1, none⟩ = some (.slice none 0 0) := (b3.cell sl).trans s1
          have r2 : w3.cell? ⟨U.heap.size, 2, none⟩ = some (.int .i64 (0)) := (b3.cell sl).trans s2
          have r3 : w3.cell? ⟨U.heap.size, 3, none⟩ = some (.int .i64 (0)) := (b3.cell sl).trans s3
          clear s0 s1 s2 s3 sl
          obtain ⟨z0, z1, z2⟩ : (∀ i, w3.cell? ⟨w.heap.size, i, none⟩ = ZS[i]?) ∧ (∀ i, w3.frozen? ⟨w.heap.size, i, none⟩ = false) ∧ w.heap.size < w3.heap.size := ⟨fun i => H3.cell i, fun i => (Has.free H3 i).trans (by simp), Has.lt H3⟩
          have y0 : w3.cell? ⟨w.heap.size, 0, none⟩ = some (.int .i64 0) := z0 0
          have y1 : w3.cell? ⟨w.heap.size, 1, none⟩ = some (.slice none 0 0) := z0 1
          have y2 : w3.cell? ⟨w.heap.size, 2, none⟩ = some (.int .i64 0) := z0 2
          have y3 : w3.cell? ⟨w.heap.size, 3, none⟩ = some (.int .i64 0) := z0 3
          clear z0
          go_wp2_with fail
          refine bodyPost_ret (resS _ rfl _ _ w.heap.size _ (.int .i64 0) rfl rfl (Has.put4 H3 _ _ _ _) (step_size _ _ _ _)) rfl ?_
          exact StR.plain hf rfl (E3.put4 (Nat.le_refl _) _ _ _ _)
set_option maxRecDepth 100000 in
set_option maxHeartbeats 16000000 in
theorem rstep_other (line : Txt) (x0 : Txt) (l : List Txt) (w : World) (hlen : line.length ≤ 100000) (h : wordsN line = some (x0 :: l)) (n1 : x0 ≠ wRun) (n2 : x0 ≠ wMend) (n3 : x0 ≠ wTick) (n4 : x0 ≠ wAs) (n5 : x0 ≠ wFail) : Calls Tryd.prog 18 #[.string (bs line)] w (StR w (stepN line)) := by
  have E0 : Ext w (w.alloc (.cells ZS 30)) := (Ext.refl _).alloc _
  have H0 : Has (w.alloc (.cells ZS 30)) w.heap.size (.cells ZS 30) := Has.new _ _
  have HF := Lib.hid (step_some h)
  have HW := Lib.hid h
  have hll := words_len h
  have HMM := Lib.hid (words_mem h)
  clear h
  go_enter Tryd.func18, Tryd.ntmps18
  go_wp2_with fail
  refine (rwords_any line _ hlen).mono ?_
  rintro e w1 (⟨h1, _⟩ | ⟨L1, v1, h1, rfl, hO1, hE1⟩)
  · rw [HW.out] at h1; cases h1
  rw [HW.out] at h1
  obtain rfl : (x0 :: l) = L1 := Option.some.inj h1
  obtain ⟨A1, k1, rfl, hk1, _, t1, _⟩ := hO1.at_
  obtain ⟨bl, o, rfl, hbl, hx0⟩ := t1.at_ (Ext.refl _) 0 (by simp)
  have hx0 : w1.cell? ⟨bl, o, none⟩ = some (.string (bs x0)) := hx0
  have HX0 := Lib.hid hx0
  have H1 := H0.ext hE1
  have E1 := E0.trans hE1
  have hw1 : w.heap.size < w1.heap.size := Has.lt H1
  have hk1 : l.length + 1 ≤ k1 := by simpa using hk1
  have hn : (x0 :: l).length = l.length + 1 := by simp
  obtain ⟨X, hsl, hX⟩ := from_oneS bl o (l.length + 1) l.length k1 rfl hk1
  have HX : Hid (0 < (l : List Txt).length → X = ⟨bl, o + 1, none⟩) := fun h => hX (by first | (simp at h; done) | (simp; done) | (simpa using h))
  rw [hn]
  have T1 := Lib.hid t1
  have hrl : (l.length : Int) ≤ 100001 := by simp at hll; omega
  have hbo : w.heap.size < bl := by have := (World.ownsRow.lt hO1 bl rfl).1; simp at this; omega
  have ez : ((l.length : Int) + 1 == 0) = false := by rw [beq_eq_false_iff_ne]; omega
  have TY := Lib.hid (own_ty hO1)
  clear hO1 t1 h1 hn hll hX
  obtain ⟨u1, u2, u3, u4, u5⟩ := word_tests x0
  rw [txt_no n1] at u1
  rw [txt_no n2] at u5
  rw [txt_no n3] at u2
  rw [txt_no n4] at u3
  rw [txt_no n5] at u4
  have mu2 : ((bs x0).toList != [116, 105, 99, 107]) = true := by show (!_) = _; rw [u2]; rfl
  have mu3 : ((bs x0).toList != [97, 115]) = true := by show (!_) = _; rw [u3]; rfl
  have mu4 : ((bs x0).toList != [102, 97, 105, 108]) = true := by show (!_) = _; rw [u4]; rfl
  have mu5 : ((bs x0).toList != [109, 101, 110, 100]) = true := by show (!_) = _; rw [u5]; rfl
  have HFN : Hid (stepN line = none) := by show _ = _; rw [HF.out]; exact stepW_other _ n1 n2 n3 n4 n5
  clear n1 n2 n3 n4 n5
  obtain ⟨V1, hV1⟩ : ∃ W, W = w1.alloc (.cells #[.string ⟨#[]⟩, .string ⟨#[]⟩, .string ⟨#[116, 105, 99, 107]⟩, .string ⟨#[97, 115]⟩, .string ⟨#[102, 97, 105, 108]⟩, .string ⟨#[109, 101, 110, 100]⟩] 9) := ⟨_, rfl⟩
  have hQ : Has V1 w1.heap.size (.cells #[.string ⟨#[]⟩, .string ⟨#[]⟩, .string ⟨#[116, 105, 99, 107]⟩, .string ⟨#[97, 115]⟩, .string ⟨#[102, 97, 105, 108]⟩, .string ⟨#[109, 101, 110, 100]⟩] 9) := by rw [hV1]; exact Has.new _ _
  have EQ : Ext w1 V1 := by rw [hV1]; exact (Ext.refl _).alloc _
  have HV1 := Lib.hid hV1
  have HQ := Lib.hid hQ
  have HEQ := Lib.hid EQ
  have hql := Has.lt hQ
  clear hV1 hQ EQ
  go_upto_region 12 with (rw [← HV1.out])
  clear hx0 ez
  go_wp2_with fail
  go_loopw [8] (fun i wr => Ext V1 wr ∧ (i = .int .i64 2 ∨ i = .int .i64 3 ∨ i = .int .i64 4 ∨ i = .int .i64 5 ∨ i = .int .i64 6)) (fun i _ => 7 - (intOf i).toNat)
  case atStart => exact ⟨Ext.refl _, .inl rfl⟩
  case round =>
    obtain ⟨hE, hcase⟩ := hrel
    have hbl2 : bl < V1.heap.size := by have := HEQ.out.size; omega
    have p0 : wr.cell? ⟨bl, o, none⟩ = some (.string (bs x0)) := (hE.cell hbl2).trans ((HEQ.out.cell hbl).trans HX0.out)
    have hnm : ∀ i, wr.cell? ⟨w1.heap.size, i, none⟩ = (#[.string ⟨#[]⟩, .string ⟨#[]⟩, .string ⟨#[116, 105, 99, 107]⟩, .string ⟨#[97, 115]⟩, .string ⟨#[102, 97, 105, 108]⟩, .string ⟨#[109, 101, 110, 100]⟩] : Array Value)[i]? := fun i => (hE.cell hql).trans (HQ.out.cell i)
    have hbl3 : bl < wr.heap.size := by have := hE.size; omega
    have hql3 : w1.heap.size < wr.heap.size := by have := hE.size; omega
    rcases hcase with rfl | rfl | rfl | rfl | rfl
    · have g0 : wr.cell? ⟨w1.heap.size, 2, none⟩ = some (.string ⟨#[116, 105, 99, 107]⟩) := hnm 2
      clear hnm
      go_wp2_with fail
      go_quiet (fail)
      go_wp2_with fail
      go_roundw
      case rel => exact ⟨by first | exact hE | exact hE.drew | exact hE.drewN _, .inr (.inl rfl)⟩
      case measure => simp [intOf]
    · have g0 : wr.cell? ⟨w1.heap.size, 3, none⟩ = some (.string ⟨#[97, 115]⟩) := hnm 3
      clear hnm
      go_wp2_with fail
      go_quiet (fail)
      go_wp2_with fail
      go_roundw
      case rel => exact ⟨by first | exact hE | exact hE.drew | exact hE.drewN _, .inr (.inr (.inl rfl))⟩
      case measure => simp [intOf]
    · have g0 : wr.cell? ⟨w1.heap.size, 4, none⟩ = some (.string ⟨#[102, 97, 105, 108]⟩) := hnm 4
      clear hnm
      go_wp2_with fail
      go_quiet (fail)
      go_wp2_with fail
      go_roundw
      case rel => exact ⟨by first | exact hE | exact hE.drew | exact hE.drewN _, .inr (.inr (.inr (.inl rfl)))⟩
      case measure => simp [intOf]
    · have g0 : wr.cell? ⟨w1.heap.size, 5, none⟩ = some (.string ⟨#[109, 101, 110, 100]⟩) := hnm 5
      clear hnm
      go_wp2_with fail
      go_quiet (fail)
      go_wp2_with fail
      go_roundw
      case rel => exact ⟨by first | exact hE | exact hE.drew | exact hE.drewN _, .inr (.inr (.inr (.inr (rfl))))⟩
      case measure => simp [intOf]
    · have H3 := H1.ext (HEQ.out.trans hE)
      have E3 := E1.trans (HEQ.out.trans hE)
      obtain ⟨z0, z1, z2⟩ : (∀ i, wr.cell? ⟨w.heap.size, i, none⟩ = ZS[i]?) ∧ (∀ i, wr.frozen? ⟨w.heap.size, i, none⟩ = false) ∧ w.heap.size < wr.heap.size := ⟨fun i => H3.cell i, fun i => (Has.free H3 i).trans (by simp), Has.lt H3⟩
      have y0 : wr.cell? ⟨w.heap.size, 0, none⟩ = some (.int .i64 0) := z0 0
      have y1 : wr.cell? ⟨w.heap.size, 1, none⟩ = some (.slice none 0 0) := z0 1
      have y2 : wr.cell? ⟨w.heap.size, 2, none⟩ = some (.int .i64 0) := z0 2
      have y3 : wr.cell? ⟨w.heap.size, 3, none⟩ = some (.int .i64 0) := z0 3
      clear z0
      clear p0 hnm
      go_wp2_with fail
      refine bodyPost_ret (resS _ rfl _ _ w.heap.size ZS (.int .i64 2) rfl rfl (Has.put4 H3 _ _ _ _) (step_size _ _ _ _)) rfl ?_
      exact StR.bad HFN rfl (E3.put4 (Nat.le_refl _) _ _ _ _)
end Go.Proofs.YtanaifobmkjpaaaDoor
