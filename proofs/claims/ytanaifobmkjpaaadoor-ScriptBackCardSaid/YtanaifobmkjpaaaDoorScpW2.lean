/- Layer 48 (script): the program's Step of three words. -/
import Derived.Test.YtanaifobmkjpaaaDoorScpV
namespace Go.Proofs.YtanaifobmkjpaaaDoor
open Go.ChangeShapes Go.WideShapes Go.ChangeAt Go.RowKit

set_option maxRecDepth 100000 in
set_option maxHeartbeats 16000000 in
theorem pstep_2 (line : Txt) (x0 : Txt) (x z : Txt) (w : World) (hlen : line.length ≤ 100000) (h : wordsN line = some (x0 :: [x, z])) : Calls Tryd.prog 17 #[.string (bs line)] w (StR w (stepN line)) := by
  have E0 : Ext w (w.alloc (.cells ZS 30)) := (Ext.refl _).alloc _
  have H0 : Has (w.alloc (.cells ZS 30)) w.heap.size (.cells ZS 30) := Has.new _ _
  have HF := Lib.hid (step_some h)
  have HW := Lib.hid h
  have hll := words_len h
  have HMM := Lib.hid (words_mem h)
  clear h
  go_enter Tryd.func17, Tryd.ntmps17
  go_wp2_with fail
  refine (pwords_any line _ hlen).mono ?_
  rintro e w1 (⟨h1, _⟩ | ⟨L1, v1, h1, rfl, hO1, hE1⟩)
  · rw [HW.out] at h1; cases h1
  rw [HW.out] at h1
  obtain rfl : (x0 :: [x, z]) = L1 := Option.some.inj h1
  obtain ⟨A1, k1, rfl, hk1, _, t1, _⟩ := hO1.at_
  obtain ⟨bl, o, rfl, hbl, hx0⟩ := t1.at_ (Ext.refl _) 0 (by simp)
  have hx0 : w1.cell? ⟨bl, o, none⟩ = some (.string (bs x0)) := hx0
  have HX0 := Lib.hid hx0
  obtain ⟨bl', o', hA', _, hp1⟩ := t1.at_ (Ext.refl _) 1 (by simp)
  have HP1 : Hid (w1.cell? ⟨bl, o + 1, none⟩ = some (.string (bs x))) := by
    injection hA' with hA'
    injection hA' with q1 q2
    show _ = _
    rw [q1, q2]; exact hp1
  clear hA' hp1
  obtain ⟨bl', o', hA', _, hp2⟩ := t1.at_ (Ext.refl _) 2 (by simp)
  have HP2 : Hid (w1.cell? ⟨bl, o + 2, none⟩ = some (.string (bs z))) := by
    injection hA' with hA'
    injection hA' with q1 q2
    show _ = _
    rw [q1, q2]; exact hp2
  clear hA' hp2
  have H1 := H0.ext hE1
  have E1 := E0.trans hE1
  have hw1 : w.heap.size < w1.heap.size := Has.lt H1
  have hk1 : 2 + 1 ≤ k1 := by simpa using hk1
  have hn : (x0 :: [x, z]).length = 2 + 1 := by simp
  obtain ⟨X, hsl, hX⟩ := from_oneS bl o (2 + 1) 2 k1 rfl hk1
  have HX : Hid (0 < ([x, z] : List Txt).length → X = ⟨bl, o + 1, none⟩) := fun h => hX (by first | (simp at h; done) | (simp; done) | (simpa using h))
  rw [hn]
  have T1 := Lib.hid t1
  have hrl : (2 : Int) ≤ 100001 := by simp at hll <;> (first | omega | (simp; omega))
  have hbo : w.heap.size < bl := by have := (World.ownsRow.lt hO1 bl rfl).1; simp at this; omega
  have TY := Lib.hid (own_ty hO1)
  clear hO1 t1 h1 hn hll hX
  obtain ⟨V, hV⟩ : ∃ V, V = w1.alloc (.cells #[.int .i64 0, .int .i64 0] 73) := ⟨_, rfl⟩
  have hN : Hid (Has V w1.heap.size (.cells #[.int .i64 0, .int .i64 0] 73)) := by show Has _ _ _; rw [hV]; exact Has.new _ _
  have EV : Ext w1 V := by rw [hV]; exact (Ext.refl _).alloc _
  have HV := Lib.hid hV
  clear hV
  go_wp2_with (rw [← HV.out])
  go_loopw [7, 8] (fun a i wr => Ext w1 wr ∧ ((i = .int .i64 1 ∧ a = .bool true ∧ Has wr w1.heap.size (.cells #[.int .i64 0, .int .i64 0] 73)) ∨ (i = .int .i64 2 ∧ a = .bool (gB x) ∧ Has wr w1.heap.size (.cells #[.int .i64 (vN x), .int .i64 0] 73)) ∨ (i = .int .i64 3 ∧ a = .bool (gB x && gB z) ∧ Has wr w1.heap.size (.cells #[.int .i64 (vN x), .int .i64 (vN z)] 73)))) (fun _ i _ => 3 - (intOf i).toNat)
  case atStart => exact ⟨EV, .inl ⟨rfl, rfl, hN.out⟩⟩
  case round =>
    obtain ⟨hE, hcase⟩ := hrel
    clear hN EV HV
    rcases hcase with ⟨rfl, rfl, hN⟩ | ⟨rfl, rfl, hN⟩ | ⟨rfl, rfl, hN⟩
    · have px : wr.cell? ⟨bl, o + 1, none⟩ = some (.string (bs x)) := (hE.cell hbl).trans HP1.out
      have hbl2 : bl < wr.heap.size := by have := hE.size; omega
      have hpv := pparse_any (bs x) wr
      rw [bs_list, parse_vg] at hpv
      have HPV := Lib.hid hpv
      have HN := Lib.hid hN
      clear hpv hN
      go_wp2_with fail
      refine (HPV.out).mono ?_
      rintro e w3 ⟨rfl, b3⟩
      have hN3 := HN.out.ext b3
      have E3 := hE.trans b3
      have n0 := hN3.cell 0
      have n1 := hN3.cell 1
      have nf : ∀ i, w3.frozen? ⟨w1.heap.size, i, none⟩ = false := fun i => (Has.free hN3 i).trans (by simp)
      have nl := Has.lt hN3
      go_wp2_with fail
      go_roundw
      case rel => exact ⟨E3.setCell (Nat.le_refl _) _, .inr (.inl ⟨rfl, rfl, Has.set hN3 0 _⟩)⟩
      case measure => simp [intOf]
    · have px : wr.cell? ⟨bl, o + 2, none⟩ = some (.string (bs z)) := (hE.cell hbl).trans HP2.out
      have hbl2 : bl < wr.heap.size := by have := hE.size; omega
      have hpv := pparse_any (bs z) wr
      rw [bs_list, parse_vg] at hpv
      have HPV := Lib.hid hpv
      have HN := Lib.hid hN
      clear hpv hN
      cases hg : gB x with
      | true =>
        have HG := Lib.hid hg
        clear hg
        go_wp2_with fail
        refine (HPV.out).mono ?_
        rintro e w3 ⟨rfl, b3⟩
        have hN3 := HN.out.ext b3
        have E3 := hE.trans b3
        have n0 := hN3.cell 0
        have n1 := hN3.cell 1
        have nf : ∀ i, w3.frozen? ⟨w1.heap.size, i, none⟩ = false := fun i => (Has.free hN3 i).trans (by simp)
        have nl := Has.lt hN3
        go_wp2_with fail
        go_roundw
        case rel => exact ⟨E3.setCell (Nat.le_refl _) _, .inr (.inr ⟨rfl, by first | rfl | (rw [HG.out]; rfl), Has.set hN3 1 _⟩)⟩
        case measure => simp [intOf]
      | false =>
        have HG := Lib.hid hg
        clear hg
        go_wp2_with fail
        refine (HPV.out).mono ?_
        rintro e w3 ⟨rfl, b3⟩
        have hN3 := HN.out.ext b3
        have E3 := hE.trans b3
        have n0 := hN3.cell 0
        have n1 := hN3.cell 1
        have nf : ∀ i, w3.frozen? ⟨w1.heap.size, i, none⟩ = false := fun i => (Has.free hN3 i).trans (by simp)
        have nl := Has.lt hN3
        go_wp2_with fail
        go_roundw
        case rel => exact ⟨E3.setCell (Nat.le_refl _) _, .inr (.inr ⟨rfl, by first | rfl | (rw [HG.out]; rfl), Has.set hN3 1 _⟩)⟩
        case measure => simp [intOf]
    · have EW := E1.trans hE
      obtain ⟨V2, hV2⟩ : ∃ W, W = wr.alloc (.cells #[.int .i64 0, .slice none 0 0, .int .i64 0, .int .i64 0] 30) := ⟨_, rfl⟩
      have E12 : Ext w1 V2 := by rw [hV2]; exact hE.alloc _
      have EV2 := E1.trans E12
      have hB : Hid (Has V2 wr.heap.size (.cells #[.int .i64 0, .slice none 0 0, .int .i64 0, .int .i64 0] 30)) := by show Has _ _ _; rw [hV2]; exact Has.new _ _
      have hN2 : Hid (Has V2 w1.heap.size (.cells #[.int .i64 (vN x), .int .i64 (vN z)] 73)) := by show Has _ _ _; rw [hV2]; exact Has.alloc hN _
      have hR := H1.ext E12
      have hnl := Has.lt hN
      have HV2 := Lib.hid hV2
      clear hV2 hN hx0
      go_upto_region 15 with (fail)
      rw [← HV2.out]
      have p0 : V2.cell? ⟨bl, o, none⟩ = some (.string (bs x0)) := (E12.cell hbl).trans HX0.out
      have q0 := hN2.out.cell 0
      have q1 := hN2.out.cell 1
      have hnl2 := Has.lt hN2.out
      have b0 : V2.cell? ⟨wr.heap.size, 0, none⟩ = some (.int .i64 0) := hB.out.cell 0
      have b1 : V2.cell? ⟨wr.heap.size, 1, none⟩ = some (.slice none 0 0) := hB.out.cell 1
      have b2 : V2.cell? ⟨wr.heap.size, 2, none⟩ = some (.int .i64 0) := hB.out.cell 2
      have b3' : V2.cell? ⟨wr.heap.size, 3, none⟩ = some (.int .i64 0) := hB.out.cell 3
      have bf : ∀ i, V2.frozen? ⟨wr.heap.size, i, none⟩ = false := fun i => (Has.free hB.out i).trans (by simp)
      have bz := Has.lt hB.out
      have hbl2 : bl < V2.heap.size := by have := E12.size; omega
      obtain ⟨u1, u2, u3, u4, u5⟩ := word_tests x0
      rcases six_words x0 with hx | hx | hx | hx | hx | ⟨n1, n2, n3, n4, n5⟩
      · rw [show (x0 == wRun) = true from by rw [hx]; decide] at u1
        rw [show (x0 == wTick) = false from by rw [hx]; decide] at u2
        rw [show (x0 == wAs) = false from by rw [hx]; decide] at u3
        rw [show (x0 == wFail) = false from by rw [hx]; decide] at u4
        rw [show (x0 == wMend) = false from by rw [hx]; decide] at u5
        have HXX := Lib.hid hx
        clear hx
        have hchk : Hid (stepN line = chkS ⟨1, [x, z], 0, 0⟩) := by show _ = _; rw [HF.out, HXX.out, stepW_run]
        obtain ⟨V3, hV3⟩ : ∃ W, W = put4 V2 wr.heap.size (.int .i64 1) (.slice (some X) 2 (k1 - 1)) (.int .i64 0) (.int .i64 0) := ⟨_, rfl⟩
        have hB3 : Has V3 wr.heap.size (.cells #[.int .i64 1, .slice (some X) 2 (k1 - 1), .int .i64 0, .int .i64 0] 30) := by rw [hV3]; exact Has.put4 hB.out _ _ _ _
        have E13 : Ext w1 V3 := by rw [hV3]; exact E12.put4 hE.size _ _ _ _
        have hR3 : Has V3 w.heap.size (.cells ZS 30) := H1.ext E13
        unfold put4 at hV3
        have HV3 := Lib.hid hV3
        have s0 : V3.cell? ⟨wr.heap.size, 0, none⟩ = some (.int .i64 1) := hB3.cell 0
        have s1 : V3.cell? ⟨wr.heap.size, 1, none⟩ = some (.slice (some X) 2 (k1 - 1)) := hB3.cell 1
        have s2 : V3.cell? ⟨wr.heap.size, 2, none⟩ = some (.int .i64 0) := hB3.cell 2
        have s3 : V3.cell? ⟨wr.heap.size, 3, none⟩ = some (.int .i64 0) := hB3.cell 3
        have sl := Has.lt hB3
        have HB3 := Lib.hid hB3
        clear hV3 hB3
        go_wp2_with (rw [← HV3.out])
        have hmy := pmay_any 1 (0) (0) [x, z] (some X) (k1 - 1) V3 (tail_at (T1.out.ext E13) HX.out) (by first | (simp <;> omega) | (rw [← HM.out]; omega)) (fun q hq => by have := HMM.out q (List.mem_cons_of_mem _ hq); omega)
        (try rw [← HM.out] at hmy)
        cases hm : mayB ⟨1, [x, z], 0, 0⟩ with
        | false =>
          rw [hm] at hmy
          refine hmy.mono ?_
          clear hmy
          have hf : Hid (stepN line = none) := by show _ = _; rw [hchk.out]; exact chkS_no hm
          clear hm
          rintro e w3 ⟨rfl, b3⟩
          have H3 := hR3.ext b3
          have E3 := (E1.trans E13).trans b3
          clear s0 s1 s2 s3 sl
          obtain ⟨z0, z1, z2⟩ : (∀ i, w3.cell? ⟨w.heap.size, i, none⟩ = ZS[i]?) ∧ (∀ i, w3.frozen? ⟨w.heap.size, i, none⟩ = false) ∧ w.heap.size < w3.heap.size := ⟨fun i => H3.cell i, fun i => (Has.free H3 i).trans (by simp), Has.lt H3⟩
          have y0 : w3.cell? ⟨w.heap.size, 0, none⟩ = some (.int .i64 0) := z0 0
          have y1 : w3.cell? ⟨w.heap.size, 1, none⟩ = some (.slice none 0 0) := z0 1
          have y2 : w3.cell? ⟨w.heap.size, 2, none⟩ = some (.int .i64 0) := z0 2
          have y3 : w3.cell? ⟨w.heap.size, 3, none⟩ = some (.int .i64 0) := z0 3
          clear z0
          go_wp2_with fail
          refine bodyPost_ret (resS _ rfl _ _ w.heap.size ZS (.int .i64 2) rfl rfl (Has.put4 H3 _ _ _ _) (step_size _ _ _ _)) rfl ?_
          exact StR.bad hf rfl (E3.put4 (Nat.le_refl _) _ _ _ _)
        | true =>
          rw [hm] at hmy
          refine hmy.mono ?_
          clear hmy
          have hf : Hid (stepN line = some ⟨1, [x, z], 0, 0⟩) := by show _ = _; rw [hchk.out]; exact chkS_yes hm
          clear hm
          rintro e w3 ⟨rfl, b3⟩
          have H3 := hR3.ext b3
          have E3 := (E1.trans E13).trans b3
          have r0 : w3.cell? ⟨wr.heap.size, 0, none⟩ = some (.int .i64 1) := (b3.cell sl).trans s0
          have r1 : w3.cell? ⟨wr.heap.size, 1, none⟩ = some (.slice (some X) 2 (k1 - 1)) := (b3.cell sl).trans s1
          have r2 : w3.cell? ⟨wr.heap.size, 2, none⟩ = some (.int .i64 0) := (b3.cell sl).trans s2
          have r3 : w3.cell? ⟨wr.heap.size, 3, none⟩ = some (.int .i64 0) := (b3.cell sl).trans s3
          clear s0 s1 s2 s3 sl
          obtain ⟨z0, z1, z2⟩ : (∀ i, w3.cell? ⟨w.heap.size, i, none⟩ = ZS[i]?) ∧ (∀ i, w3.frozen? ⟨w.heap.size, i, none⟩ = false) ∧ w.heap.size < w3.heap.size := ⟨fun i => H3.cell i, fun i => (Has.free H3 i).trans (by simp), Has.lt H3⟩
          have y0 : w3.cell? ⟨w.heap.size, 0, none⟩ = some (.int .i64 0) := z0 0
          have y1 : w3.cell? ⟨w.heap.size, 1, none⟩ = some (.slice none 0 0) := z0 1
          have y2 : w3.cell? ⟨w.heap.size, 2, none⟩ = some (.int .i64 0) := z0 2
          have y3 : w3.cell? ⟨w.heap.size, 3, none⟩ = some (.int .i64 0) := z0 3
          clear z0
          go_wp2_with fail
          refine bodyPost_ret (resS _ rfl _ _ w.heap.size _ (.int .i64 0) rfl rfl (Has.put4 H3 _ _ _ _) (step_size _ _ _ _)) rfl ?_
          exact StR.good (A := some X) (cap := k1 - 1) hf (by first | rfl | (show _ = Ending.returned (.tuple #[.agg #[_, .slice _ (x :: z :: y :: r).length _, _, _], _]); rw [← HM.out])) (tail_b (txt_put4 (T1.out.ext (E13.trans b3)) (Nat.ne_of_gt hbo) _ _ _ _) HX.out (ty_put4 (ty_ext TY.out (E13.trans b3)) (Nat.ne_of_gt hbo) _ _ _ _)) (fun h => by cases h) (by first | (simp <;> omega) | (show (x :: z :: y :: r).length ≤ k1 - 1; rw [← HM.out]; omega)) (E3.put4 (Nat.le_refl _) _ _ _ _)
      · rw [show (x0 == wRun) = false from by rw [hx]; decide] at u1
        rw [show (x0 == wTick) = false from by rw [hx]; decide] at u2
        rw [show (x0 == wAs) = false from by rw [hx]; decide] at u3
        rw [show (x0 == wFail) = false from by rw [hx]; decide] at u4
        rw [show (x0 == wMend) = true from by rw [hx]; decide] at u5
        have HXX := Lib.hid hx
        clear hx
        cases hg : (gB x && gB z) with
        | true =>
          have HG := Lib.hid hg
          clear hg
          have hf : Hid (stepN line = none) := by show _ = _; rw [HF.out, HXX.out, stepW_mend]; rfl
          go_wp2_with fail
          refine (pmay_any 0 0 0 [] none 0 _ (.inl rfl) (by decide) (fun x hx => by cases hx)).mono ?_
          rintro e w3 ⟨rfl, b3⟩
          rw [show mayB ⟨0, [], 0, 0⟩ = false from rfl]
          have H3 := hR.ext b3
          have E3 := EV2.trans b3
          obtain ⟨z0, z1, z2⟩ : (∀ i, w3.cell? ⟨w.heap.size, i, none⟩ = ZS[i]?) ∧ (∀ i, w3.frozen? ⟨w.heap.size, i, none⟩ = false) ∧ w.heap.size < w3.heap.size := ⟨fun i => H3.cell i, fun i => (Has.free H3 i).trans (by simp), Has.lt H3⟩
          have y0 : w3.cell? ⟨w.heap.size, 0, none⟩ = some (.int .i64 0) := z0 0
          have y1 : w3.cell? ⟨w.heap.size, 1, none⟩ = some (.slice none 0 0) := z0 1
          have y2 : w3.cell? ⟨w.heap.size, 2, none⟩ = some (.int .i64 0) := z0 2
          have y3 : w3.cell? ⟨w.heap.size, 3, none⟩ = some (.int .i64 0) := z0 3
          clear z0
          go_wp2_with fail
          refine bodyPost_ret (resS _ rfl _ _ w.heap.size ZS (.int .i64 2) rfl rfl (Has.put4 H3 _ _ _ _) (step_size _ _ _ _)) rfl ?_
          exact StR.bad hf rfl (E3.put4 (Nat.le_refl _) _ _ _ _)
        | false =>
          have HG := Lib.hid hg
          clear hg
          have hf : Hid (stepN line = none) := by show _ = _; rw [HF.out, HXX.out, stepW_mend]; rfl
          go_wp2_with fail
          refine (pmay_any 0 0 0 [] none 0 _ (.inl rfl) (by decide) (fun x hx => by cases hx)).mono ?_
          rintro e w3 ⟨rfl, b3⟩
          rw [show mayB ⟨0, [], 0, 0⟩ = false from rfl]
          have H3 := hR.ext b3
          have E3 := EV2.trans b3
          obtain ⟨z0, z1, z2⟩ : (∀ i, w3.cell? ⟨w.heap.size, i, none⟩ = ZS[i]?) ∧ (∀ i, w3.frozen? ⟨w.heap.size, i, none⟩ = false) ∧ w.heap.size < w3.heap.size := ⟨fun i => H3.cell i, fun i => (Has.free H3 i).trans (by simp), Has.lt H3⟩
          have y0 : w3.cell? ⟨w.heap.size, 0, none⟩ = some (.int .i64 0) := z0 0
          have y1 : w3.cell? ⟨w.heap.size, 1, none⟩ = some (.slice none 0 0) := z0 1
          have y2 : w3.cell? ⟨w.heap.size, 2, none⟩ = some (.int .i64 0) := z0 2
          have y3 : w3.cell? ⟨w.heap.size, 3, none⟩ = some (.int .i64 0) := z0 3
          clear z0
          go_wp2_with fail
          refine bodyPost_ret (resS _ rfl _ _ w.heap.size ZS (.int .i64 2) rfl rfl (Has.put4 H3 _ _ _ _) (step_size _ _ _ _)) rfl ?_
          exact StR.bad hf rfl (E3.put4 (Nat.le_refl _) _ _ _ _)
      · rw [show (x0 == wRun) = false from by rw [hx]; decide] at u1
        rw [show (x0 == wTick) = true from by rw [hx]; decide] at u2
        rw [show (x0 == wAs) = false from by rw [hx]; decide] at u3
        rw [show (x0 == wFail) = false from by rw [hx]; decide] at u4
        rw [show (x0 == wMend) = false from by rw [hx]; decide] at u5
        have HXX := Lib.hid hx
        clear hx
        cases hg : (gB x && gB z) with
        | true =>
          have HG := Lib.hid hg
          clear hg
          have hf : Hid (stepN line = none) := by show _ = _; rw [HF.out, HXX.out, stepW_tick]; rfl
          go_wp2_with fail
          refine (pmay_any 0 0 0 [] none 0 _ (.inl rfl) (by decide) (fun x hx => by cases hx)).mono ?_
          rintro e w3 ⟨rfl, b3⟩
          rw [show mayB ⟨0, [], 0, 0⟩ = false from rfl]
          have H3 := hR.ext b3
          have E3 := EV2.trans b3
          obtain ⟨z0, z1, z2⟩ : (∀ i, w3.cell? ⟨w.heap.size, i, none⟩ = ZS[i]?) ∧ (∀ i, w3.frozen? ⟨w.heap.size, i, none⟩ = false) ∧ w.heap.size < w3.heap.size := ⟨fun i => H3.cell i, fun i => (Has.free H3 i).trans (by simp), Has.lt H3⟩
          have y0 : w3.cell? ⟨w.heap.size, 0, none⟩ = some (.int .i64 0) := z0 0
          have y1 : w3.cell? ⟨w.heap.size, 1, none⟩ = some (.slice none 0 0) := z0 1
          have y2 : w3.cell? ⟨w.heap.size, 2, none⟩ = some (.int .i64 0) := z0 2
          have y3 : w3.cell? ⟨w.heap.size, 3, none⟩ = some (.int .i64 0) := z0 3
          clear z0
          go_wp2_with fail
          refine bodyPost_ret (resS _ rfl _ _ w.heap.size ZS (.int .i64 2) rfl rfl (Has.put4 H3 _ _ _ _) (step_size _ _ _ _)) rfl ?_
          exact StR.bad hf rfl (E3.put4 (Nat.le_refl _) _ _ _ _)
        | false =>
          have HG := Lib.hid hg
          clear hg
          have hf : Hid (stepN line = none) := by show _ = _; rw [HF.out, HXX.out, stepW_tick]; rfl
          go_wp2_with fail
          refine (pmay_any 0 0 0 [] none 0 _ (.inl rfl) (by decide) (fun x hx => by cases hx)).mono ?_
          rintro e w3 ⟨rfl, b3⟩
          rw [show mayB ⟨0, [], 0, 0⟩ = false from rfl]
          have H3 := hR.ext b3
          have E3 := EV2.trans b3
          obtain ⟨z0, z1, z2⟩ : (∀ i, w3.cell? ⟨w.heap.size, i, none⟩ = ZS[i]?) ∧ (∀ i, w3.frozen? ⟨w.heap.size, i, none⟩ = false) ∧ w.heap.size < w3.heap.size := ⟨fun i => H3.cell i, fun i => (Has.free H3 i).trans (by simp), Has.lt H3⟩
          have y0 : w3.cell? ⟨w.heap.size, 0, none⟩ = some (.int .i64 0) := z0 0
          have y1 : w3.cell? ⟨w.heap.size, 1, none⟩ = some (.slice none 0 0) := z0 1
          have y2 : w3.cell? ⟨w.heap.size, 2, none⟩ = some (.int .i64 0) := z0 2
          have y3 : w3.cell? ⟨w.heap.size, 3, none⟩ = some (.int .i64 0) := z0 3
          clear z0
          go_wp2_with fail
          refine bodyPost_ret (resS _ rfl _ _ w.heap.size ZS (.int .i64 2) rfl rfl (Has.put4 H3 _ _ _ _) (step_size _ _ _ _)) rfl ?_
          exact StR.bad hf rfl (E3.put4 (Nat.le_refl _) _ _ _ _)
      · rw [show (x0 == wRun) = false from by rw [hx]; decide] at u1
        rw [show (x0 == wTick) = false from by rw [hx]; decide] at u2
        rw [show (x0 == wAs) = true from by rw [hx]; decide] at u3
        rw [show (x0 == wFail) = false from by rw [hx]; decide] at u4
        rw [show (x0 == wMend) = false from by rw [hx]; decide] at u5
        have HXX := Lib.hid hx
        clear hx
        cases hg : (gB x && gB z) with
        | true =>
          have HG := Lib.hid hg
          clear hg
          have hf : Hid (stepN line = none) := by show _ = _; rw [HF.out, HXX.out, stepW_as]; rfl
          go_wp2_with fail
          refine (pmay_any 0 0 0 [] none 0 _ (.inl rfl) (by decide) (fun x hx => by cases hx)).mono ?_
          rintro e w3 ⟨rfl, b3⟩
          rw [show mayB ⟨0, [], 0, 0⟩ = false from rfl]
          have H3 := hR.ext b3
          have E3 := EV2.trans b3
          obtain ⟨z0, z1, z2⟩ : (∀ i, w3.cell? ⟨w.heap.size, i, none⟩ = ZS[i]?) ∧ (∀ i, w3.frozen? ⟨w.heap.size, i, none⟩ = false) ∧ w.heap.size < w3.heap.size := ⟨fun i => H3.cell i, fun i => (Has.free H3 i).trans (by simp), Has.lt H3⟩
          have y0 : w3.cell? ⟨w.heap.size, 0, none⟩ = some (.int .i64 0) := z0 0
          have y1 : w3.cell? ⟨w.heap.size, 1, none⟩ = some (.slice none 0 0) := z0 1
          have y2 : w3.cell? ⟨w.heap.size, 2, none⟩ = some (.int .i64 0) := z0 2
          have y3 : w3.cell? ⟨w.heap.size, 3, none⟩ = some (.int .i64 0) := z0 3
          clear z0
          go_wp2_with fail
          refine bodyPost_ret (resS _ rfl _ _ w.heap.size ZS (.int .i64 2) rfl rfl (Has.put4 H3 _ _ _ _) (step_size _ _ _ _)) rfl ?_
          exact StR.bad hf rfl (E3.put4 (Nat.le_refl _) _ _ _ _)
        | false =>
          have HG := Lib.hid hg
          clear hg
          have hf : Hid (stepN line = none) := by show _ = _; rw [HF.out, HXX.out, stepW_as]; rfl
          go_wp2_with fail
          refine (pmay_any 0 0 0 [] none 0 _ (.inl rfl) (by decide) (fun x hx => by cases hx)).mono ?_
          rintro e w3 ⟨rfl, b3⟩
          rw [show mayB ⟨0, [], 0, 0⟩ = false from rfl]
          have H3 := hR.ext b3
          have E3 := EV2.trans b3
          obtain ⟨z0, z1, z2⟩ : (∀ i, w3.cell? ⟨w.heap.size, i, none⟩ = ZS[i]?) ∧ (∀ i, w3.frozen? ⟨w.heap.size, i, none⟩ = false) ∧ w.heap.size < w3.heap.size := ⟨fun i => H3.cell i, fun i => (Has.free H3 i).trans (by simp), Has.lt H3⟩
          have y0 : w3.cell? ⟨w.heap.size, 0, none⟩ = some (.int .i64 0) := z0 0
          have y1 : w3.cell? ⟨w.heap.size, 1, none⟩ = some (.slice none 0 0) := z0 1
          have y2 : w3.cell? ⟨w.heap.size, 2, none⟩ = some (.int .i64 0) := z0 2
          have y3 : w3.cell? ⟨w.heap.size, 3, none⟩ = some (.int .i64 0) := z0 3
          clear z0
          go_wp2_with fail
          refine bodyPost_ret (resS _ rfl _ _ w.heap.size ZS (.int .i64 2) rfl rfl (Has.put4 H3 _ _ _ _) (step_size _ _ _ _)) rfl ?_
          exact StR.bad hf rfl (E3.put4 (Nat.le_refl _) _ _ _ _)
      · rw [show (x0 == wRun) = false from by rw [hx]; decide] at u1
        rw [show (x0 == wTick) = false from by rw [hx]; decide] at u2
        rw [show (x0 == wAs) = false from by rw [hx]; decide] at u3
        rw [show (x0 == wFail) = true from by rw [hx]; decide] at u4
        rw [show (x0 == wMend) = false from by rw [hx]; decide] at u5
        have HXX := Lib.hid hx
        clear hx
        cases hg : (gB x && gB z) with
        | true =>
          have hchk : Hid (stepN line = chkS ⟨4, [], vN x, vN z⟩) := by show _ = _; rw [HF.out, HXX.out, stepW_fail]; rw [Bool.and_eq_true] at hg; exact two_yes hg.1 hg.2
          obtain ⟨V3, hV3⟩ : ∃ W, W = put4 V2 wr.heap.size (.int .i64 4) (.slice none 0 0) (.int .i64 (vN x)) (.int .i64 (vN z)) := ⟨_, rfl⟩
          have hB3 : Has V3 wr.heap.size (.cells #[.int .i64 4, .slice none 0 0, .int .i64 (vN x), .int .i64 (vN z)] 30) := by rw [hV3]; exact Has.put4 hB.out _ _ _ _
          have E13 : Ext w1 V3 := by rw [hV3]; exact E12.put4 hE.size _ _ _ _
          have hR3 : Has V3 w.heap.size (.cells ZS 30) := H1.ext E13
          unfold put4 at hV3
          have HV3 := Lib.hid hV3
          have s0 : V3.cell? ⟨wr.heap.size, 0, none⟩ = some (.int .i64 4) := hB3.cell 0
          have s1 : V3.cell? ⟨wr.heap.size, 1, none⟩ = some (.slice none 0 0) := hB3.cell 1
          have s2 : V3.cell? ⟨wr.heap.size, 2, none⟩ = some (.int .i64 (vN x)) := hB3.cell 2
          have s3 : V3.cell? ⟨wr.heap.size, 3, none⟩ = some (.int .i64 (vN z)) := hB3.cell 3
          have sl := Has.lt hB3
          have HB3 := Lib.hid hB3
          clear hV3 hB3
          go_wp2_with (rw [← HV3.out])
          have hmy := pmay_any 4 (vN x) (vN z) [] none 0 V3 (.inl rfl) (by decide) (fun q hq => by cases hq)
          (try rw [← HM.out] at hmy)
          cases hm : mayB ⟨4, [], vN x, vN z⟩ with
          | false =>
            rw [hm] at hmy
            refine hmy.mono ?_
            clear hmy
            have hf : Hid (stepN line = none) := by show _ = _; rw [hchk.out]; exact chkS_no hm
            clear hm
            rintro e w3 ⟨rfl, b3⟩
            have H3 := hR3.ext b3
            have E3 := (E1.trans E13).trans b3
            clear s0 s1 s2 s3 sl
            obtain ⟨z0, z1, z2⟩ : (∀ i, w3.cell? ⟨w.heap.size, i, none⟩ = ZS[i]?) ∧ (∀ i, w3.frozen? ⟨w.heap.size, i, none⟩ = false) ∧ w.heap.size < w3.heap.size := ⟨fun i => H3.cell i, fun i => (Has.free H3 i).trans (by simp), Has.lt H3⟩
            have y0 : w3.cell? ⟨w.heap.size, 0, none⟩ = some (.int .i64 0) := z0 0
            have y1 : w3.cell? ⟨w.heap.size, 1, none⟩ = some (.slice none 0 0) := z0 1
            have y2 : w3.cell? ⟨w.heap.size, 2, none⟩ = some (.int .i64 0) := z0 2
            have y3 : w3.cell? ⟨w.heap.size, 3, none⟩ = some (.int .i64 0) := z0 3
            clear z0
            go_wp2_with fail
            refine bodyPost_ret (resS _ rfl _ _ w.heap.size ZS (.int .i64 2) rfl rfl (Has.put4 H3 _ _ _ _) (step_size _ _ _ _)) rfl ?_
            exact StR.bad hf rfl (E3.put4 (Nat.le_refl _) _ _ _ _)
          | true =>
            rw [hm] at hmy
            refine hmy.mono ?_
            clear hmy
            have hf : Hid (stepN line = some ⟨4, [], vN x, vN z⟩) := by show _ = _; rw [hchk.out]; exact chkS_yes hm
            clear hm
            rintro e w3 ⟨rfl, b3⟩
            have H3 := hR3.ext b3
            have E3 := (E1.trans E13).trans b3
            have r0 : w3.cell? ⟨wr.heap.size, 0, none⟩ = some (.int .i64 4) := (b3.cell sl).trans s0
            have r1 : w3.cell? ⟨wr.heap.size, 1, none⟩ = some (.slice none 0 0) := (b3.cell sl).trans s1
            have r2 : w3.cell? ⟨wr.heap.size, 2, none⟩ = some (.int .i64 (vN x)) := (b3.cell sl).trans s2
            have r3 : w3.cell? ⟨wr.heap.size, 3, none⟩ = some (.int .i64 (vN z)) := (b3.cell sl).trans s3
            clear s0 s1 s2 s3 sl
            obtain ⟨z0, z1, z2⟩ : (∀ i, w3.cell? ⟨w.heap.size, i, none⟩ = ZS[i]?) ∧ (∀ i, w3.frozen? ⟨w.heap.size, i, none⟩ = false) ∧ w.heap.size < w3.heap.size := ⟨fun i => H3.cell i, fun i => (Has.free H3 i).trans (by simp), Has.lt H3⟩
            have y0 : w3.cell? ⟨w.heap.size, 0, none⟩ = some (.int .i64 0) := z0 0
            have y1 : w3.cell? ⟨w.heap.size, 1, none⟩ = some (.slice none 0 0) := z0 1
            have y2 : w3.cell? ⟨w.heap.size, 2, none⟩ = some (.int .i64 0) := z0 2
            have y3 : w3.cell? ⟨w.heap.size, 3, none⟩ = some (.int .i64 0) := z0 3
            clear z0
            go_wp2_with fail
            refine bodyPost_ret (resS _ rfl _ _ w.heap.size _ (.int .i64 0) rfl rfl (Has.put4 H3 _ _ _ _) (step_size _ _ _ _)) rfl ?_
            exact StR.plain hf rfl (E3.put4 (Nat.le_refl _) _ _ _ _)
        | false =>
          have hf : Hid (stepN line = none) := by show _ = _; rw [HF.out, HXX.out, stepW_fail]; exact two_no hg
          go_wp2_with fail
          refine (pmay_any 0 0 0 [] none 0 _ (.inl rfl) (by decide) (fun x hx => by cases hx)).mono ?_
          rintro e w3 ⟨rfl, b3⟩
          rw [show mayB ⟨0, [], 0, 0⟩ = false from rfl]
          have H3 := hR.ext b3
          have E3 := EV2.trans b3
          obtain ⟨z0, z1, z2⟩ : (∀ i, w3.cell? ⟨w.heap.size, i, none⟩ = ZS[i]?) ∧ (∀ i, w3.frozen? ⟨w.heap.size, i, none⟩ = false) ∧ w.heap.size < w3.heap.size := ⟨fun i => H3.cell i, fun i => (Has.free H3 i).trans (by simp), Has.lt H3⟩
          have y0 : w3.cell? ⟨w.heap.size, 0, none⟩ = some (.int .i64 0) := z0 0
          have y1 : w3.cell? ⟨w.heap.size, 1, none⟩ = some (.slice none 0 0) := z0 1
          have y2 : w3.cell? ⟨w.heap.size, 2, none⟩ = some (.int .i64 0) := z0 2
          have y3 : w3.cell? ⟨w.heap.size, 3, none⟩ = some (.int .i64 0) := z0 3
          clear z0
          go_wp2_with fail
          refine bodyPost_ret (resS _ rfl _ _ w.heap.size ZS (.int .i64 2) rfl rfl (Has.put4 H3 _ _ _ _) (step_size _ _ _ _)) rfl ?_
          exact StR.bad hf rfl (E3.put4 (Nat.le_refl _) _ _ _ _)
      · rw [txt_no n1] at u1
        rw [txt_no n3] at u2
        rw [txt_no n4] at u3
        rw [txt_no n5] at u4
        rw [txt_no n2] at u5
        cases hg : (gB x && gB z) with
        | true =>
          have HG := Lib.hid hg
          clear hg
          have hf : Hid (stepN line = none) := by show _ = _; rw [HF.out]; exact stepW_other _ n1 n2 n3 n4 n5
          go_wp2_with fail
          refine (pmay_any 0 0 0 [] none 0 _ (.inl rfl) (by decide) (fun x hx => by cases hx)).mono ?_
          rintro e w3 ⟨rfl, b3⟩
          rw [show mayB ⟨0, [], 0, 0⟩ = false from rfl]
          have H3 := hR.ext b3
          have E3 := EV2.trans b3
          obtain ⟨z0, z1, z2⟩ : (∀ i, w3.cell? ⟨w.heap.size, i, none⟩ = ZS[i]?) ∧ (∀ i, w3.frozen? ⟨w.heap.size, i, none⟩ = false) ∧ w.heap.size < w3.heap.size := ⟨fun i => H3.cell i, fun i => (Has.free H3 i).trans (by simp), Has.lt H3⟩
          have y0 : w3.cell? ⟨w.heap.size, 0, none⟩ = some (.int .i64 0) := z0 0
          have y1 : w3.cell? ⟨w.heap.size, 1, none⟩ = some (.slice none 0 0) := z0 1
          have y2 : w3.cell? ⟨w.heap.size, 2, none⟩ = some (.int .i64 0) := z0 2
          have y3 : w3.cell? ⟨w.heap.size, 3, none⟩ = some (.int .i64 0) := z0 3
          clear z0
          go_wp2_with fail
          refine bodyPost_ret (resS _ rfl _ _ w.heap.size ZS (.int .i64 2) rfl rfl (Has.put4 H3 _ _ _ _) (step_size _ _ _ _)) rfl ?_
          exact StR.bad hf rfl (E3.put4 (Nat.le_refl _) _ _ _ _)
        | false =>
          have HG := Lib.hid hg
          clear hg
          have hf : Hid (stepN line = none) := by show _ = _; rw [HF.out]; exact stepW_other _ n1 n2 n3 n4 n5
          go_wp2_with fail
          refine (pmay_any 0 0 0 [] none 0 _ (.inl rfl) (by decide) (fun x hx => by cases hx)).mono ?_
          rintro e w3 ⟨rfl, b3⟩
          rw [show mayB ⟨0, [], 0, 0⟩ = false from rfl]
          have H3 := hR.ext b3
          have E3 := EV2.trans b3
          obtain ⟨z0, z1, z2⟩ : (∀ i, w3.cell? ⟨w.heap.size, i, none⟩ = ZS[i]?) ∧ (∀ i, w3.frozen? ⟨w.heap.size, i, none⟩ = false) ∧ w.heap.size < w3.heap.size := ⟨fun i => H3.cell i, fun i => (Has.free H3 i).trans (by simp), Has.lt H3⟩
          have y0 : w3.cell? ⟨w.heap.size, 0, none⟩ = some (.int .i64 0) := z0 0
          have y1 : w3.cell? ⟨w.heap.size, 1, none⟩ = some (.slice none 0 0) := z0 1
          have y2 : w3.cell? ⟨w.heap.size, 2, none⟩ = some (.int .i64 0) := z0 2
          have y3 : w3.cell? ⟨w.heap.size, 3, none⟩ = some (.int .i64 0) := z0 3
          clear z0
          go_wp2_with fail
          refine bodyPost_ret (resS _ rfl _ _ w.heap.size ZS (.int .i64 2) rfl rfl (Has.put4 H3 _ _ _ _) (step_size _ _ _ _)) rfl ?_
          exact StR.bad hf rfl (E3.put4 (Nat.le_refl _) _ _ _ _)
end Go.Proofs.YtanaifobmkjpaaaDoor
