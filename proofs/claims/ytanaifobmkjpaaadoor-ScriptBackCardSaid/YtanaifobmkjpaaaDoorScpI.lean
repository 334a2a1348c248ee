/- Layer 48 (script): the walk of ScriptTells. -/
import Derived.Test.YtanaifobmkjpaaaDoorScpH
import Derived.Deep.RegionHeld3
namespace Go.Proofs.YtanaifobmkjpaaaDoor
open Go.ChangeShapes Go.WideShapes Go.ChangeAt Go.RowKit

theorem textV_form (s : StepN) : ∃ Y er, textV s = .tuple #[.string Y, .int .i64 er] := by
  cases h : mayB s with
  | true => exact ⟨_, _, textV_yes h⟩
  | false => exact ⟨_, _, textV_no h⟩
theorem linesV_form (L : List StepN) : ∃ Y er, linesV L = .tuple #[.string Y, .int .i64 er] := by
  unfold linesV
  split
  · exact ⟨_, _, rfl⟩
  · exact ⟨_, _, rfl⟩
theorem fit_few {L : List StepN} (h : fewS L = true) (hI : ∀ s ∈ L, I64 s.n ∧ I64 s.y ∧ s.ws.length ≤ maxLen) : ∀ s ∈ L, Fit s := by
  obtain ⟨_, h2⟩ := fewS_yes h
  intro s hs
  obtain ⟨h3, h4⟩ := h2 s hs
  exact ⟨by omega, fun x hx => by have := h4 x hx; omega, (hI s hs).1, (hI s hs).2.1⟩
/-- The step that a failed reading leaves. -/
def zeroS : StepN := ⟨0, [], 0, 0⟩
theorem one_ws {k : Int} {l : List Txt} {x : StepN} (h : oneS k l = some x) : x.ws = [] := by
  rcases l with _ | ⟨a, _ | ⟨b, r⟩⟩
  · cases h
  · obtain ⟨n, _, h⟩ := Option.bind_eq_some_iff.1 h
    have := (chkS_some h).1; subst this; rfl
  · cases h
theorem two_ws {l : List Txt} {x : StepN} (h : twoS l = some x) : x.ws = [] := by
  rcases l with _ | ⟨a, _ | ⟨b, _ | ⟨c, r⟩⟩⟩
  · cases h
  · cases h
  · obtain ⟨n, _, h⟩ := Option.bind_eq_some_iff.1 h
    obtain ⟨y, _, h⟩ := Option.bind_eq_some_iff.1 h
    have := (chkS_some h).1; subst this; rfl
  · cases h
theorem step_ws {l : Txt} {x : StepN} (h : stepN l = some x) (hl : l.length ≤ 100000) : x.ws.length ≤ 1000000 := by
  unfold stepN at h
  cases hw : wordsN l with
  | none => rw [hw] at h; cases h
  | some L =>
    rw [hw] at h
    have h : stepW L = some x := h
    have hL := words_len hw
    cases L with
    | nil => cases h
    | cons y r =>
      rw [stepW_cons] at h
      split at h
      · have := (chkS_some h).1; subst this; simp at hL ⊢; omega
      · split at h
        · split at h
          · injection h with h; subst h; simp
          · cases h
        · split at h
          · rw [one_ws h]; simp
          · split at h
            · rw [one_ws h]; simp
            · split at h
              · rw [two_ws h]; simp
              · cases h
set_option maxRecDepth 100000 in
set_option maxHeartbeats 16000000 in
theorem scriptTells_any (A : Option Addr) (cap : Nat) (L : List StepN) (l : Txt) (w : World) (hat : StepsAt w A L) (hlen : L.length ≤ 9223372036854775807) (hI : ∀ s ∈ L, I64 s.n ∧ I64 s.y ∧ s.ws.length ≤ maxLen) (hM : HasMax w) : Calls Tryd.prog 3 #[.slice A L.length cap, .string (bs l)] w (Ret w (.bool true)) := by
  have z0 : (bs l).size = l.length := bs_size l
  have hfe := few48_any A cap L w hat hlen (fun s hs => (hI s hs).2.2)
  cases hfew : fewS L with
  | false =>
    rw [hfew] at hfe
    have HFE := Lib.hid hfe
    clear hfe hfew
    go_enter Tryd.func3, Tryd.ntmps3
    go_wp2_with fail
    refine (HFE.out).mono ?_
    clear HFE
    rintro e w0 ⟨rfl, b0⟩
    go_wp2_with fail
    refine (awake48 _ (hM.ext b0)).mono ?_
    rintro e w3 ⟨rfl, b3⟩
    go_wp2_with fail
    go_ret
    exact Ret.mk rfl (b0.trans b3)
  | true =>
    rw [hfew] at hfe
    have HFE := Lib.hid hfe
    clear hfe
    by_cases h3 : l.length ≤ 300
    · have h3i : ¬ (300 : Int) < (l.length : Int) := by omega
      have h20 := (fewS_yes hfew).1
      have HFIT := Lib.hid (fit_few hfew hI)
      have HPW := Lib.hid (fun w' (hE : Ext w w') => writeS_any A cap L w' (hat.ext hE) (by omega) HFIT.out (hM.ext hE))
      have HPL := Lib.hid (fun w' (hE : Ext w w') => lines_any A cap L w' (hat.ext hE) (by omega) HFIT.out (hM.ext hE))
      have HWF := Lib.hid (writeS_fit (L := L) (by omega))
      obtain ⟨Y0, e0, hY0⟩ := linesV_form L
      have HY0 := Lib.hid hY0
      obtain ⟨n, hn⟩ : ∃ n, n = L.length := ⟨_, rfl⟩
      rw [← hn] at HFE HPW HPL h20 ⊢
      have HN := Lib.hid hn
      have HA := Lib.hid hat
      clear hfew hY0 hn hat hI hlen h3
      go_enter Tryd.func3, Tryd.ntmps3
      go_wp2_with fail
      refine (HFE.out).mono ?_
      clear HFE
      rintro e w0 ⟨rfl, b0⟩
      go_wp2_with fail
      go_loopw [5] (fun i wr => ∃ k : Nat, k ≤ n ∧ i = .int .i64 k ∧ Ext w wr) (fun i _ => n - (intOf i).toNat)
      case atStart => exact ⟨0, Nat.zero_le _, rfl, b0⟩
      case round =>
        obtain ⟨k, hk, rfl, hE⟩ := hrel
        by_cases hlt : (k : Int) < n
        · have hkl : k < L.length := by rw [← HN.out]; omega
          obtain ⟨b, o, rfl, hbb, B, c, ⟨p0, p1, p2, p3⟩, pt, pn, pc⟩ := HA.out.at_ hE k hkl
          have hf := HFIT.out L[k] (List.getElem_mem hkl)
          obtain ⟨s, hs⟩ : ∃ s, s = L[k] := ⟨_, rfl⟩
          rw [← hs] at p0 p1 p2 p3 pt pc hf
          obtain ⟨Y, er, hY⟩ := textV_form s
          have HY := Lib.hid hY
          obtain ⟨mm, hmm⟩ : ∃ mm, mm = mayB s := ⟨_, rfl⟩
          have HMM := Lib.hid hmm
          have HT1 := Lib.hid (fun w' (hx : Ext wr w') => ptext_any s.k s.n s.y s.ws B c w' (pt.ext hx) pn hf.1 hf.2.1 ((hM.ext hE).ext hx) hf.2.2.1 hf.2.2.2)
          have HT2 := Lib.hid (fun w' (hx : Ext wr w') => rtext_any s.k s.n s.y s.ws B c w' (pt.ext hx) pn hf.1 hf.2.1 ((hM.ext hE).ext hx) hf.2.2.1 hf.2.2.2)
          have HM1 := Lib.hid (fun w' (hx : Ext wr w') => pmay_any s.k s.n s.y s.ws B c w' (pt.ext hx) (by have := hf.1; omega) (fun x hx => by have := hf.2.1 x hx; omega))
          have HM2 := Lib.hid (fun w' (hx : Ext wr w') => rmay_any s.k s.n s.y s.ws B c w' (pt.ext hx) (by have := hf.1; omega) (fun x hx => by have := hf.2.1 x hx; omega))
          have HP := Lib.hid (show (∀ w', Ext wr w' → (w'.cell? ⟨b, o + k * 4, none⟩ = some (.int .i64 s.k) ∧ w'.cell? ⟨b, o + k * 4 + 1, none⟩ = some (.slice B s.ws.length c) ∧ w'.cell? ⟨b, o + k * 4 + 2, none⟩ = some (.int .i64 s.n) ∧ w'.cell? ⟨b, o + k * 4 + 3, none⟩ = some (.int .i64 s.y))) from fun w' h => ⟨(h.cell hbb).trans p0, (h.cell hbb).trans p1, (h.cell hbb).trans p2, (h.cell hbb).trans p3⟩)
          have hk0 : (0 : Int) ≤ (k : Int) := Int.natCast_nonneg _
          clear hs hY hmm pt pn pc
          go_wp2_with fail
          refine (HT1.out wr (Ext.refl _)).mono ?_
          rw [HY.out]
          rintro e w1 ⟨rfl, b1⟩
          clear p0 p1 p2 p3
          obtain ⟨p0, p1, p2, p3⟩ := HP.out w1 b1
          have hb1 : b < w1.heap.size := by have := b1.size; omega
          go_wp2_with fail
          refine (HT2.out w1 b1).mono ?_
          rw [HY.out]
          rintro e w2 ⟨rfl, b2⟩
          have b12 := b1.trans b2
          have hb2 : b < w2.heap.size := by have := b2.size; omega
          clear p0 p1 p2 p3
          have hW1 : Ext w2 w2.drew := (Ext.refl _).drew
          have KS : Hid (∀ w', Ext w2 w' → (Ext wr w' ∧ w'.cell? ⟨b, o + k * 4, none⟩ = some (.int .i64 s.k) ∧ w'.cell? ⟨b, o + k * 4 + 1, none⟩ = some (.slice B s.ws.length c) ∧ w'.cell? ⟨b, o + k * 4 + 2, none⟩ = some (.int .i64 s.n) ∧ w'.cell? ⟨b, o + k * 4 + 3, none⟩ = some (.int .i64 s.y))) := fun w' h => ⟨b12.trans h, HP.out w' (b12.trans h)⟩
          go_wp2_with fail
          go_region_held3 (fun w' => Ext wr w' ∧ w'.cell? ⟨b, o + k * 4, none⟩ = some (.int .i64 s.k) ∧ w'.cell? ⟨b, o + k * 4 + 1, none⟩ = some (.slice B s.ws.length c) ∧ w'.cell? ⟨b, o + k * 4 + 2, none⟩ = some (.int .i64 s.n) ∧ w'.cell? ⟨b, o + k * 4 + 3, none⟩ = some (.int .i64 s.y))
            ((first | exact KS.out _ hW1 | exact KS.out _ (hW1.trans hbd) | exact KS.out _ ((hW1.trans ‹Ext w2.drew _›).trans hbd)))
            ((first | (go_at_call 13; refine (HM1.out _ (by first | exact b12.trans hW1 | exact b12.trans (hW1.trans hbd))).mono ?_; rw [← HMM.out]; rintro e wd ⟨rfl, hbd⟩) | (go_at_call 14; refine (HM2.out _ (by first | exact b12.trans hW1 | exact b12.trans (hW1.trans hbd))).mono ?_; rw [← HMM.out]; rintro e wd ⟨rfl, hbd⟩)))
          go_wp2_with fail
          go_roundw
          case rel => exact ⟨k + 1, by omega, by go_num, hE.trans (b12.trans ((hW1.trans ‹Ext w2.drew _›).trans hbd))⟩
          case measure => simp [intOf]; omega
        · obtain rfl : n = k := by omega
          go_wp2_with fail
          refine (HPW.out _ hE).mono ?_
          rw [HWF.out, HY0.out]
          rintro e w1 ⟨rfl, b1⟩
          go_wp2_with fail
          refine (HPL.out _ (hE.trans b1)).mono ?_
          rw [HY0.out]
          rintro e w2 ⟨rfl, b2⟩
          have E2 := (hE.trans b1).trans b2
          cases hst : stepN l with
          | none =>
            have HST := Lib.hid hst
            clear hst
            go_wp2_with fail
            refine (pstep_any l _ (by omega)).mono ?_
            rw [HST.out]
            rintro e w3 ⟨rfl, b3⟩
            have E3 := E2.trans b3
            obtain ⟨V1, hV1⟩ : ∃ W, W = w3.alloc (.cells #[.int .i64 0, .slice none 0 0, .int .i64 0, .int .i64 0] 30) := ⟨_, rfl⟩
            have EV1 : Ext w3 V1 := by rw [hV1]; exact (Ext.refl _).alloc _
            have hC1 : Hid (Has V1 w3.heap.size (.cells #[.int .i64 0, .slice none 0 0, .int .i64 0, .int .i64 0] 30)) := by show Has _ _ _; rw [hV1]; exact Has.new _ _
            have HV1 := Lib.hid hV1
            clear hV1
            go_wp2_with fail
            rw [← HV1.out]
            refine (rstep_any l _ (by omega)).mono ?_
            rw [HST.out]
            rintro e w4 ⟨rfl, b4⟩
            obtain ⟨V2, hV2⟩ : ∃ W, W = w4.alloc (.cells #[.int .i64 0, .slice none 0 0, .int .i64 0, .int .i64 0] 30) := ⟨_, rfl⟩
            have EV2 : Ext w4 V2 := by rw [hV2]; exact (Ext.refl _).alloc _
            have hC2 : Has V2 w4.heap.size (.cells #[.int .i64 0, .slice none 0 0, .int .i64 0, .int .i64 0] 30) := by rw [hV2]; exact Has.new _ _
            have E5 := (E3.trans EV1).trans (b4.trans EV2)
            have hD1 := hC1.out.ext (b4.trans EV2)
            have d0 : V2.cell? ⟨w3.heap.size, 0, none⟩ = some (.int .i64 0) := hD1.cell 0
            have d1 : V2.cell? ⟨w3.heap.size, 1, none⟩ = some (.slice none 0 0) := hD1.cell 1
            have d2 : V2.cell? ⟨w3.heap.size, 2, none⟩ = some (.int .i64 0) := hD1.cell 2
            have d3 : V2.cell? ⟨w3.heap.size, 3, none⟩ = some (.int .i64 0) := hD1.cell 3
            have dl := Has.lt hD1
            have f0 : V2.cell? ⟨w4.heap.size, 0, none⟩ = some (.int .i64 0) := hC2.cell 0
            have f1 : V2.cell? ⟨w4.heap.size, 1, none⟩ = some (.slice none 0 0) := hC2.cell 1
            have f2 : V2.cell? ⟨w4.heap.size, 2, none⟩ = some (.int .i64 0) := hC2.cell 2
            have f3 : V2.cell? ⟨w4.heap.size, 3, none⟩ = some (.int .i64 0) := hC2.cell 3
            have fl := Has.lt hC2
            have q1 := step_made V2 zeroS none 0 _ rfl (.inl rfl) (fun _ => rfl) (Nat.le_refl _)
            have q2 := step_made (V2.alloc (.cells #[.int .i64 0, .slice none 0 0, .int .i64 0, .int .i64 0] 30)) zeroS none 0 (V2.heap.size + 1) (by simp) (.inl rfl) (fun _ => rfl) (Nat.le_refl _)
            have Q1 := Lib.hid (StepsAt.ext q1 ((Ext.refl _).alloc (.cells #[.int .i64 0, .slice none 0 0, .int .i64 0, .int .i64 0] 30)))
            have Q2 := Lib.hid q2
            have E6 : Ext w ((V2.alloc (.cells #[.int .i64 0, .slice none 0 0, .int .i64 0, .int .i64 0] 30)).alloc (.cells #[.int .i64 0, .slice none 0 0, .int .i64 0, .int .i64 0] 30)) := (E5.alloc _).alloc _
            have HV2 := Lib.hid hV2
            clear hV2 hC2 hD1 q1 q2
            go_upto_region 14 with (fail)
            rw [← HV2.out]
            go_wp2_with fail
            refine (same48_any (some ⟨V2.heap.size, 0, none⟩) (some ⟨V2.heap.size + 1, 0, none⟩) 1 1 [zeroS] _ Q1.out Q2.out (by simp) (by decide)).mono ?_
            rintro e w5 ⟨rfl, b5⟩
            have E7 := E6.trans b5
            go_wp2_with fail
            refine (awake48 _ (hM.ext E7)).mono ?_
            rintro e w6 ⟨rfl, b6⟩
            go_wp2_with fail
            go_ret
            exact Ret.mk rfl (E7.trans b6)
          | some x =>
            have HST := Lib.hid hst
            have HXW := Lib.hid (step_ws hst (by omega))
            clear hst
            go_wp2_with fail
            refine (pstep_any l _ (by omega)).mono ?_
            rw [HST.out]
            rintro e w3 ⟨B, c, rfl, pt, pn, pc, b3⟩
            have E3 := E2.trans b3
            obtain ⟨V1, hV1⟩ : ∃ W, W = w3.alloc (.cells #[.int .i64 x.k, .slice B x.ws.length c, .int .i64 x.n, .int .i64 x.y] 30) := ⟨_, rfl⟩
            have EV1 : Ext w3 V1 := by rw [hV1]; exact (Ext.refl _).alloc _
            have hC1 : Hid (Has V1 w3.heap.size (.cells #[.int .i64 x.k, .slice B x.ws.length c, .int .i64 x.n, .int .i64 x.y] 30)) := by show Has _ _ _; rw [hV1]; exact Has.new _ _
            have HV1 := Lib.hid hV1
            clear hV1
            go_wp2_with (rw [← HV1.out])
            refine (rstep_any l _ (by omega)).mono ?_
            rw [HST.out]
            rintro e w4 ⟨B2, c2, rfl, pt2, pn2, pc2, b4⟩
            obtain ⟨V2, hV2⟩ : ∃ W, W = w4.alloc (.cells #[.int .i64 x.k, .slice B2 x.ws.length c2, .int .i64 x.n, .int .i64 x.y] 30) := ⟨_, rfl⟩
            have EV2 : Ext w4 V2 := by rw [hV2]; exact (Ext.refl _).alloc _
            have hC2 : Has V2 w4.heap.size (.cells #[.int .i64 x.k, .slice B2 x.ws.length c2, .int .i64 x.n, .int .i64 x.y] 30) := by rw [hV2]; exact Has.new _ _
            have E5 := (E3.trans EV1).trans (b4.trans EV2)
            have hD1 := hC1.out.ext (b4.trans EV2)
            have d0 : V2.cell? ⟨w3.heap.size, 0, none⟩ = some (.int .i64 x.k) := hD1.cell 0
            have d1 : V2.cell? ⟨w3.heap.size, 1, none⟩ = some (.slice B x.ws.length c) := hD1.cell 1
            have d2 : V2.cell? ⟨w3.heap.size, 2, none⟩ = some (.int .i64 x.n) := hD1.cell 2
            have d3 : V2.cell? ⟨w3.heap.size, 3, none⟩ = some (.int .i64 x.y) := hD1.cell 3
            have dl := Has.lt hD1
            have f0 : V2.cell? ⟨w4.heap.size, 0, none⟩ = some (.int .i64 x.k) := hC2.cell 0
            have f1 : V2.cell? ⟨w4.heap.size, 1, none⟩ = some (.slice B2 x.ws.length c2) := hC2.cell 1
            have f2 : V2.cell? ⟨w4.heap.size, 2, none⟩ = some (.int .i64 x.n) := hC2.cell 2
            have f3 : V2.cell? ⟨w4.heap.size, 3, none⟩ = some (.int .i64 x.y) := hC2.cell 3
            have fl := Has.lt hC2
            have q1 := step_made V2 x B c _ rfl (TxtAt.ext pt.1 ((EV1.trans b4).trans EV2)) pn pc
            have q2 := step_made (V2.alloc (.cells #[.int .i64 x.k, .slice B x.ws.length c, .int .i64 x.n, .int .i64 x.y] 30)) x B2 c2 (V2.heap.size + 1) (by simp) ((TxtAt.ext pt2.1 EV2).ext ((Ext.refl _).alloc _)) pn2 pc2
            have Q1 := Lib.hid (StepsAt.ext q1 ((Ext.refl _).alloc (.cells #[.int .i64 x.k, .slice B2 x.ws.length c2, .int .i64 x.n, .int .i64 x.y] 30)))
            have Q2 := Lib.hid q2
            have E6 : Ext w ((V2.alloc (.cells #[.int .i64 x.k, .slice B x.ws.length c, .int .i64 x.n, .int .i64 x.y] 30)).alloc (.cells #[.int .i64 x.k, .slice B2 x.ws.length c2, .int .i64 x.n, .int .i64 x.y] 30)) := (E5.alloc _).alloc _
            have HV2 := Lib.hid hV2
            clear hV2 hC2 hD1 q1 q2 pt pn pc pt2 pn2 pc2
            go_upto_region 14 with (rw [← HV2.out])
            go_wp2_with fail
            refine (same48_any (some ⟨V2.heap.size, 0, none⟩) (some ⟨V2.heap.size + 1, 0, none⟩) 1 1 [x] _ Q1.out Q2.out (by simp) (by intro s hs; rw [List.mem_singleton.1 hs]; exact HXW.out)).mono ?_
            rintro e w5 ⟨rfl, b5⟩
            have E7 := E6.trans b5
            go_wp2_with fail
            refine (awake48 _ (hM.ext E7)).mono ?_
            rintro e w6 ⟨rfl, b6⟩
            go_wp2_with fail
            go_ret
            exact Ret.mk rfl (E7.trans b6)

    · have h3i : (300 : Int) < (l.length : Int) := by omega
      clear h3 hfew
      go_enter Tryd.func3, Tryd.ntmps3
      go_wp2_with fail
      refine (HFE.out).mono ?_
      clear HFE
      rintro e w0 ⟨rfl, b0⟩
      go_wp2_with fail
      refine (awake48 _ (hM.ext b0)).mono ?_
      rintro e w3 ⟨rfl, b3⟩
      go_wp2_with fail
      go_ret
      exact Ret.mk rfl (b0.trans b3)
set_option maxRecDepth 100000 in
theorem scriptTells_walk {H : Type} {enc : TypeId × Value → H} (W : World) (base : Nat) (v0 v1 : Value) (d0 d1 : DataW H) (p0 p1 : List MemPlace)
    (hs : W.ShapedOpen Tryd.prog) (hl : laidMetH Tryd.prog Rows.scriptTellsRow.laid W)
    (k0 : Value.okWide Tryd.prog W .any base 22 v0) (h0 : DataW.Trod enc Tryd.prog W 0 (fun _ => true) true 22 v0 d0 p0)
    (k1 : Value.okWide Tryd.prog W .any base 9 v1) (h1 : DataW.Trod enc Tryd.prog W 0 (fun _ => true) true 9 v1 d1 p1)
    : Calls Tryd.prog 3 #[v0, v1] W (Ret W (.bool true)) := by
  obtain ⟨a1, rfl, rfl, rfl, w1⟩ := Go.ChangeMaps.open_string Tryd.underlying9 k1 h1
  obtain ⟨A, l, cap, rfl, hat, _, hlc, hcm, hI⟩ := open_steps k0 h0
  rw [← bs_self a1]
  unfold maxLen at hcm
  exact scriptTells_any A cap l _ W hat (by omega) hI (HasMax.of hs)
end Go.Proofs.YtanaifobmkjpaaaDoor
