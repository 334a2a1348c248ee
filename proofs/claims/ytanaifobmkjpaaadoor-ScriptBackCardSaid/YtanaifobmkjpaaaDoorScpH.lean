/- Layer 48 (script): awake. -/
import Derived.Test.YtanaifobmkjpaaaDoorScpG
namespace Go.Proofs.YtanaifobmkjpaaaDoor
open Go.ChangeShapes Go.WideShapes Go.ChangeAt Go.RowKit

theorem aw_step : stepN [102, 97, 105, 108, 32, 51, 32, 49, 57] = some ⟨4, [], 3, 19⟩ := by
  rw [step_some (show wordsN [102, 97, 105, 108, 32, 51, 32, 49, 57] = some [wFail, [51], [49, 57]] by decide), stepW_fail]
  show (pN [51]).bind _ = _
  rw [pN_yes (n := 3) (by unfold I64; decide) (by decide)]
  show (pN [49, 57]).bind _ = _
  rw [pN_yes (n := 19) (by unfold I64; decide) (by decide)]
  exact chkS_yes rfl
theorem aw_tick : stepN [116, 105, 99, 107, 32, 53] = some ⟨2, [], 5, 0⟩ := by
  rw [step_some (show wordsN [116, 105, 99, 107, 32, 53] = some [wTick, [53]] by decide), stepW_tick]
  show (pN [53]).bind _ = _
  rw [pN_yes (n := 5) (by unfold I64; decide) (by decide)]
  exact chkS_yes rfl
theorem aw_run : stepN [114, 117, 110, 32, 116, 114, 97, 115, 104, 32, 39, 47, 97, 32, 98, 39] = some ⟨1, [[116, 114, 97, 115, 104], [47, 97, 32, 98]], 0, 0⟩ := by
  rw [step_some (show wordsN [114, 117, 110, 32, 116, 114, 97, 115, 104, 32, 39, 47, 97, 32, 98, 39] = some [wRun, [116, 114, 97, 115, 104], [47, 97, 32, 98]] by decide), stepW_run]
  exact chkS_yes rfl
theorem step_mend : stepN wMend = some ⟨5, [], 0, 0⟩ := by
  rw [step_some (show wordsN wMend = some [wMend] by decide), stepW_mend, if_pos rfl]
theorem aw_mend1 : stepN [109, 101, 110, 100, 32, 49] = none := by
  rw [step_some (show wordsN [109, 101, 110, 100, 32, 49] = some [wMend, [49]] by decide), stepW_mend, if_neg (by decide)]
theorem aw_parse1 : parseS [35, 32, 120, 10, 10, 114, 117, 110, 32, 116, 114, 97, 115, 104, 32, 39, 47, 97, 32, 98, 39, 10, 116, 105, 99, 107, 32, 53, 10] = .inl [⟨1, [[116, 114, 97, 115, 104], [47, 97, 32, 98]], 0, 0⟩, ⟨2, [], 5, 0⟩] := by
  unfold parseS
  rw [parseF_skip (a := [35, 32, 120]) (r := [10, 114, 117, 110, 32, 116, 114, 97, 115, 104, 32, 39, 47, 97, 32, 98, 39, 10, 116, 105, 99, 107, 32, 53, 10]) (by decide) (by decide)]
  show parseF (28 + 1) _ _ _ = _
  rw [parseF_skip (a := []) (r := [114, 117, 110, 32, 116, 114, 97, 115, 104, 32, 39, 47, 97, 32, 98, 39, 10, 116, 105, 99, 107, 32, 53, 10]) (by decide) (by decide)]
  show parseF (27 + 1) _ _ _ = _
  rw [parseF_step (a := [114, 117, 110, 32, 116, 114, 97, 115, 104, 32, 39, 47, 97, 32, 98, 39]) (r := [116, 105, 99, 107, 32, 53, 10]) (by decide) (by decide) aw_run (by decide)]
  show parseF (26 + 1) _ _ _ = _
  rw [parseF_step (a := [116, 105, 99, 107, 32, 53]) (r := []) (by decide) (by decide) aw_tick (by decide), parseF_nil]
  rfl
theorem aw_parse2 : parseS [109, 101, 110, 100, 10, 109, 101, 110, 100, 32, 49, 10] = .inr (2, 2) := by
  unfold parseS
  rw [parseF_step (a := wMend) (r := [109, 101, 110, 100, 32, 49, 10]) (by decide) (by decide) step_mend (by decide)]
  show parseF (11 + 1) _ _ _ = _
  rw [parseF_bad (a := [109, 101, 110, 100, 32, 49]) (r := []) (by decide) (by decide) aw_mend1]
theorem aw_text : textV ⟨1, [[108, 105, 115, 116], [97, 32, 98]], 0, 0⟩ = .tuple #[.string (bs [114, 117, 110, 32, 108, 105, 115, 116, 32, 39, 97, 32, 98, 39]), .int .i64 0] := by
  rw [textV_yes rfl, show lineN (wordsS ⟨1, [[108, 105, 115, 116], [97, 32, 98]], 0, 0⟩) = [114, 117, 110, 32, 108, 105, 115, 116, 32, 39, 97, 32, 98, 39] by decide]
/-- A step in a fresh block. -/
theorem step_made (w : World) (s : StepN) (B : Option Addr) (c n : Nat) (hn : w.heap.size = n) (ht : TxtAt w B s.ws) (hB : B = none → c = 0) (hc : s.ws.length ≤ c) : StepsAt (w.alloc (.cells #[.int .i64 s.k, .slice B s.ws.length c, .int .i64 s.n, .int .i64 s.y] 30)) (some ⟨n, 0, none⟩) [s] := by
  subst hn
  have h := Has.new w (.cells #[.int .i64 s.k, .slice B s.ws.length c, .int .i64 s.n, .int .i64 s.y] 30)
  refine .inr ⟨w.heap.size, 0, rfl, by simp, fun k hk => ?_⟩
  have hk0 : k = 0 := by simp at hk; omega
  subst hk0
  exact ⟨B, c, ⟨h.cell 0, h.cell 1, h.cell 2, h.cell 3⟩, ht.ext ((Ext.refl _).alloc _), hB, hc⟩
set_option maxRecDepth 100000 in
set_option maxHeartbeats 8000000 in
theorem awake48 (w : World) (hM : HasMax w) : Calls Tryd.prog 10 #[] w (Ret w (.bool true)) := by
  have S1 := Lib.hid aw_step
  have S2 := Lib.hid aw_parse1
  have S3 := Lib.hid aw_parse2
  have S4 := Lib.hid aw_text
  go_enter Tryd.func10, Tryd.ntmps10
  go_wp2_with fail
  refine (pstep_any [102, 97, 105, 108, 32, 51, 32, 49, 57] w (by decide)).mono ?_
  rw [S1.out]
  rintro e w1 ⟨B, c, rfl, pt, pn, pc, b1⟩
  obtain ⟨V, hV⟩ : ∃ V, V = w1.alloc (.cells #[.int .i64 4, .slice B 0 c, .int .i64 3, .int .i64 19] 30) := ⟨_, rfl⟩
  have EV : Ext w V := by rw [hV]; exact b1.alloc _
  have hC : Has V w1.heap.size (.cells #[.int .i64 4, .slice B 0 c, .int .i64 3, .int .i64 19] 30) := by rw [hV]; exact Has.new _ _
  have HC := Lib.hid hC
  have HV := Lib.hid hV
  clear hV hC
  go_wp2_with (rw [← HV.out])
  refine (pparseS_any [35, 32, 120, 10, 10, 114, 117, 110, 32, 116, 114, 97, 115, 104, 32, 39, 47, 97, 32, 98, 39, 10, 116, 105, 99, 107, 32, 53, 10] V (hM.ext EV) (by decide)).mono ?_
  rw [S2.out]
  rintro e w2 ⟨v2, rfl, hO2, b2⟩
  obtain ⟨A2, k2, rfl, _, _, _, _⟩ := hO2.at_
  clear hO2
  have E2 := EV.trans b2
  go_wp2_with fail
  refine (pparseS_any [109, 101, 110, 100, 10, 109, 101, 110, 100, 32, 49, 10] w2 (hM.ext E2) (by decide)).mono ?_
  rw [S3.out]
  rintro e w3 ⟨rfl, b3⟩
  have E3 := E2.trans b3
  go_wp2_with fail
  refine (ptext_any 1 0 0 [[108, 105, 115, 116], [97, 32, 98]] (some ⟨w3.heap.size, 0, none⟩) 2 _ (made_atS w3 _ _ rfl) (fun h => by cases h) (by decide) (by decide) ((hM.ext E3).ext ((Ext.refl _).alloc _)) (by unfold I64; decide) (by unfold I64; decide)).mono ?_
  rw [S4.out]
  rintro e w4 ⟨rfl, b4⟩
  have E34 : Ext w3 w4 := ((Ext.refl w3).alloc _).trans b4
  have E4 := E3.trans E34
  have hC4 := HC.out.ext ((b2.trans b3).trans E34)
  have c0 : w4.cell? ⟨w1.heap.size, 0, none⟩ = some (.int .i64 4) := hC4.cell 0
  have c1 : w4.cell? ⟨w1.heap.size, 1, none⟩ = some (.slice B 0 c) := hC4.cell 1
  have c2 : w4.cell? ⟨w1.heap.size, 2, none⟩ = some (.int .i64 3) := hC4.cell 2
  have c3 : w4.cell? ⟨w1.heap.size, 3, none⟩ = some (.int .i64 19) := hC4.cell 3
  have cl := Has.lt hC4
  have q1 := step_made w4 ⟨4, [], 3, 19⟩ B c _ rfl (.inl rfl) pn pc
  have q2 := step_made (w4.alloc (.cells #[.int .i64 4, .slice B 0 c, .int .i64 3, .int .i64 19] 30)) ⟨4, [], 3, 19⟩ none 0 (w4.heap.size + 1) (by simp) (.inl rfl) (fun _ => rfl) (Nat.le_refl _)
  have Q1 := Lib.hid (StepsAt.ext q1 ((Ext.refl _).alloc (.cells #[.int .i64 4, .slice none 0 0, .int .i64 3, .int .i64 19] 30)))
  have Q2 := Lib.hid q2
  have E5 : Ext w ((w4.alloc (.cells #[.int .i64 4, .slice B 0 c, .int .i64 3, .int .i64 19] 30)).alloc (.cells #[.int .i64 4, .slice none 0 0, .int .i64 3, .int .i64 19] 30)) := (E4.alloc _).alloc _
  have hb : (bs [114, 117, 110, 32, 108, 105, 115, 116, 32, 39, 97, 32, 98, 39]).toList = [114, 117, 110, 32, 108, 105, 115, 116, 32, 39, 97, 32, 98, 39] := bs_toList _
  clear q1 q2 hC4 pn pc pt
  go_wp2_with fail
  refine (same48_any (some ⟨w4.heap.size, 0, none⟩) (some ⟨w4.heap.size + 1, 0, none⟩) 1 1 [⟨4, [], 3, 19⟩] _ Q1.out Q2.out (by decide) (by decide)).mono ?_
  rintro e w5 ⟨rfl, b5⟩
  go_wp2_with fail
  go_ret
  exact Ret.mk rfl (E5.trans b5)
end Go.Proofs.YtanaifobmkjpaaaDoor
