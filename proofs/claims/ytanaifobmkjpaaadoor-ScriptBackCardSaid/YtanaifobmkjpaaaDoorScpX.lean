/- Layer 48 (script): the reference's Step. -/
import Derived.Test.YtanaifobmkjpaaaDoorScpV
namespace Go.Proofs.YtanaifobmkjpaaaDoor
open Go.ChangeShapes Go.WideShapes Go.ChangeAt Go.RowKit

set_option maxRecDepth 100000 in
set_option maxHeartbeats 8000000 in
theorem rstep_none (line : Txt) (w : World) (hlen : line.length ≤ 100000) (h : wordsN line = none ∨ wordsN line = some []) : Calls Tryd.prog 18 #[.string (bs line)] w (StR w (stepN line)) := by
  have E0 : Ext w (w.alloc (.cells ZS 30)) := (Ext.refl _).alloc _
  have H0 : Has (w.alloc (.cells ZS 30)) w.heap.size (.cells ZS 30) := Has.new _ _
  rcases h with h | h
  · have HF := Lib.hid (step_none h)
    have HW := Lib.hid h
    clear h
    go_enter Tryd.func18, Tryd.ntmps18
    go_wp2_with fail
    refine (rwords_any line _ hlen).mono ?_
    rintro e w1 (⟨_, rfl, hE1⟩ | ⟨L1, v1, h1, _⟩)
    rotate_left
    · rw [HW.out] at h1; cases h1
    have H1 := H0.ext hE1
    have E1 := E0.trans hE1
    obtain ⟨z0, z1, z2⟩ : (∀ i, w1.cell? ⟨w.heap.size, i, none⟩ = ZS[i]?) ∧ (∀ i, w1.frozen? ⟨w.heap.size, i, none⟩ = false) ∧ w.heap.size < w1.heap.size := ⟨fun i => H1.cell i, fun i => (Has.free H1 i).trans (by simp), Has.lt H1⟩
    have y0 : w1.cell? ⟨w.heap.size, 0, none⟩ = some (.int .i64 0) := z0 0
    have y1 : w1.cell? ⟨w.heap.size, 1, none⟩ = some (.slice none 0 0) := z0 1
    have y2 : w1.cell? ⟨w.heap.size, 2, none⟩ = some (.int .i64 0) := z0 2
    have y3 : w1.cell? ⟨w.heap.size, 3, none⟩ = some (.int .i64 0) := z0 3
    clear z0
    go_wp2_with fail
    refine bodyPost_ret (resS _ rfl _ _ w.heap.size ZS (.int .i64 2) rfl rfl (Has.put4 H1 _ _ _ _) (step_size _ _ _ _)) rfl ?_
    exact StR.bad HF rfl (E1.put4 (Nat.le_refl _) _ _ _ _)
  · have HF : Hid (stepN line = none) := step_some h
    have HW := Lib.hid h
    clear h
    go_enter Tryd.func18, Tryd.ntmps18
    go_wp2_with fail
    refine (rwords_any line _ hlen).mono ?_
    rintro e w1 (⟨h1, _⟩ | ⟨L1, v1, h1, rfl, hO1, hE1⟩)
    · rw [HW.out] at h1; cases h1
    rw [HW.out] at h1
    obtain rfl : [] = L1 := Option.some.inj h1
    obtain ⟨A1, k1, rfl, _, _, t1, _⟩ := hO1.at_
    clear hO1 t1 h1
    have H1 := H0.ext hE1
    have E1 := E0.trans hE1
    obtain ⟨z0, z1, z2⟩ : (∀ i, w1.cell? ⟨w.heap.size, i, none⟩ = ZS[i]?) ∧ (∀ i, w1.frozen? ⟨w.heap.size, i, none⟩ = false) ∧ w.heap.size < w1.heap.size := ⟨fun i => H1.cell i, fun i => (Has.free H1 i).trans (by simp), Has.lt H1⟩
    have y0 : w1.cell? ⟨w.heap.size, 0, none⟩ = some (.int .i64 0) := z0 0
    have y1 : w1.cell? ⟨w.heap.size, 1, none⟩ = some (.slice none 0 0) := z0 1
    have y2 : w1.cell? ⟨w.heap.size, 2, none⟩ = some (.int .i64 0) := z0 2
    have y3 : w1.cell? ⟨w.heap.size, 3, none⟩ = some (.int .i64 0) := z0 3
    clear z0
    go_wp2_with fail
    refine bodyPost_ret (resS _ rfl _ _ w.heap.size ZS (.int .i64 2) rfl rfl (Has.put4 H1 _ _ _ _) (step_size _ _ _ _)) rfl ?_
    exact StR.bad HF rfl (E1.put4 (Nat.le_refl _) _ _ _ _)
theorem one_len {k : Int} {l : List Txt} (h : l.length ≠ 1) : oneS k l = none := by
  rcases l with _ | ⟨x, _ | ⟨z, r⟩⟩
  · rfl
  · exact absurd rfl h
  · rfl
theorem two_len {l : List Txt} (h : l.length ≠ 2) : twoS l = none := by
  rcases l with _ | ⟨x, _ | ⟨z, _ | ⟨y, r⟩⟩⟩
  · rfl
  · rfl
  · exact absurd rfl h
  · rfl
set_option maxRecDepth 100000 in
set_option maxHeartbeats 16000000 in
theorem rstep_run (line : Txt) (x0 : Txt) (l : List Txt) (w : World) (hlen : line.length ≤ 100000) (h : wordsN line = some (x0 :: l)) (hx : x0 = wRun) : Calls Tryd.prog 18 #[.string (bs line)] w (StR w (stepN line)) := by
  have E0 : Ext w (w.alloc (.cells ZS 30)) := (Ext.refl _).alloc _
  have H0 : Has (w.alloc (.cells ZS 30)) w.heap.size (.cells ZS 30) := Has.new _ _
  have HF := Lib.hid (step_some h)
  have HW := Lib.hid h
  have hll := words_len h
  have HMM := Lib.hid (words_mem h)
  clear h
  go_enter Tryd.func18, Tryd.ntmps18
  go_wp2_with fail
  refine (rwords_any line _ hlen).mono ?_
  rintro e w1 (⟨h1, _⟩ | ⟨L1, v1, h1, rfl, hO1, hE1⟩)
  · rw [HW.out] at h1; cases h1
  rw [HW.out] at h1
  obtain rfl : (x0 :: l) = L1 := Option.some.inj h1
  obtain ⟨A1, k1, rfl, hk1, _, t1, _⟩ := hO1.at_
  obtain ⟨bl, o, rfl, hbl, hx0⟩ := t1.at_ (Ext.refl _) 0 (by simp)
  have hx0 : w1.cell? ⟨bl, o, none⟩ = some (.string (bs x0)) := hx0
  have HX0 := Lib.hid hx0
  have H1 := H0.ext hE1
  have E1 := E0.trans hE1
  have hw1 : w.heap.size < w1.heap.size := Has.lt H1
  have hk1 : l.length + 1 ≤ k1 := by simpa using hk1
  have hn : (x0 :: l).length = l.length + 1 := by simp
  obtain ⟨X, hsl, hX⟩ := from_oneS bl o (l.length + 1) l.length k1 rfl hk1
  have HX : Hid (0 < (l : List Txt).length → X = ⟨bl, o + 1, none⟩) := fun h => hX (by simpa using h)
  rw [hn]
  have T1 := Lib.hid t1
  have hrl : (l.length : Int) ≤ 100001 := by simp at hll; omega
  have hbo : w.heap.size < bl := by have := (World.ownsRow.lt hO1 bl rfl).1; simp at this; omega
  have ez : ((l.length : Int) + 1 == 0) = false := by rw [beq_eq_false_iff_ne]; omega
  have TY := Lib.hid (own_ty hO1)
  clear hO1 t1 h1 hn hll hX
  obtain ⟨u1, u2, u3, u4, u5⟩ := word_tests x0
  rw [show (x0 == wRun) = true from by rw [hx]; decide] at u1
  rw [show (x0 == wMend) = false from by rw [hx]; decide] at u5
  rw [show (x0 == wTick) = false from by rw [hx]; decide] at u2
  rw [show (x0 == wAs) = false from by rw [hx]; decide] at u3
  rw [show (x0 == wFail) = false from by rw [hx]; decide] at u4
  have mu2 : ((bs x0).toList != [116, 105, 99, 107]) = true := by show (!_) = _; rw [u2]; rfl
  have mu3 : ((bs x0).toList != [97, 115]) = true := by show (!_) = _; rw [u3]; rfl
  have mu4 : ((bs x0).toList != [102, 97, 105, 108]) = true := by show (!_) = _; rw [u4]; rfl
  have mu5 : ((bs x0).toList != [109, 101, 110, 100]) = true := by show (!_) = _; rw [u5]; rfl
  have HXX := Lib.hid hx
  clear hx
  go_upto_region 7 with (fail)
  clear hx0
  obtain ⟨V3, hV3⟩ : ∃ W, W = w1.alloc (.cells #[.int .i64 1, .slice (some X) l.length (k1 - 1), .int .i64 0, .int .i64 0] 30) := ⟨_, rfl⟩
  have hB3 : Has V3 w1.heap.size (.cells #[.int .i64 1, .slice (some X) l.length (k1 - 1), .int .i64 0, .int .i64 0] 30) := by rw [hV3]; exact Has.new _ _
  have E13 : Ext w1 V3 := by rw [hV3]; exact (Ext.refl _).alloc _
  have hR3 : Has V3 w.heap.size (.cells ZS 30) := H1.ext E13
  have HV3 := Lib.hid hV3
  clear hV3
  have s0 : V3.cell? ⟨w1.heap.size, 0, none⟩ = some (.int .i64 1) := hB3.cell 0
  have s1 : V3.cell? ⟨w1.heap.size, 1, none⟩ = some (.slice (some X) l.length (k1 - 1)) := hB3.cell 1
  have s2 : V3.cell? ⟨w1.heap.size, 2, none⟩ = some (.int .i64 (0)) := hB3.cell 2
  have s3 : V3.cell? ⟨w1.heap.size, 3, none⟩ = some (.int .i64 (0)) := hB3.cell 3
  have sl := Has.lt hB3
  have HB3 := Lib.hid hB3
  clear hB3
  go_wp2_with (rw [← HV3.out])
  have hmy := rmay_any 1 (0) (0) l (some X) (k1 - 1) V3 (tail_at (T1.out.ext E13) HX.out) (by omega) (fun q hq => by have := HMM.out q (List.mem_cons_of_mem _ hq); omega)
  have hchk : Hid (stepN line = chkS ⟨1, l, 0, 0⟩) := by show _ = _; rw [HF.out, HXX.out, stepW_run]
  cases hm : mayB ⟨1, l, 0, 0⟩ with
  | false =>
    rw [hm] at hmy
    refine hmy.mono ?_
    clear hmy
    have hf : Hid (stepN line = none) := by show _ = _; rw [hchk.out]; exact chkS_no hm
    clear hm
    rintro e w3 ⟨rfl, b3⟩
    have H3 := hR3.ext b3
    have E3 := (E1.trans E13).trans b3
    clear s0 s1 s2 s3 sl
    obtain ⟨z0, z1, z2⟩ : (∀ i, w3.cell? ⟨w.heap.size, i, none⟩ = ZS[i]?) ∧ (∀ i, w3.frozen? ⟨w.heap.size, i, none⟩ = false) ∧ w.heap.size < w3.heap.size := ⟨fun i => H3.cell i, fun i => (Has.free H3 i).trans (by simp), Has.lt H3⟩
    have y0 : w3.cell? ⟨w.heap.size, 0, none⟩ = some (.int .i64 0) := z0 0
    have y1 : w3.cell? ⟨w.heap.size, 1, none⟩ = some (.slice none 0 0) := z0 1
    have y2 : w3.cell? ⟨w.heap.size, 2, none⟩ = some (.int .i64 0) := z0 2
    have y3 : w3.cell? ⟨w.heap.size, 3, none⟩ = some (.int .i64 0) := z0 3
    clear z0
    go_wp2_with fail
    refine bodyPost_ret (resS _ rfl _ _ w.heap.size ZS (.int .i64 2) rfl rfl (Has.put4 H3 _ _ _ _) (step_size _ _ _ _)) rfl ?_
    exact StR.bad hf rfl (E3.put4 (Nat.le_refl _) _ _ _ _)
  | true =>
    rw [hm] at hmy
    refine hmy.mono ?_
    clear hmy
    have hf : Hid (stepN line = some ⟨1, l, 0, 0⟩) := by show _ = _; rw [hchk.out]; exact chkS_yes hm
    clear hm
    rintro e w3 ⟨rfl, b3⟩
    have H3 := hR3.ext b3
    have E3 := (E1.trans E13).trans b3
    have r0 : w3.cell? ⟨w1.heap.size, 0, none⟩ = some (.int .i64 1) := (b3.cell sl).trans s0
    have r1 : w3.cell? ⟨w1.heap.size, 1, none⟩ = some (.slice (some X) l.length (k1 - 1)) := (b3.cell sl).trans s1
    have r2 : w3.cell? ⟨w1.heap.size, 2, none⟩ = some (.int .i64 (0)) := (b3.cell sl).trans s2
    have r3 : w3.cell? ⟨w1.heap.size, 3, none⟩ = some (.int .i64 (0)) := (b3.cell sl).trans s3
    clear s0 s1 s2 s3 sl
    obtain ⟨z0, z1, z2⟩ : (∀ i, w3.cell? ⟨w.heap.size, i, none⟩ = ZS[i]?) ∧ (∀ i, w3.frozen? ⟨w.heap.size, i, none⟩ = false) ∧ w.heap.size < w3.heap.size := ⟨fun i => H3.cell i, fun i => (Has.free H3 i).trans (by simp), Has.lt H3⟩
    have y0 : w3.cell? ⟨w.heap.size, 0, none⟩ = some (.int .i64 0) := z0 0
    have y1 : w3.cell? ⟨w.heap.size, 1, none⟩ = some (.slice none 0 0) := z0 1
    have y2 : w3.cell? ⟨w.heap.size, 2, none⟩ = some (.int .i64 0) := z0 2
    have y3 : w3.cell? ⟨w.heap.size, 3, none⟩ = some (.int .i64 0) := z0 3
    clear z0
    go_wp2_with fail
    refine bodyPost_ret (resS _ rfl _ _ w.heap.size _ (.int .i64 0) rfl rfl (Has.put4 H3 _ _ _ _) (step_size _ _ _ _)) rfl ?_
    exact StR.good (A := some X) (cap := k1 - 1) hf rfl (tail_b (txt_put4 (T1.out.ext (E13.trans b3)) (Nat.ne_of_gt hbo) _ _ _ _) HX.out (ty_put4 (ty_ext TY.out (E13.trans b3)) (Nat.ne_of_gt hbo) _ _ _ _)) (fun h => by cases h) (by show l.length ≤ k1 - 1; omega) (E3.put4 (Nat.le_refl _) _ _ _ _)
end Go.Proofs.YtanaifobmkjpaaaDoor
