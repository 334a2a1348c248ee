/- Layer 48 (script): the reference's Step of words too many or too few. -/
import Derived.Test.YtanaifobmkjpaaaDoorScpX
namespace Go.Proofs.YtanaifobmkjpaaaDoor
open Go.ChangeShapes Go.WideShapes Go.ChangeAt Go.RowKit

set_option maxRecDepth 100000 in
set_option maxHeartbeats 16000000 in
theorem rstep_tick_len (line : Txt) (x0 : Txt) (l : List Txt) (w : World) (hlen : line.length ≤ 100000) (h : wordsN line = some (x0 :: l)) (hx : x0 = wTick) (hl : l.length ≠ 1) : Calls Tryd.prog 18 #[.string (bs line)] w (StR w (stepN line)) := by
  have E0 : Ext w (w.alloc (.cells ZS 30)) := (Ext.refl _).alloc _
  have H0 : Has (w.alloc (.cells ZS 30)) w.heap.size (.cells ZS 30) := Has.new _ _
  have HF := Lib.hid (step_some h)
  have HW := Lib.hid h
  have hll := words_len h
  have HMM := Lib.hid (words_mem h)
  clear h
  go_enter Tryd.func18, Tryd.ntmps18
  go_wp2_with fail
  refine (rwords_any line _ hlen).mono ?_
  rintro e w1 (⟨h1, _⟩ | ⟨L1, v1, h1, rfl, hO1, hE1⟩)
  · rw [HW.out] at h1; cases h1
  rw [HW.out] at h1
  obtain rfl : (x0 :: l) = L1 := Option.some.inj h1
  obtain ⟨A1, k1, rfl, hk1, _, t1, _⟩ := hO1.at_
  obtain ⟨bl, o, rfl, hbl, hx0⟩ := t1.at_ (Ext.refl _) 0 (by simp)
  have hx0 : w1.cell? ⟨bl, o, none⟩ = some (.string (bs x0)) := hx0
  have HX0 := Lib.hid hx0
  have H1 := H0.ext hE1
  have E1 := E0.trans hE1
  have hw1 : w.heap.size < w1.heap.size := Has.lt H1
  have hk1 : l.length + 1 ≤ k1 := by simpa using hk1
  have hn : (x0 :: l).length = l.length + 1 := by simp
  obtain ⟨X, hsl, hX⟩ := from_oneS bl o (l.length + 1) l.length k1 rfl hk1
  have HX : Hid (0 < (l : List Txt).length → X = ⟨bl, o + 1, none⟩) := fun h => hX (by simpa using h)
  rw [hn]
  have T1 := Lib.hid t1
  have hrl : (l.length : Int) ≤ 100001 := by simp at hll; omega
  have hbo : w.heap.size < bl := by have := (World.ownsRow.lt hO1 bl rfl).1; simp at this; omega
  have ez : ((l.length : Int) + 1 == 0) = false := by rw [beq_eq_false_iff_ne]; omega
  have TY := Lib.hid (own_ty hO1)
  clear hO1 t1 h1 hn hll hX
  obtain ⟨u1, u2, u3, u4, u5⟩ := word_tests x0
  rw [show (x0 == wRun) = false from by rw [hx]; decide] at u1
  rw [show (x0 == wMend) = false from by rw [hx]; decide] at u5
  rw [show (x0 == wTick) = true from by rw [hx]; decide] at u2
  rw [show (x0 == wAs) = false from by rw [hx]; decide] at u3
  rw [show (x0 == wFail) = false from by rw [hx]; decide] at u4
  have mu2 : ((bs x0).toList != [116, 105, 99, 107]) = false := by show (!_) = _; rw [u2]; rfl
  have mu3 : ((bs x0).toList != [97, 115]) = true := by show (!_) = _; rw [u3]; rfl
  have mu4 : ((bs x0).toList != [102, 97, 105, 108]) = true := by show (!_) = _; rw [u4]; rfl
  have mu5 : ((bs x0).toList != [109, 101, 110, 100]) = true := by show (!_) = _; rw [u5]; rfl
  have HXX := Lib.hid hx
  clear hx
  have HFN : Hid (stepN line = none) := by show _ = _; rw [HF.out, HXX.out, stepW_tick]; exact one_len hl
  have hln : ((l.length : Int) + 1 != 2) = true := by rw [bne_iff_ne]; omega
  clear hl
  obtain ⟨V1, hV1⟩ : ∃ W, W = w1.alloc (.cells #[.string ⟨#[]⟩, .string ⟨#[]⟩, .string ⟨#[116, 105, 99, 107]⟩, .string ⟨#[97, 115]⟩, .string ⟨#[102, 97, 105, 108]⟩, .string ⟨#[109, 101, 110, 100]⟩] 9) := ⟨_, rfl⟩
  have hQ : Has V1 w1.heap.size (.cells #[.string ⟨#[]⟩, .string ⟨#[]⟩, .string ⟨#[116, 105, 99, 107]⟩, .string ⟨#[97, 115]⟩, .string ⟨#[102, 97, 105, 108]⟩, .string ⟨#[109, 101, 110, 100]⟩] 9) := by rw [hV1]; exact Has.new _ _
  have EQ : Ext w1 V1 := by rw [hV1]; exact (Ext.refl _).alloc _
  have HV1 := Lib.hid hV1
  have HQ := Lib.hid hQ
  have HEQ := Lib.hid EQ
  have hql := Has.lt hQ
  clear hV1 hQ EQ
  go_upto_region 12 with (rw [← HV1.out])
  clear hx0 ez
  go_wp2_with fail
  go_loopw [8] (fun i wr => Ext V1 wr ∧ (i = .int .i64 2)) (fun i _ => 7 - (intOf i).toNat)
  case atStart => exact ⟨Ext.refl _, rfl⟩
  case round =>
    obtain ⟨hE, hcase⟩ := hrel
    have hbl2 : bl < V1.heap.size := by have := HEQ.out.size; omega
    have p0 : wr.cell? ⟨bl, o, none⟩ = some (.string (bs x0)) := (hE.cell hbl2).trans ((HEQ.out.cell hbl).trans HX0.out)
    have hnm : ∀ i, wr.cell? ⟨w1.heap.size, i, none⟩ = (#[.string ⟨#[]⟩, .string ⟨#[]⟩, .string ⟨#[116, 105, 99, 107]⟩, .string ⟨#[97, 115]⟩, .string ⟨#[102, 97, 105, 108]⟩, .string ⟨#[109, 101, 110, 100]⟩] : Array Value)[i]? := fun i => (hE.cell hql).trans (HQ.out.cell i)
    have hbl3 : bl < wr.heap.size := by have := hE.size; omega
    have hql3 : w1.heap.size < wr.heap.size := by have := hE.size; omega
    subst hcase
    have g0 : wr.cell? ⟨w1.heap.size, 2, none⟩ = some (.string ⟨#[116, 105, 99, 107]⟩) := hnm 2
    clear hnm
    go_wp2_with fail
    go_quiet (fail)
    obtain ⟨U, hU⟩ : ∃ U, U = wr := ⟨_, rfl⟩
    have H3 := H1.ext (HEQ.out.trans hE)
    have E3 := E1.trans (HEQ.out.trans hE)
    obtain ⟨z0, z1, z2⟩ : (∀ i, wr.cell? ⟨w.heap.size, i, none⟩ = ZS[i]?) ∧ (∀ i, wr.frozen? ⟨w.heap.size, i, none⟩ = false) ∧ w.heap.size < wr.heap.size := ⟨fun i => H3.cell i, fun i => (Has.free H3 i).trans (by simp), Has.lt H3⟩
    have y0 : wr.cell? ⟨w.heap.size, 0, none⟩ = some (.int .i64 0) := z0 0
    have y1 : wr.cell? ⟨w.heap.size, 1, none⟩ = some (.slice none 0 0) := z0 1
    have y2 : wr.cell? ⟨w.heap.size, 2, none⟩ = some (.int .i64 0) := z0 2
    have y3 : wr.cell? ⟨w.heap.size, 3, none⟩ = some (.int .i64 0) := z0 3
    clear z0
    clear p0 g0
    go_wp2_with fail
    refine bodyPost_ret (resS _ rfl _ _ w.heap.size ZS (.int .i64 2) rfl rfl (Has.put4 (H3.ext ((Ext.refl _).drewN _)) _ _ _ _) (step_size _ _ _ _)) rfl ?_
    exact StR.bad HFN rfl ((E3.drewN _).put4 (Nat.le_refl _) _ _ _ _)
set_option maxRecDepth 100000 in
set_option maxHeartbeats 16000000 in
theorem rstep_as_len (line : Txt) (x0 : Txt) (l : List Txt) (w : World) (hlen : line.length ≤ 100000) (h : wordsN line = some (x0 :: l)) (hx : x0 = wAs) (hl : l.length ≠ 1) : Calls Tryd.prog 18 #[.string (bs line)] w (StR w (stepN line)) := by
  have E0 : Ext w (w.alloc (.cells ZS 30)) := (Ext.refl _).alloc _
  have H0 : Has (w.alloc (.cells ZS 30)) w.heap.size (.cells ZS 30) := Has.new _ _
  have HF := Lib.hid (step_some h)
  have HW := Lib.hid h
  have hll := words_len h
  have HMM := Lib.hid (words_mem h)
  clear h
  go_enter Tryd.func18, Tryd.ntmps18
  go_wp2_with fail
  refine (rwords_any line _ hlen).mono ?_
  rintro e w1 (⟨h1, _⟩ | ⟨L1, v1, h1, rfl, hO1, hE1⟩)
  · rw [HW.out] at h1; cases h1
  rw [HW.out] at h1
  obtain rfl : (x0 :: l) = L1 := Option.some.inj h1
  obtain ⟨A1, k1, rfl, hk1, _, t1, _⟩ := hO1.at_
  obtain ⟨bl, o, rfl, hbl, hx0⟩ := t1.at_ (Ext.refl _) 0 (by simp)
  have hx0 : w1.cell? ⟨bl, o, none⟩ = some (.string (bs x0)) := hx0
  have HX0 := Lib.hid hx0
  have H1 := H0.ext hE1
  have E1 := E0.trans hE1
  have hw1 : w.heap.size < w1.heap.size := Has.lt H1
  have hk1 : l.length + 1 ≤ k1 := by simpa using hk1
  have hn : (x0 :: l).length = l.length + 1 := by simp
  obtain ⟨X, hsl, hX⟩ := from_oneS bl o (l.length + 1) l.length k1 rfl hk1
  have HX : Hid (0 < (l : List Txt).length → X = ⟨bl, o + 1, none⟩) := fun h => hX (by simpa using h)
  rw [hn]
  have T1 := Lib.hid t1
  have hrl : (l.length : Int) ≤ 100001 := by simp at hll; omega
  have hbo : w.heap.size < bl := by have := (World.ownsRow.lt hO1 bl rfl).1; simp at this; omega
  have ez : ((l.length : Int) + 1 == 0) = false := by rw [beq_eq_false_iff_ne]; omega
  have TY := Lib.hid (own_ty hO1)
  clear hO1 t1 h1 hn hll hX
  obtain ⟨u1, u2, u3, u4, u5⟩ := word_tests x0
  rw [show (x0 == wRun) = false from by rw [hx]; decide] at u1
  rw [show (x0 == wMend) = false from by rw [hx]; decide] at u5
  rw [show (x0 == wTick) = false from by rw [hx]; decide] at u2
  rw [show (x0 == wAs) = true from by rw [hx]; decide] at u3
  rw [show (x0 == wFail) = false from by rw [hx]; decide] at u4
  have mu2 : ((bs x0).toList != [116, 105, 99, 107]) = true := by show (!_) = _; rw [u2]; rfl
  have mu3 : ((bs x0).toList != [97, 115]) = false := by show (!_) = _; rw [u3]; rfl
  have mu4 : ((bs x0).toList != [102, 97, 105, 108]) = true := by show (!_) = _; rw [u4]; rfl
  have mu5 : ((bs x0).toList != [109, 101, 110, 100]) = true := by show (!_) = _; rw [u5]; rfl
  have HXX := Lib.hid hx
  clear hx
  have HFN : Hid (stepN line = none) := by show _ = _; rw [HF.out, HXX.out, stepW_as]; exact one_len hl
  have hln : ((l.length : Int) + 1 != 2) = true := by rw [bne_iff_ne]; omega
  clear hl
  obtain ⟨V1, hV1⟩ : ∃ W, W = w1.alloc (.cells #[.string ⟨#[]⟩, .string ⟨#[]⟩, .string ⟨#[116, 105, 99, 107]⟩, .string ⟨#[97, 115]⟩, .string ⟨#[102, 97, 105, 108]⟩, .string ⟨#[109, 101, 110, 100]⟩] 9) := ⟨_, rfl⟩
  have hQ : Has V1 w1.heap.size (.cells #[.string ⟨#[]⟩, .string ⟨#[]⟩, .string ⟨#[116, 105, 99, 107]⟩, .string ⟨#[97, 115]⟩, .string ⟨#[102, 97, 105, 108]⟩, .string ⟨#[109, 101, 110, 100]⟩] 9) := by rw [hV1]; exact Has.new _ _
  have EQ : Ext w1 V1 := by rw [hV1]; exact (Ext.refl _).alloc _
  have HV1 := Lib.hid hV1
  have HQ := Lib.hid hQ
  have HEQ := Lib.hid EQ
  have hql := Has.lt hQ
  clear hV1 hQ EQ
  go_upto_region 12 with (rw [← HV1.out])
  clear hx0 ez
  go_wp2_with fail
  go_loopw [8] (fun i wr => Ext V1 wr ∧ (i = .int .i64 2 ∨ i = .int .i64 3)) (fun i _ => 7 - (intOf i).toNat)
  case atStart => exact ⟨Ext.refl _, .inl rfl⟩
  case round =>
    obtain ⟨hE, hcase⟩ := hrel
    have hbl2 : bl < V1.heap.size := by have := HEQ.out.size; omega
    have p0 : wr.cell? ⟨bl, o, none⟩ = some (.string (bs x0)) := (hE.cell hbl2).trans ((HEQ.out.cell hbl).trans HX0.out)
    have hnm : ∀ i, wr.cell? ⟨w1.heap.size, i, none⟩ = (#[.string ⟨#[]⟩, .string ⟨#[]⟩, .string ⟨#[116, 105, 99, 107]⟩, .string ⟨#[97, 115]⟩, .string ⟨#[102, 97, 105, 108]⟩, .string ⟨#[109, 101, 110, 100]⟩] : Array Value)[i]? := fun i => (hE.cell hql).trans (HQ.out.cell i)
    have hbl3 : bl < wr.heap.size := by have := hE.size; omega
    have hql3 : w1.heap.size < wr.heap.size := by have := hE.size; omega
    rcases hcase with rfl | rfl
    · have g0 : wr.cell? ⟨w1.heap.size, 2, none⟩ = some (.string ⟨#[116, 105, 99, 107]⟩) := hnm 2
      clear hnm
      go_wp2_with fail
      go_quiet (fail)
      go_wp2_with fail
      go_roundw
      case rel => exact ⟨by first | exact hE | exact hE.drew | exact hE.drewN _, .inr (rfl)⟩
      case measure => simp [intOf]
    · have g0 : wr.cell? ⟨w1.heap.size, 3, none⟩ = some (.string ⟨#[97, 115]⟩) := hnm 3
      clear hnm
      go_wp2_with fail
      go_quiet (fail)
      obtain ⟨U, hU⟩ : ∃ U, U = wr := ⟨_, rfl⟩
      have H3 := H1.ext (HEQ.out.trans hE)
      have E3 := E1.trans (HEQ.out.trans hE)
      obtain ⟨z0, z1, z2⟩ : (∀ i, wr.cell? ⟨w.heap.size, i, none⟩ = ZS[i]?) ∧ (∀ i, wr.frozen? ⟨w.heap.size, i, none⟩ = false) ∧ w.heap.size < wr.heap.size := ⟨fun i => H3.cell i, fun i => (Has.free H3 i).trans (by simp), Has.lt H3⟩
      have y0 : wr.cell? ⟨w.heap.size, 0, none⟩ = some (.int .i64 0) := z0 0
      have y1 : wr.cell? ⟨w.heap.size, 1, none⟩ = some (.slice none 0 0) := z0 1
      have y2 : wr.cell? ⟨w.heap.size, 2, none⟩ = some (.int .i64 0) := z0 2
      have y3 : wr.cell? ⟨w.heap.size, 3, none⟩ = some (.int .i64 0) := z0 3
      clear z0
      clear p0 g0
      go_wp2_with fail
      refine bodyPost_ret (resS _ rfl _ _ w.heap.size ZS (.int .i64 2) rfl rfl (Has.put4 (H3.ext ((Ext.refl _).drewN _)) _ _ _ _) (step_size _ _ _ _)) rfl ?_
      exact StR.bad HFN rfl ((E3.drewN _).put4 (Nat.le_refl _) _ _ _ _)
set_option maxRecDepth 100000 in
set_option maxHeartbeats 16000000 in
theorem rstep_fail_len (line : Txt) (x0 : Txt) (l : List Txt) (w : World) (hlen : line.length ≤ 100000) (h : wordsN line = some (x0 :: l)) (hx : x0 = wFail) (hl : l.length ≠ 2) : Calls Tryd.prog 18 #[.string (bs line)] w (StR w (stepN line)) := by
  have E0 : Ext w (w.alloc (.cells ZS 30)) := (Ext.refl _).alloc _
  have H0 : Has (w.alloc (.cells ZS 30)) w.heap.size (.cells ZS 30) := Has.new _ _
  have HF := Lib.hid (step_some h)
  have HW := Lib.hid h
  have hll := words_len h
  have HMM := Lib.hid (words_mem h)
  clear h
  go_enter Tryd.func18, Tryd.ntmps18
  go_wp2_with fail
  refine (rwords_any line _ hlen).mono ?_
  rintro e w1 (⟨h1, _⟩ | ⟨L1, v1, h1, rfl, hO1, hE1⟩)
  · rw [HW.out] at h1; cases h1
  rw [HW.out] at h1
  obtain rfl : (x0 :: l) = L1 := Option.some.inj h1
  obtain ⟨A1, k1, rfl, hk1, _, t1, _⟩ := hO1.at_
  obtain ⟨bl, o, rfl, hbl, hx0⟩ := t1.at_ (Ext.refl _) 0 (by simp)
  have hx0 : w1.cell? ⟨bl, o, none⟩ = some (.string (bs x0)) := hx0
  have HX0 := Lib.hid hx0
  have H1 := H0.ext hE1
  have E1 := E0.trans hE1
  have hw1 : w.heap.size < w1.heap.size := Has.lt H1
  have hk1 : l.length + 1 ≤ k1 := by simpa using hk1
  have hn : (x0 :: l).length = l.length + 1 := by simp
  obtain ⟨X, hsl, hX⟩ := from_oneS bl o (l.length + 1) l.length k1 rfl hk1
  have HX : Hid (0 < (l : List Txt).length → X = ⟨bl, o + 1, none⟩) := fun h => hX (by simpa using h)
  rw [hn]
  have T1 := Lib.hid t1
  have hrl : (l.length : Int) ≤ 100001 := by simp at hll; omega
  have hbo : w.heap.size < bl := by have := (World.ownsRow.lt hO1 bl rfl).1; simp at this; omega
  have ez : ((l.length : Int) + 1 == 0) = false := by rw [beq_eq_false_iff_ne]; omega
  have TY := Lib.hid (own_ty hO1)
  clear hO1 t1 h1 hn hll hX
  obtain ⟨u1, u2, u3, u4, u5⟩ := word_tests x0
  rw [show (x0 == wRun) = false from by rw [hx]; decide] at u1
  rw [show (x0 == wMend) = false from by rw [hx]; decide] at u5
  rw [show (x0 == wTick) = false from by rw [hx]; decide] at u2
  rw [show (x0 == wAs) = false from by rw [hx]; decide] at u3
  rw [show (x0 == wFail) = true from by rw [hx]; decide] at u4
  have mu2 : ((bs x0).toList != [116, 105, 99, 107]) = true := by show (!_) = _; rw [u2]; rfl
  have mu3 : ((bs x0).toList != [97, 115]) = true := by show (!_) = _; rw [u3]; rfl
  have mu4 : ((bs x0).toList != [102, 97, 105, 108]) = false := by show (!_) = _; rw [u4]; rfl
  have mu5 : ((bs x0).toList != [109, 101, 110, 100]) = true := by show (!_) = _; rw [u5]; rfl
  have HXX := Lib.hid hx
  clear hx
  have HFN : Hid (stepN line = none) := by show _ = _; rw [HF.out, HXX.out, stepW_fail]; exact two_len hl
  have hln : ((l.length : Int) + 1 != 3) = true := by rw [bne_iff_ne]; omega
  clear hl
  obtain ⟨V1, hV1⟩ : ∃ W, W = w1.alloc (.cells #[.string ⟨#[]⟩, .string ⟨#[]⟩, .string ⟨#[116, 105, 99, 107]⟩, .string ⟨#[97, 115]⟩, .string ⟨#[102, 97, 105, 108]⟩, .string ⟨#[109, 101, 110, 100]⟩] 9) := ⟨_, rfl⟩
  have hQ : Has V1 w1.heap.size (.cells #[.string ⟨#[]⟩, .string ⟨#[]⟩, .string ⟨#[116, 105, 99, 107]⟩, .string ⟨#[97, 115]⟩, .string ⟨#[102, 97, 105, 108]⟩, .string ⟨#[109, 101, 110, 100]⟩] 9) := by rw [hV1]; exact Has.new _ _
  have EQ : Ext w1 V1 := by rw [hV1]; exact (Ext.refl _).alloc _
  have HV1 := Lib.hid hV1
  have HQ := Lib.hid hQ
  have HEQ := Lib.hid EQ
  have hql := Has.lt hQ
  clear hV1 hQ EQ
  go_upto_region 12 with (rw [← HV1.out])
  clear hx0 ez
  go_wp2_with fail
  go_loopw [8] (fun i wr => Ext V1 wr ∧ (i = .int .i64 2 ∨ i = .int .i64 3 ∨ i = .int .i64 4)) (fun i _ => 7 - (intOf i).toNat)
  case atStart => exact ⟨Ext.refl _, .inl rfl⟩
  case round =>
    obtain ⟨hE, hcase⟩ := hrel
    have hbl2 : bl < V1.heap.size := by have := HEQ.out.size; omega
    have p0 : wr.cell? ⟨bl, o, none⟩ = some (.string (bs x0)) := (hE.cell hbl2).trans ((HEQ.out.cell hbl).trans HX0.out)
    have hnm : ∀ i, wr.cell? ⟨w1.heap.size, i, none⟩ = (#[.string ⟨#[]⟩, .string ⟨#[]⟩, .string ⟨#[116, 105, 99, 107]⟩, .string ⟨#[97, 115]⟩, .string ⟨#[102, 97, 105, 108]⟩, .string ⟨#[109, 101, 110, 100]⟩] : Array Value)[i]? := fun i => (hE.cell hql).trans (HQ.out.cell i)
    have hbl3 : bl < wr.heap.size := by have := hE.size; omega
    have hql3 : w1.heap.size < wr.heap.size := by have := hE.size; omega
    rcases hcase with rfl | rfl | rfl
    · have g0 : wr.cell? ⟨w1.heap.size, 2, none⟩ = some (.string ⟨#[116, 105, 99, 107]⟩) := hnm 2
      clear hnm
      go_wp2_with fail
      go_quiet (fail)
      go_wp2_with fail
      go_roundw
      case rel => exact ⟨by first | exact hE | exact hE.drew | exact hE.drewN _, .inr (.inl rfl)⟩
      case measure => simp [intOf]
    · have g0 : wr.cell? ⟨w1.heap.size, 3, none⟩ = some (.string ⟨#[97, 115]⟩) := hnm 3
      clear hnm
      go_wp2_with fail
      go_quiet (fail)
      go_wp2_with fail
      go_roundw
      case rel => exact ⟨by first | exact hE | exact hE.drew | exact hE.drewN _, .inr (.inr (rfl))⟩
      case measure => simp [intOf]
    · have g0 : wr.cell? ⟨w1.heap.size, 4, none⟩ = some (.string ⟨#[102, 97, 105, 108]⟩) := hnm 4
      clear hnm
      go_wp2_with fail
      go_quiet (fail)
      obtain ⟨U, hU⟩ : ∃ U, U = wr := ⟨_, rfl⟩
      have H3 := H1.ext (HEQ.out.trans hE)
      have E3 := E1.trans (HEQ.out.trans hE)
      obtain ⟨z0, z1, z2⟩ : (∀ i, wr.cell? ⟨w.heap.size, i, none⟩ = ZS[i]?) ∧ (∀ i, wr.frozen? ⟨w.heap.size, i, none⟩ = false) ∧ w.heap.size < wr.heap.size := ⟨fun i => H3.cell i, fun i => (Has.free H3 i).trans (by simp), Has.lt H3⟩
      have y0 : wr.cell? ⟨w.heap.size, 0, none⟩ = some (.int .i64 0) := z0 0
      have y1 : wr.cell? ⟨w.heap.size, 1, none⟩ = some (.slice none 0 0) := z0 1
      have y2 : wr.cell? ⟨w.heap.size, 2, none⟩ = some (.int .i64 0) := z0 2
      have y3 : wr.cell? ⟨w.heap.size, 3, none⟩ = some (.int .i64 0) := z0 3
      clear z0
      clear p0 g0
      go_wp2_with fail
      refine bodyPost_ret (resS _ rfl _ _ w.heap.size ZS (.int .i64 2) rfl rfl (Has.put4 (H3.ext ((Ext.refl _).drewN _)) _ _ _ _) (step_size _ _ _ _)) rfl ?_
      exact StR.bad HFN rfl ((E3.drewN _).put4 (Nat.le_refl _) _ _ _ _)
set_option maxRecDepth 100000 in
set_option maxHeartbeats 16000000 in
theorem rstep_mend_len (line : Txt) (x0 : Txt) (l : List Txt) (w : World) (hlen : line.length ≤ 100000) (h : wordsN line = some (x0 :: l)) (hx : x0 = wMend) (hl : l.length ≠ 0) : Calls Tryd.prog 18 #[.string (bs line)] w (StR w (stepN line)) := by
  have E0 : Ext w (w.alloc (.cells ZS 30)) := (Ext.refl _).alloc _
  have H0 : Has (w.alloc (.cells ZS 30)) w.heap.size (.cells ZS 30) := Has.new _ _
  have HF := Lib.hid (step_some h)
  have HW := Lib.hid h
  have hll := words_len h
  have HMM := Lib.hid (words_mem h)
  clear h
  go_enter Tryd.func18, Tryd.ntmps18
  go_wp2_with fail
  refine (rwords_any line _ hlen).mono ?_
  rintro e w1 (⟨h1, _⟩ | ⟨L1, v1, h1, rfl, hO1, hE1⟩)
  · rw [HW.out] at h1; cases h1
  rw [HW.out] at h1
  obtain rfl : (x0 :: l) = L1 := Option.some.inj h1
  obtain ⟨A1, k1, rfl, hk1, _, t1, _⟩ := hO1.at_
  obtain ⟨bl, o, rfl, hbl, hx0⟩ := t1.at_ (Ext.refl _) 0 (by simp)
  have hx0 : w1.cell? ⟨bl, o, none⟩ = some (.string (bs x0)) := hx0
  have HX0 := Lib.hid hx0
  have H1 := H0.ext hE1
  have E1 := E0.trans hE1
  have hw1 : w.heap.size < w1.heap.size := Has.lt H1
  have hk1 : l.length + 1 ≤ k1 := by simpa using hk1
  have hn : (x0 :: l).length = l.length + 1 := by simp
  obtain ⟨X, hsl, hX⟩ := from_oneS bl o (l.length + 1) l.length k1 rfl hk1
  have HX : Hid (0 < (l : List Txt).length → X = ⟨bl, o + 1, none⟩) := fun h => hX (by simpa using h)
  rw [hn]
  have T1 := Lib.hid t1
  have hrl : (l.length : Int) ≤ 100001 := by simp at hll; omega
  have hbo : w.heap.size < bl := by have := (World.ownsRow.lt hO1 bl rfl).1; simp at this; omega
  have ez : ((l.length : Int) + 1 == 0) = false := by rw [beq_eq_false_iff_ne]; omega
  have TY := Lib.hid (own_ty hO1)
  clear hO1 t1 h1 hn hll hX
  obtain ⟨u1, u2, u3, u4, u5⟩ := word_tests x0
  rw [show (x0 == wRun) = false from by rw [hx]; decide] at u1
  rw [show (x0 == wMend) = true from by rw [hx]; decide] at u5
  rw [show (x0 == wTick) = false from by rw [hx]; decide] at u2
  rw [show (x0 == wAs) = false from by rw [hx]; decide] at u3
  rw [show (x0 == wFail) = false from by rw [hx]; decide] at u4
  have mu2 : ((bs x0).toList != [116, 105, 99, 107]) = true := by show (!_) = _; rw [u2]; rfl
  have mu3 : ((bs x0).toList != [97, 115]) = true := by show (!_) = _; rw [u3]; rfl
  have mu4 : ((bs x0).toList != [102, 97, 105, 108]) = true := by show (!_) = _; rw [u4]; rfl
  have mu5 : ((bs x0).toList != [109, 101, 110, 100]) = false := by show (!_) = _; rw [u5]; rfl
  have HXX := Lib.hid hx
  clear hx
  have HFN : Hid (stepN line = none) := by show _ = _; rw [HF.out, HXX.out, stepW_mend, if_neg (by rintro rfl; exact hl rfl)]
  have hln : ((l.length : Int) + 1 != 1) = true := by rw [bne_iff_ne]; omega
  clear hl
  obtain ⟨V1, hV1⟩ : ∃ W, W = w1.alloc (.cells #[.string ⟨#[]⟩, .string ⟨#[]⟩, .string ⟨#[116, 105, 99, 107]⟩, .string ⟨#[97, 115]⟩, .string ⟨#[102, 97, 105, 108]⟩, .string ⟨#[109, 101, 110, 100]⟩] 9) := ⟨_, rfl⟩
  have hQ : Has V1 w1.heap.size (.cells #[.string ⟨#[]⟩, .string ⟨#[]⟩, .string ⟨#[116, 105, 99, 107]⟩, .string ⟨#[97, 115]⟩, .string ⟨#[102, 97, 105, 108]⟩, .string ⟨#[109, 101, 110, 100]⟩] 9) := by rw [hV1]; exact Has.new _ _
  have EQ : Ext w1 V1 := by rw [hV1]; exact (Ext.refl _).alloc _
  have HV1 := Lib.hid hV1
  have HQ := Lib.hid hQ
  have HEQ := Lib.hid EQ
  have hql := Has.lt hQ
  clear hV1 hQ EQ
  go_upto_region 12 with (rw [← HV1.out])
  clear hx0 ez
  go_wp2_with fail
  go_loopw [8] (fun i wr => Ext V1 wr ∧ (i = .int .i64 2 ∨ i = .int .i64 3 ∨ i = .int .i64 4 ∨ i = .int .i64 5)) (fun i _ => 7 - (intOf i).toNat)
  case atStart => exact ⟨Ext.refl _, .inl rfl⟩
  case round =>
    obtain ⟨hE, hcase⟩ := hrel
    have hbl2 : bl < V1.heap.size := by have := HEQ.out.size; omega
    have p0 : wr.cell? ⟨bl, o, none⟩ = some (.string (bs x0)) := (hE.cell hbl2).trans ((HEQ.out.cell hbl).trans HX0.out)
    have hnm : ∀ i, wr.cell? ⟨w1.heap.size, i, none⟩ = (#[.string ⟨#[]⟩, .string ⟨#[]⟩, .string ⟨#[116, 105, 99, 107]⟩, .string ⟨#[97, 115]⟩, .string ⟨#[102, 97, 105, 108]⟩, .string ⟨#[109, 101, 110, 100]⟩] : Array Value)[i]? := fun i => (hE.cell hql).trans (HQ.out.cell i)
    have hbl3 : bl < wr.heap.size := by have := hE.size; omega
    have hql3 : w1.heap.size < wr.heap.size := by have := hE.size; omega
    rcases hcase with rfl | rfl | rfl | rfl
    · have g0 : wr.cell? ⟨w1.heap.size, 2, none⟩ = some (.string ⟨#[116, 105, 99, 107]⟩) := hnm 2
      clear hnm
      go_wp2_with fail
      go_quiet (fail)
      go_wp2_with fail
      go_roundw
      case rel => exact ⟨by first | exact hE | exact hE.drew | exact hE.drewN _, .inr (.inl rfl)⟩
      case measure => simp [intOf]
    · have g0 : wr.cell? ⟨w1.heap.size, 3, none⟩ = some (.string ⟨#[97, 115]⟩) := hnm 3
      clear hnm
      go_wp2_with fail
      go_quiet (fail)
      go_wp2_with fail
      go_roundw
      case rel => exact ⟨by first | exact hE | exact hE.drew | exact hE.drewN _, .inr (.inr (.inl rfl))⟩
      case measure => simp [intOf]
    · have g0 : wr.cell? ⟨w1.heap.size, 4, none⟩ = some (.string ⟨#[102, 97, 105, 108]⟩) := hnm 4
      clear hnm
      go_wp2_with fail
      go_quiet (fail)
      go_wp2_with fail
      go_roundw
      case rel => exact ⟨by first | exact hE | exact hE.drew | exact hE.drewN _, .inr (.inr (.inr (rfl)))⟩
      case measure => simp [intOf]
    · have g0 : wr.cell? ⟨w1.heap.size, 5, none⟩ = some (.string ⟨#[109, 101, 110, 100]⟩) := hnm 5
      clear hnm
      go_wp2_with fail
      go_quiet (fail)
      obtain ⟨U, hU⟩ : ∃ U, U = wr := ⟨_, rfl⟩
      have H3 := H1.ext (HEQ.out.trans hE)
      have E3 := E1.trans (HEQ.out.trans hE)
      obtain ⟨z0, z1, z2⟩ : (∀ i, wr.cell? ⟨w.heap.size, i, none⟩ = ZS[i]?) ∧ (∀ i, wr.frozen? ⟨w.heap.size, i, none⟩ = false) ∧ w.heap.size < wr.heap.size := ⟨fun i => H3.cell i, fun i => (Has.free H3 i).trans (by simp), Has.lt H3⟩
      have y0 : wr.cell? ⟨w.heap.size, 0, none⟩ = some (.int .i64 0) := z0 0
      have y1 : wr.cell? ⟨w.heap.size, 1, none⟩ = some (.slice none 0 0) := z0 1
      have y2 : wr.cell? ⟨w.heap.size, 2, none⟩ = some (.int .i64 0) := z0 2
      have y3 : wr.cell? ⟨w.heap.size, 3, none⟩ = some (.int .i64 0) := z0 3
      clear z0
      clear p0 g0
      go_wp2_with fail
      refine bodyPost_ret (resS _ rfl _ _ w.heap.size ZS (.int .i64 2) rfl rfl (Has.put4 (H3.ext ((Ext.refl _).drewN _)) _ _ _ _) (step_size _ _ _ _)) rfl ?_
      exact StR.bad HFN rfl ((E3.drewN _).put4 (Nat.le_refl _) _ _ _ _)
end Go.Proofs.YtanaifobmkjpaaaDoor
