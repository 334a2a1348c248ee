/- Layer 48 (script): Text of the reference. -/
import Derived.Test.YtanaifobmkjpaaaDoorScpT
import Derived.Test.YtanaifobmkjpaaaDoorScpO
import Derived.Test.YtanaifobmkjpaaaDoorGen
import Derived.Lib.AppendZerosOnto
namespace Go.Proofs.YtanaifobmkjpaaaDoor
open Go.ChangeShapes Go.WideShapes Go.ChangeAt Go.RowKit

set_option maxRecDepth 100000 in
set_option maxHeartbeats 4000000 in
theorem rtext_no (k : Int) (n y : Int) (ws : List Txt) (A : Option Addr) (cap : Nat) (w : World) (hat : TxtAt w A ws) (hA : A = none → cap = 0) (hlen : ws.length ≤ 900) (hs : ∀ x ∈ ws, x.length ≤ 10000) (hMx : HasMax w) (hn : I64 n) (hy : I64 y) (hm : mayB ⟨k, ws, n, y⟩ = false) : Calls Tryd.prog 12 #[.agg #[.int .i64 k, .slice A ws.length cap, .int .i64 n, .int .i64 y]] w (Ret w (textV ⟨k, ws, n, y⟩)) := by
  obtain ⟨V, hV⟩ : ∃ V, V = w.alloc (.cells #[.int .i64 k, .slice A ws.length cap, .int .i64 n, .int .i64 y] 30) := ⟨_, rfl⟩
  have hC : Has V w.heap.size (.cells #[.int .i64 k, .slice A ws.length cap, .int .i64 n, .int .i64 y] 30) := by rw [hV]; exact Has.new _ _
  have E0 : Ext w V := by rw [hV]; exact (Ext.refl _).alloc _
  have HT := Lib.hid (textV_no hm)
  have HP := Lib.hid (rmay_any k n y ws A cap V (hat.ext E0) (by omega) (fun x hx => by have := hs x hx; omega))
  rw [hm] at HP
  have HV := Lib.hid hV
  have HAN := Lib.hid hA
  have HS := Lib.hid hs
  have HIn := Lib.hid hn
  have HIy := Lib.hid hy
  have HAT := Lib.hid hat
  have HC := Lib.hid hC
  have HMY := Lib.hid hm
  have c0 : V.cell? ⟨w.heap.size, 0, none⟩ = some (.int .i64 k) := hC.cell 0
  have c1 : V.cell? ⟨w.heap.size, 1, none⟩ = some (.slice A ws.length cap) := hC.cell 1
  have c2 : V.cell? ⟨w.heap.size, 2, none⟩ = some (.int .i64 n) := hC.cell 2
  have c3 : V.cell? ⟨w.heap.size, 3, none⟩ = some (.int .i64 y) := hC.cell 3
  have hl := Has.lt hC
  clear hV hC hat hm hA hs hn hy
  go_enter Tryd.func12, Tryd.ntmps12
  go_wp2_with (rw [← HV.out])
  refine (HP.out).mono ?_
  clear HP
  rintro e w1 ⟨rfl, b1⟩
  go_wp2_with fail
  go_ret2
  rw [HT.out]
  exact Ret.mk rfl (E0.trans b1)
set_option maxRecDepth 100000 in
set_option maxHeartbeats 4000000 in
theorem rtext_1 (n y : Int) (ws : List Txt) (A : Option Addr) (cap : Nat) (w : World) (hat : TxtAt w A ws) (hA : A = none → cap = 0) (hlen : ws.length ≤ 900) (hs : ∀ x ∈ ws, x.length ≤ 10000) (hMx : HasMax w) (hn : I64 n) (hy : I64 y) (hm : mayB ⟨1, ws, n, y⟩ = true) : Calls Tryd.prog 12 #[.agg #[.int .i64 1, .slice A ws.length cap, .int .i64 n, .int .i64 y]] w (Ret w (textV ⟨1, ws, n, y⟩)) := by
  obtain ⟨V, hV⟩ : ∃ V, V = w.alloc (.cells #[.int .i64 1, .slice A ws.length cap, .int .i64 n, .int .i64 y] 30) := ⟨_, rfl⟩
  have hC : Has V w.heap.size (.cells #[.int .i64 1, .slice A ws.length cap, .int .i64 n, .int .i64 y] 30) := by rw [hV]; exact Has.new _ _
  have E0 : Ext w V := by rw [hV]; exact (Ext.refl _).alloc _
  have HT := Lib.hid (textV_yes hm)
  have HP := Lib.hid (rmay_any 1 n y ws A cap V (hat.ext E0) (by omega) (fun x hx => by have := hs x hx; omega))
  rw [hm] at HP
  have HV := Lib.hid hV
  have HAN := Lib.hid hA
  have HS := Lib.hid hs
  have HIn := Lib.hid hn
  have HIy := Lib.hid hy
  have HAT := Lib.hid hat
  have HC := Lib.hid hC
  have HMY := Lib.hid hm
  have c0 : V.cell? ⟨w.heap.size, 0, none⟩ = some (.int .i64 1) := hC.cell 0
  have c1 : V.cell? ⟨w.heap.size, 1, none⟩ = some (.slice A ws.length cap) := hC.cell 1
  have c2 : V.cell? ⟨w.heap.size, 2, none⟩ = some (.int .i64 n) := hC.cell 2
  have c3 : V.cell? ⟨w.heap.size, 3, none⟩ = some (.int .i64 y) := hC.cell 3
  have hl := Has.lt hC
  clear hV hC hat hm hA hs hn hy
  go_enter Tryd.func12, Tryd.ntmps12
  go_wp2_with (rw [← HV.out])
  refine (HP.out).mono ?_
  clear HP
  rintro e w1 ⟨rfl, b1⟩
  have d0 : w1.cell? ⟨w.heap.size, 0, none⟩ = some (.int .i64 1) := (b1.cell hl).trans c0
  have d1 : w1.cell? ⟨w.heap.size, 1, none⟩ = some (.slice A ws.length cap) := (b1.cell hl).trans c1
  have d2 : w1.cell? ⟨w.heap.size, 2, none⟩ = some (.int .i64 n) := (b1.cell hl).trans c2
  have d3 : w1.cell? ⟨w.heap.size, 3, none⟩ = some (.int .i64 y) := (b1.cell hl).trans c3
  have hl1 : w.heap.size < w1.heap.size := by have := b1.size; omega
  have E1 := E0.trans b1
  obtain ⟨wq, hwq⟩ : ∃ W, W = w1.alloc (.cells #[.string ⟨#[]⟩, .string ⟨#[114, 117, 110]⟩, .string ⟨#[116, 105, 99, 107]⟩, .string ⟨#[97, 115]⟩, .string ⟨#[102, 97, 105, 108]⟩, .string ⟨#[109, 101, 110, 100]⟩] 9) := ⟨_, rfl⟩
  have Q1 : Ext w1 wq := by rw [hwq]; exact (Ext.refl _).alloc _
  have hCq : Has wq w.heap.size (.cells #[.int .i64 1, .slice A ws.length cap, .int .i64 n, .int .i64 y] 30) := HC.out.ext (b1.trans Q1)
  have hNq : Has wq w1.heap.size (.cells #[.string ⟨#[]⟩, .string ⟨#[114, 117, 110]⟩, .string ⟨#[116, 105, 99, 107]⟩, .string ⟨#[97, 115]⟩, .string ⟨#[102, 97, 105, 108]⟩, .string ⟨#[109, 101, 110, 100]⟩] 9) := by rw [hwq]; exact Has.new _ _
  have sq : Hid (wq.heap.size = w1.heap.size + 1) := by show _ = _; rw [hwq, World.size_alloc]
  have q0 : wq.cell? ⟨w.heap.size, 0, none⟩ = some (.int .i64 1) := (hCq).cell 0
  have q1 : wq.cell? ⟨w.heap.size, 1, none⟩ = some (.slice A ws.length cap) := (hCq).cell 1
  have q2 : wq.cell? ⟨w.heap.size, 2, none⟩ = some (.int .i64 n) := (hCq).cell 2
  have q3 : wq.cell? ⟨w.heap.size, 3, none⟩ = some (.int .i64 y) := (hCq).cell 3
  have ql : w.heap.size < wq.heap.size := Has.lt hCq
  have g0 : wq.cell? ⟨w1.heap.size, 1, none⟩ = some (.string ⟨#[114, 117, 110]⟩) := hNq.cell 1
  have gl : w1.heap.size < wq.heap.size := Has.lt hNq
  have HWq := Lib.hid hwq
  obtain ⟨wr, hwr⟩ : ∃ W, W = wq.alloc (.cells #[.string ⟨#[114, 117, 110]⟩] 9) := ⟨_, rfl⟩
  have E2 : Ext w wr := by rw [hwr]; exact (E1.trans Q1).alloc _
  have hO : OwnT wr w.heap.size (.slice (some ⟨w1.heap.size + 1, 0, none⟩) 1 1) [wRun] := by rw [hwr]; exact txt_oneS _ wRun _ _ sq.out (by omega)
  have hCr : Has wr w.heap.size (.cells #[.int .i64 1, .slice A ws.length cap, .int .i64 n, .int .i64 y] 30) := by rw [hwr]; exact hCq.alloc _
  have hwr2 : wr = (w1.alloc (.cells #[.string ⟨#[]⟩, .string ⟨#[114, 117, 110]⟩, .string ⟨#[116, 105, 99, 107]⟩, .string ⟨#[97, 115]⟩, .string ⟨#[102, 97, 105, 108]⟩, .string ⟨#[109, 101, 110, 100]⟩] 9)).alloc (.cells #[.string ⟨#[114, 117, 110]⟩] 9) := by rw [hwr, hwq]
  have HW := Lib.hid hwr2
  have r0 : wr.cell? ⟨w.heap.size, 0, none⟩ = some (.int .i64 1) := (hCr).cell 0
  have r1 : wr.cell? ⟨w.heap.size, 1, none⟩ = some (.slice A ws.length cap) := (hCr).cell 1
  have r2 : wr.cell? ⟨w.heap.size, 2, none⟩ = some (.int .i64 n) := (hCr).cell 2
  have r3 : wr.cell? ⟨w.heap.size, 3, none⟩ = some (.int .i64 y) := (hCr).cell 3
  have rl : w.heap.size < wr.heap.size := Has.lt hCr
  obtain ⟨v8, w8, hr8, hO8, hg8⟩ := app_list A cap ws wr hO (HAT.out.ext E2) HAN.out E2.size (by simp) (by omega)
  have HR8 := Lib.hid hr8
  have E8 : Ext w w8 := E2.grown hg8 (fun g hv => (World.ownsRow.lt hO g hv).1)
  have hC8 : Has w8 w.heap.size (.cells #[.int .i64 1, .slice A ws.length cap, .int .i64 n, .int .i64 y] 30) := Has.grown hCr hg8 (row_ne hO hCr (by decide))
  obtain ⟨A8, k8, rfl, _, _, t8, _⟩ := hO8.at_
  clear hO8
  have s0 : w8.cell? ⟨w.heap.size, 0, none⟩ = some (.int .i64 1) := (hC8).cell 0
  have s1 : w8.cell? ⟨w.heap.size, 1, none⟩ = some (.slice A ws.length cap) := (hC8).cell 1
  have s2 : w8.cell? ⟨w.heap.size, 2, none⟩ = some (.int .i64 n) := (hC8).cell 2
  have s3 : w8.cell? ⟨w.heap.size, 3, none⟩ = some (.int .i64 y) := (hC8).cell 3
  have sl : w.heap.size < w8.heap.size := Has.lt hC8
  have T8 := Lib.hid t8
  clear hwq hwr hwr2 HWq hr8 hg8 hO t8 hCq hNq hCr
  go_wp2_with (first | rw [← HW.out] | (at_builtin; refine Lib.wpList_append_run _ rfl _ _ 28 28 rfl _ _ rfl rfl _ _ HR8.out ?_))
  refine (rline_any A8 k8 ([wRun] ++ ws) w8 T8.out (by simp <;> omega) (run_small HS.out)).mono ?_
  rintro e w9 ⟨rfl, b9⟩
  go_wp2_with fail
  go_ret2
  rw [HT.out]
  exact Ret.mk rfl (E8.trans b9)
set_option maxRecDepth 100000 in
set_option maxHeartbeats 4000000 in
theorem rtext_2 (n y : Int) (ws : List Txt) (A : Option Addr) (cap : Nat) (w : World) (hat : TxtAt w A ws) (hA : A = none → cap = 0) (hlen : ws.length ≤ 900) (hs : ∀ x ∈ ws, x.length ≤ 10000) (hMx : HasMax w) (hn : I64 n) (hy : I64 y) (hm : mayB ⟨2, ws, n, y⟩ = true) : Calls Tryd.prog 12 #[.agg #[.int .i64 2, .slice A ws.length cap, .int .i64 n, .int .i64 y]] w (Ret w (textV ⟨2, ws, n, y⟩)) := by
  have hmz : ws = [] := by
    rcases may_kinds hm with ⟨h, _⟩ | ⟨h, h2, _⟩ | ⟨h, h2, _⟩ | ⟨h, h2, _⟩ | ⟨h, h2, _⟩
    · exact absurd (show (2 : Int) = 1 from h) (by decide)
    · exact h2
    · exact h2
    · exact h2
    · exact h2
  subst hmz
  obtain ⟨V, hV⟩ : ∃ V, V = w.alloc (.cells #[.int .i64 2, .slice A 0 cap, .int .i64 n, .int .i64 y] 30) := ⟨_, rfl⟩
  have hC : Has V w.heap.size (.cells #[.int .i64 2, .slice A 0 cap, .int .i64 n, .int .i64 y] 30) := by rw [hV]; exact Has.new _ _
  have E0 : Ext w V := by rw [hV]; exact (Ext.refl _).alloc _
  have HT := Lib.hid (textV_yes hm)
  have HP := Lib.hid (rmay_any 2 n y [] A cap V (hat.ext E0) (by omega) (fun x hx => by have := hs x hx; omega))
  rw [hm] at HP
  have HV := Lib.hid hV
  have HAN := Lib.hid hA
  have HS := Lib.hid hs
  have HIn := Lib.hid hn
  have HIy := Lib.hid hy
  have HAT := Lib.hid hat
  have HC := Lib.hid hC
  have HMY := Lib.hid hm
  have c0 : V.cell? ⟨w.heap.size, 0, none⟩ = some (.int .i64 2) := hC.cell 0
  have c1 : V.cell? ⟨w.heap.size, 1, none⟩ = some (.slice A 0 cap) := hC.cell 1
  have c2 : V.cell? ⟨w.heap.size, 2, none⟩ = some (.int .i64 n) := hC.cell 2
  have c3 : V.cell? ⟨w.heap.size, 3, none⟩ = some (.int .i64 y) := hC.cell 3
  have hl := Has.lt hC
  clear hV hC hat hm hA hs hn hy
  go_enter Tryd.func12, Tryd.ntmps12
  go_wp2_with (rw [← HV.out])
  refine (HP.out).mono ?_
  clear HP
  rintro e w1 ⟨rfl, b1⟩
  have d0 : w1.cell? ⟨w.heap.size, 0, none⟩ = some (.int .i64 2) := (b1.cell hl).trans c0
  have d1 : w1.cell? ⟨w.heap.size, 1, none⟩ = some (.slice A 0 cap) := (b1.cell hl).trans c1
  have d2 : w1.cell? ⟨w.heap.size, 2, none⟩ = some (.int .i64 n) := (b1.cell hl).trans c2
  have d3 : w1.cell? ⟨w.heap.size, 3, none⟩ = some (.int .i64 y) := (b1.cell hl).trans c3
  have hl1 : w.heap.size < w1.heap.size := by have := b1.size; omega
  have E1 := E0.trans b1
  obtain ⟨wq, hwq⟩ : ∃ W, W = w1.alloc (.cells #[.string ⟨#[]⟩, .string ⟨#[114, 117, 110]⟩, .string ⟨#[116, 105, 99, 107]⟩, .string ⟨#[97, 115]⟩, .string ⟨#[102, 97, 105, 108]⟩, .string ⟨#[109, 101, 110, 100]⟩] 9) := ⟨_, rfl⟩
  have Q1 : Ext w1 wq := by rw [hwq]; exact (Ext.refl _).alloc _
  have hCq : Has wq w.heap.size (.cells #[.int .i64 2, .slice A 0 cap, .int .i64 n, .int .i64 y] 30) := HC.out.ext (b1.trans Q1)
  have hNq : Has wq w1.heap.size (.cells #[.string ⟨#[]⟩, .string ⟨#[114, 117, 110]⟩, .string ⟨#[116, 105, 99, 107]⟩, .string ⟨#[97, 115]⟩, .string ⟨#[102, 97, 105, 108]⟩, .string ⟨#[109, 101, 110, 100]⟩] 9) := by rw [hwq]; exact Has.new _ _
  have sq : Hid (wq.heap.size = w1.heap.size + 1) := by show _ = _; rw [hwq, World.size_alloc]
  have q0 : wq.cell? ⟨w.heap.size, 0, none⟩ = some (.int .i64 2) := (hCq).cell 0
  have q1 : wq.cell? ⟨w.heap.size, 1, none⟩ = some (.slice A 0 cap) := (hCq).cell 1
  have q2 : wq.cell? ⟨w.heap.size, 2, none⟩ = some (.int .i64 n) := (hCq).cell 2
  have q3 : wq.cell? ⟨w.heap.size, 3, none⟩ = some (.int .i64 y) := (hCq).cell 3
  have ql : w.heap.size < wq.heap.size := Has.lt hCq
  have g0 : wq.cell? ⟨w1.heap.size, 2, none⟩ = some (.string ⟨#[116, 105, 99, 107]⟩) := hNq.cell 2
  have gl : w1.heap.size < wq.heap.size := Has.lt hNq
  have HWq := Lib.hid hwq
  obtain ⟨wr, hwr⟩ : ∃ W, W = wq.alloc (.cells #[.string ⟨#[116, 105, 99, 107]⟩] 9) := ⟨_, rfl⟩
  have E2 : Ext w wr := by rw [hwr]; exact (E1.trans Q1).alloc _
  have hO : OwnT wr w.heap.size (.slice (some ⟨w1.heap.size + 1, 0, none⟩) 1 1) [wTick] := by rw [hwr]; exact txt_oneS _ wTick _ _ sq.out (by omega)
  have hCr : Has wr w.heap.size (.cells #[.int .i64 2, .slice A 0 cap, .int .i64 n, .int .i64 y] 30) := by rw [hwr]; exact hCq.alloc _
  have hwr2 : wr = (w1.alloc (.cells #[.string ⟨#[]⟩, .string ⟨#[114, 117, 110]⟩, .string ⟨#[116, 105, 99, 107]⟩, .string ⟨#[97, 115]⟩, .string ⟨#[102, 97, 105, 108]⟩, .string ⟨#[109, 101, 110, 100]⟩] 9)).alloc (.cells #[.string ⟨#[116, 105, 99, 107]⟩] 9) := by rw [hwr, hwq]
  have HW := Lib.hid hwr2
  have r0 : wr.cell? ⟨w.heap.size, 0, none⟩ = some (.int .i64 2) := (hCr).cell 0
  have r1 : wr.cell? ⟨w.heap.size, 1, none⟩ = some (.slice A 0 cap) := (hCr).cell 1
  have r2 : wr.cell? ⟨w.heap.size, 2, none⟩ = some (.int .i64 n) := (hCr).cell 2
  have r3 : wr.cell? ⟨w.heap.size, 3, none⟩ = some (.int .i64 y) := (hCr).cell 3
  have rl : w.heap.size < wr.heap.size := Has.lt hCr
  obtain ⟨v8, w8, hr8, hO8, hg8⟩ := app_list A cap [] wr hO (HAT.out.ext E2) HAN.out E2.size (by simp) (by omega)
  have HR8 := Lib.hid hr8
  have E8 : Ext w w8 := E2.grown hg8 (fun g hv => (World.ownsRow.lt hO g hv).1)
  have hC8 : Has w8 w.heap.size (.cells #[.int .i64 2, .slice A 0 cap, .int .i64 n, .int .i64 y] 30) := Has.grown hCr hg8 (row_ne hO hCr (by decide))
  obtain ⟨A8, k8, rfl, _, _, t8, _⟩ := hO8.at_
  have HO8 : Hid (OwnT w8 w.heap.size (.slice A8 1 k8) [wTick]) := hO8
  clear hO8
  have s0 : w8.cell? ⟨w.heap.size, 0, none⟩ = some (.int .i64 2) := (hC8).cell 0
  have s1 : w8.cell? ⟨w.heap.size, 1, none⟩ = some (.slice A 0 cap) := (hC8).cell 1
  have s2 : w8.cell? ⟨w.heap.size, 2, none⟩ = some (.int .i64 n) := (hC8).cell 2
  have s3 : w8.cell? ⟨w.heap.size, 3, none⟩ = some (.int .i64 y) := (hC8).cell 3
  have sl : w.heap.size < w8.heap.size := Has.lt hC8
  have T8 := Lib.hid t8
  clear hwq hwr hwr2 HWq hr8 hg8 hO t8 hCq hNq hCr
  go_wp2_with (first | rw [← HW.out] | (at_builtin; refine Lib.wpList_append_run _ rfl _ _ 28 28 rfl _ _ rfl rfl _ _ HR8.out ?_))
  refine (rdec_any n _ HIn.out).mono ?_
  rintro e wa ⟨rfl, ba⟩
  have Ea := E8.trans ba
  have hCa := Has.ext hC8 ba
  have hOa := OwnT.ext HO8.out ba
  obtain ⟨va, xa, hra, hPa, hga⟩ := app_one (decI n) wa hOa Ea.size (by simp <;> omega)
  have HRa := Lib.hid hra
  have Xa : Ext w xa := (Ea.alloc _).grown hga (fun g hv => (World.ownsRow.lt hOa g hv).1)
  have hDa : Has xa w.heap.size (.cells #[.int .i64 2, .slice A 0 cap, .int .i64 n, .int .i64 y] 30) := Has.grown (hCa.alloc _) hga (row_ne hOa hCa (by decide))
  obtain ⟨Aa, ka, rfl, _, _, ta, _⟩ := hPa.at_
  have ma0 : xa.cell? ⟨w.heap.size, 0, none⟩ = some (.int .i64 2) := (hDa).cell 0
  have ma1 : xa.cell? ⟨w.heap.size, 1, none⟩ = some (.slice A 0 cap) := (hDa).cell 1
  have ma2 : xa.cell? ⟨w.heap.size, 2, none⟩ = some (.int .i64 n) := (hDa).cell 2
  have ma3 : xa.cell? ⟨w.heap.size, 3, none⟩ = some (.int .i64 y) := (hDa).cell 3
  have mal : w.heap.size < xa.heap.size := Has.lt hDa
  have Ta := Lib.hid ta
  have HPa : Hid (OwnT xa w.heap.size (.slice Aa 2 ka) [wTick, decI n]) := hPa
  clear hra hga ta hPa hCa hOa
  go_wp2_with (at_builtin; refine Lib.wpList_append_run _ rfl _ _ 28 28 rfl _ _ rfl rfl _ _ HRa.out ?_)
  refine (rline_any Aa ka [wTick, decI n] xa Ta.out (by simp <;> omega) (by exact two_small n (by decide))).mono ?_
  rintro e w9 ⟨rfl, b9⟩
  go_wp2_with fail
  go_ret2
  rw [HT.out]
  exact Ret.mk rfl (Xa.trans b9)
set_option maxRecDepth 100000 in
set_option maxHeartbeats 4000000 in
theorem rtext_3 (n y : Int) (ws : List Txt) (A : Option Addr) (cap : Nat) (w : World) (hat : TxtAt w A ws) (hA : A = none → cap = 0) (hlen : ws.length ≤ 900) (hs : ∀ x ∈ ws, x.length ≤ 10000) (hMx : HasMax w) (hn : I64 n) (hy : I64 y) (hm : mayB ⟨3, ws, n, y⟩ = true) : Calls Tryd.prog 12 #[.agg #[.int .i64 3, .slice A ws.length cap, .int .i64 n, .int .i64 y]] w (Ret w (textV ⟨3, ws, n, y⟩)) := by
  have hmz : ws = [] := by
    rcases may_kinds hm with ⟨h, _⟩ | ⟨h, h2, _⟩ | ⟨h, h2, _⟩ | ⟨h, h2, _⟩ | ⟨h, h2, _⟩
    · exact absurd (show (3 : Int) = 1 from h) (by decide)
    · exact h2
    · exact h2
    · exact h2
    · exact h2
  subst hmz
  obtain ⟨V, hV⟩ : ∃ V, V = w.alloc (.cells #[.int .i64 3, .slice A 0 cap, .int .i64 n, .int .i64 y] 30) := ⟨_, rfl⟩
  have hC : Has V w.heap.size (.cells #[.int .i64 3, .slice A 0 cap, .int .i64 n, .int .i64 y] 30) := by rw [hV]; exact Has.new _ _
  have E0 : Ext w V := by rw [hV]; exact (Ext.refl _).alloc _
  have HT := Lib.hid (textV_yes hm)
  have HP := Lib.hid (rmay_any 3 n y [] A cap V (hat.ext E0) (by omega) (fun x hx => by have := hs x hx; omega))
  rw [hm] at HP
  have HV := Lib.hid hV
  have HAN := Lib.hid hA
  have HS := Lib.hid hs
  have HIn := Lib.hid hn
  have HIy := Lib.hid hy
  have HAT := Lib.hid hat
  have HC := Lib.hid hC
  have HMY := Lib.hid hm
  have c0 : V.cell? ⟨w.heap.size, 0, none⟩ = some (.int .i64 3) := hC.cell 0
  have c1 : V.cell? ⟨w.heap.size, 1, none⟩ = some (.slice A 0 cap) := hC.cell 1
  have c2 : V.cell? ⟨w.heap.size, 2, none⟩ = some (.int .i64 n) := hC.cell 2
  have c3 : V.cell? ⟨w.heap.size, 3, none⟩ = some (.int .i64 y) := hC.cell 3
  have hl := Has.lt hC
  clear hV hC hat hm hA hs hn hy
  go_enter Tryd.func12, Tryd.ntmps12
  go_wp2_with (rw [← HV.out])
  refine (HP.out).mono ?_
  clear HP
  rintro e w1 ⟨rfl, b1⟩
  have d0 : w1.cell? ⟨w.heap.size, 0, none⟩ = some (.int .i64 3) := (b1.cell hl).trans c0
  have d1 : w1.cell? ⟨w.heap.size, 1, none⟩ = some (.slice A 0 cap) := (b1.cell hl).trans c1
  have d2 : w1.cell? ⟨w.heap.size, 2, none⟩ = some (.int .i64 n) := (b1.cell hl).trans c2
  have d3 : w1.cell? ⟨w.heap.size, 3, none⟩ = some (.int .i64 y) := (b1.cell hl).trans c3
  have hl1 : w.heap.size < w1.heap.size := by have := b1.size; omega
  have E1 := E0.trans b1
  obtain ⟨wq, hwq⟩ : ∃ W, W = w1.alloc (.cells #[.string ⟨#[]⟩, .string ⟨#[114, 117, 110]⟩, .string ⟨#[116, 105, 99, 107]⟩, .string ⟨#[97, 115]⟩, .string ⟨#[102, 97, 105, 108]⟩, .string ⟨#[109, 101, 110, 100]⟩] 9) := ⟨_, rfl⟩
  have Q1 : Ext w1 wq := by rw [hwq]; exact (Ext.refl _).alloc _
  have hCq : Has wq w.heap.size (.cells #[.int .i64 3, .slice A 0 cap, .int .i64 n, .int .i64 y] 30) := HC.out.ext (b1.trans Q1)
  have hNq : Has wq w1.heap.size (.cells #[.string ⟨#[]⟩, .string ⟨#[114, 117, 110]⟩, .string ⟨#[116, 105, 99, 107]⟩, .string ⟨#[97, 115]⟩, .string ⟨#[102, 97, 105, 108]⟩, .string ⟨#[109, 101, 110, 100]⟩] 9) := by rw [hwq]; exact Has.new _ _
  have sq : Hid (wq.heap.size = w1.heap.size + 1) := by show _ = _; rw [hwq, World.size_alloc]
  have q0 : wq.cell? ⟨w.heap.size, 0, none⟩ = some (.int .i64 3) := (hCq).cell 0
  have q1 : wq.cell? ⟨w.heap.size, 1, none⟩ = some (.slice A 0 cap) := (hCq).cell 1
  have q2 : wq.cell? ⟨w.heap.size, 2, none⟩ = some (.int .i64 n) := (hCq).cell 2
  have q3 : wq.cell? ⟨w.heap.size, 3, none⟩ = some (.int .i64 y) := (hCq).cell 3
  have ql : w.heap.size < wq.heap.size := Has.lt hCq
  have g0 : wq.cell? ⟨w1.heap.size, 3, none⟩ = some (.string ⟨#[97, 115]⟩) := hNq.cell 3
  have gl : w1.heap.size < wq.heap.size := Has.lt hNq
  have HWq := Lib.hid hwq
  obtain ⟨wr, hwr⟩ : ∃ W, W = wq.alloc (.cells #[.string ⟨#[97, 115]⟩] 9) := ⟨_, rfl⟩
  have E2 : Ext w wr := by rw [hwr]; exact (E1.trans Q1).alloc _
  have hO : OwnT wr w.heap.size (.slice (some ⟨w1.heap.size + 1, 0, none⟩) 1 1) [wAs] := by rw [hwr]; exact txt_oneS _ wAs _ _ sq.out (by omega)
  have hCr : Has wr w.heap.size (.cells #[.int .i64 3, .slice A 0 cap, .int .i64 n, .int .i64 y] 30) := by rw [hwr]; exact hCq.alloc _
  have hwr2 : wr = (w1.alloc (.cells #[.string ⟨#[]⟩, .string ⟨#[114, 117, 110]⟩, .string ⟨#[116, 105, 99, 107]⟩, .string ⟨#[97, 115]⟩, .string ⟨#[102, 97, 105, 108]⟩, .string ⟨#[109, 101, 110, 100]⟩] 9)).alloc (.cells #[.string ⟨#[97, 115]⟩] 9) := by rw [hwr, hwq]
  have HW := Lib.hid hwr2
  have r0 : wr.cell? ⟨w.heap.size, 0, none⟩ = some (.int .i64 3) := (hCr).cell 0
  have r1 : wr.cell? ⟨w.heap.size, 1, none⟩ = some (.slice A 0 cap) := (hCr).cell 1
  have r2 : wr.cell? ⟨w.heap.size, 2, none⟩ = some (.int .i64 n) := (hCr).cell 2
  have r3 : wr.cell? ⟨w.heap.size, 3, none⟩ = some (.int .i64 y) := (hCr).cell 3
  have rl : w.heap.size < wr.heap.size := Has.lt hCr
  obtain ⟨v8, w8, hr8, hO8, hg8⟩ := app_list A cap [] wr hO (HAT.out.ext E2) HAN.out E2.size (by simp) (by omega)
  have HR8 := Lib.hid hr8
  have E8 : Ext w w8 := E2.grown hg8 (fun g hv => (World.ownsRow.lt hO g hv).1)
  have hC8 : Has w8 w.heap.size (.cells #[.int .i64 3, .slice A 0 cap, .int .i64 n, .int .i64 y] 30) := Has.grown hCr hg8 (row_ne hO hCr (by decide))
  obtain ⟨A8, k8, rfl, _, _, t8, _⟩ := hO8.at_
  have HO8 : Hid (OwnT w8 w.heap.size (.slice A8 1 k8) [wAs]) := hO8
  clear hO8
  have s0 : w8.cell? ⟨w.heap.size, 0, none⟩ = some (.int .i64 3) := (hC8).cell 0
  have s1 : w8.cell? ⟨w.heap.size, 1, none⟩ = some (.slice A 0 cap) := (hC8).cell 1
  have s2 : w8.cell? ⟨w.heap.size, 2, none⟩ = some (.int .i64 n) := (hC8).cell 2
  have s3 : w8.cell? ⟨w.heap.size, 3, none⟩ = some (.int .i64 y) := (hC8).cell 3
  have sl : w.heap.size < w8.heap.size := Has.lt hC8
  have T8 := Lib.hid t8
  clear hwq hwr hwr2 HWq hr8 hg8 hO t8 hCq hNq hCr
  go_wp2_with (first | rw [← HW.out] | (at_builtin; refine Lib.wpList_append_run _ rfl _ _ 28 28 rfl _ _ rfl rfl _ _ HR8.out ?_))
  refine (rdec_any n _ HIn.out).mono ?_
  rintro e wa ⟨rfl, ba⟩
  have Ea := E8.trans ba
  have hCa := Has.ext hC8 ba
  have hOa := OwnT.ext HO8.out ba
  obtain ⟨va, xa, hra, hPa, hga⟩ := app_one (decI n) wa hOa Ea.size (by simp <;> omega)
  have HRa := Lib.hid hra
  have Xa : Ext w xa := (Ea.alloc _).grown hga (fun g hv => (World.ownsRow.lt hOa g hv).1)
  have hDa : Has xa w.heap.size (.cells #[.int .i64 3, .slice A 0 cap, .int .i64 n, .int .i64 y] 30) := Has.grown (hCa.alloc _) hga (row_ne hOa hCa (by decide))
  obtain ⟨Aa, ka, rfl, _, _, ta, _⟩ := hPa.at_
  have ma0 : xa.cell? ⟨w.heap.size, 0, none⟩ = some (.int .i64 3) := (hDa).cell 0
  have ma1 : xa.cell? ⟨w.heap.size, 1, none⟩ = some (.slice A 0 cap) := (hDa).cell 1
  have ma2 : xa.cell? ⟨w.heap.size, 2, none⟩ = some (.int .i64 n) := (hDa).cell 2
  have ma3 : xa.cell? ⟨w.heap.size, 3, none⟩ = some (.int .i64 y) := (hDa).cell 3
  have mal : w.heap.size < xa.heap.size := Has.lt hDa
  have Ta := Lib.hid ta
  have HPa : Hid (OwnT xa w.heap.size (.slice Aa 2 ka) [wAs, decI n]) := hPa
  clear hra hga ta hPa hCa hOa
  go_wp2_with (at_builtin; refine Lib.wpList_append_run _ rfl _ _ 28 28 rfl _ _ rfl rfl _ _ HRa.out ?_)
  refine (rline_any Aa ka [wAs, decI n] xa Ta.out (by simp <;> omega) (by exact two_small n (by decide))).mono ?_
  rintro e w9 ⟨rfl, b9⟩
  go_wp2_with fail
  go_ret2
  rw [HT.out]
  exact Ret.mk rfl (Xa.trans b9)
set_option maxRecDepth 100000 in
set_option maxHeartbeats 4000000 in
theorem rtext_4 (n y : Int) (ws : List Txt) (A : Option Addr) (cap : Nat) (w : World) (hat : TxtAt w A ws) (hA : A = none → cap = 0) (hlen : ws.length ≤ 900) (hs : ∀ x ∈ ws, x.length ≤ 10000) (hMx : HasMax w) (hn : I64 n) (hy : I64 y) (hm : mayB ⟨4, ws, n, y⟩ = true) : Calls Tryd.prog 12 #[.agg #[.int .i64 4, .slice A ws.length cap, .int .i64 n, .int .i64 y]] w (Ret w (textV ⟨4, ws, n, y⟩)) := by
  have hmz : ws = [] := by
    rcases may_kinds hm with ⟨h, _⟩ | ⟨h, h2, _⟩ | ⟨h, h2, _⟩ | ⟨h, h2, _⟩ | ⟨h, h2, _⟩
    · exact absurd (show (4 : Int) = 1 from h) (by decide)
    · exact h2
    · exact h2
    · exact h2
    · exact h2
  subst hmz
  obtain ⟨V, hV⟩ : ∃ V, V = w.alloc (.cells #[.int .i64 4, .slice A 0 cap, .int .i64 n, .int .i64 y] 30) := ⟨_, rfl⟩
  have hC : Has V w.heap.size (.cells #[.int .i64 4, .slice A 0 cap, .int .i64 n, .int .i64 y] 30) := by rw [hV]; exact Has.new _ _
  have E0 : Ext w V := by rw [hV]; exact (Ext.refl _).alloc _
  have HT := Lib.hid (textV_yes hm)
  have HP := Lib.hid (rmay_any 4 n y [] A cap V (hat.ext E0) (by omega) (fun x hx => by have := hs x hx; omega))
  rw [hm] at HP
  have HV := Lib.hid hV
  have HAN := Lib.hid hA
  have HS := Lib.hid hs
  have HIn := Lib.hid hn
  have HIy := Lib.hid hy
  have HAT := Lib.hid hat
  have HC := Lib.hid hC
  have HMY := Lib.hid hm
  have c0 : V.cell? ⟨w.heap.size, 0, none⟩ = some (.int .i64 4) := hC.cell 0
  have c1 : V.cell? ⟨w.heap.size, 1, none⟩ = some (.slice A 0 cap) := hC.cell 1
  have c2 : V.cell? ⟨w.heap.size, 2, none⟩ = some (.int .i64 n) := hC.cell 2
  have c3 : V.cell? ⟨w.heap.size, 3, none⟩ = some (.int .i64 y) := hC.cell 3
  have hl := Has.lt hC
  clear hV hC hat hm hA hs hn hy
  go_enter Tryd.func12, Tryd.ntmps12
  go_wp2_with (rw [← HV.out])
  refine (HP.out).mono ?_
  clear HP
  rintro e w1 ⟨rfl, b1⟩
  have d0 : w1.cell? ⟨w.heap.size, 0, none⟩ = some (.int .i64 4) := (b1.cell hl).trans c0
  have d1 : w1.cell? ⟨w.heap.size, 1, none⟩ = some (.slice A 0 cap) := (b1.cell hl).trans c1
  have d2 : w1.cell? ⟨w.heap.size, 2, none⟩ = some (.int .i64 n) := (b1.cell hl).trans c2
  have d3 : w1.cell? ⟨w.heap.size, 3, none⟩ = some (.int .i64 y) := (b1.cell hl).trans c3
  have hl1 : w.heap.size < w1.heap.size := by have := b1.size; omega
  have E1 := E0.trans b1
  obtain ⟨wq, hwq⟩ : ∃ W, W = w1.alloc (.cells #[.string ⟨#[]⟩, .string ⟨#[114, 117, 110]⟩, .string ⟨#[116, 105, 99, 107]⟩, .string ⟨#[97, 115]⟩, .string ⟨#[102, 97, 105, 108]⟩, .string ⟨#[109, 101, 110, 100]⟩] 9) := ⟨_, rfl⟩
  have Q1 : Ext w1 wq := by rw [hwq]; exact (Ext.refl _).alloc _
  have hCq : Has wq w.heap.size (.cells #[.int .i64 4, .slice A 0 cap, .int .i64 n, .int .i64 y] 30) := HC.out.ext (b1.trans Q1)
  have hNq : Has wq w1.heap.size (.cells #[.string ⟨#[]⟩, .string ⟨#[114, 117, 110]⟩, .string ⟨#[116, 105, 99, 107]⟩, .string ⟨#[97, 115]⟩, .string ⟨#[102, 97, 105, 108]⟩, .string ⟨#[109, 101, 110, 100]⟩] 9) := by rw [hwq]; exact Has.new _ _
  have sq : Hid (wq.heap.size = w1.heap.size + 1) := by show _ = _; rw [hwq, World.size_alloc]
  have q0 : wq.cell? ⟨w.heap.size, 0, none⟩ = some (.int .i64 4) := (hCq).cell 0
  have q1 : wq.cell? ⟨w.heap.size, 1, none⟩ = some (.slice A 0 cap) := (hCq).cell 1
  have q2 : wq.cell? ⟨w.heap.size, 2, none⟩ = some (.int .i64 n) := (hCq).cell 2
  have q3 : wq.cell? ⟨w.heap.size, 3, none⟩ = some (.int .i64 y) := (hCq).cell 3
  have ql : w.heap.size < wq.heap.size := Has.lt hCq
  have g0 : wq.cell? ⟨w1.heap.size, 4, none⟩ = some (.string ⟨#[102, 97, 105, 108]⟩) := hNq.cell 4
  have gl : w1.heap.size < wq.heap.size := Has.lt hNq
  have HWq := Lib.hid hwq
  obtain ⟨wr, hwr⟩ : ∃ W, W = wq.alloc (.cells #[.string ⟨#[102, 97, 105, 108]⟩] 9) := ⟨_, rfl⟩
  have E2 : Ext w wr := by rw [hwr]; exact (E1.trans Q1).alloc _
  have hO : OwnT wr w.heap.size (.slice (some ⟨w1.heap.size + 1, 0, none⟩) 1 1) [wFail] := by rw [hwr]; exact txt_oneS _ wFail _ _ sq.out (by omega)
  have hCr : Has wr w.heap.size (.cells #[.int .i64 4, .slice A 0 cap, .int .i64 n, .int .i64 y] 30) := by rw [hwr]; exact hCq.alloc _
  have hwr2 : wr = (w1.alloc (.cells #[.string ⟨#[]⟩, .string ⟨#[114, 117, 110]⟩, .string ⟨#[116, 105, 99, 107]⟩, .string ⟨#[97, 115]⟩, .string ⟨#[102, 97, 105, 108]⟩, .string ⟨#[109, 101, 110, 100]⟩] 9)).alloc (.cells #[.string ⟨#[102, 97, 105, 108]⟩] 9) := by rw [hwr, hwq]
  have HW := Lib.hid hwr2
  have r0 : wr.cell? ⟨w.heap.size, 0, none⟩ = some (.int .i64 4) := (hCr).cell 0
  have r1 : wr.cell? ⟨w.heap.size, 1, none⟩ = some (.slice A 0 cap) := (hCr).cell 1
  have r2 : wr.cell? ⟨w.heap.size, 2, none⟩ = some (.int .i64 n) := (hCr).cell 2
  have r3 : wr.cell? ⟨w.heap.size, 3, none⟩ = some (.int .i64 y) := (hCr).cell 3
  have rl : w.heap.size < wr.heap.size := Has.lt hCr
  obtain ⟨v8, w8, hr8, hO8, hg8⟩ := app_list A cap [] wr hO (HAT.out.ext E2) HAN.out E2.size (by simp) (by omega)
  have HR8 := Lib.hid hr8
  have E8 : Ext w w8 := E2.grown hg8 (fun g hv => (World.ownsRow.lt hO g hv).1)
  have hC8 : Has w8 w.heap.size (.cells #[.int .i64 4, .slice A 0 cap, .int .i64 n, .int .i64 y] 30) := Has.grown hCr hg8 (row_ne hO hCr (by decide))
  obtain ⟨A8, k8, rfl, _, _, t8, _⟩ := hO8.at_
  have HO8 : Hid (OwnT w8 w.heap.size (.slice A8 1 k8) [wFail]) := hO8
  clear hO8
  have s0 : w8.cell? ⟨w.heap.size, 0, none⟩ = some (.int .i64 4) := (hC8).cell 0
  have s1 : w8.cell? ⟨w.heap.size, 1, none⟩ = some (.slice A 0 cap) := (hC8).cell 1
  have s2 : w8.cell? ⟨w.heap.size, 2, none⟩ = some (.int .i64 n) := (hC8).cell 2
  have s3 : w8.cell? ⟨w.heap.size, 3, none⟩ = some (.int .i64 y) := (hC8).cell 3
  have sl : w.heap.size < w8.heap.size := Has.lt hC8
  have T8 := Lib.hid t8
  clear hwq hwr hwr2 HWq hr8 hg8 hO t8 hCq hNq hCr
  go_wp2_with (first | rw [← HW.out] | (at_builtin; refine Lib.wpList_append_run _ rfl _ _ 28 28 rfl _ _ rfl rfl _ _ HR8.out ?_))
  refine (rdec_any n _ HIn.out).mono ?_
  rintro e wa ⟨rfl, ba⟩
  have Ea := E8.trans ba
  have hCa := Has.ext hC8 ba
  have hOa := OwnT.ext HO8.out ba
  obtain ⟨va, xa, hra, hPa, hga⟩ := app_one (decI n) wa hOa Ea.size (by simp <;> omega)
  have HRa := Lib.hid hra
  have Xa : Ext w xa := (Ea.alloc _).grown hga (fun g hv => (World.ownsRow.lt hOa g hv).1)
  have hDa : Has xa w.heap.size (.cells #[.int .i64 4, .slice A 0 cap, .int .i64 n, .int .i64 y] 30) := Has.grown (hCa.alloc _) hga (row_ne hOa hCa (by decide))
  obtain ⟨Aa, ka, rfl, _, _, ta, _⟩ := hPa.at_
  have ma0 : xa.cell? ⟨w.heap.size, 0, none⟩ = some (.int .i64 4) := (hDa).cell 0
  have ma1 : xa.cell? ⟨w.heap.size, 1, none⟩ = some (.slice A 0 cap) := (hDa).cell 1
  have ma2 : xa.cell? ⟨w.heap.size, 2, none⟩ = some (.int .i64 n) := (hDa).cell 2
  have ma3 : xa.cell? ⟨w.heap.size, 3, none⟩ = some (.int .i64 y) := (hDa).cell 3
  have mal : w.heap.size < xa.heap.size := Has.lt hDa
  have Ta := Lib.hid ta
  have HPa : Hid (OwnT xa w.heap.size (.slice Aa 2 ka) [wFail, decI n]) := hPa
  clear hra hga ta hPa hCa hOa
  go_wp2_with (at_builtin; refine Lib.wpList_append_run _ rfl _ _ 28 28 rfl _ _ rfl rfl _ _ HRa.out ?_)
  refine (rdec_any y _ HIy.out).mono ?_
  rintro e wb ⟨rfl, bb⟩
  have Eb := Xa.trans bb
  have hCb := Has.ext hDa bb
  have hOb := OwnT.ext HPa.out bb
  obtain ⟨vb, xb, hrb, hPb, hgb⟩ := app_one (decI y) wb hOb Eb.size (by simp <;> omega)
  have HRb := Lib.hid hrb
  have Xb : Ext w xb := (Eb.alloc _).grown hgb (fun g hv => (World.ownsRow.lt hOb g hv).1)
  have hDb : Has xb w.heap.size (.cells #[.int .i64 4, .slice A 0 cap, .int .i64 n, .int .i64 y] 30) := Has.grown (hCb.alloc _) hgb (row_ne hOb hCb (by decide))
  obtain ⟨Ab, kb, rfl, _, _, tb, _⟩ := hPb.at_
  have mb0 : xb.cell? ⟨w.heap.size, 0, none⟩ = some (.int .i64 4) := (hDb).cell 0
  have mb1 : xb.cell? ⟨w.heap.size, 1, none⟩ = some (.slice A 0 cap) := (hDb).cell 1
  have mb2 : xb.cell? ⟨w.heap.size, 2, none⟩ = some (.int .i64 n) := (hDb).cell 2
  have mb3 : xb.cell? ⟨w.heap.size, 3, none⟩ = some (.int .i64 y) := (hDb).cell 3
  have mbl : w.heap.size < xb.heap.size := Has.lt hDb
  have Tb := Lib.hid tb
  have HPb : Hid (OwnT xb w.heap.size (.slice Ab 3 kb) [wFail, decI n, decI y]) := hPb
  clear hrb hgb tb hPb hCb hOb
  go_wp2_with (at_builtin; refine Lib.wpList_append_run _ rfl _ _ 28 28 rfl _ _ rfl rfl _ _ HRb.out ?_)
  refine (rline_any Ab kb [wFail, decI n, decI y] xb Tb.out (by simp <;> omega) (by exact three_small n y (by decide))).mono ?_
  rintro e w9 ⟨rfl, b9⟩
  go_wp2_with fail
  go_ret2
  rw [HT.out]
  exact Ret.mk rfl (Xb.trans b9)
set_option maxRecDepth 100000 in
set_option maxHeartbeats 4000000 in
theorem rtext_5 (n y : Int) (ws : List Txt) (A : Option Addr) (cap : Nat) (w : World) (hat : TxtAt w A ws) (hA : A = none → cap = 0) (hlen : ws.length ≤ 900) (hs : ∀ x ∈ ws, x.length ≤ 10000) (hMx : HasMax w) (hn : I64 n) (hy : I64 y) (hm : mayB ⟨5, ws, n, y⟩ = true) : Calls Tryd.prog 12 #[.agg #[.int .i64 5, .slice A ws.length cap, .int .i64 n, .int .i64 y]] w (Ret w (textV ⟨5, ws, n, y⟩)) := by
  have hmz : ws = [] := by
    rcases may_kinds hm with ⟨h, _⟩ | ⟨h, h2, _⟩ | ⟨h, h2, _⟩ | ⟨h, h2, _⟩ | ⟨h, h2, _⟩
    · exact absurd (show (5 : Int) = 1 from h) (by decide)
    · exact h2
    · exact h2
    · exact h2
    · exact h2
  subst hmz
  obtain ⟨V, hV⟩ : ∃ V, V = w.alloc (.cells #[.int .i64 5, .slice A 0 cap, .int .i64 n, .int .i64 y] 30) := ⟨_, rfl⟩
  have hC : Has V w.heap.size (.cells #[.int .i64 5, .slice A 0 cap, .int .i64 n, .int .i64 y] 30) := by rw [hV]; exact Has.new _ _
  have E0 : Ext w V := by rw [hV]; exact (Ext.refl _).alloc _
  have HT := Lib.hid (textV_yes hm)
  have HP := Lib.hid (rmay_any 5 n y [] A cap V (hat.ext E0) (by omega) (fun x hx => by have := hs x hx; omega))
  rw [hm] at HP
  have HV := Lib.hid hV
  have HAN := Lib.hid hA
  have HS := Lib.hid hs
  have HIn := Lib.hid hn
  have HIy := Lib.hid hy
  have HAT := Lib.hid hat
  have HC := Lib.hid hC
  have HMY := Lib.hid hm
  have c0 : V.cell? ⟨w.heap.size, 0, none⟩ = some (.int .i64 5) := hC.cell 0
  have c1 : V.cell? ⟨w.heap.size, 1, none⟩ = some (.slice A 0 cap) := hC.cell 1
  have c2 : V.cell? ⟨w.heap.size, 2, none⟩ = some (.int .i64 n) := hC.cell 2
  have c3 : V.cell? ⟨w.heap.size, 3, none⟩ = some (.int .i64 y) := hC.cell 3
  have hl := Has.lt hC
  clear hV hC hat hm hA hs hn hy
  go_enter Tryd.func12, Tryd.ntmps12
  go_wp2_with (rw [← HV.out])
  refine (HP.out).mono ?_
  clear HP
  rintro e w1 ⟨rfl, b1⟩
  have d0 : w1.cell? ⟨w.heap.size, 0, none⟩ = some (.int .i64 5) := (b1.cell hl).trans c0
  have d1 : w1.cell? ⟨w.heap.size, 1, none⟩ = some (.slice A 0 cap) := (b1.cell hl).trans c1
  have d2 : w1.cell? ⟨w.heap.size, 2, none⟩ = some (.int .i64 n) := (b1.cell hl).trans c2
  have d3 : w1.cell? ⟨w.heap.size, 3, none⟩ = some (.int .i64 y) := (b1.cell hl).trans c3
  have hl1 : w.heap.size < w1.heap.size := by have := b1.size; omega
  have E1 := E0.trans b1
  obtain ⟨wq, hwq⟩ : ∃ W, W = w1.alloc (.cells #[.string ⟨#[]⟩, .string ⟨#[114, 117, 110]⟩, .string ⟨#[116, 105, 99, 107]⟩, .string ⟨#[97, 115]⟩, .string ⟨#[102, 97, 105, 108]⟩, .string ⟨#[109, 101, 110, 100]⟩] 9) := ⟨_, rfl⟩
  have Q1 : Ext w1 wq := by rw [hwq]; exact (Ext.refl _).alloc _
  have hCq : Has wq w.heap.size (.cells #[.int .i64 5, .slice A 0 cap, .int .i64 n, .int .i64 y] 30) := HC.out.ext (b1.trans Q1)
  have hNq : Has wq w1.heap.size (.cells #[.string ⟨#[]⟩, .string ⟨#[114, 117, 110]⟩, .string ⟨#[116, 105, 99, 107]⟩, .string ⟨#[97, 115]⟩, .string ⟨#[102, 97, 105, 108]⟩, .string ⟨#[109, 101, 110, 100]⟩] 9) := by rw [hwq]; exact Has.new _ _
  have sq : Hid (wq.heap.size = w1.heap.size + 1) := by show _ = _; rw [hwq, World.size_alloc]
  have q0 : wq.cell? ⟨w.heap.size, 0, none⟩ = some (.int .i64 5) := (hCq).cell 0
  have q1 : wq.cell? ⟨w.heap.size, 1, none⟩ = some (.slice A 0 cap) := (hCq).cell 1
  have q2 : wq.cell? ⟨w.heap.size, 2, none⟩ = some (.int .i64 n) := (hCq).cell 2
  have q3 : wq.cell? ⟨w.heap.size, 3, none⟩ = some (.int .i64 y) := (hCq).cell 3
  have ql : w.heap.size < wq.heap.size := Has.lt hCq
  have g0 : wq.cell? ⟨w1.heap.size, 5, none⟩ = some (.string ⟨#[109, 101, 110, 100]⟩) := hNq.cell 5
  have gl : w1.heap.size < wq.heap.size := Has.lt hNq
  have HWq := Lib.hid hwq
  obtain ⟨wr, hwr⟩ : ∃ W, W = wq.alloc (.cells #[.string ⟨#[109, 101, 110, 100]⟩] 9) := ⟨_, rfl⟩
  have E2 : Ext w wr := by rw [hwr]; exact (E1.trans Q1).alloc _
  have hO : OwnT wr w.heap.size (.slice (some ⟨w1.heap.size + 1, 0, none⟩) 1 1) [wMend] := by rw [hwr]; exact txt_oneS _ wMend _ _ sq.out (by omega)
  have hCr : Has wr w.heap.size (.cells #[.int .i64 5, .slice A 0 cap, .int .i64 n, .int .i64 y] 30) := by rw [hwr]; exact hCq.alloc _
  have hwr2 : wr = (w1.alloc (.cells #[.string ⟨#[]⟩, .string ⟨#[114, 117, 110]⟩, .string ⟨#[116, 105, 99, 107]⟩, .string ⟨#[97, 115]⟩, .string ⟨#[102, 97, 105, 108]⟩, .string ⟨#[109, 101, 110, 100]⟩] 9)).alloc (.cells #[.string ⟨#[109, 101, 110, 100]⟩] 9) := by rw [hwr, hwq]
  have HW := Lib.hid hwr2
  have r0 : wr.cell? ⟨w.heap.size, 0, none⟩ = some (.int .i64 5) := (hCr).cell 0
  have r1 : wr.cell? ⟨w.heap.size, 1, none⟩ = some (.slice A 0 cap) := (hCr).cell 1
  have r2 : wr.cell? ⟨w.heap.size, 2, none⟩ = some (.int .i64 n) := (hCr).cell 2
  have r3 : wr.cell? ⟨w.heap.size, 3, none⟩ = some (.int .i64 y) := (hCr).cell 3
  have rl : w.heap.size < wr.heap.size := Has.lt hCr
  obtain ⟨v8, w8, hr8, hO8, hg8⟩ := app_list A cap [] wr hO (HAT.out.ext E2) HAN.out E2.size (by simp) (by omega)
  have HR8 := Lib.hid hr8
  have E8 : Ext w w8 := E2.grown hg8 (fun g hv => (World.ownsRow.lt hO g hv).1)
  have hC8 : Has w8 w.heap.size (.cells #[.int .i64 5, .slice A 0 cap, .int .i64 n, .int .i64 y] 30) := Has.grown hCr hg8 (row_ne hO hCr (by decide))
  obtain ⟨A8, k8, rfl, _, _, t8, _⟩ := hO8.at_
  clear hO8
  have s0 : w8.cell? ⟨w.heap.size, 0, none⟩ = some (.int .i64 5) := (hC8).cell 0
  have s1 : w8.cell? ⟨w.heap.size, 1, none⟩ = some (.slice A 0 cap) := (hC8).cell 1
  have s2 : w8.cell? ⟨w.heap.size, 2, none⟩ = some (.int .i64 n) := (hC8).cell 2
  have s3 : w8.cell? ⟨w.heap.size, 3, none⟩ = some (.int .i64 y) := (hC8).cell 3
  have sl : w.heap.size < w8.heap.size := Has.lt hC8
  have T8 := Lib.hid t8
  clear hwq hwr hwr2 HWq hr8 hg8 hO t8 hCq hNq hCr
  go_wp2_with (first | rw [← HW.out] | (at_builtin; refine Lib.wpList_append_run _ rfl _ _ 28 28 rfl _ _ rfl rfl _ _ HR8.out ?_))
  refine (rline_any A8 k8 [wMend] w8 T8.out (by simp <;> omega) (by decide)).mono ?_
  rintro e w9 ⟨rfl, b9⟩
  go_wp2_with fail
  go_ret2
  rw [HT.out]
  exact Ret.mk rfl (E8.trans b9)
theorem rtext_any (k n y : Int) (ws : List Txt) (A : Option Addr) (cap : Nat) (w : World) (hat : TxtAt w A ws) (hA : A = none → cap = 0) (hlen : ws.length ≤ 900) (hs : ∀ x ∈ ws, x.length ≤ 10000) (hMx : HasMax w) (hn : I64 n) (hy : I64 y) : Calls Tryd.prog 12 #[.agg #[.int .i64 k, .slice A ws.length cap, .int .i64 n, .int .i64 y]] w (Ret w (textV ⟨k, ws, n, y⟩)) := by
  cases hm : mayB ⟨k, ws, n, y⟩ with
  | false => exact rtext_no k n y ws A cap w hat hA hlen hs hMx hn hy hm
  | true =>
    rcases may_kinds hm with ⟨h, _⟩ | ⟨h, _⟩ | ⟨h, _⟩ | ⟨h, _⟩ | ⟨h, _⟩
    all_goals (simp only at h; subst h)
    · exact rtext_1 n y ws A cap w hat hA hlen hs hMx hn hy hm
    · exact rtext_2 n y ws A cap w hat hA hlen hs hMx hn hy hm
    · exact rtext_3 n y ws A cap w hat hA hlen hs hMx hn hy hm
    · exact rtext_4 n y ws A cap w hat hA hlen hs hMx hn hy hm
    · exact rtext_5 n y ws A cap w hat hA hlen hs hMx hn hy hm
end Go.Proofs.YtanaifobmkjpaaaDoor
