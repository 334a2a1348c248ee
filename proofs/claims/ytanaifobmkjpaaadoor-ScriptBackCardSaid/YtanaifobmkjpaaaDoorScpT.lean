/- Layer 48 (script): Text of the program. -/
import Derived.Test.YtanaifobmkjpaaaDoorScpN
import Derived.Lib.AppendZerosOnto
namespace Go.Proofs.YtanaifobmkjpaaaDoor
open Go.ChangeShapes Go.WideShapes Go.ChangeAt Go.RowKit

theorem made_atS (wd : World) (L : List Txt) (n : Nat) (h : wd.heap.size = n) : TxtAt (wd.alloc (.cells (txtCells L).toArray 9)) (some ⟨n, 0, none⟩) L :=
  .inr ⟨n, 0, rfl, by simp; omega, fun k hk => by
    subst h
    have h := (Has.new wd (.cells (txtCells L).toArray 9)).cell (0 + k)
    rw [h, Nat.zero_add, List.getElem?_toArray]
    exact txtCells_get L k hk⟩
theorem txt_oneS (w : World) (x : Txt) (base n : Nat) (hn : w.heap.size = n) (h : base ≤ n) : OwnT (w.alloc (.cells #[.string (bs x)] 9)) base (.slice (some ⟨n, 0, none⟩) 1 1) [x] := by
  subst hn; exact txt_one w x base h
/-- What Text answers. -/
def textV (s : StepN) : Value := if mayB s = true then .tuple #[.string (bs (lineN (wordsS s))), .int .i64 0] else .tuple #[.string ⟨#[]⟩, .int .i64 1]
theorem textV_no {s : StepN} (h : mayB s = false) : textV s = .tuple #[.string ⟨#[]⟩, .int .i64 1] := by unfold textV; rw [h]; rfl
theorem textV_yes {s : StepN} (h : mayB s = true) : textV s = .tuple #[.string (bs (lineN (wordsS s))), .int .i64 0] := by unfold textV; rw [if_pos h]
theorem dec_small (n : Int) : (decI n).length ≤ 10000 := by have := decI_len n; omega
theorem two_small {x : Txt} (n : Int) (h : x.length ≤ 10) : ∀ s ∈ [x, decI n], s.length ≤ 10000 := by
  intro s hs
  simp only [List.mem_cons, List.not_mem_nil, or_false] at hs
  rcases hs with rfl | rfl
  · omega
  · exact dec_small n
theorem three_small {x : Txt} (n y : Int) (h : x.length ≤ 10) : ∀ s ∈ [x, decI n, decI y], s.length ≤ 10000 := by
  intro s hs
  simp only [List.mem_cons, List.not_mem_nil, or_false] at hs
  rcases hs with rfl | rfl | rfl
  · omega
  · exact dec_small n
  · exact dec_small y
theorem run_small {ws : List Txt} (hs : ∀ x ∈ ws, x.length ≤ 10000) : ∀ s ∈ [wRun] ++ ws, s.length ≤ 10000 := by
  intro s h
  rcases List.mem_append.1 h with h | h
  · rw [List.mem_singleton.1 h]; decide
  · exact hs s h
set_option maxRecDepth 100000 in
set_option maxHeartbeats 4000000 in
theorem ptext_no (k : Int) (n y : Int) (ws : List Txt) (A : Option Addr) (cap : Nat) (w : World) (hat : TxtAt w A ws) (hA : A = none → cap = 0) (hlen : ws.length ≤ 900) (hs : ∀ x ∈ ws, x.length ≤ 10000) (hMx : HasMax w) (hn : I64 n) (hy : I64 y) (hm : mayB ⟨k, ws, n, y⟩ = false) : Calls Tryd.prog 11 #[.agg #[.int .i64 k, .slice A ws.length cap, .int .i64 n, .int .i64 y]] w (Ret w (textV ⟨k, ws, n, y⟩)) := by
  obtain ⟨V, hV⟩ : ∃ V, V = w.alloc (.cells #[.int .i64 k, .slice A ws.length cap, .int .i64 n, .int .i64 y] 30) := ⟨_, rfl⟩
  have hC : Has V w.heap.size (.cells #[.int .i64 k, .slice A ws.length cap, .int .i64 n, .int .i64 y] 30) := by rw [hV]; exact Has.new _ _
  have E0 : Ext w V := by rw [hV]; exact (Ext.refl _).alloc _
  have HT := Lib.hid (textV_no hm)
  have HP := Lib.hid (pmay_any k n y ws A cap V (hat.ext E0) (by omega) (fun x hx => by have := hs x hx; omega))
  rw [hm] at HP
  have HV := Lib.hid hV
  have HAN := Lib.hid hA
  have HS := Lib.hid hs
  have HIn := Lib.hid hn
  have HIy := Lib.hid hy
  have HAT := Lib.hid hat
  have HC := Lib.hid hC
  have HMY := Lib.hid hm
  have c0 : V.cell? ⟨w.heap.size, 0, none⟩ = some (.int .i64 k) := hC.cell 0
  have c1 : V.cell? ⟨w.heap.size, 1, none⟩ = some (.slice A ws.length cap) := hC.cell 1
  have c2 : V.cell? ⟨w.heap.size, 2, none⟩ = some (.int .i64 n) := hC.cell 2
  have c3 : V.cell? ⟨w.heap.size, 3, none⟩ = some (.int .i64 y) := hC.cell 3
  have hl := Has.lt hC
  clear hV hC hat hm hA hs hn hy
  go_enter Tryd.func11, Tryd.ntmps11
  go_wp2_with (rw [← HV.out])
  refine (HP.out).mono ?_
  clear HP
  rintro e w1 ⟨rfl, b1⟩
  go_wp2_with fail
  go_ret2
  rw [HT.out]
  exact Ret.mk rfl (E0.trans b1)
set_option maxRecDepth 100000 in
set_option maxHeartbeats 4000000 in
theorem ptext_5 (n y : Int) (ws : List Txt) (A : Option Addr) (cap : Nat) (w : World) (hat : TxtAt w A ws) (hA : A = none → cap = 0) (hlen : ws.length ≤ 900) (hs : ∀ x ∈ ws, x.length ≤ 10000) (hMx : HasMax w) (hn : I64 n) (hy : I64 y) (hm : mayB ⟨5, ws, n, y⟩ = true) : Calls Tryd.prog 11 #[.agg #[.int .i64 5, .slice A ws.length cap, .int .i64 n, .int .i64 y]] w (Ret w (textV ⟨5, ws, n, y⟩)) := by
  obtain ⟨V, hV⟩ : ∃ V, V = w.alloc (.cells #[.int .i64 5, .slice A ws.length cap, .int .i64 n, .int .i64 y] 30) := ⟨_, rfl⟩
  have hC : Has V w.heap.size (.cells #[.int .i64 5, .slice A ws.length cap, .int .i64 n, .int .i64 y] 30) := by rw [hV]; exact Has.new _ _
  have E0 : Ext w V := by rw [hV]; exact (Ext.refl _).alloc _
  have HT := Lib.hid (textV_yes hm)
  have HP := Lib.hid (pmay_any 5 n y ws A cap V (hat.ext E0) (by omega) (fun x hx => by have := hs x hx; omega))
  rw [hm] at HP
  have HV := Lib.hid hV
  have HAN := Lib.hid hA
  have HS := Lib.hid hs
  have HIn := Lib.hid hn
  have HIy := Lib.hid hy
  have HAT := Lib.hid hat
  have HC := Lib.hid hC
  have HMY := Lib.hid hm
  have c0 : V.cell? ⟨w.heap.size, 0, none⟩ = some (.int .i64 5) := hC.cell 0
  have c1 : V.cell? ⟨w.heap.size, 1, none⟩ = some (.slice A ws.length cap) := hC.cell 1
  have c2 : V.cell? ⟨w.heap.size, 2, none⟩ = some (.int .i64 n) := hC.cell 2
  have c3 : V.cell? ⟨w.heap.size, 3, none⟩ = some (.int .i64 y) := hC.cell 3
  have hl := Has.lt hC
  clear hV hC hat hm hA hs hn hy
  go_enter Tryd.func11, Tryd.ntmps11
  go_wp2_with (rw [← HV.out])
  refine (HP.out).mono ?_
  clear HP
  rintro e w1 ⟨rfl, b1⟩
  have d0 : w1.cell? ⟨w.heap.size, 0, none⟩ = some (.int .i64 5) := (b1.cell hl).trans c0
  have d1 : w1.cell? ⟨w.heap.size, 1, none⟩ = some (.slice A ws.length cap) := (b1.cell hl).trans c1
  have d2 : w1.cell? ⟨w.heap.size, 2, none⟩ = some (.int .i64 n) := (b1.cell hl).trans c2
  have d3 : w1.cell? ⟨w.heap.size, 3, none⟩ = some (.int .i64 y) := (b1.cell hl).trans c3
  have hl1 : w.heap.size < w1.heap.size := by have := b1.size; omega
  have E1 := E0.trans b1
  have E2 := (E1.alloc (.cells #[] 9)).alloc (.cells #[.string (bs wMend)] 9)
  go_wp2_with fail
  refine (pline_any (some ⟨_, 0, none⟩) 1 [wMend] _ (made_atS _ _ _ (by simp)) (hMx.ext E2) (by decide) (by decide)).mono ?_
  rintro e w9 ⟨rfl, b9⟩
  go_wp2_with fail
  go_ret2
  rw [HT.out]
  exact Ret.mk rfl (E2.trans b9)
set_option maxRecDepth 100000 in
set_option maxHeartbeats 4000000 in
theorem ptext_2 (n y : Int) (ws : List Txt) (A : Option Addr) (cap : Nat) (w : World) (hat : TxtAt w A ws) (hA : A = none → cap = 0) (hlen : ws.length ≤ 900) (hs : ∀ x ∈ ws, x.length ≤ 10000) (hMx : HasMax w) (hn : I64 n) (hy : I64 y) (hm : mayB ⟨2, ws, n, y⟩ = true) : Calls Tryd.prog 11 #[.agg #[.int .i64 2, .slice A ws.length cap, .int .i64 n, .int .i64 y]] w (Ret w (textV ⟨2, ws, n, y⟩)) := by
  obtain ⟨V, hV⟩ : ∃ V, V = w.alloc (.cells #[.int .i64 2, .slice A ws.length cap, .int .i64 n, .int .i64 y] 30) := ⟨_, rfl⟩
  have hC : Has V w.heap.size (.cells #[.int .i64 2, .slice A ws.length cap, .int .i64 n, .int .i64 y] 30) := by rw [hV]; exact Has.new _ _
  have E0 : Ext w V := by rw [hV]; exact (Ext.refl _).alloc _
  have HT := Lib.hid (textV_yes hm)
  have HP := Lib.hid (pmay_any 2 n y ws A cap V (hat.ext E0) (by omega) (fun x hx => by have := hs x hx; omega))
  rw [hm] at HP
  have HV := Lib.hid hV
  have HAN := Lib.hid hA
  have HS := Lib.hid hs
  have HIn := Lib.hid hn
  have HIy := Lib.hid hy
  have HAT := Lib.hid hat
  have HC := Lib.hid hC
  have HMY := Lib.hid hm
  have c0 : V.cell? ⟨w.heap.size, 0, none⟩ = some (.int .i64 2) := hC.cell 0
  have c1 : V.cell? ⟨w.heap.size, 1, none⟩ = some (.slice A ws.length cap) := hC.cell 1
  have c2 : V.cell? ⟨w.heap.size, 2, none⟩ = some (.int .i64 n) := hC.cell 2
  have c3 : V.cell? ⟨w.heap.size, 3, none⟩ = some (.int .i64 y) := hC.cell 3
  have hl := Has.lt hC
  clear hV hC hat hm hA hs hn hy
  go_enter Tryd.func11, Tryd.ntmps11
  go_wp2_with (rw [← HV.out])
  refine (HP.out).mono ?_
  clear HP
  rintro e w1 ⟨rfl, b1⟩
  have d0 : w1.cell? ⟨w.heap.size, 0, none⟩ = some (.int .i64 2) := (b1.cell hl).trans c0
  have d1 : w1.cell? ⟨w.heap.size, 1, none⟩ = some (.slice A ws.length cap) := (b1.cell hl).trans c1
  have d2 : w1.cell? ⟨w.heap.size, 2, none⟩ = some (.int .i64 n) := (b1.cell hl).trans c2
  have d3 : w1.cell? ⟨w.heap.size, 3, none⟩ = some (.int .i64 y) := (b1.cell hl).trans c3
  have hl1 : w.heap.size < w1.heap.size := by have := b1.size; omega
  have E1 := E0.trans b1
  have E2 := E1.alloc (.cells #[] 9)
  go_wp2_with fail
  refine (pdec_any n _ HIn.out).mono ?_
  rintro e w2 ⟨rfl, b2⟩
  have E3 := (E2.trans b2).alloc (.cells #[.string (bs wTick), .string (bs (decI n))] 9)
  go_wp2_with fail
  refine (pline_any (some ⟨_, 0, none⟩) 2 [wTick, decI n] _ (made_atS _ _ _ (by simp)) (hMx.ext E3) (by simp) (two_small n (by decide))).mono ?_
  rintro e w9 ⟨rfl, b9⟩
  go_wp2_with fail
  go_ret2
  rw [HT.out]
  exact Ret.mk rfl (E3.trans b9)
set_option maxRecDepth 100000 in
set_option maxHeartbeats 4000000 in
theorem ptext_3 (n y : Int) (ws : List Txt) (A : Option Addr) (cap : Nat) (w : World) (hat : TxtAt w A ws) (hA : A = none → cap = 0) (hlen : ws.length ≤ 900) (hs : ∀ x ∈ ws, x.length ≤ 10000) (hMx : HasMax w) (hn : I64 n) (hy : I64 y) (hm : mayB ⟨3, ws, n, y⟩ = true) : Calls Tryd.prog 11 #[.agg #[.int .i64 3, .slice A ws.length cap, .int .i64 n, .int .i64 y]] w (Ret w (textV ⟨3, ws, n, y⟩)) := by
  obtain ⟨V, hV⟩ : ∃ V, V = w.alloc (.cells #[.int .i64 3, .slice A ws.length cap, .int .i64 n, .int .i64 y] 30) := ⟨_, rfl⟩
  have hC : Has V w.heap.size (.cells #[.int .i64 3, .slice A ws.length cap, .int .i64 n, .int .i64 y] 30) := by rw [hV]; exact Has.new _ _
  have E0 : Ext w V := by rw [hV]; exact (Ext.refl _).alloc _
  have HT := Lib.hid (textV_yes hm)
  have HP := Lib.hid (pmay_any 3 n y ws A cap V (hat.ext E0) (by omega) (fun x hx => by have := hs x hx; omega))
  rw [hm] at HP
  have HV := Lib.hid hV
  have HAN := Lib.hid hA
  have HS := Lib.hid hs
  have HIn := Lib.hid hn
  have HIy := Lib.hid hy
  have HAT := Lib.hid hat
  have HC := Lib.hid hC
  have HMY := Lib.hid hm
  have c0 : V.cell? ⟨w.heap.size, 0, none⟩ = some (.int .i64 3) := hC.cell 0
  have c1 : V.cell? ⟨w.heap.size, 1, none⟩ = some (.slice A ws.length cap) := hC.cell 1
  have c2 : V.cell? ⟨w.heap.size, 2, none⟩ = some (.int .i64 n) := hC.cell 2
  have c3 : V.cell? ⟨w.heap.size, 3, none⟩ = some (.int .i64 y) := hC.cell 3
  have hl := Has.lt hC
  clear hV hC hat hm hA hs hn hy
  go_enter Tryd.func11, Tryd.ntmps11
  go_wp2_with (rw [← HV.out])
  refine (HP.out).mono ?_
  clear HP
  rintro e w1 ⟨rfl, b1⟩
  have d0 : w1.cell? ⟨w.heap.size, 0, none⟩ = some (.int .i64 3) := (b1.cell hl).trans c0
  have d1 : w1.cell? ⟨w.heap.size, 1, none⟩ = some (.slice A ws.length cap) := (b1.cell hl).trans c1
  have d2 : w1.cell? ⟨w.heap.size, 2, none⟩ = some (.int .i64 n) := (b1.cell hl).trans c2
  have d3 : w1.cell? ⟨w.heap.size, 3, none⟩ = some (.int .i64 y) := (b1.cell hl).trans c3
  have hl1 : w.heap.size < w1.heap.size := by have := b1.size; omega
  have E1 := E0.trans b1
  have E2 := E1.alloc (.cells #[] 9)
  go_wp2_with fail
  refine (pdec_any n _ HIn.out).mono ?_
  rintro e w2 ⟨rfl, b2⟩
  have E3 := (E2.trans b2).alloc (.cells #[.string (bs wAs), .string (bs (decI n))] 9)
  go_wp2_with fail
  refine (pline_any (some ⟨_, 0, none⟩) 2 [wAs, decI n] _ (made_atS _ _ _ (by simp)) (hMx.ext E3) (by simp) (two_small n (by decide))).mono ?_
  rintro e w9 ⟨rfl, b9⟩
  go_wp2_with fail
  go_ret2
  rw [HT.out]
  exact Ret.mk rfl (E3.trans b9)
set_option maxRecDepth 100000 in
set_option maxHeartbeats 4000000 in
theorem ptext_1 (n y : Int) (ws : List Txt) (A : Option Addr) (cap : Nat) (w : World) (hat : TxtAt w A ws) (hA : A = none → cap = 0) (hlen : ws.length ≤ 900) (hs : ∀ x ∈ ws, x.length ≤ 10000) (hMx : HasMax w) (hn : I64 n) (hy : I64 y) (hm : mayB ⟨1, ws, n, y⟩ = true) : Calls Tryd.prog 11 #[.agg #[.int .i64 1, .slice A ws.length cap, .int .i64 n, .int .i64 y]] w (Ret w (textV ⟨1, ws, n, y⟩)) := by
  obtain ⟨V, hV⟩ : ∃ V, V = w.alloc (.cells #[.int .i64 1, .slice A ws.length cap, .int .i64 n, .int .i64 y] 30) := ⟨_, rfl⟩
  have hC : Has V w.heap.size (.cells #[.int .i64 1, .slice A ws.length cap, .int .i64 n, .int .i64 y] 30) := by rw [hV]; exact Has.new _ _
  have E0 : Ext w V := by rw [hV]; exact (Ext.refl _).alloc _
  have HT := Lib.hid (textV_yes hm)
  have HP := Lib.hid (pmay_any 1 n y ws A cap V (hat.ext E0) (by omega) (fun x hx => by have := hs x hx; omega))
  rw [hm] at HP
  have HV := Lib.hid hV
  have HAN := Lib.hid hA
  have HS := Lib.hid hs
  have HIn := Lib.hid hn
  have HIy := Lib.hid hy
  have HAT := Lib.hid hat
  have HC := Lib.hid hC
  have HMY := Lib.hid hm
  have c0 : V.cell? ⟨w.heap.size, 0, none⟩ = some (.int .i64 1) := hC.cell 0
  have c1 : V.cell? ⟨w.heap.size, 1, none⟩ = some (.slice A ws.length cap) := hC.cell 1
  have c2 : V.cell? ⟨w.heap.size, 2, none⟩ = some (.int .i64 n) := hC.cell 2
  have c3 : V.cell? ⟨w.heap.size, 3, none⟩ = some (.int .i64 y) := hC.cell 3
  have hl := Has.lt hC
  clear hV hC hat hm hA hs hn hy
  go_enter Tryd.func11, Tryd.ntmps11
  go_wp2_with (rw [← HV.out])
  refine (HP.out).mono ?_
  clear HP
  rintro e w1 ⟨rfl, b1⟩
  have d0 : w1.cell? ⟨w.heap.size, 0, none⟩ = some (.int .i64 1) := (b1.cell hl).trans c0
  have d1 : w1.cell? ⟨w.heap.size, 1, none⟩ = some (.slice A ws.length cap) := (b1.cell hl).trans c1
  have d2 : w1.cell? ⟨w.heap.size, 2, none⟩ = some (.int .i64 n) := (b1.cell hl).trans c2
  have d3 : w1.cell? ⟨w.heap.size, 3, none⟩ = some (.int .i64 y) := (b1.cell hl).trans c3
  have hl1 : w.heap.size < w1.heap.size := by have := b1.size; omega
  have E1 := E0.trans b1
  obtain ⟨wr, hwr⟩ : ∃ W, W = (w1.alloc (.cells #[] 9)).alloc (.cells #[.string ⟨#[114, 117, 110]⟩] 9) := ⟨_, rfl⟩
  have E2 : Ext w wr := by rw [hwr]; exact (E1.alloc _).alloc _
  have hO : OwnT wr w.heap.size (.slice (some ⟨w1.heap.size + 1, 0, none⟩) 1 1) [wRun] := by rw [hwr]; exact txt_oneS _ wRun _ _ (by simp) (by omega)
  have f1 : wr.cell? ⟨w.heap.size, 1, none⟩ = some (.slice A ws.length cap) := by
    have E3 : Ext w1 wr := by rw [hwr]; exact ((Ext.refl _).alloc _).alloc _
    exact (E3.cell hl1).trans d1
  have HW := Lib.hid hwr
  obtain ⟨v9, w8, hr9, hO9, hg9⟩ := app_list A cap ws wr hO (HAT.out.ext E2) HAN.out E2.size (by simp) (by omega)
  have HR9 := Lib.hid hr9
  have E9 : Ext w w8 := E2.grown hg9 (fun g hv => (World.ownsRow.lt hO g hv).1)
  obtain ⟨A9, k9, rfl, _, _, t9, _⟩ := hO9.at_
  have T9 := Lib.hid t9
  clear hr9 hg9 hO hO9 t9 hwr
  go_wp2_with (first | rw [← HW.out] | (at_builtin; refine Lib.wpList_append_run _ rfl _ _ 28 28 rfl _ _ rfl rfl _ _ HR9.out ?_))
  refine (pline_any A9 k9 ([wRun] ++ ws) w8 T9.out (hMx.ext E9) (by simp <;> omega) (run_small HS.out)).mono ?_
  rintro e w9 ⟨rfl, b9⟩
  go_wp2_with fail
  go_ret2
  rw [HT.out]
  exact Ret.mk rfl (E9.trans b9)
set_option maxRecDepth 100000 in
set_option maxHeartbeats 4000000 in
theorem ptext_4 (n y : Int) (ws : List Txt) (A : Option Addr) (cap : Nat) (w : World) (hat : TxtAt w A ws) (hA : A = none → cap = 0) (hlen : ws.length ≤ 900) (hs : ∀ x ∈ ws, x.length ≤ 10000) (hMx : HasMax w) (hn : I64 n) (hy : I64 y) (hm : mayB ⟨4, ws, n, y⟩ = true) : Calls Tryd.prog 11 #[.agg #[.int .i64 4, .slice A ws.length cap, .int .i64 n, .int .i64 y]] w (Ret w (textV ⟨4, ws, n, y⟩)) := by
  obtain ⟨V, hV⟩ : ∃ V, V = w.alloc (.cells #[.int .i64 4, .slice A ws.length cap, .int .i64 n, .int .i64 y] 30) := ⟨_, rfl⟩
  have hC : Has V w.heap.size (.cells #[.int .i64 4, .slice A ws.length cap, .int .i64 n, .int .i64 y] 30) := by rw [hV]; exact Has.new _ _
  have E0 : Ext w V := by rw [hV]; exact (Ext.refl _).alloc _
  have HT := Lib.hid (textV_yes hm)
  have HP := Lib.hid (pmay_any 4 n y ws A cap V (hat.ext E0) (by omega) (fun x hx => by have := hs x hx; omega))
  rw [hm] at HP
  have HV := Lib.hid hV
  have HAN := Lib.hid hA
  have HS := Lib.hid hs
  have HIn := Lib.hid hn
  have HIy := Lib.hid hy
  have HAT := Lib.hid hat
  have HC := Lib.hid hC
  have HMY := Lib.hid hm
  have c0 : V.cell? ⟨w.heap.size, 0, none⟩ = some (.int .i64 4) := hC.cell 0
  have c1 : V.cell? ⟨w.heap.size, 1, none⟩ = some (.slice A ws.length cap) := hC.cell 1
  have c2 : V.cell? ⟨w.heap.size, 2, none⟩ = some (.int .i64 n) := hC.cell 2
  have c3 : V.cell? ⟨w.heap.size, 3, none⟩ = some (.int .i64 y) := hC.cell 3
  have hl := Has.lt hC
  clear hV hC hat hm hA hs hn hy
  go_enter Tryd.func11, Tryd.ntmps11
  go_wp2_with (rw [← HV.out])
  refine (HP.out).mono ?_
  clear HP
  rintro e w1 ⟨rfl, b1⟩
  have d0 : w1.cell? ⟨w.heap.size, 0, none⟩ = some (.int .i64 4) := (b1.cell hl).trans c0
  have d1 : w1.cell? ⟨w.heap.size, 1, none⟩ = some (.slice A ws.length cap) := (b1.cell hl).trans c1
  have d2 : w1.cell? ⟨w.heap.size, 2, none⟩ = some (.int .i64 n) := (b1.cell hl).trans c2
  have d3 : w1.cell? ⟨w.heap.size, 3, none⟩ = some (.int .i64 y) := (b1.cell hl).trans c3
  have hl1 : w.heap.size < w1.heap.size := by have := b1.size; omega
  have E1 := E0.trans b1
  obtain ⟨W, hW⟩ : ∃ W, W = w1.alloc (.cells #[] 9) := ⟨_, rfl⟩
  have E2 : Ext w W := by rw [hW]; exact E1.alloc _
  have E3 : Ext w1 W := by rw [hW]; exact (Ext.refl _).alloc _
  have x2 : W.cell? ⟨w.heap.size, 2, none⟩ = some (.int .i64 n) := (E3.cell hl1).trans d2
  have x3 : W.cell? ⟨w.heap.size, 3, none⟩ = some (.int .i64 y) := (E3.cell hl1).trans d3
  have x0 : W.cell? ⟨w.heap.size, 0, none⟩ = some (.int .i64 4) := (E3.cell hl1).trans d0
  have hxl : w.heap.size < W.heap.size := by have := E3.size; omega
  have HW := Lib.hid hW
  clear hW
  go_wp2_with (rw [← HW.out])
  have hW1 : Ext W W.drew := (Ext.refl _).drew
  have KS : Hid (∀ w', Ext W w' → (Ext w w' ∧ w'.cell? ⟨w.heap.size, 2, none⟩ = some (.int .i64 n) ∧ w'.cell? ⟨w.heap.size, 3, none⟩ = some (.int .i64 y))) := fun w' h => ⟨E2.trans h, (h.cell hxl).trans x2, (h.cell hxl).trans x3⟩
  go_region_held3 (fun w' => Ext w w' ∧ w'.cell? ⟨w.heap.size, 2, none⟩ = some (.int .i64 n) ∧ w'.cell? ⟨w.heap.size, 3, none⟩ = some (.int .i64 y))
    ((first | exact KS.out _ hW1 | exact KS.out _ (hW1.trans hbd) | exact KS.out _ ((hW1.trans hbd).alloc _) | exact KS.out _ ((hW1.trans ‹Ext W.drew _›).trans hbd) | exact KS.out _ (((hW1.trans ‹Ext W.drew _›).trans hbd).alloc _)))
    ((first | (go_at_call 29; refine (pdec_any _ _ (by first | exact HIn.out | exact HIy.out)).mono ?_; rintro e wd ⟨rfl, hbd⟩)))
  have E4 : Ext w (wd.alloc (.cells #[.string (bs wFail), .string (bs (decI n)), .string (bs (decI y))] 9)) := (E2.trans ((hW1.trans ‹Ext W.drew _›).trans hbd)).alloc _
  go_wp2_with fail
  refine (pline_any (some ⟨_, 0, none⟩) 3 [wFail, decI n, decI y] _ (made_atS _ _ _ rfl) (hMx.ext E4) (by simp) (three_small n y (by decide))).mono ?_
  rintro e w9 ⟨rfl, b9⟩
  go_wp2_with fail
  go_ret2
  rw [HT.out]
  exact Ret.mk rfl (E4.trans b9)
theorem ptext_any (k n y : Int) (ws : List Txt) (A : Option Addr) (cap : Nat) (w : World) (hat : TxtAt w A ws) (hA : A = none → cap = 0) (hlen : ws.length ≤ 900) (hs : ∀ x ∈ ws, x.length ≤ 10000) (hMx : HasMax w) (hn : I64 n) (hy : I64 y) : Calls Tryd.prog 11 #[.agg #[.int .i64 k, .slice A ws.length cap, .int .i64 n, .int .i64 y]] w (Ret w (textV ⟨k, ws, n, y⟩)) := by
  cases hm : mayB ⟨k, ws, n, y⟩ with
  | false => exact ptext_no k n y ws A cap w hat hA hlen hs hMx hn hy hm
  | true =>
    rcases may_kinds hm with ⟨h, _⟩ | ⟨h, _⟩ | ⟨h, _⟩ | ⟨h, _⟩ | ⟨h, _⟩
    all_goals (simp only at h; subst h)
    · exact ptext_1 n y ws A cap w hat hA hlen hs hMx hn hy hm
    · exact ptext_2 n y ws A cap w hat hA hlen hs hMx hn hy hm
    · exact ptext_3 n y ws A cap w hat hA hlen hs hMx hn hy hm
    · exact ptext_4 n y ws A cap w hat hA hlen hs hMx hn hy hm
    · exact ptext_5 n y ws A cap w hat hA hlen hs hMx hn hy hm
end Go.Proofs.YtanaifobmkjpaaaDoor
