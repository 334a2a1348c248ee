/- Layer 46 (args): the law ArgsParses. -/
import Derived.Test.YtmppjbimdonfmaaDoorArgB
import Derived.Test.YtmppjbimdonfmaaDoorArgS
import Derived.Test.YtmppjbimdonfmaaDoorArgV
import Derived.Test.YtmppjbimdonfmaaDoorArgT
import Derived.Test.YtmppjbimdonfmaaDoorQuiG
namespace Go.Proofs.YtmppjbimdonfmaaDoor
open Go.ChangeShapes Go.WideShapes Go.ChangeAt Go.RowKit

attribute [local irreducible] wpQuiet
def resP : Option CmdN → CmdN
  | none => ⟨0, [], false, false, 0, 0⟩
  | some c => c
def errP : Option CmdN → Int
  | none => 1
  | some _ => 0
theorem PR.any {w w' : World} {p : Option CmdN} {e : Ending} (h : PR w p e w') : ∃ A cap, e = .returned (.tuple #[.agg (cmdC (resP p).k (.slice A (resP p).ps.length cap) (resP p).b (resP p).d (resP p).a (resP p).q), .int .i64 (errP p)]) ∧ TxtAt w' A (resP p).ps ∧ (A = none → cap = 0) ∧ Ext w w' := by
  cases p with
  | none => exact ⟨none, 0, h.1, .inl rfl, fun _ => rfl, h.2⟩
  | some c =>
    obtain ⟨v, he, ho, hE⟩ := h
    obtain ⟨A, cap, rfl, _, _, t, z⟩ := ho.at_
    exact ⟨A, cap, he, t, z, hE⟩
theorem writeC_len (k : Int) (ps : List Txt) (b d : Bool) (a q : Int) : (writeC k ps b d a q).length ≤ ps.length + 5 := by
  unfold writeC
  have h1 : ∀ (x : Bool) (t : Txt), (optW x t).length ≤ 1 := fun x t => by cases x <;> simp [optW]
  have h2 := h1 b wB
  have h3 := h1 d wR
  simp only [List.length_cons, List.length_append]
  split
  · simp; omega
  · split
    · simp; omega
    · simp; omega
theorem resP_small {L : List Txt} : (resP (parseC L)).ps.length ≤ L.length := by
  cases h : parseC L with
  | none => simp [resP]
  | some c => exact (parse_write L c h).2.2.2.1
theorem HasC {w V : World} {B : Nat} {k : Int} {v : Value} {b d : Bool} {a q : Int} (h : CmdAt V B k v b d a q) : Hid (∀ w', Ext V w' → w'.cell? ⟨B, 0, none⟩ = some (.int .i64 k) ∧ w'.cell? ⟨B, 1, none⟩ = some v ∧ w'.cell? ⟨B, 2, none⟩ = some (.bool b) ∧ w'.cell? ⟨B, 3, none⟩ = some (.bool d) ∧ w'.cell? ⟨B, 4, none⟩ = some (.int .i64 a) ∧ w'.cell? ⟨B, 5, none⟩ = some (.int .i64 q)) :=
  fun _ hE => CmdAt.cells (Has.ext h hE)
set_option maxRecDepth 100000 in
set_option maxHeartbeats 8000000 in
theorem argsParses_any (A CA : Option Addr) (cap ccap : Nat) (L cps : List Txt) (ck ca cq kind : Int) (cb cd : Bool) (w : World) (hat : TxtAt w A L) (hcap : L.length ≤ cap) (hlen : L.length ≤ 9223372036854775807) (hct : TxtAt w CA cps) (hCA : CA = none → ccap = 0) (hcl : cps.length ≤ 9223372036854775807) (hca : I64 ca) (hcq : I64 cq) (hN : NamesAt w) (hM : HasMax w) :
    Calls Tryd.prog 14 #[.slice A L.length cap, .agg (cmdC ck (.slice CA cps.length ccap) cb cd ca cq), .int .i64 kind] w (Ret w (.bool true)) := by
  obtain ⟨W0, hW0⟩ : ∃ W0, W0 = w.alloc (.cells (cmdC ck (.slice CA cps.length ccap) cb cd ca cq) 62) := ⟨_, rfl⟩
  have hC0 : CmdAt W0 w.heap.size ck (.slice CA cps.length ccap) cb cd ca cq := by rw [hW0]; exact Has.new _ _
  have E0 : Ext w W0 := by rw [hW0]; exact (Ext.refl _).alloc _
  have hf := few46_any A cap L W0 (hat.ext E0) hlen
  have hf2 := fun w' (hE : Ext W0 w') => few46_any CA ccap cps w' ((hct.ext E0).ext hE) hcl
  have HAW := Lib.hid (fun w' (hE : Ext w w') => awake46 w' (hN.ext hE) (hM.ext hE))
  have HC0 := HasC (w := w) hC0
  unfold cmdC at hW0 ⊢
  have HW0 := Lib.hid hW0
  have hl0 := Has.lt hC0
  clear hW0
  cases hfew : few46B L with
  | false =>
    rw [hfew] at hf
    have HF := Lib.hid hf
    obtain ⟨c0, c1, c2, c3, c4, c5⟩ := hC0.cells
    clear hf hf2 hfew
    go_enter Tryd.func14, Tryd.ntmps14
    go_wp2_with (rw [← HW0.out])
    refine (HF.out).mono ?_
    rintro e w1 ⟨rfl, b1⟩
    go_wp2_with fail
    refine (HAW.out _ (E0.trans b1)).mono ?_
    rintro e w2 ⟨rfl, b2⟩
    go_wp2_with fail
    go_ret
    exact Ret.mk rfl ((E0.trans b1).trans b2)
  | true =>
    rw [hfew] at hf
    have HF := Lib.hid hf
    obtain ⟨h12, -⟩ := few46_yes hfew
    cases hfc : few46B cps with
    | false =>
      rw [hfc] at hf2
      have HF2 := Lib.hid hf2
      clear hf hf2 hfew hfc
      go_enter Tryd.func14, Tryd.ntmps14
      go_wp2_with (rw [← HW0.out])
      refine (HF.out).mono ?_
      rintro e w1 ⟨rfl, b1⟩
      obtain ⟨c0, c1, c2, c3, c4, c5⟩ := HC0.out w1 b1
      go_wp2_with fail
      refine (HF2.out _ b1).mono ?_
      rintro e w2 ⟨rfl, b2⟩
      have E2 := (E0.trans b1).trans b2
      go_wp2_with fail
      refine (HAW.out _ E2).mono ?_
      rintro e w3 ⟨rfl, b3⟩
      go_wp2_with fail
      go_ret
      exact Ret.mk rfl (E2.trans b3)
    | true =>
      rw [hfc] at hf2
      have HF2 := Lib.hid hf2
      obtain ⟨hc12, -⟩ := few46_yes hfc
      obtain ⟨c, hc⟩ : ∃ c, c = resP (parseC L) := ⟨_, rfl⟩
      obtain ⟨E, hE⟩ : ∃ E, E = errP (parseC L) := ⟨_, rfl⟩
      have hsm := resP_small (L := L)
      have HP1 := Lib.hid (fun w' (hE : Ext w w') => (pparseC_any A cap L w' (hat.ext hE) (hN.ext hE) hcap (by omega)).mono (fun e w2 h => PR.any h))
      have HP2 := Lib.hid (fun w' (hE : Ext w w') => (rparseC_any A cap L w' (hat.ext hE) (by omega)).mono (fun e w2 h => PR.any h))
      rw [← hc, ← hE] at HP1 HP2
      rw [← hc] at hsm
      obtain ⟨kk, ps, b, d, a, q⟩ := c
      have HC := Lib.hid hc.symm
      have HE := Lib.hid hE
      have HN := Lib.hid hN
      have HAT := Lib.hid hat
      have HCT := Lib.hid hct
      have HCA := Lib.hid hCA
      have HLL : Hid (ps.length ≤ 12) := by show _ ≤ _; simp only [] at hsm; omega
      have HC12 := Lib.hid hc12
      have HI1 := Lib.hid hca
      have HI2 := Lib.hid hcq
      clear hf hf2 hfew hfc hc hE hsm hN hct hCA hcl hca hcq hM hc12
      dsimp only at HP1 HP2
      unfold cmdC at HP1 HP2
      go_enter Tryd.func14, Tryd.ntmps14
      go_wp2_with (rw [← HW0.out])
      refine (HF.out).mono ?_
      rintro e u1 ⟨rfl, d1⟩
      obtain ⟨g0, g1, g2, g3, g4, g5⟩ := HC0.out u1 d1
      go_wp2_with fail
      refine (HF2.out _ d1).mono ?_
      rintro e u2 ⟨rfl, d2⟩
      have D2 := (E0.trans d1).trans d2
      go_wp2_with fail
      refine (HP1.out _ D2).mono ?_
      rintro e w1 ⟨A1, c1, rfl, t1, z1, b1⟩
      obtain ⟨V1, hV1⟩ : ∃ V1, V1 = w1.alloc (.cells (cmdC kk (.slice A1 ps.length c1) b d a q) 62) := ⟨_, rfl⟩
      have h7 : CmdAt V1 w1.heap.size kk (.slice A1 ps.length c1) b d a q := by rw [hV1]; exact Has.new _ _
      have X1 : Ext w1 V1 := by rw [hV1]; exact (Ext.refl _).alloc _
      have E1 := (D2.trans b1).trans X1
      unfold cmdC at hV1
      have HV1 := Lib.hid hV1
      clear hV1 g0 g1 g2 g3 g4 g5
      go_wp2_with (rw [← HV1.out])
      refine (HP2.out _ E1).mono ?_
      rintro e w2 ⟨A2, c2, rfl, t2, z2, b2⟩
      obtain ⟨V, hV⟩ : ∃ V, V = w2.alloc (.cells (cmdC kk (.slice A2 ps.length c2) b d a q) 62) := ⟨_, rfl⟩
      have h9 : CmdAt V w2.heap.size kk (.slice A2 ps.length c2) b d a q := by rw [hV]; exact Has.new _ _
      have X2 : Ext w2 V := by rw [hV]; exact (Ext.refl _).alloc _
      have E2 := (E1.trans b2).trans X2
      unfold cmdC at hV
      have HV := Lib.hid hV
      obtain ⟨B7, hB7⟩ : ∃ B7, B7 = w1.heap.size := ⟨_, rfl⟩
      have h7V : CmdAt V w1.heap.size kk (.slice A1 ps.length c1) b d a q := Has.ext h7 (b2.trans X2)
      have H7 : Hid (∀ w', Ext V w' → CmdAt w' B7 kk (.slice A1 ps.length c1) b d a q) := fun w' hE => by rw [hB7]; exact Has.ext h7V hE
      have HCC : Hid (∀ w', Ext V w' → _) := fun w' hE => HC0.out w' ((((((d1.trans d2).trans b1).trans X1).trans b2).trans X2).trans hE)
      have T1 : Hid (TxtAt V A1 ps) := (t1.ext X1).ext (b2.trans X2)
      have Z1 := Lib.hid z1
      have hsm := fun w' (hE : Ext V w') => same46_any kk A1 A2 c1 c2 ps b d a q w' (T1.out.ext hE) ((t2.ext X2).ext hE) (by have := HLL.out; omega)
      unfold cmdC at hsm
      have SM := Lib.hid hsm
      have N1 := Lib.hid (fun w' (hE : Ext V w') => pname_any kind w' (HN.out.ext (E2.trans hE)))
      have N2 := Lib.hid (fun w' => rname_any kind w')
      obtain ⟨nmK, hnmK⟩ : ∃ n, n = nameN kind := ⟨_, rfl⟩
      rw [← hnmK] at N1 N2
      obtain ⟨WL, hWL⟩ : ∃ WL, WL = writeC ck cps cb cd ca cq := ⟨_, rfl⟩
      have HWL : Hid (WL.length ≤ 1000000) := by show _ ≤ _; rw [hWL]; have := writeC_len ck cps cb cd ca cq; have := HC12.out; omega
      have hpw0 := fun w' (hE : Ext V w') => pwrite_any ck CA ccap cps cb cd ca cq w' (HCT.out.ext (E2.trans hE)) (HN.out.ext (E2.trans hE)) HCA.out (by have := HC12.out; omega) HI1.out HI2.out
      have hrw0 := fun w' (hE : Ext V w') => rwrite_any ck CA ccap cps cb cd ca cq w' (HCT.out.ext (E2.trans hE)) HCA.out (by have := HC12.out; omega) HI1.out HI2.out
      rw [← hWL] at hpw0 hrw0
      unfold cmdC at hpw0 hrw0
      have PW := Lib.hid hpw0
      have RW := Lib.hid hrw0
      have l7 := h7V.lt
      have l9 := Has.lt h9
      obtain ⟨m0, m1, m2, m3, m4, m5⟩ := h7V.cells
      obtain ⟨n0, n1, n2, n3, n4, n5⟩ := h9.cells
      have x0 : ∀ u : Gr V, u.w.cell? ⟨w1.heap.size, 0, none⟩ = some (.int .i64 (kk : Int)) := Gr.cell l7 m0
      have y0 : ∀ u : Gr V, u.w.cell? ⟨w2.heap.size, 0, none⟩ = some (.int .i64 (kk : Int)) := Gr.cell l9 n0
      have x1 : ∀ u : Gr V, u.w.cell? ⟨w1.heap.size, 1, none⟩ = some (.slice A1 ps.length c1) := Gr.cell l7 m1
      have y1 : ∀ u : Gr V, u.w.cell? ⟨w2.heap.size, 1, none⟩ = some (.slice A2 ps.length c2) := Gr.cell l9 n1
      have x2 : ∀ u : Gr V, u.w.cell? ⟨w1.heap.size, 2, none⟩ = some (.bool b) := Gr.cell l7 m2
      have y2 : ∀ u : Gr V, u.w.cell? ⟨w2.heap.size, 2, none⟩ = some (.bool b) := Gr.cell l9 n2
      have x3 : ∀ u : Gr V, u.w.cell? ⟨w1.heap.size, 3, none⟩ = some (.bool d) := Gr.cell l7 m3
      have y3 : ∀ u : Gr V, u.w.cell? ⟨w2.heap.size, 3, none⟩ = some (.bool d) := Gr.cell l9 n3
      have x4 : ∀ u : Gr V, u.w.cell? ⟨w1.heap.size, 4, none⟩ = some (.int .i64 a) := Gr.cell l7 m4
      have y4 : ∀ u : Gr V, u.w.cell? ⟨w2.heap.size, 4, none⟩ = some (.int .i64 a) := Gr.cell l9 n4
      have x5 : ∀ u : Gr V, u.w.cell? ⟨w1.heap.size, 5, none⟩ = some (.int .i64 q) := Gr.cell l7 m5
      have y5 : ∀ u : Gr V, u.w.cell? ⟨w2.heap.size, 5, none⟩ = some (.int .i64 q) := Gr.cell l9 n5
      clear hV hsm hpw0 hrw0 hWL hnmK t1 t2 z1 z2 h7 h9 h7V m0 m1 m2 m3 m4 m5 n0 n1 n2 n3 n4 n5
      cases L with
      | nil =>
        rw [List.length_nil]
        go_wp2_with (rw [← HV.out])
        refine wp_region_grow_tail V 33 (by kernel_rfl) (by kernel_rfl) (Ext.refl _).drew ?_
        simp only [List.take_succ_cons, List.take_zero]
        repeat (quiet_step (((first | with_reducible refine (SM.out _ (Gr.h _)).mono ?_ | with_reducible refine (N1.out _ (Gr.h _)).mono ?_ | with_reducible refine (N2.out _).mono ?_); rintro e w'' ⟨rfl, hEx⟩; exact ⟨rfl, ⟨w'', Ext.trans (Gr.h _) hEx⟩, rfl⟩)))
        refine wpQuiet_nil ?_
        rintro w5 ⟨⟨w5', b5⟩, h5⟩
        dsimp only at h5
        subst h5
        refine wpAny_of_held (S := (fun w' => (w'.cell? ⟨w.heap.size, 0, none⟩ = some (.int .i64 ck) ∧ w'.cell? ⟨w.heap.size, 1, none⟩ = some (.slice CA cps.length ccap) ∧ w'.cell? ⟨w.heap.size, 2, none⟩ = some (.bool cb) ∧ w'.cell? ⟨w.heap.size, 3, none⟩ = some (.bool cd) ∧ w'.cell? ⟨w.heap.size, 4, none⟩ = some (.int .i64 ca) ∧ w'.cell? ⟨w.heap.size, 5, none⟩ = some (.int .i64 cq)) ∧ Ext V w')) _ _ _ _ ?_
        show wpAnyH _ _ _ _ _ 7 _ _ _
        have hS : (fun w' => (w'.cell? ⟨w.heap.size, 0, none⟩ = some (.int .i64 ck) ∧ w'.cell? ⟨w.heap.size, 1, none⟩ = some (.slice CA cps.length ccap) ∧ w'.cell? ⟨w.heap.size, 2, none⟩ = some (.bool cb) ∧ w'.cell? ⟨w.heap.size, 3, none⟩ = some (.bool cd) ∧ w'.cell? ⟨w.heap.size, 4, none⟩ = some (.int .i64 ca) ∧ w'.cell? ⟨w.heap.size, 5, none⟩ = some (.int .i64 cq)) ∧ Ext V w') w5 := ⟨HCC.out w5 b5, b5⟩
        refine wpAnyH_take (i := 33) (oi := { dst := some 66, op := Op.load 62 (Operand.tmp 4), type := 62, pos := "law.go:68", after := #[{ on := 32, ground := Ground.guard }], guard := some (32, false) }) (v := ?_) rfl (by kernel_rfl) (by kernel_rfl) (by kernel_rfl) (fun _ _ _ h => h) (Or.inl ⟨by rfl, ?_⟩) hS ?_
        rotate_left
        · (intro w0 hS0; (try dsimp only at hS0); go_simp; try with_reducible rfl)
        try simp only [Act.put, List.setIfInBounds_toArray, List.set_cons_zero, List.set_cons_succ]
        refine wpAnyH_take (i := 35) (oi := { dst := some 68, op := Op.load 62 (Operand.tmp 4), type := 62, pos := "law.go:68", after := #[{ on := 32, ground := Ground.guard }], guard := some (32, false) }) (v := ?_) rfl (by kernel_rfl) (by kernel_rfl) (by kernel_rfl) (fun _ _ _ h => h) (Or.inl ⟨by rfl, ?_⟩) hS ?_
        rotate_left
        · (intro w0 hS0; (try dsimp only at hS0); go_simp; try with_reducible rfl)
        try simp only [Act.put, List.setIfInBounds_toArray, List.set_cons_zero, List.set_cons_succ]
        refine wpAnyH_ready (rs := [34]) (by kernel_rfl) (by simp) ?_
        refine AllReadyH.cons (o := { dst := some 67, op := Op.call { callee := Callee.value (Operand.func 70), args := #[Operand.tmp 66], argTypes := #[62] }, type := 24, pos := "law.go:68", after := #[{ on := 33, ground := Ground.data }, { on := 32, ground := Ground.chain }, { on := 32, ground := Ground.guard }], guard := some (32, false) }) rfl (fun K hK => ?_) AllReadyH.nil
        go_simp
        refine (PW.out _ b5).mono ?_
        rintro e w6 ⟨v6, rfl, ho6, b6⟩
        obtain ⟨A6, c6, hv6, _, _, t6, _⟩ := ho6.at_
        subst hv6
        have b56 := b5.trans b6
        have keepS : (fun w' => (w'.cell? ⟨w.heap.size, 0, none⟩ = some (.int .i64 ck) ∧ w'.cell? ⟨w.heap.size, 1, none⟩ = some (.slice CA cps.length ccap) ∧ w'.cell? ⟨w.heap.size, 2, none⟩ = some (.bool cb) ∧ w'.cell? ⟨w.heap.size, 3, none⟩ = some (.bool cd) ∧ w'.cell? ⟨w.heap.size, 4, none⟩ = some (.int .i64 ca) ∧ w'.cell? ⟨w.heap.size, 5, none⟩ = some (.int .i64 cq)) ∧ Ext V w') w6 := ⟨HCC.out w6 b56, b56⟩
        clear hS
        refine hK.out _ _ ?_ (fun hS => ?_)
        · exact keepS
        clear hK K
        try simp only [Act.put, List.setIfInBounds_toArray, List.set_cons_zero, List.set_cons_succ]
        refine wpAnyH_ready (rs := [36]) (by kernel_rfl) (by simp) ?_
        refine AllReadyH.cons (o := { dst := some 69, op := Op.call { callee := Callee.value (Operand.func 71), args := #[Operand.tmp 68], argTypes := #[62] }, type := 24, pos := "law.go:68", after := #[{ on := 35, ground := Ground.data }, { on := 34, ground := Ground.chain }, { on := 32, ground := Ground.guard }], guard := some (32, false) }) rfl (fun K hK => ?_) AllReadyH.nil
        go_simp
        refine (RW.out _ b56).mono ?_
        rintro e w7 ⟨v7, rfl, ho7, b7⟩
        obtain ⟨A7, c7, hv7, _, _, t7, _⟩ := ho7.at_
        subst hv7
        have b57 := b56.trans b7
        have keepS : (fun w' => (w'.cell? ⟨w.heap.size, 0, none⟩ = some (.int .i64 ck) ∧ w'.cell? ⟨w.heap.size, 1, none⟩ = some (.slice CA cps.length ccap) ∧ w'.cell? ⟨w.heap.size, 2, none⟩ = some (.bool cb) ∧ w'.cell? ⟨w.heap.size, 3, none⟩ = some (.bool cd) ∧ w'.cell? ⟨w.heap.size, 4, none⟩ = some (.int .i64 ca) ∧ w'.cell? ⟨w.heap.size, 5, none⟩ = some (.int .i64 cq)) ∧ Ext V w') w7 := ⟨HCC.out w7 b57, b57⟩
        clear hS
        refine hK.out _ _ ?_ (fun hS => ?_)
        · exact keepS
        clear hK K
        try simp only [Act.put, List.setIfInBounds_toArray, List.set_cons_zero, List.set_cons_succ]
        refine wpAnyH_ready (rs := [37]) (by kernel_rfl) (by simp) ?_
        refine AllReadyH.cons (o := { dst := some 70, op := Op.call { callee := Callee.value (Operand.func 22), args := #[Operand.tmp 67, Operand.tmp 69], argTypes := #[24, 24] }, type := 4, pos := "law.go:68", after := #[{ on := 34, ground := Ground.data }, { on := 36, ground := Ground.data }, { on := 36, ground := Ground.chain }, { on := 32, ground := Ground.guard }], guard := some (32, false) }) rfl (fun K hK => ?_) AllReadyH.nil
        go_simp
        refine (rsame_any A6 A7 c6 c7 WL _ (t6.ext b7) t7 HWL.out).mono ?_
        rintro e w8 ⟨rfl, b8⟩
        have b58 := b57.trans b8
        have keepS : (fun w' => (w'.cell? ⟨w.heap.size, 0, none⟩ = some (.int .i64 ck) ∧ w'.cell? ⟨w.heap.size, 1, none⟩ = some (.slice CA cps.length ccap) ∧ w'.cell? ⟨w.heap.size, 2, none⟩ = some (.bool cb) ∧ w'.cell? ⟨w.heap.size, 3, none⟩ = some (.bool cd) ∧ w'.cell? ⟨w.heap.size, 4, none⟩ = some (.int .i64 ca) ∧ w'.cell? ⟨w.heap.size, 5, none⟩ = some (.int .i64 cq)) ∧ Ext V w') w8 := ⟨HCC.out w8 b58, b58⟩
        clear hS
        refine hK.out _ _ ?_ (fun hS => ?_)
        · exact keepS
        clear hK K
        try simp only [Act.put, List.setIfInBounds_toArray, List.set_cons_zero, List.set_cons_succ]
        refine wpAnyH_take (i := 38) (oi := { dst := some 71, op := Op.unOp UnOp.not 4 (Operand.tmp 70), type := 4, pos := "law.go:68", after := #[{ on := 37, ground := Ground.data }, { on := 32, ground := Ground.guard }], guard := some (32, false) }) (v := ?_) rfl (by kernel_rfl) (by kernel_rfl) (by kernel_rfl) (fun _ _ _ h => h) (Or.inl ⟨by rfl, ?_⟩) hS ?_
        rotate_left
        · (intro w0 hS0; (try dsimp only at hS0); go_simp; try with_reducible rfl)
        try simp only [Act.put, List.setIfInBounds_toArray, List.set_cons_zero, List.set_cons_succ]
        refine wpAnyH_take (i := 39) (oi := { dst := some 72, op := Op.pick (Operand.tmp 65) (Operand.const (Value.bool true)) (Operand.tmp 71), type := 4, pos := "law.go:68", after := #[{ on := 32, ground := Ground.data }, { on := 38, ground := Ground.data }], guard := none }) (v := ?_) rfl (by kernel_rfl) (by kernel_rfl) (by kernel_rfl) (fun _ _ _ h => h) (Or.inl ⟨by rfl, ?_⟩) hS ?_
        rotate_left
        · (intro w0 hS0; (try dsimp only at hS0); go_simp; try with_reducible rfl)
        try simp only [Act.put, List.setIfInBounds_toArray, List.set_cons_zero, List.set_cons_succ]
        refine wpAnyH_done (by kernel_rfl) ?_ _
        have E8 := E2.trans b58
        cases hp : parseC ([] : List Txt) with
        | none =>
          have hE1 : E = 1 := by rw [HE.out, hp]; rfl
          subst hE1
          go_wp2_with fail
          refine (HAW.out _ E8).mono ?_
          rintro e w9 ⟨rfl, b9⟩
          go_wp2_with fail
          go_ret
          exact Ret.mk rfl (E8.trans b9)
        | some c =>
          have hE1 : E = 0 := by rw [HE.out, hp]; rfl
          subst hE1
          have hc : c = ⟨kk, ps, b, d, a, q⟩ := by have h := HC.out; rw [hp] at h; exact h
          have hpw := parse_write [] c hp
          rw [hc] at hpw
          obtain ⟨y1, ⟨y2, y3⟩, y4, y5, y6⟩ := hpw
          subst hB7
          have h7 := H7.out w8 b58
          obtain ⟨x0, x1, x2, x3, x4, x5⟩ := h7.cells
          have f7 := h7.frz
          have hw7 := pwrite_any kk A1 c1 ps b d a q w8 (T1.out.ext b58) (HN.out.ext E8) Z1.out (by have := HLL.out; omega) y2 y3
          unfold cmdC at hw7
          have HW7 := Lib.hid hw7
          have HP8 := Lib.hid (fun (A' : Option Addr) (cap' : Nat) (w' : World) (hE : Ext w w') (ht : TxtAt w' A' (writeC kk ps b d a q)) (hc' : (writeC kk ps b d a q).length ≤ cap') (hl' : (writeC kk ps b d a q).length ≤ 1000) => pparseC_any A' cap' (writeC kk ps b d a q) w' ht (HN.out.ext hE) hc' hl')
          rw [y1] at HP8
          have hwl : (writeC kk ps b d a q).length ≤ 1000 := by
            have h1 : ps.length ≤ 12 := by have := HLL.out; omega
            exact Nat.le_trans (writeC_len kk ps b d a q) (by omega)
          have HWL8 := Lib.hid hwl
          clear hw7 y1 y2 y3 y4 y5 y6 hc hp h7 hwl
          go_wp2_with fail
          refine (HW7.out).mono ?_
          rintro e w9 ⟨v9, rfl, ho9, b9⟩
          obtain ⟨A9, c9, hv9, z9, _, t9, _⟩ := ho9.at_
          subst hv9
          have E9 := E8.trans b9
          obtain ⟨ln, hln⟩ : ∃ ln, ln = (writeC kk ps b d a q).length := ⟨_, rfl⟩
          have hp9 := HP8.out A9 c9 w9 E9 t9 z9 HWL8.out
          rw [← hln] at hp9 ⊢
          have HP9 := Lib.hid hp9
          clear hp9 ho9 z9 t9 x0 x1 x2 x3 x4 x5 hln
          go_wp2_with fail
          refine (HP9.out).mono ?_
          rintro e w10 ⟨v10, rfl, ho10, b10⟩
          obtain ⟨A10, c10, hv10, z10, _, t10, _⟩ := ho10.at_
          subst hv10
          have E10 := E9.trans b10
          obtain ⟨V3, hV3⟩ : ∃ V3, V3 = w10.alloc (.cells (cmdC kk (.slice A10 ps.length c10) b d a q) 62) := ⟨_, rfl⟩
          have hC3 : CmdAt V3 w10.heap.size kk (.slice A10 ps.length c10) b d a q := by rw [hV3]; exact Has.new _ _
          have X3 : Ext w10 V3 := by rw [hV3]; exact (Ext.refl _).alloc _
          have h73 : CmdAt V3 _ kk (.slice A1 ps.length c1) b d a q := Has.ext (H7.out w8 b58) ((b9.trans b10).trans X3)
          obtain ⟨x0, x1, x2, x3, x4, x5⟩ := h73.cells
          obtain ⟨y0, y1, y2, y3, y4, y5⟩ := hC3.cells
          have hs3 := same46_any kk A10 A1 c10 c1 ps b d a q V3 (t10.ext X3) ((((T1.out.ext b58).ext b9).ext b10).ext X3) (by have := HLL.out; omega)
          unfold cmdC at hs3 hV3
          have HS3 := Lib.hid hs3
          have HV3 := Lib.hid hV3
          have E11 := E10.trans X3
          clear hs3 hV3 ho10 t10 z10
          unfold cmdC
          go_wp2_with (rw [← HV3.out])
          refine (HS3.out).mono ?_
          rintro e w12 ⟨rfl, b12⟩
          have E12 := E11.trans b12
          go_wp2_with fail
          refine (HAW.out _ E12).mono ?_
          rintro e w13 ⟨rfl, b13⟩
          go_wp2_with fail
          go_ret
          exact Ret.mk rfl (E12.trans b13)
      | cons s l =>
        obtain ⟨bl, o, rfl, hbl, hs0⟩ := HAT.out.at_ E2 0 (by simp)
        have hs1 : V.cell? ⟨bl, o, none⟩ = some (.string (bs s)) := hs0
        have z0 : ∀ u : Gr V, u.w.cell? ⟨bl, o, none⟩ = some (.string (bs s)) := Gr.cell hbl hs1
        obtain ⟨nL, hnL⟩ : ∃ nL, nL = (s :: l).length := ⟨_, rfl⟩
        have hn1 : 0 < nL := by rw [hnL]; simp
        have hn0 : (0 : Int) < (nL : Int) := by omega
        obtain ⟨kS, hkS⟩ : ∃ k, k = kindN s := ⟨_, rfl⟩
        have K1 := Lib.hid (fun w' (hE : Ext V w') => pkind_any s w' (HN.out.ext (E2.trans hE)))
        have K2 := Lib.hid (fun w' => rkind_any s w')
        rw [← hkS] at K1 K2
        rw [← hnL]
        clear hs0 hs1 hnL hkS
        go_wp2_with (rw [← HV.out])
        refine wp_region_grow_tail V 33 (by kernel_rfl) (by kernel_rfl) (Ext.refl _).drew ?_
        simp only [List.take_succ_cons, List.take_zero]
        repeat (quiet_step (((first | with_reducible refine (SM.out _ (Gr.h _)).mono ?_ | with_reducible refine (N1.out _ (Gr.h _)).mono ?_ | with_reducible refine (N2.out _).mono ?_ | with_reducible refine (K1.out _ (Gr.h _)).mono ?_ | with_reducible refine (K2.out _).mono ?_); rintro e w'' ⟨rfl, hEx⟩; exact ⟨rfl, ⟨w'', Ext.trans (Gr.h _) hEx⟩, rfl⟩)))
        refine wpQuiet_nil ?_
        rintro w5 ⟨⟨w5', b5⟩, h5⟩
        dsimp only at h5
        subst h5
        refine wpAny_of_held (S := (fun w' => (w'.cell? ⟨w.heap.size, 0, none⟩ = some (.int .i64 ck) ∧ w'.cell? ⟨w.heap.size, 1, none⟩ = some (.slice CA cps.length ccap) ∧ w'.cell? ⟨w.heap.size, 2, none⟩ = some (.bool cb) ∧ w'.cell? ⟨w.heap.size, 3, none⟩ = some (.bool cd) ∧ w'.cell? ⟨w.heap.size, 4, none⟩ = some (.int .i64 ca) ∧ w'.cell? ⟨w.heap.size, 5, none⟩ = some (.int .i64 cq)) ∧ Ext V w')) _ _ _ _ ?_
        show wpAnyH _ _ _ _ _ 7 _ _ _
        have hS : (fun w' => (w'.cell? ⟨w.heap.size, 0, none⟩ = some (.int .i64 ck) ∧ w'.cell? ⟨w.heap.size, 1, none⟩ = some (.slice CA cps.length ccap) ∧ w'.cell? ⟨w.heap.size, 2, none⟩ = some (.bool cb) ∧ w'.cell? ⟨w.heap.size, 3, none⟩ = some (.bool cd) ∧ w'.cell? ⟨w.heap.size, 4, none⟩ = some (.int .i64 ca) ∧ w'.cell? ⟨w.heap.size, 5, none⟩ = some (.int .i64 cq)) ∧ Ext V w') w5 := ⟨HCC.out w5 b5, b5⟩
        refine wpAnyH_take (i := 33) (oi := { dst := some 66, op := Op.load 62 (Operand.tmp 4), type := 62, pos := "law.go:68", after := #[{ on := 32, ground := Ground.guard }], guard := some (32, false) }) (v := ?_) rfl (by kernel_rfl) (by kernel_rfl) (by kernel_rfl) (fun _ _ _ h => h) (Or.inl ⟨by rfl, ?_⟩) hS ?_
        rotate_left
        · (intro w0 hS0; (try dsimp only at hS0); go_simp; try with_reducible rfl)
        try simp only [Act.put, List.setIfInBounds_toArray, List.set_cons_zero, List.set_cons_succ]
        refine wpAnyH_take (i := 35) (oi := { dst := some 68, op := Op.load 62 (Operand.tmp 4), type := 62, pos := "law.go:68", after := #[{ on := 32, ground := Ground.guard }], guard := some (32, false) }) (v := ?_) rfl (by kernel_rfl) (by kernel_rfl) (by kernel_rfl) (fun _ _ _ h => h) (Or.inl ⟨by rfl, ?_⟩) hS ?_
        rotate_left
        · (intro w0 hS0; (try dsimp only at hS0); go_simp; try with_reducible rfl)
        try simp only [Act.put, List.setIfInBounds_toArray, List.set_cons_zero, List.set_cons_succ]
        refine wpAnyH_ready (rs := [34]) (by kernel_rfl) (by simp) ?_
        refine AllReadyH.cons (o := { dst := some 67, op := Op.call { callee := Callee.value (Operand.func 70), args := #[Operand.tmp 66], argTypes := #[62] }, type := 24, pos := "law.go:68", after := #[{ on := 33, ground := Ground.data }, { on := 32, ground := Ground.chain }, { on := 32, ground := Ground.guard }], guard := some (32, false) }) rfl (fun K hK => ?_) AllReadyH.nil
        go_simp
        refine (PW.out _ b5).mono ?_
        rintro e w6 ⟨v6, rfl, ho6, b6⟩
        obtain ⟨A6, c6, hv6, _, _, t6, _⟩ := ho6.at_
        subst hv6
        have b56 := b5.trans b6
        have keepS : (fun w' => (w'.cell? ⟨w.heap.size, 0, none⟩ = some (.int .i64 ck) ∧ w'.cell? ⟨w.heap.size, 1, none⟩ = some (.slice CA cps.length ccap) ∧ w'.cell? ⟨w.heap.size, 2, none⟩ = some (.bool cb) ∧ w'.cell? ⟨w.heap.size, 3, none⟩ = some (.bool cd) ∧ w'.cell? ⟨w.heap.size, 4, none⟩ = some (.int .i64 ca) ∧ w'.cell? ⟨w.heap.size, 5, none⟩ = some (.int .i64 cq)) ∧ Ext V w') w6 := ⟨HCC.out w6 b56, b56⟩
        clear hS
        refine hK.out _ _ ?_ (fun hS => ?_)
        · exact keepS
        clear hK K
        try simp only [Act.put, List.setIfInBounds_toArray, List.set_cons_zero, List.set_cons_succ]
        refine wpAnyH_ready (rs := [36]) (by kernel_rfl) (by simp) ?_
        refine AllReadyH.cons (o := { dst := some 69, op := Op.call { callee := Callee.value (Operand.func 71), args := #[Operand.tmp 68], argTypes := #[62] }, type := 24, pos := "law.go:68", after := #[{ on := 35, ground := Ground.data }, { on := 34, ground := Ground.chain }, { on := 32, ground := Ground.guard }], guard := some (32, false) }) rfl (fun K hK => ?_) AllReadyH.nil
        go_simp
        refine (RW.out _ b56).mono ?_
        rintro e w7 ⟨v7, rfl, ho7, b7⟩
        obtain ⟨A7, c7, hv7, _, _, t7, _⟩ := ho7.at_
        subst hv7
        have b57 := b56.trans b7
        have keepS : (fun w' => (w'.cell? ⟨w.heap.size, 0, none⟩ = some (.int .i64 ck) ∧ w'.cell? ⟨w.heap.size, 1, none⟩ = some (.slice CA cps.length ccap) ∧ w'.cell? ⟨w.heap.size, 2, none⟩ = some (.bool cb) ∧ w'.cell? ⟨w.heap.size, 3, none⟩ = some (.bool cd) ∧ w'.cell? ⟨w.heap.size, 4, none⟩ = some (.int .i64 ca) ∧ w'.cell? ⟨w.heap.size, 5, none⟩ = some (.int .i64 cq)) ∧ Ext V w') w7 := ⟨HCC.out w7 b57, b57⟩
        clear hS
        refine hK.out _ _ ?_ (fun hS => ?_)
        · exact keepS
        clear hK K
        try simp only [Act.put, List.setIfInBounds_toArray, List.set_cons_zero, List.set_cons_succ]
        refine wpAnyH_ready (rs := [37]) (by kernel_rfl) (by simp) ?_
        refine AllReadyH.cons (o := { dst := some 70, op := Op.call { callee := Callee.value (Operand.func 22), args := #[Operand.tmp 67, Operand.tmp 69], argTypes := #[24, 24] }, type := 4, pos := "law.go:68", after := #[{ on := 34, ground := Ground.data }, { on := 36, ground := Ground.data }, { on := 36, ground := Ground.chain }, { on := 32, ground := Ground.guard }], guard := some (32, false) }) rfl (fun K hK => ?_) AllReadyH.nil
        go_simp
        refine (rsame_any A6 A7 c6 c7 WL _ (t6.ext b7) t7 HWL.out).mono ?_
        rintro e w8 ⟨rfl, b8⟩
        have b58 := b57.trans b8
        have keepS : (fun w' => (w'.cell? ⟨w.heap.size, 0, none⟩ = some (.int .i64 ck) ∧ w'.cell? ⟨w.heap.size, 1, none⟩ = some (.slice CA cps.length ccap) ∧ w'.cell? ⟨w.heap.size, 2, none⟩ = some (.bool cb) ∧ w'.cell? ⟨w.heap.size, 3, none⟩ = some (.bool cd) ∧ w'.cell? ⟨w.heap.size, 4, none⟩ = some (.int .i64 ca) ∧ w'.cell? ⟨w.heap.size, 5, none⟩ = some (.int .i64 cq)) ∧ Ext V w') w8 := ⟨HCC.out w8 b58, b58⟩
        clear hS
        refine hK.out _ _ ?_ (fun hS => ?_)
        · exact keepS
        clear hK K
        try simp only [Act.put, List.setIfInBounds_toArray, List.set_cons_zero, List.set_cons_succ]
        refine wpAnyH_take (i := 38) (oi := { dst := some 71, op := Op.unOp UnOp.not 4 (Operand.tmp 70), type := 4, pos := "law.go:68", after := #[{ on := 37, ground := Ground.data }, { on := 32, ground := Ground.guard }], guard := some (32, false) }) (v := ?_) rfl (by kernel_rfl) (by kernel_rfl) (by kernel_rfl) (fun _ _ _ h => h) (Or.inl ⟨by rfl, ?_⟩) hS ?_
        rotate_left
        · (intro w0 hS0; (try dsimp only at hS0); go_simp; try with_reducible rfl)
        try simp only [Act.put, List.setIfInBounds_toArray, List.set_cons_zero, List.set_cons_succ]
        refine wpAnyH_take (i := 39) (oi := { dst := some 72, op := Op.pick (Operand.tmp 65) (Operand.const (Value.bool true)) (Operand.tmp 71), type := 4, pos := "law.go:68", after := #[{ on := 32, ground := Ground.data }, { on := 38, ground := Ground.data }], guard := none }) (v := ?_) rfl (by kernel_rfl) (by kernel_rfl) (by kernel_rfl) (fun _ _ _ h => h) (Or.inl ⟨by rfl, ?_⟩) hS ?_
        rotate_left
        · (intro w0 hS0; (try dsimp only at hS0); go_simp; try with_reducible rfl)
        try simp only [Act.put, List.setIfInBounds_toArray, List.set_cons_zero, List.set_cons_succ]
        refine wpAnyH_done (by kernel_rfl) ?_ _
        have E8 := E2.trans b58
        cases hp : parseC (s :: l) with
        | none =>
          have hE1 : E = 1 := by rw [HE.out, hp]; rfl
          subst hE1
          go_wp2_with fail
          refine (HAW.out _ E8).mono ?_
          rintro e w9 ⟨rfl, b9⟩
          go_wp2_with fail
          go_ret
          exact Ret.mk rfl (E8.trans b9)
        | some c =>
          have hE1 : E = 0 := by rw [HE.out, hp]; rfl
          subst hE1
          have hc : c = ⟨kk, ps, b, d, a, q⟩ := by have h := HC.out; rw [hp] at h; exact h
          have hpw := parse_write (s :: l) c hp
          rw [hc] at hpw
          obtain ⟨y1, ⟨y2, y3⟩, y4, y5, y6⟩ := hpw
          subst hB7
          have h7 := H7.out w8 b58
          obtain ⟨x0, x1, x2, x3, x4, x5⟩ := h7.cells
          have f7 := h7.frz
          have hw7 := pwrite_any kk A1 c1 ps b d a q w8 (T1.out.ext b58) (HN.out.ext E8) Z1.out (by have := HLL.out; omega) y2 y3
          unfold cmdC at hw7
          have HW7 := Lib.hid hw7
          have HP8 := Lib.hid (fun (A' : Option Addr) (cap' : Nat) (w' : World) (hE : Ext w w') (ht : TxtAt w' A' (writeC kk ps b d a q)) (hc' : (writeC kk ps b d a q).length ≤ cap') (hl' : (writeC kk ps b d a q).length ≤ 1000) => pparseC_any A' cap' (writeC kk ps b d a q) w' ht (HN.out.ext hE) hc' hl')
          rw [y1] at HP8
          have hwl : (writeC kk ps b d a q).length ≤ 1000 := by
            have h1 : ps.length ≤ 12 := by have := HLL.out; omega
            exact Nat.le_trans (writeC_len kk ps b d a q) (by omega)
          have HWL8 := Lib.hid hwl
          clear hw7 y1 y2 y3 y4 y5 y6 hc hp h7 hwl
          go_wp2_with fail
          refine (HW7.out).mono ?_
          rintro e w9 ⟨v9, rfl, ho9, b9⟩
          obtain ⟨A9, c9, hv9, z9, _, t9, _⟩ := ho9.at_
          subst hv9
          have E9 := E8.trans b9
          obtain ⟨ln, hln⟩ : ∃ ln, ln = (writeC kk ps b d a q).length := ⟨_, rfl⟩
          have hp9 := HP8.out A9 c9 w9 E9 t9 z9 HWL8.out
          rw [← hln] at hp9 ⊢
          have HP9 := Lib.hid hp9
          clear hp9 ho9 z9 t9 x0 x1 x2 x3 x4 x5 hln
          go_wp2_with fail
          refine (HP9.out).mono ?_
          rintro e w10 ⟨v10, rfl, ho10, b10⟩
          obtain ⟨A10, c10, hv10, z10, _, t10, _⟩ := ho10.at_
          subst hv10
          have E10 := E9.trans b10
          obtain ⟨V3, hV3⟩ : ∃ V3, V3 = w10.alloc (.cells (cmdC kk (.slice A10 ps.length c10) b d a q) 62) := ⟨_, rfl⟩
          have hC3 : CmdAt V3 w10.heap.size kk (.slice A10 ps.length c10) b d a q := by rw [hV3]; exact Has.new _ _
          have X3 : Ext w10 V3 := by rw [hV3]; exact (Ext.refl _).alloc _
          have h73 : CmdAt V3 _ kk (.slice A1 ps.length c1) b d a q := Has.ext (H7.out w8 b58) ((b9.trans b10).trans X3)
          obtain ⟨x0, x1, x2, x3, x4, x5⟩ := h73.cells
          obtain ⟨y0, y1, y2, y3, y4, y5⟩ := hC3.cells
          have hs3 := same46_any kk A10 A1 c10 c1 ps b d a q V3 (t10.ext X3) ((((T1.out.ext b58).ext b9).ext b10).ext X3) (by have := HLL.out; omega)
          unfold cmdC at hs3 hV3
          have HS3 := Lib.hid hs3
          have HV3 := Lib.hid hV3
          have E11 := E10.trans X3
          clear hs3 hV3 ho10 t10 z10
          unfold cmdC
          go_wp2_with (rw [← HV3.out])
          refine (HS3.out).mono ?_
          rintro e w12 ⟨rfl, b12⟩
          have E12 := E11.trans b12
          go_wp2_with fail
          refine (HAW.out _ E12).mono ?_
          rintro e w13 ⟨rfl, b13⟩
          go_wp2_with fail
          go_ret
          exact Ret.mk rfl (E12.trans b13)
section
open Go.ChangeShapes Go.WideShapes
variable {H : Type} {enc : TypeId × Value → H} {w : World} {base : Nat} {spare : Nat → Bool} {held : Bool}
set_option maxRecDepth 100000 in
theorem txts_cells {fuel : Nat} {cs : List Value} {x : DataW H × List MemPlace} (hf : DataW.trod enc Tryd.prog w base spare held fuel 24 cs = some x) :
    ∃ (A : Option Addr) (L : List Txt) (cap : Nat), cs = [.slice A L.length cap] ∧ TxtAt w A L ∧ (A = none → cap = 0) ∧ L.length ≤ cap ∧ cap ≤ maxLen := by
  rcases open_strings Tryd.underlying24 Tryd.underlying9 (by kernel_rfl) hf with ⟨hcs, hx⟩ | ⟨ad, n, c, ss, hcs, _, hle, hm, hz, hx, hcell, _⟩
  · exact ⟨none, [], 0, hcs, .inl rfl, fun _ => rfl, Nat.le_refl _, by decide⟩
  · have hnl : n ≤ ss.length := by rw [hz]; split <;> omega
    have hlen : ((ss.take n).map (·.data.toList)).length = n := by rw [List.length_map, List.length_take]; omega
    refine ⟨some ad, (ss.take n).map (·.data.toList), c, by rw [hlen]; exact hcs, ?_, (fun h => by cases h), by rw [hlen]; exact hle, hm⟩
    by_cases hn0 : n = 0
    · subst hn0; exact .inl (by simp)
    · obtain ⟨b, off, spot⟩ := ad
      have hspot : spot = none := by simpa [Addr.add] using World.cell?_spot (hcell 0 (by omega))
      subst hspot
      have hb : b < w.heap.size := by
        have h0 := hcell 0 (by omega)
        rcases Nat.lt_or_ge b w.heap.size with h' | h'
        · exact h'
        · simp [Addr.add, World.cell?, Array.getElem?_eq_none h'] at h0
      refine .inr ⟨b, off, rfl, hb, fun i hi => ?_⟩
      rw [hlen] at hi
      have h1 := hcell i (by omega)
      rw [Addr.add_lit] at h1
      rw [h1, List.getElem_map, List.getElem_take, bs_self, List.getD_eq_getElem?_getD, List.getElem?_eq_getElem (by omega)]
      rfl
theorem cellsCmdC : Tryd.prog.cellsOf 62 = 6 := by kernel_rfl
theorem cellsIntC : Tryd.prog.cellsOf 3 = 1 := by kernel_rfl
theorem cellsBoolC : Tryd.prog.cellsOf 4 = 1 := by kernel_rfl
theorem cellsTxtC : Tryd.prog.cellsOf 24 = 1 := by kernel_rfl
theorem wf_I64c {n : Int} (h : (Lit.int .i64 n).wf = true) : I64 n := by
  simp only [Lit.wf, Bool.and_eq_true, decide_eq_true_eq] at h
  exact h
set_option maxRecDepth 100000 in
theorem cmd_cells {n : Nat} {cs : List Value} {x : DataW H × List MemPlace} (h : DataW.trod enc Tryd.prog w base spare held n 62 cs = some x) : ∃ (k : Int) (B : Option Addr) (L : List Txt) (c : Nat) (p d : Bool) (a q : Int), cs = [.int .i64 k, .slice B L.length c, .bool p, .bool d, .int .i64 a, .int .i64 q] ∧ TxtAt w B L ∧ (B = none → c = 0) ∧ I64 a ∧ I64 q ∧ L.length ≤ maxLen := by
  obtain ⟨xs, m, _, _, hl, hxl, hf⟩ := DataW.trod_struct Tryd.underlying62 h
  rw [cellsCmdC] at hl
  match cs, hl with
  | [a0, a1, a2, a3, a4, a5], _ =>
    match xs, hxl with
    | [y0, y1, y2, y3, y4, y5], _ =>
      have f0 : DataW.trod enc Tryd.prog w base spare held m 3 (List.take (Tryd.prog.cellsOf 3) (List.drop 0 [a0, a1, a2, a3, a4, a5])) = some y0 := hf 0 _ rfl
      have f1 : DataW.trod enc Tryd.prog w base spare held m 24 (List.take (Tryd.prog.cellsOf 24) (List.drop 1 [a0, a1, a2, a3, a4, a5])) = some y1 := hf 1 _ rfl
      have f2 : DataW.trod enc Tryd.prog w base spare held m 4 (List.take (Tryd.prog.cellsOf 4) (List.drop 2 [a0, a1, a2, a3, a4, a5])) = some y2 := hf 2 _ rfl
      have f3 : DataW.trod enc Tryd.prog w base spare held m 4 (List.take (Tryd.prog.cellsOf 4) (List.drop 3 [a0, a1, a2, a3, a4, a5])) = some y3 := hf 3 _ rfl
      have f4 : DataW.trod enc Tryd.prog w base spare held m 3 (List.take (Tryd.prog.cellsOf 3) (List.drop 4 [a0, a1, a2, a3, a4, a5])) = some y4 := hf 4 _ rfl
      have f5 : DataW.trod enc Tryd.prog w base spare held m 3 (List.take (Tryd.prog.cellsOf 3) (List.drop 5 [a0, a1, a2, a3, a4, a5])) = some y5 := hf 5 _ rfl
      rw [cellsIntC] at f0 f4 f5
      rw [cellsTxtC] at f1
      rw [cellsBoolC] at f2 f3
      obtain ⟨k, h0, _, _⟩ := DataW.trod_int Tryd.underlying3 f0
      obtain ⟨A, L, cap, h1, q1, q2, q3, q4⟩ := txts_cells f1
      obtain ⟨pp, h2, _⟩ := DataW.trod_bool Tryd.underlying4 f2
      obtain ⟨dd, h3, _⟩ := DataW.trod_bool Tryd.underlying4 f3
      obtain ⟨aa, h4, _, w4⟩ := DataW.trod_int Tryd.underlying3 f4
      obtain ⟨qq, h5, _, w5⟩ := DataW.trod_int Tryd.underlying3 f5
      have e0 : a0 = .int .i64 k := by simpa using h0
      have e1 : a1 = .slice A L.length cap := by simpa using h1
      have e2 : a2 = .bool pp := by simpa using h2
      have e3 : a3 = .bool dd := by simpa using h3
      have e4 : a4 = .int .i64 aa := by simpa using h4
      have e5 : a5 = .int .i64 qq := by simpa using h5
      exact ⟨k, A, L, cap, pp, dd, aa, qq, by rw [e0, e1, e2, e3, e4, e5], q1, q2, wf_I64c w4, wf_I64c w5, Nat.le_trans q3 q4⟩
set_option maxRecDepth 100000 in
theorem open_cmd {r : Reach} {b0 : Nat} {v : Value} {d : DataW H} {p : List MemPlace} (hv : Value.okWide Tryd.prog w r b0 62 v) (h : DataW.Trod enc Tryd.prog w base spare held 62 v d p) :
    ∃ (k : Int) (B : Option Addr) (L : List Txt) (c : Nat) (p d : Bool) (a q : Int), v = .agg (cmdC k (.slice B L.length c) p d a q) ∧ TxtAt w B L ∧ (B = none → c = 0) ∧ I64 a ∧ I64 q ∧ L.length ≤ maxLen := by
  obtain ⟨cs, rfl, _⟩ := okWide_struct Tryd.underlying62 hv
  obtain ⟨fuel, hf⟩ := h
  obtain ⟨k, B, L, c, p, d, a, q, hcs, hq⟩ := cmd_cells hf
  refine ⟨k, B, L, c, p, d, a, q, ?_, hq⟩
  obtain ⟨cs⟩ := cs
  simp only [Value.cells] at hcs
  unfold cmdC
  rw [← hcs]
end
set_option maxRecDepth 100000 in
theorem argsParses_walk {H : Type} {enc : TypeId × Value → H} (W : World) (base : Nat) (v0 v1 v2 : Value) (d0 d1 d2 : DataW H) (p0 p1 p2 : List MemPlace)
    (hs : W.ShapedOpen Tryd.prog) (hl : laidMetH Tryd.prog Rows.argsParsesRow.laid W)
    (k0 : Value.okWide Tryd.prog W .any base 24 v0) (h0 : DataW.Trod enc Tryd.prog W 0 (fun _ => true) true 24 v0 d0 p0)
    (k1 : Value.okWide Tryd.prog W .any base 62 v1) (h1 : DataW.Trod enc Tryd.prog W 0 (fun _ => true) true 62 v1 d1 p1)
    (k2 : Value.okWide Tryd.prog W .any base 3 v2) (h2 : DataW.Trod enc Tryd.prog W 0 (fun _ => true) true 3 v2 d2 p2)
    : Calls Tryd.prog 14 #[v0, v1, v2] W (Ret W (.bool true)) := by
  obtain ⟨a2, rfl, rfl, rfl, w2⟩ := open_int Tryd.underlying3 k2 h2
  obtain ⟨A, L, cap, rfl, hat, _, hlc, hcm⟩ := open_txts k0 h0
  obtain ⟨ck, CA, cps, cc, cb, cd, ca, cq, rfl, hct, hCA, hI1, hI2, hcl⟩ := open_cmd k1 h1
  unfold maxLen at hcm hcl
  exact argsParses_any A CA cap cc L cps ck ca cq a2 cb cd W hat hlc (by omega) hct hCA (by omega) hI1 hI2 (names_of hl) (HasMax.of hs)
end Go.Proofs.YtmppjbimdonfmaaDoor
