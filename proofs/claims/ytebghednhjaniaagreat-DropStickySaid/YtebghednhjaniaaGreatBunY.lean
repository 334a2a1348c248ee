/- The law DropSticky, walked. (Printed by gen_stk.py.) -/
import Derived.Test.YtebghednhjaniaaGreatBunS
import Derived.Test.YtebghednhjaniaaGreatBunG
import Derived.Test.YtebghednhjaniaaGreatBunM
import Derived.Test.YtebghednhjaniaaGreatBunD
namespace Go.Proofs.YtebghednhjaniaaGreat
open Go.ChangeShapes Go.WideShapes Go.ChangeAt Go.RowKit

attribute [local irreducible] wpLexE wpQuiet
attribute [local go_sem] changeUpon
theorem sticky {c : Nat} {S : TreeD} (h : Tre c S) {cu cg dir : Int} {nm : List UInt8} (hm : 512 ≤ (getN S.nodes dir).mode) (h0 : cu ≠ 0) (h1 : cu ≠ (getN S.nodes dir).uid) (h2 : cu ≠ (getN S.nodes (findF (getN S.nodes dir).ents nm)).uid) : leaveE S cu cg dir nm ≠ 0 := by
  intro he
  obtain ⟨z1, _, _, _, _⟩ := leaveE_zero he
  have hi := (placeE_zero z1).1
  have hb := h.bits _ (isN_true hi).2.2
  have hf : freeB cu (getN S.nodes dir).mode (getN S.nodes dir).uid (getN S.nodes (findF (getN S.nodes dir).ents nm)).uid = false := by
    have e1 : bitOn (getN S.nodes dir).mode 9 = true := by
      unfold bitOn
      have : (getN S.nodes dir).mode / 2 ^ 9 = 1 := by
        have e : ((2 : Int) ^ 9) = 512 := by decide
        rw [e]; omega
      rw [this]; decide
    have e2 : (cu == 0) = false := by simpa using h0
    have e3 : (cu == (getN S.nodes dir).uid) = false := by simpa using h1
    have e4 : (cu == (getN S.nodes (findF (getN S.nodes dir).ents nm)).uid) = false := by simpa using h2
    unfold freeB ownsB
    rw [e1, e2, e3, e4]; rfl
  unfold leaveE at he
  simp only [hf] at he
  repeat' split at he
  all_goals first | contradiction | cases he
theorem sticky_un {S : TreeD} {cu cg now dir : Int} {nm : List UInt8} (h : leaveE S cu cg dir nm ≠ 0) : unlinkE S cu cg dir nm ≠ 0 ∧ unlinkT S cu cg now dir nm = S ∧ rmdirE S cu cg dir nm ≠ 0 ∧ rmdirT S cu cg now dir nm = S := by
  have e1 : unlinkE S cu cg dir nm = leaveE S cu cg dir nm := by unfold unlinkE; rw [if_pos h]
  have e2 : rmdirE S cu cg dir nm = leaveE S cu cg dir nm := by unfold rmdirE; rw [if_pos h]
  refine ⟨by rw [e1]; exact h, ?_, by rw [e2]; exact h, ?_⟩
  · unfold unlinkT; rw [if_neg (by rw [e1]; exact h)]
  · unfold rmdirT; rw [if_neg (by rw [e2]; exact h)]
set_option maxRecDepth 100000 in
set_option maxHeartbeats 16000000 in
theorem dropSticky_any (A : Option Addr) (l : List ItemD) (cap : Nat) (x : ActD) (w : World) (hA : ItemsAt w A l) (hlen : l.length ≤ 9223372036854775807) :
    Calls Tryz.prog 5 #[.slice A l.length cap, .agg #[.int .i64 x.kind, .int .i64 x.uid, .int .i64 x.gid, .int .i64 x.dir, .int .i64 x.no, .int .i64 x.n, .string (bs x.name), .string (bs x.text), .int .i64 x.to_, .string (bs x.as_)]] w (Ret w (.bool true)) := by
  obtain ⟨W1, hW1⟩ : ∃ W, W = w.alloc (.cells #[.int .i64 x.kind, .int .i64 x.uid, .int .i64 x.gid, .int .i64 x.dir, .int .i64 x.no, .int .i64 x.n, .string (bs x.name), .string (bs x.text), .int .i64 x.to_, .string (bs x.as_)] 42) := ⟨_, rfl⟩
  have E1 : Ext w W1 := by rw [hW1]; exact (Ext.refl _).alloc _
  have B1 : Has W1 w.heap.size (.cells #[.int .i64 x.kind, .int .i64 x.uid, .int .i64 x.gid, .int .i64 x.dir, .int .i64 x.no, .int .i64 x.n, .string (bs x.name), .string (bs x.text), .int .i64 x.to_, .string (bs x.as_)] 42) := by rw [hW1]; exact Has.new _ _
  have xc := fun i => B1.cell i
  have c0 := xc 0
  have c1 := xc 1
  have c2 := xc 2
  have c3 := xc 3
  have c4 := xc 4
  have c5 := xc 5
  have c6 := xc 6
  have c7 := xc 7
  have c8 := xc 8
  have c9 := xc 9
  simp only [List.getElem?_toArray, List.getElem?_cons_zero, List.getElem?_cons_succ] at c0 c1 c2 c3 c4 c5 c6 c7 c8 c9
  have xz := B1.lt
  obtain ⟨m, hm⟩ : ∃ m, m = l.length := ⟨_, rfl⟩
  have hlen' := hlen
  rw [← hm] at hlen' ⊢
  have HM := Lib.hid hm
  have KF : Hid (Calls Tryz.prog 8 #[.slice A m cap] W1 (FewR W1 l)) := by show Calls _ _ _ _ _; rw [HM.out]; exact few14_any A l cap W1 (hA.ext E1) hlen
  clear hm xc
  go_enter Tryz.func5, Tryz.ntmps5
  go_upto_region 1 with fail
  rw [← hW1]
  clear hW1
  go_wp2_with fail
  refine KF.out.mono ?_
  rintro e w2 ⟨rfl, ⟨hf, rfl⟩ | ⟨hf, rfl⟩⟩
  case inr =>
    clear hf c0 c1 c2 c3 c4 c5 c6 c7 c8 c9
    go_wp2_with fail
    refine (awake18 _).mono ?_
    rintro e wz ⟨rfl, bz⟩
    go_wp2_with fail
    go_ret
    exact Ret.mk rfl ((E1).trans bz)
  have HF := Lib.hid hf
  clear hf KF
  go_wp2_with fail
  have hX2 := Has.new W1 (.cells #[.int .i64 x.kind, .int .i64 x.uid, .int .i64 x.gid, .int .i64 x.dir, .int .i64 x.no, .int .i64 x.n, .string (bs x.name), .string (bs x.text), .int .i64 x.to_, .string (bs x.as_)] 42)
  obtain ⟨W2, hW2⟩ : ∃ W2, W2 = W1.alloc (.cells #[.int .i64 x.kind, .int .i64 x.uid, .int .i64 x.gid, .int .i64 x.dir, .int .i64 x.no, .int .i64 x.n, .string (bs x.name), .string (bs x.text), .int .i64 x.to_, .string (bs x.as_)] 42) := ⟨_, rfl⟩
  rw [← hW2] at hX2 ⊢
  have E2 : Ext W1 W2 := by rw [hW2]; exact (Ext.refl _).alloc _
  have B2 := B1.ext E2
  have EW2 : Ext w W2 := E1.trans E2
  have hacts : ActsAt W2 (some ⟨W1.heap.size, 0, none⟩) [x] := by
    refine .inr ⟨_, 0, rfl, hX2.lt, fun k hk => ?_⟩
    have : k = 0 := by simpa using hk
    subst this
    exact ⟨hX2.cell 0, hX2.cell 1, hX2.cell 2, hX2.cell 3, hX2.cell 4, hX2.cell 5, hX2.cell 6, hX2.cell 7, hX2.cell 8, hX2.cell 9⟩
  clear hW2 hX2 c0 c1 c2 c3 c4 c5 c6 c7 c8 c9 xz
  refine (fewA_any (some ⟨W1.heap.size, 0, none⟩) [x] 1 W2 hacts (by simp)).mono ?_
  rintro e w3 ⟨rfl, ⟨hfx, rfl⟩ | ⟨_, rfl⟩⟩
  case inr =>
    go_wp2_with fail
    refine (awake18 _).mono ?_
    rintro e wz ⟨rfl, bz⟩
    go_wp2_with fail
    go_ret
    exact Ret.mk rfl ((EW2).trans bz)
  have hsx := hfx.1 x (List.mem_singleton.2 rfl)
  have HSX := Lib.hid hsx
  have HB2 := Lib.hid B2
  have HX1 := Lib.hid EW2
  have hG0 := tre_growAll (b := 300) (n := 60) (by decide) HF.out
  have hga := good_all (good_first (b := 300) (n := 60) (by decide)) l
  have hl40 := HF.out.2
  have KG : Hid (Calls Tryz.prog 11 #[.int .i64 300, .int .i64 60, .slice A m cap] W2 (GrowAllR W2 300 60 l)) := by show Calls _ _ _ _ _; rw [HM.out]; exact growAll_any 300 60 A l cap W2 (by decide) HF.out (hA.ext EW2)
  clear hacts hfx hsx
  go_wp2_with fail
  refine KG.out.mono ?_
  rintro e w3 ⟨g, f, rfl, ⟨K3, F3⟩, E3⟩
  obtain ⟨B, hB⟩ : ∃ B, B = W2.heap.size := ⟨_, rfl⟩
  rw [← hB] at K3 F3
  obtain ⟨S, hS⟩ : ∃ S, S = growAll (firstT 300 60) l := ⟨_, rfl⟩
  rw [← hS] at K3 F3
  have hSl : S.last ≤ 41 := by
    have h2 := hga.2
    rw [hS]
    rw [show growAll (rootT emptyT 0 300 60) l = growAll (firstT 300 60) l from rfl, show (rootT emptyT 0 300 60).last = 1 from rfl] at h2
    omega
  have hT0 : Tre 40 S := by rw [hS]; exact hG0
  have hS1 := hT0.last
  have HB := Lib.hid hB
  have HE3 := Lib.hid E3
  have HT0 := Lib.hid hT0
  have HK3 := Lib.hid K3
  have HF3 := Lib.hid F3
  clear hS hga hG0 hl40 KG hB hT0
  have X3 := HX1.out.trans HE3.out
  have B3 := HB2.out.ext HE3.out
  obtain ⟨p, hp⟩ : ∃ p, p = nearF S.last x.dir := ⟨_, rfl⟩
  have c3 : w3.cell? ⟨w.heap.size, 3, none⟩ = some (.int .i64 x.dir) := B3.cell 3
  have cz := B3.lt
  go_wp2_with fail
  refine (near_any B f S x0 x.dir _ HF3.out (by omega) (by omega)).mono ?_
  rw [← hp]
  rintro e w4 ⟨rfl, E34⟩
  clear c3 cz hp
  go_wp2_with fail
  refine (rget_any B f S x0 p _ (HF3.out.ext E34) (by have := HT0.out.count; omega) HT0.out.nos).mono ?_
  rintro e w5 ⟨A5, k5, rfl, ok5', E45⟩
  obtain ⟨d, hd⟩ : ∃ d, d = getN S.nodes p := ⟨_, rfl⟩
  rw [← hd] at ok5' ⊢
  obtain ⟨w6, hw6⟩ : ∃ W, W = w5.alloc (.cells #[.int .i64 d.no, .int .i64 d.dev, .int .i64 d.kind, .int .i64 d.mode, .int .i64 d.uid, .int .i64 d.gid, .int .i64 d.mtime, .int .i64 d.ctime, .int .i64 d.links, .int .i64 d.up, .string (bs d.data), .slice A5 d.ents.length k5] 49) := ⟨_, rfl⟩
  obtain ⟨b9, hb9⟩ : ∃ b, b = w5.heap.size := ⟨_, rfl⟩
  have D6 : Has w6 b9 (.cells #[.int .i64 d.no, .int .i64 d.dev, .int .i64 d.kind, .int .i64 d.mode, .int .i64 d.uid, .int .i64 d.gid, .int .i64 d.mtime, .int .i64 d.ctime, .int .i64 d.links, .int .i64 d.up, .string (bs d.data), .slice A5 d.ents.length k5] 49) := by rw [hw6, hb9]; exact Has.new _ _
  have E56 : Ext w5 w6 := by rw [hw6]; exact (Ext.refl _).alloc _
  have E36 := (E34.trans E45).trans E56
  have ok6 := ok5'.ext E56
  have B6 := B3.ext E36
  have hdl : d.ents.length ≤ 40 := by rw [hd]; exact (HT0.out.getN p).2
  have HD := Lib.hid hd
  clear hd ok5' E56
  go_upto_region 8 with fail
  rw [← hw6, ← hb9]
  clear hw6 hb9 E34 E45
  have d11 : w6.cell? ⟨b9, 11, none⟩ = some (.slice A5 d.ents.length k5) := D6.cell 11
  have c6 : w6.cell? ⟨w.heap.size, 6, none⟩ = some (.string (bs x.name)) := B6.cell 6
  have dz := D6.lt
  have cz := B6.lt
  go_wp2_with fail
  refine (rfind_any A5 d.ents k5 x.name _ ok6.ents.ents (by omega)).mono ?_
  rintro e w7 ⟨rfl, E67⟩
  obtain ⟨no, hno⟩ : ∃ no, no = findF d.ents x.name := ⟨_, rfl⟩
  rw [← hno]
  have HNO := Lib.hid hno
  clear hno d11 c6 dz cz
  go_wp2_with fail
  refine (rget_any B f S x0 no _ (HF3.out.ext (E36.trans E67)) (by have := HT0.out.count; omega) HT0.out.nos).mono ?_
  rintro e w8 ⟨A8, k8, rfl, ok8', E78⟩
  obtain ⟨n, hn⟩ : ∃ n, n = getN S.nodes no := ⟨_, rfl⟩
  rw [← hn]
  obtain ⟨w9, hw9⟩ : ∃ W, W = w8.alloc (.cells #[.int .i64 n.no, .int .i64 n.dev, .int .i64 n.kind, .int .i64 n.mode, .int .i64 n.uid, .int .i64 n.gid, .int .i64 n.mtime, .int .i64 n.ctime, .int .i64 n.links, .int .i64 n.up, .string (bs n.data), .slice A8 n.ents.length k8] 49) := ⟨_, rfl⟩
  obtain ⟨b10, hb10⟩ : ∃ b, b = w8.heap.size := ⟨_, rfl⟩
  have N9 : Has w9 b10 (.cells #[.int .i64 n.no, .int .i64 n.dev, .int .i64 n.kind, .int .i64 n.mode, .int .i64 n.uid, .int .i64 n.gid, .int .i64 n.mtime, .int .i64 n.ctime, .int .i64 n.links, .int .i64 n.up, .string (bs n.data), .slice A8 n.ents.length k8] 49) := by rw [hw9, hb10]; exact Has.new _ _
  have E89 : Ext w8 w9 := by rw [hw9]; exact (Ext.refl _).alloc _
  have E69 := (E67.trans E78).trans E89
  have D9 := D6.ext E69
  have B9 := B6.ext E69
  have E39 := E36.trans E69
  have HN := Lib.hid hn
  clear hn ok8' ok6 D6 B6 E89
  go_upto_region 9 with fail
  rw [← hw9, ← hb10]
  clear hw9 hb10 E67 E78 E36 E69
  have HE39 := Lib.hid E39
  have HB9 := Lib.hid B9
  have k2 : w9.cell? ⟨b9, 2, none⟩ = some (.int .i64 d.kind) := D9.cell 2
  have k3 : w9.cell? ⟨b9, 3, none⟩ = some (.int .i64 d.mode) := D9.cell 3
  have k4 : w9.cell? ⟨b9, 4, none⟩ = some (.int .i64 d.uid) := D9.cell 4
  have m4 : w9.cell? ⟨b10, 4, none⟩ = some (.int .i64 n.uid) := N9.cell 4
  have m0 : w9.cell? ⟨b10, 0, none⟩ = some (.int .i64 n.no) := N9.cell 0
  have c1 : w9.cell? ⟨w.heap.size, 1, none⟩ = some (.int .i64 x.uid) := B9.cell 1
  have dz := D9.lt
  have nz := N9.lt
  have cz := B9.lt
  obtain ⟨bv, hbv⟩ : ∃ bv : Bool, bv = !(decide (d.kind = 1) && (decide (512 ≤ d.mode) && (decide (¬ x.uid = 0) && (decide (¬ x.uid = d.uid) && (decide (¬ x.uid = n.uid) && decide (¬ n.no = 0)))))) := ⟨_, rfl⟩
  have HBV := Lib.hid hbv
  clear hbv E39 B9 D9 N9
  go_cut [79] (fun v wc => v = .bool bv ∧ Ext w9 wc)
  case first =>
    by_cases q0 : d.kind = 1
    case neg =>
      have t0 : (d.kind == 1) = false := by simpa using q0
      have t0b : (d.kind != 1) = true := by simpa using q0
      have hb : Hid (bv = true) := by show _ = _; rw [HBV.out, decide_eq_false q0]; rfl
      clear q0
      go_wp2_with fail
      go_meet
      exact ⟨by rw [hb.out], Ext.refl _⟩
    have t0 : (d.kind == 1) = true := by simpa using q0
    have t0b : (d.kind != 1) = false := by simpa using q0
    by_cases q1 : 512 ≤ d.mode
    case neg =>
      have t1 : decide (d.mode < 512) = true := by exact decide_eq_true (by omega)
      have hb : Hid (bv = true) := by show _ = _; rw [HBV.out, decide_eq_true q0, decide_eq_false q1]; rfl
      clear q0 q1
      go_wp2_with fail
      go_meet
      exact ⟨by rw [hb.out], Ext.refl _⟩
    have t1 : decide (d.mode < 512) = false := by exact decide_eq_false (by omega)
    by_cases q2 : ¬ x.uid = 0
    case neg =>
      have t2 : (x.uid == 0) = true := by simpa using (Decidable.not_not.1 q2)
      have hb : Hid (bv = true) := by show _ = _; rw [HBV.out, decide_eq_true q0, decide_eq_true q1, decide_eq_false q2]; rfl
      clear q0 q1 q2
      go_wp2_with fail
      go_meet
      exact ⟨by rw [hb.out], Ext.refl _⟩
    have t2 : (x.uid == 0) = false := by simpa using q2
    by_cases q3 : ¬ x.uid = d.uid
    case neg =>
      have t3 : (x.uid == d.uid) = true := by simpa using (Decidable.not_not.1 q3)
      have hb : Hid (bv = true) := by show _ = _; rw [HBV.out, decide_eq_true q0, decide_eq_true q1, decide_eq_true q2, decide_eq_false q3]; rfl
      clear q0 q1 q2 q3
      go_wp2_with fail
      go_meet
      exact ⟨by rw [hb.out], Ext.refl _⟩
    have t3 : (x.uid == d.uid) = false := by simpa using q3
    by_cases q4 : ¬ x.uid = n.uid
    case neg =>
      have t4 : (x.uid == n.uid) = true := by simpa using (Decidable.not_not.1 q4)
      have hb : Hid (bv = true) := by show _ = _; rw [HBV.out, decide_eq_true q0, decide_eq_true q1, decide_eq_true q2, decide_eq_true q3, decide_eq_false q4]; rfl
      clear q0 q1 q2 q3 q4
      go_wp2_with fail
      go_meet
      exact ⟨by rw [hb.out], Ext.refl _⟩
    have t4 : (x.uid == n.uid) = false := by simpa using q4
    by_cases q5 : ¬ n.no = 0
    case neg =>
      have t5 : (n.no == 0) = true := by simpa using (Decidable.not_not.1 q5)
      have hb : Hid (bv = true) := by show _ = _; rw [HBV.out, decide_eq_true q0, decide_eq_true q1, decide_eq_true q2, decide_eq_true q3, decide_eq_true q4, decide_eq_false q5]; rfl
      clear q0 q1 q2 q3 q4 q5
      go_wp2_with fail
      go_meet
      exact ⟨by rw [hb.out], Ext.refl _⟩
    have t5 : (n.no == 0) = false := by simpa using q5
    have hb : Hid (bv = false) := by show _ = _; rw [HBV.out, decide_eq_true q0, decide_eq_true q1, decide_eq_true q2, decide_eq_true q3, decide_eq_true q4, decide_eq_true q5]; rfl
    clear q0 q1 q2 q3 q4 q5
    go_wp2_with fail
    go_meet
    exact ⟨by rw [hb.out], Ext.refl _⟩
  case rest =>
  obtain ⟨rfl, Ec⟩ := hcut
  obtain ⟨w10, hw10⟩ : ∃ w10, w10 = wc := ⟨_, rfl⟩
  rw [← hw10] at Ec ⊢
  have E310 := HE39.out.trans Ec
  have X10 : Ext w w10 := X3.trans E310
  have B10 := HB9.out.ext Ec
  have HX10 := Lib.hid X10
  clear hw10 k2 k3 k4 m4 m0 c1 dz nz cz Ec X3 B3
  cases bv
  case true =>
    go_wp2_with fail
    refine (awake18 _).mono ?_
    rintro e wz ⟨rfl, bz⟩
    go_wp2_with fail
    go_ret
    exact Ret.mk rfl (HX10.out.trans bz)
  have hall : d.kind = 1 ∧ 512 ≤ d.mode ∧ ¬ x.uid = 0 ∧ ¬ x.uid = d.uid ∧ ¬ x.uid = n.uid ∧ ¬ n.no = 0 := by
    have := HBV.out.symm
    rw [Bool.not_eq_false', Bool.and_eq_true, Bool.and_eq_true, Bool.and_eq_true, Bool.and_eq_true, Bool.and_eq_true] at this
    simp only [decide_eq_true_eq] at this
    exact this
  obtain ⟨_, a1, a2, a3, a4, _⟩ := hall
  rw [HN.out, HNO.out, HD.out] at a4
  rw [HD.out] at a1 a3
  obtain ⟨v1, v2, v3, v4⟩ := sticky_un (now := 9) (sticky HT0.out (cg := x.gid) a1 a2 a3 a4)
  obtain ⟨e0, he0⟩ : ∃ e0, e0 = unlinkE S x.uid x.gid p x.name := ⟨_, rfl⟩
  obtain ⟨e1, he1⟩ : ∃ e1, e1 = rmdirE S x.uid x.gid p x.name := ⟨_, rfl⟩
  rw [← he0] at v1
  rw [← he1] at v3
  have HV2 := Lib.hid v2
  have HV4 := Lib.hid v4
  have HE0 := Lib.hid he0
  have HE1 := Lib.hid he1
  have s1 : (e0 == 0) = false := by simpa using v1
  have s1b : (e0 != 0) = true := by simpa using v1
  have s2 : (e1 == 0) = false := by simpa using v3
  have s2b : (e1 != 0) = true := by simpa using v3
  have HOK := Lib.hid (HT0.out.ok (by decide))
  have M10 : Mix w10 B g f S S x0 w10 := Mix.start (HK3.out.ext E310) (HF3.out.ext E310)
  have hnb : w.heap.size ∉ g.list ++ f.list := Mix.notin HK3.out HF3.out (.inl (by rw [HB.out]; have := HB2.out.lt; omega))
  have HNB := Lib.hid hnb
  have HB10 := Lib.hid B10
  have HK10 := Lib.hid (HK3.out.ext E310)
  have HF10 := Lib.hid (HF3.out.ext E310)
  have HM10 := Lib.hid M10
  have HB310 : Hid (w.heap.size ≤ B) := Lib.hid (by have := HB.out; have := HX1.out.size; omega)
  clear a1 a2 a3 a4 v1 v2 v3 v4 he0 he1 hnb B10 E310 X10
  go_upto_region 11 with fail
  obtain ⟨Ph, hPh⟩ : ∃ Ph, Ph = ph2 (Mix w10 B g f S S x0) (Mix w10 B g f S S x0) (Mix w10 B g f S S x0) := ⟨_, rfl⟩
  have HV : Hid (Ph 0 w10.drew) := by show Ph 0 _; rw [hPh]; exact M10.ext (Ext.refl _).drew
  have hne : Nonempty (Hp Ph) := ⟨⟨0, _, HV.out⟩⟩
  have ux : ∀ u : Hp Ph, Has u.w w.heap.size (.cells #[.int .i64 x.kind, .int .i64 x.uid, .int .i64 x.gid, .int .i64 x.dir, .int .i64 x.no, .int .i64 x.n, .string (bs x.name), .string (bs x.text), .int .i64 x.to_, .string (bs x.as_)] 42) := by
    rw [hPh]
    have hk : ∀ (T S : TreeD) (w' : World), Mix w10 B g f T S x0 w' → Has w' w.heap.size (.cells #[.int .i64 x.kind, .int .i64 x.uid, .int .i64 x.gid, .int .i64 x.dir, .int .i64 x.no, .int .i64 x.n, .string (bs x.name), .string (bs x.text), .int .i64 x.to_, .string (bs x.as_)] 42) := fun T S w' h' => h'.has HB10.out HNB.out
    exact ph2_all (T := fun w' => Has w' w.heap.size (.cells #[.int .i64 x.kind, .int .i64 x.uid, .int .i64 x.gid, .int .i64 x.dir, .int .i64 x.no, .int .i64 x.n, .string (bs x.name), .string (bs x.text), .int .i64 x.to_, .string (bs x.as_)] 42)) (hk _ _) (hk _ _) (hk _ _)
  have KQ : Hid (∀ w', Ph 2 w' → Mix w10 B g f S S x0 w') := by show ∀ w', _; intro w' hw; rw [hPh] at hw; exact hw
  have P0 : Ph 0 = Mix w10 B g f S S x0 := by rw [hPh]; rfl
  have P1 : Ph 1 = Mix w10 B g f S S x0 := by rw [hPh]; rfl
  have P2 : Ph 2 = Mix w10 B g f S S x0 := by rw [hPh]; rfl
  have u1 : ∀ u : Hp Ph, u.w.cell? ⟨w.heap.size, 1, none⟩ = some (.int .i64 x.uid) := fun u => (ux u).cell 1
  have u2 : ∀ u : Hp Ph, u.w.cell? ⟨w.heap.size, 2, none⟩ = some (.int .i64 x.gid) := fun u => (ux u).cell 2
  have u6 : ∀ u : Hp Ph, u.w.cell? ⟨w.heap.size, 6, none⟩ = some (.string (bs x.name)) := fun u => (ux u).cell 6
  have KC0 : Hid (∀ u : Wc (Ph 0), Calls Tryz.prog 19 #[.pointer (some ⟨g.bW, 0, none⟩), .agg #[.int .i64 x.uid, .int .i64 x.gid], .int .i64 9, .int .i64 p, .string (bs x.name)] u.w (fun e w' => e = .returned (.int .i64 e0) ∧ Ph 1 w')) := by
    show ∀ u : Wc (Ph 0), _
    rintro ⟨u, hu⟩
    dsimp only
    rw [P0] at hu
    rw [P1]
    refine Mix.callW (T := S) hu fun g1 hg hK => ?_
    have := punlink_any B g1 S x.uid x.gid 9 p x.name u hK HOK.out
    rw [HV2.out, ← HE0.out, hg] at this
    exact this.mono fun _ _ hh => hh.to
  have KC1 : Hid (∀ u : Wc (Ph 1), Calls Tryz.prog 20 #[.pointer (some ⟨g.bW, 0, none⟩), .agg #[.int .i64 x.uid, .int .i64 x.gid], .int .i64 9, .int .i64 p, .string (bs x.name)] u.w (fun e w' => e = .returned (.int .i64 e1) ∧ Ph 2 w')) := by
    show ∀ u : Wc (Ph 1), _
    rintro ⟨u, hu⟩
    dsimp only
    rw [P1] at hu
    rw [P2]
    refine Mix.callW (T := S) hu fun g1 hg hK => ?_
    have := prmdir_any B g1 S x.uid x.gid 9 p x.name u hK HOK.out
    rw [HV4.out, ← HE1.out, hg] at this
    exact this.mono fun _ _ hh => hh.to
  clear hPh P0 P1 P2 ux M10
  refine wp_region_phase Ph [6, 13] (by kernel_rfl) (by kernel_rfl) (by kernel_rfl) HV.out ?_
  repeat (first
    | (refine wpLexE_plain (by kernel_rfl) (fun K hK => ?_)
       go_simp
       refine hK _ ?_
       clear hK K)
    | (refine wpLexE_change 0 (by kernel_rfl) rfl (fun K hK => ?_)
       go_simp
       apply Exists.intro
       refine ⟨KC0.out, hK _ ?_⟩
       clear hK K)
    | (refine wpLexE_change 1 (by kernel_rfl) rfl (fun K hK => ?_)
       go_simp
       apply Exists.intro
       refine ⟨KC1.out, hK _ ?_⟩
       clear hK K))
  refine wpLexE_nil ?_
  intro w11 hw11
  have M11 := KQ.out _ hw11
  have HM11 := Lib.hid M11
  have X11 : Ext w w11 := M11.after HX10.out HB310.out HK10.out HF10.out
  clear u1 u2 u6 KC0 KC1 HV hw11
  have HX11 := Lib.hid X11
  obtain ⟨g2, f2, a1, a2, a3, a4, a5⟩ := id M11
  have KA := alike_any B g2 f2 S x0 w11 a3 a4 (HT0.out.fit (by decide) (by omega))
  rw [a1.1, a2.1] at KA
  have HKA := Lib.hid KA
  clear KA a1 a2 a3 a4 a5 M11 X11
  go_wp2_with fail
  refine HKA.out.mono ?_
  rintro e w12 ⟨rfl, b12⟩
  go_wp2_with fail
  refine (awake18 _).mono ?_
  rintro e wz ⟨rfl, bz⟩
  go_wp2_with fail
  go_ret
  exact Ret.mk rfl ((HX11.out.trans b12).trans bz)
set_option maxRecDepth 100000 in
theorem dropSticky_walk {H : Type} {enc : TypeId × Value → H} (W : World) (base : Nat) (v0 v1 : Value) (d0 d1 : DataW H) (p0 p1 : List MemPlace)
    (k0 : Value.okWide Tryz.prog W .any base 24 v0) (h0 : DataW.Trod enc Tryz.prog W 0 (fun _ => true) true 24 v0 d0 p0)
    (k1 : Value.okWide Tryz.prog W .any base 42 v1) (h1 : DataW.Trod enc Tryz.prog W 0 (fun _ => true) true 42 v1 d1 p1)
    : Calls Tryz.prog 5 #[v0, v1] W (Ret W (.bool true)) := by
  obtain ⟨A, l, cap, rfl, hA, _, hl, hc⟩ := open_Items k0 h0
  obtain ⟨x, rfl⟩ := open_Act k1 h1
  exact dropSticky_any A l cap x W hA (by unfold maxLen at hc; omega)
end Go.Proofs.YtebghednhjaniaaGreat
