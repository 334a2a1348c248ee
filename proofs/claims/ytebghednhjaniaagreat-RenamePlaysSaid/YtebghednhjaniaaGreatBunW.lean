/- Layer 19: the reference's Move. (Printed by gen_refm.py.) | Law 19's do: a call of both. (Printed by gen_plays.py.) | The law RenamePlays, walked. (Printed by gen_ply.py.) -/
import Derived.Test.YtebghednhjaniaaGreatBunR
import Derived.Test.YtebghednhjaniaaGreatBunQ
import Derived.Test.YtebghednhjaniaaGreatBunG
import Derived.Test.YtebghednhjaniaaGreatBunD
import Derived.Test.YtebghednhjaniaaGreatBunV
import Derived.Deep.RegionWith
namespace Go.Proofs.YtebghednhjaniaaGreat
open Go.ChangeShapes Go.WideShapes Go.ChangeAt Go.RowKit

attribute [local irreducible] wpQuiet
set_option maxRecDepth 100000 in
set_option maxHeartbeats 16000000 in
theorem rmove_any {c : Nat} (B : Nat) (g : GhF) (S : TreeD) (X : Xtra) (cu cg fr to_ : Int) (a b : List UInt8) (w : World) (h : FAt w B g S X) (HTr : Tre c S) (hcc : c ≤ 100000) (hl1 : S.last ≤ 1000) (hna : a.length ≤ 1000000) (hnb : b.length ≤ 1000000) :
    Calls Tryz.prog 53 #[.pointer (some ⟨g.bF, 0, none⟩), .agg #[.int .i64 cu, .int .i64 cg], .int .i64 fr, .string (bs a), .int .i64 to_, .string (bs b)] w (ErF w B g (moveT S cu cg X.now fr to_ a b) X (moveE S cu cg fr to_ a b)) := by
  obtain ⟨W0, hW0⟩ : ∃ W0, W0 = w.alloc (.cells #[.int .i64 cu, .int .i64 cg] 40) := ⟨_, rfl⟩
  have E0 : Ext w W0 := by rw [hW0]; exact (Ext.refl _).alloc _
  have C0 : Has W0 w.heap.size (.cells #[.int .i64 cu, .int .i64 cg] 40) := by rw [hW0]; exact Has.new w _
  have O := HTr.ok hcc
  have HTT0 := Lib.hid HTr
  have HO := Lib.hid O
  have hcl : S.nodes.length ≤ 1000 := by have := O.live.count; omega
  have HCL := Lib.hid hcl
  obtain ⟨now, hnow⟩ : ∃ now, now = X.now := ⟨_, rfl⟩
  rw [← hnow]
  have HNOW := Lib.hid hnow
  have HE : Hid (moveE S cu cg fr to_ a b = moveX S cu cg fr to_ (leaveE S cu cg fr a) (placeE S cu cg to_ b) (leaveD S cu cg fr a) (leaveN S cu cg fr a) (placeN S cu cg to_ b) (isN S.nodes (oldNo S cu cg to_ b)) (getN S.nodes (oldNo S cu cg to_ b))) := by show _ = _; rfl
  have HZ : Hid (leaveE S cu cg fr a = 0 → _) := fun h0 => leaveE_zero (nm := a) h0
  have HP : Hid (placeE S cu cg to_ b = 0 → _) := fun h0 => placeE_zero (nm := b) h0
  have HS : Hid (∀ (w' : World) (x : Int), Ext w w' → moveE S cu cg fr to_ a b = x → (x ≠ 0 ∨ sameB S cu cg fr to_ a b) → ErF w B g (moveT S cu cg now fr to_ a b) X (moveE S cu cg fr to_ a b) (.returned (.int .i64 x)) w') := by
    show ∀ (w' : World) (x : Int), _
    intro w' x hE hx h0
    rw [hx]
    have e : moveT S cu cg now fr to_ a b = S := by
      unfold moveT
      rw [if_neg]
      rintro ⟨h1, h2⟩
      rcases h0 with h0 | h0
      · exact h0 (hx.symm.trans h1)
      · exact h2 h0
    exact ⟨rfl, g, by rw [e]; exact h.ext hE, Only.of_ext hE, GhF.on_refl _ _⟩
  have x0 : W0.cell? ⟨w.heap.size, 0, none⟩ = some (.int .i64 cu) := C0.cell 0
  have x1 : W0.cell? ⟨w.heap.size, 1, none⟩ = some (.int .i64 cg) := C0.cell 1
  have xz := C0.lt
  clear O HTr hcl hnow
  go_enter Tryz.func53, Tryz.ntmps53
  go_upto_region 1 with fail
  rw [← hW0]
  clear hW0
  go_wp2_with fail
  refine (rleave_any B g S X cu cg fr a _ (h.ext E0) HO.out (by omega) hna).mono ?_
  rintro e w2 ⟨A1, c1, A2, c2, rfl, okd, okn, b2⟩
  obtain ⟨d, hd⟩ : ∃ d, d = leaveD S cu cg fr a := ⟨_, rfl⟩
  obtain ⟨n, hn⟩ : ∃ n, n = leaveN S cu cg fr a := ⟨_, rfl⟩
  obtain ⟨x, hx⟩ : ∃ x, x = leaveE S cu cg fr a := ⟨_, rfl⟩
  rw [← hd] at okd
  rw [← hn] at okn
  rw [← hd, ← hn, ← hx]
  rw [← hx] at HZ
  rw [← hd, ← hn, ← hx] at HE
  have HDD := Lib.hid hd
  have HNN := Lib.hid hn
  obtain ⟨W3, hW3⟩ : ∃ W3, W3 = (w2.alloc (.cells #[.int .i64 d.no, .int .i64 d.dev, .int .i64 d.kind, .int .i64 d.mode, .int .i64 d.uid, .int .i64 d.gid, .int .i64 d.mtime, .int .i64 d.ctime, .int .i64 d.links, .int .i64 d.up, .string (bs d.data), .slice A1 d.ents.length c1] 49)).alloc (.cells #[.int .i64 n.no, .int .i64 n.dev, .int .i64 n.kind, .int .i64 n.mode, .int .i64 n.uid, .int .i64 n.gid, .int .i64 n.mtime, .int .i64 n.ctime, .int .i64 n.links, .int .i64 n.up, .string (bs n.data), .slice A2 n.ents.length c2] 49) := ⟨_, rfl⟩
  have E23 : Ext w2 W3 := by rw [hW3]; exact ((Ext.refl _).alloc _).alloc _
  obtain ⟨b15, hb15⟩ : ∃ b, b = w2.heap.size := ⟨_, rfl⟩
  have D3 : Has W3 b15 (.cells #[.int .i64 d.no, .int .i64 d.dev, .int .i64 d.kind, .int .i64 d.mode, .int .i64 d.uid, .int .i64 d.gid, .int .i64 d.mtime, .int .i64 d.ctime, .int .i64 d.links, .int .i64 d.up, .string (bs d.data), .slice A1 d.ents.length c1] 49) := by rw [hW3, hb15]; exact (Has.new w2 _).alloc _
  have N3 : Has W3 (b15 + 1) (.cells #[.int .i64 n.no, .int .i64 n.dev, .int .i64 n.kind, .int .i64 n.mode, .int .i64 n.uid, .int .i64 n.gid, .int .i64 n.mtime, .int .i64 n.ctime, .int .i64 n.links, .int .i64 n.up, .string (bs n.data), .slice A2 n.ents.length c2] 49) := by
    rw [hW3, hb15]
    have := Has.new (w2.alloc (.cells #[.int .i64 d.no, .int .i64 d.dev, .int .i64 d.kind, .int .i64 d.mode, .int .i64 d.uid, .int .i64 d.gid, .int .i64 d.mtime, .int .i64 d.ctime, .int .i64 d.links, .int .i64 d.up, .string (bs d.data), .slice A1 d.ents.length c1] 49)) (.cells #[.int .i64 n.no, .int .i64 n.dev, .int .i64 n.kind, .int .i64 n.mode, .int .i64 n.uid, .int .i64 n.gid, .int .i64 n.mtime, .int .i64 n.ctime, .int .i64 n.links, .int .i64 n.up, .string (bs n.data), .slice A2 n.ents.length c2] 49)
    rwa [World.size_alloc] at this
  have okd3 := okd.ext E23
  have okn3 := okn.ext E23
  have E3 := (E0.trans b2).trans E23
  have C3 := C0.ext (b2.trans E23)
  have hb15w : w.heap.size ≤ b15 := by rw [hb15]; exact (E0.trans b2).size
  clear x0 x1 xz hd hn hx C0 okd okn E23
  go_upto_region 2 with fail
  rw [← hW3]
  rw [← hb15]
  clear hW3 hb15
  by_cases hx0 : x = 0
  case neg =>
    have t0 : (x == 0) = false := by simpa using hx0
    have t0b : (x != 0) = true := by simpa using hx0
    have hE : Hid (moveE S cu cg fr to_ a b = x) := by show _ = _; rw [HE.out]; unfold moveX; rw [if_pos hx0]
    have HX := Lib.hid hx0
    clear hx0
    go_wp2_with fail
    go_ret
    exact HS.out _ _ E3 hE.out (.inl HX.out)
  have t0 : (x == 0) = true := by simpa using hx0
  have t0b : (x != 0) = false := by simpa using hx0
  have HLZ := Lib.hid (HZ.out hx0)
  have HX0 := Lib.hid hx0
  have x0 : W3.cell? ⟨w.heap.size, 0, none⟩ = some (.int .i64 cu) := C3.cell 0
  have x1 : W3.cell? ⟨w.heap.size, 1, none⟩ = some (.int .i64 cg) := C3.cell 1
  have xz := C3.lt
  clear hx0 HZ
  go_wp2_with fail
  refine (rplace_any B g S X cu cg to_ b _ (h.ext E3) (by have := HCL.out; omega) HO.out.live.nos hnb).mono ?_
  rintro e w4 ⟨A4, c4, rfl, okt, b4⟩
  obtain ⟨t, ht⟩ : ∃ t, t = placeN S cu cg to_ b := ⟨_, rfl⟩
  obtain ⟨y, hy⟩ : ∃ y, y = placeE S cu cg to_ b := ⟨_, rfl⟩
  rw [← ht] at okt
  rw [← ht, ← hy]
  rw [← ht, ← hy] at HE
  rw [← hy] at HP
  have HTT := Lib.hid ht
  have HYY := Lib.hid hy
  obtain ⟨W5, hW5⟩ : ∃ W5, W5 = w4.alloc (.cells #[.int .i64 t.no, .int .i64 t.dev, .int .i64 t.kind, .int .i64 t.mode, .int .i64 t.uid, .int .i64 t.gid, .int .i64 t.mtime, .int .i64 t.ctime, .int .i64 t.links, .int .i64 t.up, .string (bs t.data), .slice A4 t.ents.length c4] 49) := ⟨_, rfl⟩
  have E45 : Ext w4 W5 := by rw [hW5]; exact (Ext.refl _).alloc _
  obtain ⟨b18, hb18⟩ : ∃ b, b = w4.heap.size := ⟨_, rfl⟩
  have T5 : Has W5 b18 (.cells #[.int .i64 t.no, .int .i64 t.dev, .int .i64 t.kind, .int .i64 t.mode, .int .i64 t.uid, .int .i64 t.gid, .int .i64 t.mtime, .int .i64 t.ctime, .int .i64 t.links, .int .i64 t.up, .string (bs t.data), .slice A4 t.ents.length c4] 49) := by rw [hW5, hb18]; exact Has.new w4 _
  have E35 := b4.trans E45
  have okd5 := okd3.ext E35
  have okn5 := okn3.ext E35
  have okt5 := okt.ext E45
  have D5 := D3.ext E35
  have N5 := N3.ext E35
  have C5 := C3.ext E35
  have E5 := E3.trans E35
  have hb18w : b15 + 1 < b18 := by rw [hb18]; have := N3.lt; have := b4.size; omega
  clear x0 x1 xz ht hy okt E45 D3 N3 C3 okd3 okn3 b4
  go_upto_region 5 with fail
  rw [← hW5]
  rw [← hb18]
  clear hW5 hb18
  by_cases hy0 : y = 0
  case neg =>
    have t1 : (y == 0) = false := by simpa using hy0
    have t1b : (y != 0) = true := by simpa using hy0
    have hE : Hid (moveE S cu cg fr to_ a b = y) := by show _ = _; rw [HE.out]; unfold moveX; rw [if_neg (not_not_intro HX0.out), if_pos hy0]
    have HX := Lib.hid hy0
    clear hy0
    go_wp2_with fail
    go_ret
    exact HS.out _ _ E5 hE.out (.inl HX.out)
  have t1 : (y == 0) = true := by simpa using hy0
  have t1b : (y != 0) = false := by simpa using hy0
  have HPZ := Lib.hid (HP.out hy0)
  have HY0 := Lib.hid hy0
  have HPN : Hid (t = getN S.nodes to_) := Lib.hid (HTT.out.trans (placeN_zero (by rw [← HYY.out]; exact hy0)))
  obtain ⟨old_, hold⟩ : ∃ o, o = oldNo S cu cg to_ b := ⟨_, rfl⟩
  have hold2 : findF t.ents b = old_ := by rw [hold, HTT.out]; rfl
  have hre := HO.out.entsN to_
  rw [← HPN.out] at hre
  have HRE := Lib.hid hre
  have k11 : W5.cell? ⟨b18, 11, none⟩ = some (.slice A4 t.ents.length c4) := T5.cell 11
  have kz := T5.lt
  have HOLD := Lib.hid hold
  have HOLD2 := Lib.hid hold2
  clear hy0 HP hold hold2 hre
  go_wp2_with fail
  refine (rfind_any A4 t.ents c4 b _ okt5.ents.ents (by have := HRE.out.2; omega)).mono ?_
  rintro e w5a ⟨rfl, b5a⟩
  rw [HOLD2.out]
  clear k11 kz
  go_wp2_with fail
  refine (rget_any B g S X old_ _ (h.ext (E5.trans b5a)) (by have := HCL.out; omega) HO.out.live.nos).mono ?_
  rintro e w5b ⟨A6, c6, rfl, ok6', b5b⟩
  have hnz : ((getN S.nodes old_).no == 0) = !isN S.nodes old_ := by
    cases hi : isN S.nodes old_
    · rw [(isN_false hi).1]; rfl
    · have h1 := (HO.out.live.nos.2 _ (isN_true hi).2.2).1
      simp; omega
  have hno' : isN S.nodes old_ = true → (getN S.nodes old_).no = old_ := fun hi => (isN_true hi).2.1
  obtain ⟨o, ho⟩ : ∃ o, o = getN S.nodes old_ := ⟨_, rfl⟩
  obtain ⟨is, his⟩ : ∃ is, is = isN S.nodes old_ := ⟨_, rfl⟩
  rw [← ho] at ok6' hnz hno' ⊢
  rw [← his] at hnz hno'
  rw [← HOLD.out, ← ho, ← his] at HE
  have HOO := Lib.hid ho
  have HIS := Lib.hid his
  have HNZ := Lib.hid hnz
  have HNO' := Lib.hid hno'
  obtain ⟨w6, hw6⟩ : ∃ W, W = w5b.alloc (.cells #[.int .i64 o.no, .int .i64 o.dev, .int .i64 o.kind, .int .i64 o.mode, .int .i64 o.uid, .int .i64 o.gid, .int .i64 o.mtime, .int .i64 o.ctime, .int .i64 o.links, .int .i64 o.up, .string (bs o.data), .slice A6 o.ents.length c6] 49) := ⟨_, rfl⟩
  obtain ⟨b19, hb19⟩ : ∃ b, b = w5b.heap.size := ⟨_, rfl⟩
  have O6 : Has w6 b19 (.cells #[.int .i64 o.no, .int .i64 o.dev, .int .i64 o.kind, .int .i64 o.mode, .int .i64 o.uid, .int .i64 o.gid, .int .i64 o.mtime, .int .i64 o.ctime, .int .i64 o.links, .int .i64 o.up, .string (bs o.data), .slice A6 o.ents.length c6] 49) := by rw [hw6, hb19]; exact Has.new _ _
  have E6b : Ext w5b w6 := by rw [hw6]; exact (Ext.refl _).alloc _
  have E56 : Ext W5 w6 := (b5a.trans b5b).trans E6b
  have oko6 := ok6'.ext E6b
  have okd6 := okd5.ext E56
  have okn6 := okn5.ext E56
  have okt6 := okt5.ext E56
  have D6 := D5.ext E56
  have N6 := N5.ext E56
  have T6 := T5.ext E56
  have C6' := C5.ext E56
  have X6 := E5.trans E56
  have hb19w : b18 < b19 := by rw [hb19]; have := T5.lt; have := (b5a.trans b5b).size; omega
  have HKS : Hid (moveE S cu cg fr to_ a b = moveX S cu cg fr to_ x y d n t is o) := HE
  have HSM : Hid (sameB S cu cg fr to_ a b ↔ (is = true ∧ o.no = n.no)) := by
    refine Lib.hid ?_
    unfold sameB
    rw [HIS.out, HOO.out, HNN.out, HOLD.out]
  have HX6 := Lib.hid X6
  obtain ⟨zz1, zz2, zz3, zz4, zz5⟩ := id HLZ.out
  have hnpos : 1 ≤ n.no := by
    rw [HNN.out, zz5]
    have hm := (isN_true zz2).2.2
    exact (HO.out.live.nos.2 _ hm).1
  have HNP := Lib.hid hnpos
  clear ho his hnz hno' ok6' okd5 okn5 okt5 D5 N5 T5 C5 E5 E56 E6b E3 E35 X6 HE zz1 zz2 zz3 zz4 zz5 hnpos
  go_upto_region 8 with fail
  rw [← hw6, ← hb19]
  clear hw6 hb19 b5a b5b
  have e1 : w6.cell? ⟨b15, 1, none⟩ = some (.int .i64 d.dev) := D6.cell 1
  have e2 : w6.cell? ⟨b18, 1, none⟩ = some (.int .i64 t.dev) := T6.cell 1
  have z1 := D6.lt
  have z2 := T6.lt
  by_cases q1 : d.dev = t.dev
  case neg =>
    have s1 : (d.dev == t.dev) = false := by simpa using q1
    have s1b : (d.dev != t.dev) = true := by simpa using q1
    have hE : Hid (moveE S cu cg fr to_ a b = 11) := by show _ = _; rw [HKS.out]; unfold moveX; rw [if_neg (not_not_intro HX0.out), if_neg (not_not_intro HY0.out), if_pos q1]
    go_wp2_with fail
    go_ret
    exact HS.out _ _ HX6.out hE.out (.inl (by decide))
  have s1 : (d.dev == t.dev) = true := by simpa using q1
  have s1b : (d.dev != t.dev) = false := by simpa using q1
  have Q1 := Lib.hid q1
  clear q1
  go_upto_region 10 with fail
  clear e1 e2 z1 z2 s1 s1b
  obtain ⟨wv, hwv⟩ : ∃ wv, wv = (decide (n.kind = 1) && withinF S to_ n.no) := ⟨_, rfl⟩
  have HWV := Lib.hid hwv
  have e3 : w6.cell? ⟨b15 + 1, 2, none⟩ = some (.int .i64 n.kind) := N6.cell 2
  have e4 : w6.cell? ⟨b15 + 1, 0, none⟩ = some (.int .i64 n.no) := N6.cell 0
  have z3 := N6.lt
  clear hwv
  go_cut [62] (fun v wc => v = .bool wv ∧ Ext w6 wc)
  case first =>
    by_cases q2 : n.kind = 1
    case neg =>
      have s2 : (n.kind == 1) = false := by simpa using q2
      have hv : Hid (wv = false) := Lib.hid (by rw [HWV.out, decide_eq_false q2]; rfl)
      clear q2
      go_wp2_with fail
      go_meet
      exact ⟨by rw [hv.out], Ext.refl _⟩
    have s2 : (n.kind == 1) = true := by simpa using q2
    have hv : Hid (wv = withinF S to_ n.no) := Lib.hid (by rw [HWV.out, decide_eq_true q2]; rfl)
    clear q2
    go_wp2_with fail
    refine (rwithin_any B g S X to_ n.no _ (h.ext HX6.out) (by have := HCL.out; omega) HO.out.live.eight HO.out.live.roots HO.out.live.nos).mono ?_
    rintro e w7 ⟨rfl, b7⟩
    have B7 := Lib.hid b7
    clear b7 e3 e4 z3
    go_wp2_with fail
    go_meet
    exact ⟨by rw [hv.out], B7.out⟩
  case rest =>
  obtain ⟨rfl, B7⟩ := hcut
  obtain ⟨w7, hw7⟩ : ∃ w7, w7 = wc := ⟨_, rfl⟩
  rw [← hw7] at B7 ⊢
  clear e3 e4 z3
  have HX7 := Lib.hid (HX6.out.trans B7)
  have okd7 := okd6.ext B7
  have okn7 := okn6.ext B7
  have okt7 := okt6.ext B7
  have oko7 := oko6.ext B7
  have D7 := D6.ext B7
  have N7 := N6.ext B7
  have T7 := T6.ext B7
  have O7 := O6.ext B7
  have C7 := C6'.ext B7
  clear hw7 okd6 okn6 okt6 oko6 D6 N6 T6 O6 C6' B7
  cases wv
  case true =>
    have hh : Hid (n.kind = 1 ∧ withinF S to_ n.no = true) := Lib.hid (by have := HWV.out.symm; rw [Bool.and_eq_true, decide_eq_true_eq] at this; exact this)
    have hE : Hid (moveE S cu cg fr to_ a b = 17) := by show _ = _; rw [HKS.out]; unfold moveX; rw [if_neg (not_not_intro HX0.out), if_neg (not_not_intro HY0.out), if_neg (not_not_intro Q1.out), if_pos hh.out]
    go_wp2_with fail
    go_ret
    exact HS.out _ _ HX7.out hE.out (.inl (by decide))
  have HNW : Hid (¬ (n.kind = 1 ∧ withinF S to_ n.no = true)) := Lib.hid (fun hk => by
    have := HWV.out
    rw [decide_eq_true hk.1, hk.2] at this
    cases this)
  have e4 : w7.cell? ⟨b15 + 1, 0, none⟩ = some (.int .i64 n.no) := N7.cell 0
  have e5 : w7.cell? ⟨b19, 0, none⟩ = some (.int .i64 o.no) := O7.cell 0
  have z3 := N7.lt
  have z4 := O7.lt
  by_cases q3 : o.no = n.no
  · have s3 : (o.no == n.no) = true := by simpa using q3
    have hsm : Hid (is = true ∧ o.no = n.no) := Lib.hid ⟨by
      have h1 := HNZ.out
      rw [q3] at h1
      have h2 := HNP.out
      have h3 : (n.no == 0) = false := by simp; omega
      rw [h3] at h1
      cases his : is
      · rw [his] at h1; cases h1
      · rfl, q3⟩
    clear q3
    have hE : Hid (moveE S cu cg fr to_ a b = 0) := by show _ = _; rw [HKS.out]; unfold moveX; rw [if_neg (not_not_intro HX0.out), if_neg (not_not_intro HY0.out), if_neg (not_not_intro Q1.out), if_neg HNW.out, if_pos hsm.out]
    go_wp2_with fail
    go_ret
    exact HS.out _ _ HX7.out hE.out (.inr (HSM.out.2 hsm.out))
  have s3 : (o.no == n.no) = false := by simpa using q3
  have HNS : Hid (¬ (is = true ∧ o.no = n.no)) := Lib.hid (fun h => q3 h.2)
  clear q3
  go_upto_region 14 with fail
  clear e4 e5 z3 z4 s3
  obtain ⟨mv, hmv⟩ : ∃ mv, mv = (decide (n.kind = 1) && (decide (¬ fr = to_) && !mayB cu cg n.uid n.gid n.mode 2)) := ⟨_, rfl⟩
  have HMV := Lib.hid hmv
  have e3 : w7.cell? ⟨b15 + 1, 2, none⟩ = some (.int .i64 n.kind) := N7.cell 2
  have z3 := N7.lt
  clear hmv
  go_cut [81] (fun v wc => v = .bool mv ∧ Ext w7 wc)
  case first =>
    by_cases q2 : n.kind = 1
    case neg =>
      have s2 : (n.kind == 1) = false := by simpa using q2
      have hv : Hid (mv = false) := Lib.hid (by rw [HMV.out, decide_eq_false q2]; rfl)
      clear q2
      go_wp2_with fail
      go_meet
      exact ⟨by rw [hv.out], Ext.refl _⟩
    have s2 : (n.kind == 1) = true := by simpa using q2
    have HQ2 := Lib.hid q2
    clear q2
    by_cases q4 : fr = to_
    · have s4 : (fr == to_) = true := by simpa using q4
      have s4b : (fr != to_) = false := by simpa using q4
      have hv : Hid (mv = false) := Lib.hid (by rw [HMV.out, decide_eq_true HQ2.out, decide_eq_false (not_not_intro q4)]; rfl)
      clear q4
      go_wp2_with fail
      go_meet
      exact ⟨by rw [hv.out], Ext.refl _⟩
    have s4 : (fr == to_) = false := by simpa using q4
    have s4b : (fr != to_) = true := by simpa using q4
    obtain ⟨u, hu⟩ : ∃ u, u = mayB cu cg n.uid n.gid n.mode 2 := ⟨_, rfl⟩
    have HU := Lib.hid hu
    have hv : Hid (mv = !u) := Lib.hid (by rw [HMV.out, decide_eq_true HQ2.out, decide_eq_true q4, hu]; rfl)
    have x0 : w7.cell? ⟨w.heap.size, 0, none⟩ = some (.int .i64 cu) := C7.cell 0
    have x1 : w7.cell? ⟨w.heap.size, 1, none⟩ = some (.int .i64 cg) := C7.cell 1
    have xz := C7.lt
    obtain ⟨n0, n1, n2, n3, n4, n5, n6, n7, n8, n9, n10, n11⟩ := N7.node12
    clear q4 hu e3
    go_wp2_with fail
    refine (rnode_any cu cg _ _ _ n.mode n.uid n.gid _ _ _ _ _ _ 2 _).mono ?_
    rw [← HU.out]
    rintro e w8 ⟨rfl, b8⟩
    have B8 := Lib.hid b8
    clear x0 x1 xz n0 n1 n2 n3 n4 n5 n6 n7 n8 n9 n10 n11 b8
    go_wp2_with fail
    go_meet
    exact ⟨by rw [hv.out], B8.out⟩
  case rest =>
  obtain ⟨rfl, B8⟩ := hcut
  obtain ⟨w8, hw8⟩ : ∃ w8, w8 = wc := ⟨_, rfl⟩
  rw [← hw8] at B8 ⊢
  clear e3 z3
  have HX8 := Lib.hid (HX7.out.trans B8)
  have K8 := h.ext HX8.out
  have okd8 := okd7.ext B8
  have okn8 := okn7.ext B8
  have okt8 := okt7.ext B8
  have oko8 := oko7.ext B8
  have D8 := D7.ext B8
  have N8 := N7.ext B8
  have T8 := T7.ext B8
  have O8 := O7.ext B8
  have C8 := C7.ext B8
  clear hw8 okd7 okn7 okt7 oko7 D7 N7 T7 O7 C7 B8
  cases mv
  case true =>
    have hh : Hid (n.kind = 1 ∧ ¬ fr = to_ ∧ mayB cu cg n.uid n.gid n.mode 2 = false) := Lib.hid (by
      have := HMV.out.symm
      rw [Bool.and_eq_true, Bool.and_eq_true, decide_eq_true_eq, decide_eq_true_eq] at this
      exact ⟨this.1, this.2.1, by simpa using this.2.2⟩)
    have hE : Hid (moveE S cu cg fr to_ a b = 6) := by show _ = _; rw [HKS.out]; unfold moveX; rw [if_neg (not_not_intro HX0.out), if_neg (not_not_intro HY0.out), if_neg (not_not_intro Q1.out), if_neg HNW.out, if_neg HNS.out, if_pos hh.out]
    go_wp2_with fail
    go_ret
    exact HS.out _ _ HX8.out hE.out (.inl (by decide))
  have HNM : Hid (¬ (n.kind = 1 ∧ ¬ fr = to_ ∧ mayB cu cg n.uid n.gid n.mode 2 = false)) := Lib.hid (fun hk => by
    have := HMV.out
    rw [decide_eq_true hk.1, decide_eq_true hk.2.1, hk.2.2] at this
    cases this)
  have HEX : Hid (moveE S cu cg fr to_ a b = if is = true then putE S cu t n o else 0) := by
    refine Lib.hid ?_
    rw [HKS.out]; unfold moveX; rw [if_neg (not_not_intro HX0.out), if_neg (not_not_intro HY0.out), if_neg (not_not_intro Q1.out), if_neg HNW.out, if_neg HNS.out, if_neg HNM.out]
  have HMT : Hid (moveE S cu cg fr to_ a b = 0 → moveT S cu cg now fr to_ a b = laidT (overT S now old_) now fr to_ a b d n) := by
    refine Lib.hid fun h0 => ?_
    unfold moveT
    rw [if_pos ⟨h0, fun hs => HNS.out (HSM.out.1 hs)⟩, ← HDD.out, ← HNN.out, ← HOLD.out]
  have e5 : w8.cell? ⟨b19, 0, none⟩ = some (.int .i64 o.no) := O8.cell 0
  have z5 := O8.lt
  go_upto_if 84 with fail
  go_cut [] (fun wc => ∃ g2 T, FAt wc B g2 T X ∧ Only g.list w8 wc ∧ GhF.on g2 g w8 ∧ T = overT S now old_ ∧ moveE S cu cg fr to_ a b = 0)
  case first =>
    cases is
    · have tn : (o.no == 0) = true := HNZ.out
      have tn2 : (o.no != 0) = false := by simp only [bne, tn]; rfl
      have hto : overT S now old_ = S := by unfold overT; rw [← HIS.out, if_neg (by decide)]
      have HTO := Lib.hid hto
      clear hto
      go_wp2_with fail
      go_meet
      exact ⟨g, S, K8, Only.refl _ _, GhF.on_refl _ _, HTO.out.symm, by rw [HEX.out]; rfl⟩
    have tn : (o.no == 0) = false := HNZ.out
    have tn2 : (o.no != 0) = true := by simp only [bne, tn]; rfl
    have hon : o.no = old_ := HNO'.out (by trivial)
    have hol := HO.out.entsN old_
    rw [← HOO.out] at hol
    have hto : overT S now old_ = lessT S now o := by unfold overT; rw [← HIS.out, if_pos rfl, HOO.out]
    have HTO := Lib.hid hto
    have hhe := HO.out.held (no := old_) (by rw [← HIS.out])
    rw [← HOO.out] at hhe
    have HHE := Lib.hid hhe
    have HOL := Lib.hid hol
    have HON := Lib.hid hon
    have hE : Hid (moveE S cu cg fr to_ a b = putE S cu t n o) := by show _ = _; rw [HEX.out, if_pos rfl]
    have KO : Hid (∀ u : Gr w8, Calls Tryz.prog 105 #[.pointer (some ⟨g.bF, 0, none⟩), .int .i64 o.no] u.w (Ret u.w (.int .i64 (overF S.devs o.no)))) := by
      show ∀ u : Gr w8, _
      exact fun u => rover_any B g S X o.no _ (K8.ext u.h) (by have := HO.out.live.eight; omega)
    have y0 := Gr.cell O8.lt e5
    obtain ⟨ov, hov⟩ : ∃ ov, ov = overF S.devs o.no := ⟨_, rfl⟩
    rw [← hov] at KO
    have HOV := Lib.hid hov
    clear hto hhe hol hon hov e5 z5
    go_upto_region 17 with fail
    refine wp_region_grow w8 (by kernel_rfl) (by kernel_rfl) (Ext.refl _).drew ?_
    repeat (quiet_step (((with_reducible refine (KO.out _).mono ?_); rintro e w'' ⟨rfl, hEx⟩; exact ⟨rfl, ⟨w'', Ext.trans (Gr.h _) hEx⟩, rfl⟩)))
    refine wpQuiet_nil ?_
    rintro w9 ⟨⟨wy, b9⟩, h9⟩
    dsimp only at h9
    subst h9
    clear y0 KO
    have X9 := HX8.out.trans b9
    have N9 := N8.ext b9
    have T9 := T8.ext b9
    have O9 := O8.ext b9
    have C9 := C8.ext b9
    have oko9 := oko8.ext b9
    have K9 := K8.ext b9
    by_cases p1 : ov = o.no
    case neg =>
      have r1 : (ov == o.no) = false := by simpa using p1
      have r1b : (ov != o.no) = true := by simpa using p1
      have hE2 : Hid (moveE S cu cg fr to_ a b = 16) := by show _ = _; rw [hE.out]; unfold putE; rw [if_pos (by rw [← HOV.out]; exact p1)]
      clear p1
      go_wp2_with fail
      go_ret
      exact HS.out _ _ X9 hE2.out (.inl (by decide))
    have r1 : (ov == o.no) = true := by simpa using p1
    have r1b : (ov != o.no) = false := by simpa using p1
    have HP1 : Hid (¬ ¬ overF S.devs o.no = o.no) := Lib.hid (not_not_intro (by rw [← HOV.out]; exact p1))
    have v2 : w9.cell? ⟨b15 + 1, 2, none⟩ = some (.int .i64 n.kind) := N9.cell 2
    have v3 : w9.cell? ⟨b19, 2, none⟩ = some (.int .i64 o.kind) := O9.cell 2
    obtain ⟨lo, hlo⟩ : ∃ lo, lo = o.ents.length := ⟨_, rfl⟩
    have v11 : w9.cell? ⟨b19, 11, none⟩ = some (.slice A6 lo c6) := by rw [hlo]; exact O9.cell 11
    have HLO := Lib.hid hlo
    have vz := N9.lt
    have vz2 := O9.lt
    clear p1 hlo
    by_cases p2 : n.kind = 1
    · have r2 : (n.kind == 1) = true := by simpa using p2
      have r2b : (n.kind != 1) = false := by simpa using p2
      by_cases p3 : o.kind = 1
      · have r3 : (o.kind == 1) = true := by simpa using p3
        have r3b : (o.kind != 1) = false := by simpa using p3
        have HP2 : Hid (¬ (n.kind = 1 ∧ ¬ o.kind = 1) ∧ ¬ (¬ n.kind = 1 ∧ o.kind = 1)) := Lib.hid ⟨fun h => h.2 p3, fun h => h.1 p2⟩
        clear p2 p3
        by_cases p4 : 0 < lo
        · have r4 : decide ((0 : Int) < (lo : Int)) = true := decide_eq_true (by omega)
          have hE2 : Hid (moveE S cu cg fr to_ a b = 10) := by show _ = _; rw [hE.out]; unfold putE; rw [if_neg HP1.out, if_neg HP2.out.1, if_neg HP2.out.2, if_pos (by rw [← HLO.out]; omega)]
          go_wp2_with fail
          go_ret
          exact HS.out _ _ X9 hE2.out (.inl (by decide))
        have r4 : decide ((0 : Int) < (lo : Int)) = false := decide_eq_false (by omega)
        have r4c : lo ≤ 0 := by omega
        have HP4 : Hid (¬ 0 < (o.ents.length : Int)) := Lib.hid (by rw [← HLO.out]; omega)
        obtain ⟨u, hu⟩ : ∃ u, u = freeB cu t.mode t.uid o.uid := ⟨_, rfl⟩
        have HU := Lib.hid hu
        have hE3 : Hid (moveE S cu cg fr to_ a b = if u = false then 4 else 0) := by show _ = _; rw [hE.out]; unfold putE; rw [if_neg HP1.out, if_neg HP2.out.1, if_neg HP2.out.2, if_neg HP4.out, hu]
        have x0 : w9.cell? ⟨w.heap.size, 0, none⟩ = some (.int .i64 cu) := C9.cell 0
        have x1 : w9.cell? ⟨w.heap.size, 1, none⟩ = some (.int .i64 cg) := C9.cell 1
        have xz := C9.lt
        clear p4 hu
        go_wp2_with (first | (refine wpList_load_node rfl _ rfl b18 t A4 c4 rfl T9 ?_) | (refine wpList_load_node rfl _ rfl b19 o A6 c6 rfl O9 ?_))
        refine (rfree_any cu cg _ _ _ t.mode t.uid _ _ _ _ _ _ _ _ _ _ _ o.uid _ _ _ _ _ _ _ _).mono ?_
        rw [← HU.out]
        rintro e w10 ⟨rfl, b10⟩
        have O10 := O9.ext b10
        have oko10 := oko9.ext b10
        have K10 := K9.ext b10
        have X10 := X9.trans b10
        have E810 := b9.trans b10
        clear x0 x1 xz v2 v3 v11 vz vz2
        cases u
        · have hE2 : Hid (moveE S cu cg fr to_ a b = 4) := Lib.hid (by rw [hE3.out]; rfl)
          go_wp2_with fail
          go_ret
          exact HS.out _ _ X10 hE2.out (.inl (by decide))
        have hE2 : Hid (moveE S cu cg fr to_ a b = 0) := Lib.hid (by rw [hE3.out]; rfl)
        go_wp2_with (refine wpList_load_node rfl _ rfl b19 o A6 c6 rfl O10 ?_)
        refine (rless_any B g S X o A6 c6 _ K10 HO.out.live hl1 oko10 HHE.out).mono ?_
        rintro e w11 ⟨rfl, g2, K11, O11, hon⟩
        have HON2 := Lib.hid hon
        clear hon
        go_wp2_with fail
        go_meet
        exact ⟨g2, _, K11, Only.pre E810 O11, GhF.on_base HON2.out E810, by rw [HTO.out, HNOW.out], hE2.out⟩
      · have r3 : (o.kind == 1) = false := by simpa using p3
        have r3b : (o.kind != 1) = true := by simpa using p3
        have hE2 : Hid (moveE S cu cg fr to_ a b = 9) := by show _ = _; rw [hE.out]; unfold putE; rw [if_neg HP1.out, if_pos ⟨p2, p3⟩]
        clear p2 p3
        go_wp2_with fail
        go_ret
        exact HS.out _ _ X9 hE2.out (.inl (by decide))
    · have r2 : (n.kind == 1) = false := by simpa using p2
      have r2b : (n.kind != 1) = true := by simpa using p2
      by_cases p3 : o.kind = 1
      · have r3 : (o.kind == 1) = true := by simpa using p3
        have r3b : (o.kind != 1) = false := by simpa using p3
        have hE2 : Hid (moveE S cu cg fr to_ a b = 8) := by show _ = _; rw [hE.out]; unfold putE; rw [if_neg HP1.out, if_neg (fun h => p2 h.1), if_pos ⟨p2, p3⟩]
        clear p2 p3
        go_wp2_with fail
        go_ret
        exact HS.out _ _ X9 hE2.out (.inl (by decide))
      · have r3 : (o.kind == 1) = false := by simpa using p3
        have r3b : (o.kind != 1) = true := by simpa using p3
        have HP2 : Hid (¬ (n.kind = 1 ∧ ¬ o.kind = 1) ∧ ¬ (¬ n.kind = 1 ∧ o.kind = 1)) := Lib.hid ⟨fun h => p2 h.1, fun h => p3 h.2⟩
        clear p2 p3
        by_cases p4 : 0 < lo
        · have r4 : decide ((0 : Int) < (lo : Int)) = true := decide_eq_true (by omega)
          have hE2 : Hid (moveE S cu cg fr to_ a b = 10) := by show _ = _; rw [hE.out]; unfold putE; rw [if_neg HP1.out, if_neg HP2.out.1, if_neg HP2.out.2, if_pos (by rw [← HLO.out]; omega)]
          go_wp2_with fail
          go_ret
          exact HS.out _ _ X9 hE2.out (.inl (by decide))
        have r4 : decide ((0 : Int) < (lo : Int)) = false := decide_eq_false (by omega)
        have r4c : lo ≤ 0 := by omega
        have HP4 : Hid (¬ 0 < (o.ents.length : Int)) := Lib.hid (by rw [← HLO.out]; omega)
        obtain ⟨u, hu⟩ : ∃ u, u = freeB cu t.mode t.uid o.uid := ⟨_, rfl⟩
        have HU := Lib.hid hu
        have hE3 : Hid (moveE S cu cg fr to_ a b = if u = false then 4 else 0) := by show _ = _; rw [hE.out]; unfold putE; rw [if_neg HP1.out, if_neg HP2.out.1, if_neg HP2.out.2, if_neg HP4.out, hu]
        have x0 : w9.cell? ⟨w.heap.size, 0, none⟩ = some (.int .i64 cu) := C9.cell 0
        have x1 : w9.cell? ⟨w.heap.size, 1, none⟩ = some (.int .i64 cg) := C9.cell 1
        have xz := C9.lt
        clear p4 hu
        go_wp2_with (first | (refine wpList_load_node rfl _ rfl b18 t A4 c4 rfl T9 ?_) | (refine wpList_load_node rfl _ rfl b19 o A6 c6 rfl O9 ?_))
        refine (rfree_any cu cg _ _ _ t.mode t.uid _ _ _ _ _ _ _ _ _ _ _ o.uid _ _ _ _ _ _ _ _).mono ?_
        rw [← HU.out]
        rintro e w10 ⟨rfl, b10⟩
        have O10 := O9.ext b10
        have oko10 := oko9.ext b10
        have K10 := K9.ext b10
        have X10 := X9.trans b10
        have E810 := b9.trans b10
        clear x0 x1 xz v2 v3 v11 vz vz2
        cases u
        · have hE2 : Hid (moveE S cu cg fr to_ a b = 4) := Lib.hid (by rw [hE3.out]; rfl)
          go_wp2_with fail
          go_ret
          exact HS.out _ _ X10 hE2.out (.inl (by decide))
        have hE2 : Hid (moveE S cu cg fr to_ a b = 0) := Lib.hid (by rw [hE3.out]; rfl)
        go_wp2_with (refine wpList_load_node rfl _ rfl b19 o A6 c6 rfl O10 ?_)
        refine (rless_any B g S X o A6 c6 _ K10 HO.out.live hl1 oko10 HHE.out).mono ?_
        rintro e w11 ⟨rfl, g2, K11, O11, hon⟩
        have HON2 := Lib.hid hon
        clear hon
        go_wp2_with fail
        go_meet
        exact ⟨g2, _, K11, Only.pre E810 O11, GhF.on_base HON2.out E810, by rw [HTO.out, HNOW.out], hE2.out⟩
  case rest =>
  obtain ⟨g2, T, K9, O9', hon9, hT, hE0⟩ := hcut
  obtain ⟨w9, hw9⟩ : ∃ w9, w9 = wc := ⟨_, rfl⟩
  rw [← hw9] at K9 O9' ⊢
  have hng : ∀ b, w.heap.size ≤ b → b ∉ g.list := by
    intro b hb hm
    have hlw := h.lt
    simp only [GhF.list, List.mem_cons, List.not_mem_nil, or_false] at hm
    omega
  have N9 := O9'.has N8 (hng _ (by omega))
  have okn9 := okn8.only O9' K8.apart
  have hz8 : b15 + 1 < w8.heap.size := N8.lt
  have hng2 : ∀ b, w.heap.size ≤ b → b < w8.heap.size → b ∉ g2.list := by
    intro b hb hb2 hm
    rcases hon9.2 b hm with k | k
    · exact hng b hb k
    · omega
  have HNG2 := Lib.hid hng2
  have Ow9 : Only g.list w w9 := Only.pre HX8.out O9'
  have hbF : g2.bF = g.bF := hon9.1
  have hTu : NosUp T.nodes T.last := by rw [hT]; exact over_nos HTT0.out now old_
  have hTc : T.nodes.length ≤ 1000 := by rw [hT]; have := (over_len HTT0.out now old_).2; have := HCL.out; omega
  have HT := Lib.hid hT
  have HE0 := Lib.hid hE0
  have HTU := Lib.hid hTu
  have HTC := Lib.hid hTc
  have HON9 := Lib.hid hon9
  -- what the directory holds is what it held
  obtain ⟨zz1, zz2, zz3, zz4, zz5⟩ := id HLZ.out
  rw [← HDD.out] at zz4
  have hgf : (getN T.nodes fr).ents = d.ents := by
    rw [hT, zz4]
    by_cases hio : isN S.nodes old_ = true
    · have hne : fr ≠ old_ := by
        intro e
        have hex := HEX.out
        rw [hE0, if_pos (by rw [HIS.out]; exact hio)] at hex
        have hoe := (putE_zero hex.symm).2.2.2
        rw [HOO.out, ← e] at hoe
        rw [hoe] at zz2
        have : isN S.nodes 0 = true := zz2
        rw [HO.out.live.nos.zero (no := 0) (.inl (by decide))] at this
        cases this
      rw [(over_get HTT0.out now hne).1]
    · unfold overT
      rw [if_neg hio]
  have HGF := Lib.hid hgf
  have hden := HO.out.entsN fr
  rw [← zz4] at hden
  have HDEN := Lib.hid hden
  obtain ⟨A1', k1', okf, Cf⟩ := rget_fix B g2 T X fr w9 K9 (by omega) hTu
  rw [hbF] at Cf
  obtain ⟨f0, hf0⟩ : ∃ f0, f0 = getN T.nodes fr := ⟨_, rfl⟩
  rw [← hf0] at okf Cf
  have hfe : f0.ents = d.ents := by rw [hf0]; exact hgf
  have HFE := Lib.hid hfe
  have HCF := Lib.hid Cf
  have hfd1 : ∀ w', (Instr.field 49 (.agg #[.int .i64 f0.no, .int .i64 f0.dev, .int .i64 f0.kind, .int .i64 f0.mode, .int .i64 f0.uid, .int .i64 f0.gid, .int .i64 f0.mtime, .int .i64 f0.ctime, .int .i64 f0.links, .int .i64 f0.up, .string (bs f0.data), .slice A1' f0.ents.length k1']) 11).run Tryz.prog w' = .ok (.slice A1' f0.ents.length k1') w' := fun w' => (field_node _ _ _ _ _ _ _ _ _ _ _ _ w').1
  clear hw9 hng hng2 hT hE0 hTu hTc hon9 zz1 zz2 zz3 zz4 zz5 hgf hden hf0 hfe Cf e5 z5 K8 okd8 okn8 okt8 oko8 D8 N8 T8 O8 C8 O9'
  go_wp2_with fail
  refine (HCF.out w9 (Ext.refl _)).mono ?_
  rintro e w10 ⟨rfl, b10⟩
  go_wp2_with fail
  refine (rdrop_any A1' f0.ents k1' a _ (okf.ext b10).ents.ents (by rw [HFE.out]; have := HDEN.out.2; omega)).mono ?_
  rintro e w11 ⟨v11, rfl, hown, b11⟩
  obtain ⟨A9, c9, rfl, q1, q2, q3, q4⟩ := hown.entsT (B := B)
  obtain ⟨L9, hL9⟩ : ∃ L, L = dropF f0.ents a := ⟨_, rfl⟩
  rw [← hL9] at q1 q3 ⊢
  have HL9 : Hid (L9 = dropF d.ents a) := Lib.hid (by rw [hL9, HFE.out])
  have E911 := b10.trans b11
  obtain ⟨T1, hT1⟩ : ∃ T1, T1 = touchT T fr now L9 := ⟨_, rfl⟩
  have HT1 := Lib.hid hT1
  have KT : Hid (Calls Tryz.prog 95 #[.pointer (some ⟨g.bF, 0, none⟩), .int .i64 fr, .slice A9 L9.length c9] w11 (TouchF w11 B g2 T1 X)) := by
    show Calls _ _ _ _ _
    rw [hT1, HNOW.out, ← hbF]
    exact rtouch_any B g2 T X fr A9 L9 c9 w11 (K9.ext E911) (by have := HTC.out; omega) HTU.out q3 q1 q2 q4
  have HU1 : Hid (NosUp T1.nodes T1.last) := by show NosUp _ _; rw [hT1]; exact HTU.out.set _
  have HC1 : Hid (T1.nodes.length ≤ 1000) := by show _ ≤ _; rw [hT1]; show (setN _ _).length ≤ _; rw [setN_len]; exact HTC.out
  have N11 := N9.ext E911
  have okn11 := okn9.ext E911
  have K11 := K9.ext E911
  have Ow11 := Ow9.ext E911
  have hfb := Lib.hid hbF
  clear hown q1 q2 q3 q4 hL9 hT1 hfd1 okf hbF b10 b11
  go_wp2_with fail
  refine KT.out.mono ?_
  rintro e w12 ⟨rfl, K12, O12⟩
  have N12 := O12.has N11 (HNG2.out _ (by omega) hz8)
  have okn12 := okn11.only O12 K11.apart
  have Ow12 : Only g.list w w12 := Ow11.trans O12 (fun b hb => by
    rcases HON9.out.2 b hb with k | k
    · exact .inl k
    · exact .inr (by have := HX8.out.size; omega))
  obtain ⟨A2', k2', okt2, Ct⟩ := rget_fix B g2 T1 X to_ w12 K12 (by have := HC1.out; omega) HU1.out
  rw [hfb.out] at Ct
  obtain ⟨t1', ht1⟩ : ∃ t1, t1 = getN T1.nodes to_ := ⟨_, rfl⟩
  rw [← ht1] at okt2 Ct
  have hrise : t1'.ents.length ≤ 100000 := by
    have hS : ∀ m ∈ S.nodes, m.ents.length ≤ 100000 := fun m hm => (HO.out.ents m hm).2
    have hTA : ∀ m ∈ T.nodes, m.ents.length ≤ 100000 := by
      rw [HT.out]
      exact all_over hS now old_ fun m hm => hm
    have hT1A : ∀ m ∈ T1.nodes, m.ents.length ≤ 100000 := fun m hm => by
      rw [HT1.out] at hm
      rcases mem_setN hm with hm | rfl
      · exact hTA m hm
      · show L9.length ≤ 100000
        rw [HL9.out]
        exact Nat.le_trans (dropF_len _ _) HDEN.out.2
    rw [ht1]
    cases hi : isN T1.nodes to_
    · rw [(isN_false hi).1]; exact Nat.zero_le _
    · exact hT1A _ (isN_true hi).2.2
  have HRS := Lib.hid hrise
  have HT1' := Lib.hid ht1
  have HCT := Lib.hid Ct
  obtain ⟨L13, hL13⟩ : ∃ L, L = putF t1'.ents (b, n.no) := ⟨_, rfl⟩
  have HL13 := Lib.hid hL13
  obtain ⟨T2, hT2⟩ : ∃ T2, T2 = touchT T1 to_ now L13 := ⟨_, rfl⟩
  have HT2 := Lib.hid hT2
  have hfd2 : ∀ w', (Instr.field 49 (.agg #[.int .i64 (t1').no, .int .i64 (t1').dev, .int .i64 (t1').kind, .int .i64 (t1').mode, .int .i64 (t1').uid, .int .i64 (t1').gid, .int .i64 (t1').mtime, .int .i64 (t1').ctime, .int .i64 (t1').links, .int .i64 (t1').up, .string (bs (t1').data), .slice A2' (t1').ents.length k2']) 11).run Tryz.prog w' = .ok (.slice A2' t1'.ents.length k2') w' := fun w' => (field_node _ _ _ _ _ _ _ _ _ _ _ _ w').1
  have HPUT : Hid (∀ u, Ext w12 u → Calls Tryz.prog 90 #[.slice A2' t1'.ents.length k2', .string (bs b), .int .i64 n.no] u (fun e w' => ∃ A cc, e = .returned (.slice A L13.length cc) ∧ (EntsT w' B A L13 ∧ L13.length ≤ cc ∧ cc ≤ maxLen ∧ (A = none → cc = 0)) ∧ Ext u w')) := by
    show ∀ u, _
    intro u hu
    refine (rput_any A2' t1'.ents k2' (b, n.no) u (okt2.ext hu).ents.ents (by have := HRS.out; omega)).mono ?_
    rintro e w' ⟨v, rfl, hown, hx⟩
    obtain ⟨A, cc, rfl, q1, q2, q3, q4⟩ := hown.entsT (B := B)
    rw [← hL13] at q1 q3
    exact ⟨A, cc, by rw [hL13], ⟨q3, q1, q2, q4⟩, hx⟩
  have HTCH : Hid (∀ (A : Option Addr) (cc : Nat) u, Ext w12 u → (EntsT u B A L13 ∧ L13.length ≤ cc ∧ cc ≤ maxLen ∧ (A = none → cc = 0)) → Calls Tryz.prog 95 #[.pointer (some ⟨g.bF, 0, none⟩), .int .i64 to_, .slice A L13.length cc] u (TouchF u B g2 T2 X)) := by
    show ∀ (A : Option Addr) (cc : Nat) u, _
    rintro A cc u hu ⟨q3, q1, q2, q4⟩
    rw [hT2, HNOW.out, ← hfb.out]
    exact rtouch_any B g2 T1 X to_ A L13 cc u (K12.ext hu) (by have := HC1.out; omega) HU1.out q3 q1 q2 q4
  have HU2 : Hid (NosUp T2.nodes T2.last) := by show NosUp _ _; rw [hT2]; exact HU1.out.set _
  have HC2 : Hid (T2.nodes.length ≤ 1000) := by show _ ≤ _; rw [hT2]; show (setN _ _).length ≤ _; rw [setN_len]; exact HC1.out
  have HK12 := Lib.hid K12
  have y0 : w12.cell? ⟨b15 + 1, 0, none⟩ = some (.int .i64 n.no) := N12.cell 0
  have yz := N12.lt
  clear KT O12 N11 okn11 N9 okn9 Ow9 Ow11 K11 K9 hrise ht1 Ct hL13 hT2 okt2 K12
  go_upto_region 29 with fail
  go_cut [] (fun wc => FAt wc B g2 T2 X ∧ Only g2.list w12 wc)
  case first =>
    have hED : Ext w12 w12.drew := (Ext.refl _).drew
    have HED := Lib.hid hED
    have v0 : w12.drew.cell? ⟨b15 + 1, 0, none⟩ = some (.int .i64 n.no) := (hED.cell yz).trans y0
    have HV0 := Lib.hid v0
    clear hED
    go_region_with (first
      | (go_at_call 17; refine (HCT.out _ HED.out).mono ?_; rintro e wg ⟨rfl, bg⟩; have cg : wg.cell? ⟨b15 + 1, 0, none⟩ = some (.int .i64 n.no) := (bg.cell (show b15 + 1 < w12.drew.heap.size from yz)).trans HV0.out; have hzg : b15 + 1 < wg.heap.size := Nat.lt_of_lt_of_le (show b15 + 1 < w12.drew.heap.size from yz) bg.size)
      | (go_at_call 90; refine (HPUT.out _ (HED.out.trans bg)).mono ?_; rintro e wp ⟨Ap, cp, rfl, hp, bp⟩)
      | (go_at_call 95; refine (HTCH.out _ _ _ ((HED.out.trans bg).trans bp) hp).mono ?_; rintro e wt ⟨rfl, Kt, Ot⟩))
    all_goals
      go_wp2_with fail
      go_meet
      exact ⟨Kt, Only.pre ((HED.out.trans bg).trans bp) Ot⟩
  case rest =>
  obtain ⟨K14, O14⟩ := hcut
  obtain ⟨w14, hw14⟩ : ∃ w14, w14 = wc := ⟨_, rfl⟩
  rw [← hw14] at K14 O14 ⊢
  have N14 := O14.has N12 (HNG2.out _ (by omega) hz8)
  have okn14 := okn12.only O14 HK12.out.apart
  have Ow14 : Only g.list w w14 := Ow12.trans O14 (fun b hb => by
    rcases HON9.out.2 b hb with k | k
    · exact .inl k
    · exact .inr (by have := HX8.out.size; omega))
  have hbl : g2.bF < b15 + 1 := by rw [hfb.out]; have := h.lt.1; omega
  have nbf : (b15 + 1 = g.bF) = False := eq_false (by have := hfb.out; omega)
  have nbf2 : (g.bF = b15 + 1) = False := eq_false (by have := hfb.out; omega)
  have y7 : w14.cell? ⟨b15 + 1, 7, none⟩ = some (.int .i64 n.ctime) := N14.cell 7
  have yf : ∀ i, w14.frozen? ⟨b15 + 1, i, none⟩ = false := fun i => (N14.free i).trans (by simp)
  have nw : w14.cell? ⟨g.bF, 3, none⟩ = some (.int .i64 now) := by rw [HNOW.out, ← hfb.out]; obtain ⟨_, _, _, k, _⟩ := id K14; exact k.cell 3
  have nz : g.bF < w14.heap.size := by have := K14.lt.1; have := hfb.out; omega
  have yz' := N14.lt
  clear hw14 y0 yz hfd2 N12 okn12 Ow12
  go_upto_region 31 with fail
  obtain ⟨w15, hw15⟩ : ∃ w15, w15 = w14.setCell ⟨b15 + 1, 7, none⟩ (.int .i64 now) := ⟨_, rfl⟩
  rw [← hw15]
  have N15 : Has w15 (b15 + 1) (.cells #[.int .i64 (({ n with ctime := now } : NodeD)).no, .int .i64 (({ n with ctime := now } : NodeD)).dev, .int .i64 (({ n with ctime := now } : NodeD)).kind, .int .i64 (({ n with ctime := now } : NodeD)).mode, .int .i64 (({ n with ctime := now } : NodeD)).uid, .int .i64 (({ n with ctime := now } : NodeD)).gid, .int .i64 (({ n with ctime := now } : NodeD)).mtime, .int .i64 (({ n with ctime := now } : NodeD)).ctime, .int .i64 (({ n with ctime := now } : NodeD)).links, .int .i64 (({ n with ctime := now } : NodeD)).up, .string (bs (({ n with ctime := now } : NodeD)).data), .slice A2 (({ n with ctime := now } : NodeD)).ents.length c2] 49) := by rw [hw15]; exact N14.setCell 7 _
  have O15 : Only [b15 + 1] w14 w15 := by rw [hw15]; exact Only.setCell _ _ _ _
  have HN14 := Lib.hid N14
  have y2 : w15.cell? ⟨b15 + 1, 2, none⟩ = some (.int .i64 n.kind) := N15.cell 2
  have y9 : w15.cell? ⟨b15 + 1, 9, none⟩ = some (.int .i64 n.up) := N15.cell 9
  have yf' : ∀ i, w15.frozen? ⟨b15 + 1, i, none⟩ = false := fun i => (N15.free i).trans (by simp)
  have yz := N15.lt
  clear hw15 y7 yf yz' nw nz N14 nbf nbf2
  go_upto_if 147 with fail
  go_cut [148] (fun _ wc => Has wc (b15 + 1) (.cells #[.int .i64 (laidN now to_ n).no, .int .i64 (laidN now to_ n).dev, .int .i64 (laidN now to_ n).kind, .int .i64 (laidN now to_ n).mode, .int .i64 (laidN now to_ n).uid, .int .i64 (laidN now to_ n).gid, .int .i64 (laidN now to_ n).mtime, .int .i64 (laidN now to_ n).ctime, .int .i64 (laidN now to_ n).links, .int .i64 (laidN now to_ n).up, .string (bs (laidN now to_ n).data), .slice A2 (laidN now to_ n).ents.length c2] 49) ∧ Only [b15 + 1] w14 wc)
  case first =>
    by_cases hk : n.kind = 1
    · have s1 : (n.kind == 1) = true := by simpa using hk
      have hl : Hid (laidN now to_ n = { n with ctime := now, up := to_ }) := by show _ = _; unfold laidN; rw [if_pos hk]
      clear hk
      go_wp2_with fail
      go_meet
      exact ⟨by rw [hl.out]; exact N15.setCell 9 _, O15.then (Only.setCell _ _ _ _)⟩
    · have s1 : (n.kind == 1) = false := by simpa using hk
      have hl : Hid (laidN now to_ n = { n with ctime := now }) := by show _ = _; unfold laidN; rw [if_neg hk]
      clear hk
      go_wp2_with fail
      go_meet
      exact ⟨by rw [hl.out]; exact N15, O15⟩
  case rest =>
  obtain ⟨N16, O16⟩ := hcut
  obtain ⟨w16, hw16⟩ : ∃ w16, w16 = wc := ⟨_, rfl⟩
  rw [← hw16] at N16 O16 ⊢
  obtain ⟨n', hn'⟩ : ∃ n', n' = laidN now to_ n := ⟨_, rfl⟩
  rw [← hn'] at N16
  have hap : Apart w14 B [b15 + 1] := by
    intro b hb
    rw [List.mem_singleton] at hb
    subst hb
    exact ⟨by have := h.1; have := h.lt.1; omega, HN14.out.noTag (by decide)⟩
  have hnl : ∀ b ∈ g2.list, b ∉ [b15 + 1] := by
    intro b hb he
    rw [List.mem_singleton] at he
    subst he
    exact HNG2.out _ (by omega) hz8 hb
  have K16 := K14.only O16 hap hnl
  have okn16 : NodeOk w16 B n' A2 c2 := (okn14.only O16 hap).same (by rw [hn']; rfl)
  have Ow16 : Only g.list w w16 := Ow14.trans O16 (by intro b hb; rw [List.mem_singleton] at hb; right; omega)
  have HN' := Lib.hid hn'
  clear hw16 y2 y9 yf' yz hn' N15 O15 HN14 hap hnl K14 okn14 Ow14
  go_wp2_with (refine wpList_load_node rfl _ rfl (b15 + 1) n' A2 c2 rfl N16 ?_)
  refine (show Calls _ _ _ _ (FSetR w16 B g2 T2 X n') by rw [← hfb.out]; exact rset_any B g2 T2 X n' A2 c2 w16 K16 (by have := HC2.out; omega) HU2.out okn16).mono ?_
  rintro e w17 ⟨rfl, K17, O17⟩
  go_wp2_with fail
  go_ret
  have e3 : moveT S cu cg now fr to_ a b = setT T2 n' := by
    rw [HMT.out HE0.out]
    unfold laidT
    rw [HN'.out, HT2.out, HL13.out, HT1'.out, HT1.out, HL9.out, HT.out]
  refine ⟨by rw [HE0.out]; rfl, g2, by rw [e3]; exact K17, Ow16.trans O17 (fun b hb => ?_), ?_⟩
  · rcases HON9.out.2 b hb with k | k
    · exact .inl k
    · exact .inr (by have := HX8.out.size; omega)
  · exact GhF.on_base HON9.out HX8.out
end Go.Proofs.YtebghednhjaniaaGreat

namespace Go.Proofs.YtebghednhjaniaaGreat
open Go.ChangeShapes Go.WideShapes Go.ChangeAt Go.RowKit

attribute [local irreducible] wpLexE wpQuiet
attribute [local go_sem] changeUpon
def do19T (S : TreeD) (now : Int) (x : ActD) : TreeD := moveT S x.uid x.gid now (nearF S.last x.dir) (nearF S.last x.to_) x.name x.as_
set_option maxRecDepth 100000 in
set_option maxHeartbeats 8000000 in
theorem do19_any {c : Nat} (B : Nat) (g : GhW) (f : GhF) (S : TreeD) (X : Xtra) (x : ActD) (w : World) (h : Two w B g f S X) (HTr : Tre c S) (hcc : c ≤ 100000) (hl : S.last ≤ 1000) (hx : shortA x) :
    Calls Tryz.prog 22 #[.pointer (some ⟨g.bW, 0, none⟩), .pointer (some ⟨f.bF, 0, none⟩), .agg #[.int .i64 x.kind, .int .i64 x.uid, .int .i64 x.gid, .int .i64 x.dir, .int .i64 x.no, .int .i64 x.n, .string (bs x.name), .string (bs x.text), .int .i64 x.to_, .string (bs x.as_)]] w (DoR w B g f (do19T S X.now x) X) := by
  obtain ⟨W1, hW1⟩ : ∃ W1, W1 = w.alloc (.cells #[.int .i64 x.kind, .int .i64 x.uid, .int .i64 x.gid, .int .i64 x.dir, .int .i64 x.no, .int .i64 x.n, .string (bs x.name), .string (bs x.text), .int .i64 x.to_, .string (bs x.as_)] 42) := ⟨_, rfl⟩
  have E1 : Ext w W1 := by rw [hW1]; exact (Ext.refl _).alloc _
  have B1 : Has W1 w.heap.size (.cells #[.int .i64 x.kind, .int .i64 x.uid, .int .i64 x.gid, .int .i64 x.dir, .int .i64 x.no, .int .i64 x.n, .string (bs x.name), .string (bs x.text), .int .i64 x.to_, .string (bs x.as_)] 42) := by rw [hW1]; exact Has.new _ _
  obtain ⟨b1, hb1⟩ : ∃ b, b = w.heap.size := ⟨_, rfl⟩
  have hlW := h.1.lt
  have hlF := h.2.lt
  have hnb : b1 ∉ g.list ++ f.list := by
    intro hb
    simp only [List.mem_append, GhW.list, GhF.list, List.mem_cons, List.not_mem_nil, or_false] at hb
    omega
  have M1 : Mix W1 B g f S S X W1 := Mix.start (h.1.ext E1) (h.2.ext E1)
  have hl1 := HTr.last
  have HTT := Lib.hid HTr
  have HOK := Lib.hid (HTr.ok hcc)
  have HXX := Lib.hid hx
  have hnm1 := hx.1
  have hnm2 := hx.2.1
  have htx := hx.2.2
  have hD := Lib.hid (rfl : do19T S X.now x = do19T S X.now x)
  have F1 := Lib.hid (h.2.ext E1)
  obtain ⟨p, hp⟩ : ∃ p, p = nearF S.last x.dir := ⟨_, rfl⟩
  obtain ⟨q, hq⟩ : ∃ q, q = nearF S.last x.to_ := ⟨_, rfl⟩
  have KN : Hid (∀ u : Gr W1, Calls Tryz.prog 16 #[.pointer (some ⟨f.bF, 0, none⟩), .int .i64 x.dir] u.w (Ret u.w (.int .i64 p))) := by
    show ∀ u : Gr W1, _
    intro u
    rw [hp]
    exact near_any B f S X x.dir _ (F1.out.ext u.h) (by omega) (by omega)
  have KM : Hid (∀ u : Gr W1, Calls Tryz.prog 16 #[.pointer (some ⟨f.bF, 0, none⟩), .int .i64 x.to_] u.w (Ret u.w (.int .i64 q))) := by
    show ∀ u : Gr W1, _
    intro u
    rw [hq]
    exact near_any B f S X x.to_ _ (F1.out.ext u.h) (by omega) (by omega)
  have yk : ∀ u : Gr W1, u.w.cell? ⟨w.heap.size, 3, none⟩ = some (.int .i64 x.dir) := Gr.cell B1.lt (B1.cell 3)
  have ym : ∀ u : Gr W1, u.w.cell? ⟨w.heap.size, 8, none⟩ = some (.int .i64 x.to_) := Gr.cell B1.lt (B1.cell 8)
  have HP := Lib.hid hp
  have HQ := Lib.hid hq
  have hsz := B1.lt
  rw [← hb1] at B1
  clear HTr hx hp hq
  go_enter Tryz.func22, Tryz.ntmps22
  go_upto_region 1 with fail
  rw [← hW1]
  clear hW1
  refine wp_region_grow W1 (by kernel_rfl) (by kernel_rfl) (Ext.refl _).drew ?_
  repeat (quiet_step (first
    | ((with_reducible refine (KN.out _).mono ?_); rintro e w'' ⟨rfl, hEx⟩; exact ⟨rfl, ⟨w'', Ext.trans (Gr.h _) hEx⟩, rfl⟩)
    | ((with_reducible refine (KM.out _).mono ?_); rintro e w'' ⟨rfl, hEx⟩; exact ⟨rfl, ⟨w'', Ext.trans (Gr.h _) hEx⟩, rfl⟩)))
  refine wpQuiet_nil ?_
  rintro w2 ⟨⟨wy, b2⟩, h2⟩
  dsimp only at h2
  subst h2
  clear yk ym KN KM
  have M2 := M1.ext b2
  have B2 := B1.ext b2
  have HB1 := Lib.hid B1
  have HB2 := Lib.hid B2
  have HE1 := Lib.hid E1
  have c2 : w2.cell? ⟨b1, 0, none⟩ = some (.int .i64 x.kind) := B2.cell 0
  have z2 := B2.lt
  have HNB := Lib.hid hnb
  clear B1 E1 hsz B2
  rw [← hb1]
  clear hb1
  obtain ⟨r, R⟩ := HTT.out.rank
  have HR := Lib.hid R
  clear R c2
  obtain ⟨T, hT2⟩ : ∃ T, T = moveT S x.uid x.gid X.now p q x.name x.as_ := ⟨_, rfl⟩
  obtain ⟨e0, he0⟩ : ∃ e0, e0 = moveE S x.uid x.gid p q x.name x.as_ := ⟨_, rfl⟩
  have HT2 := Lib.hid hT2
  have HE0 := Lib.hid he0
  clear hT2 he0
  go_upto_region 2 with fail
  obtain ⟨Ph, hPh⟩ : ∃ Ph, Ph = ph2 (Mix W1 B g f S S X) (Mix W1 B g f T S X) (Mix W1 B g f T T X) := ⟨_, rfl⟩
  have HV : Hid (Ph 0 w2.drew) := by show Ph 0 _; rw [hPh]; exact M2.ext (Ext.refl _).drew
  have hne : Nonempty (Hp Ph) := ⟨⟨0, _, HV.out⟩⟩
  have ux : ∀ u : Hp Ph, Has u.w b1 (.cells #[.int .i64 x.kind, .int .i64 x.uid, .int .i64 x.gid, .int .i64 x.dir, .int .i64 x.no, .int .i64 x.n, .string (bs x.name), .string (bs x.text), .int .i64 x.to_, .string (bs x.as_)] 42) := by
    rw [hPh]
    have hk : ∀ (T S : TreeD) (w' : World), Mix W1 B g f T S X w' → Has w' b1 (.cells #[.int .i64 x.kind, .int .i64 x.uid, .int .i64 x.gid, .int .i64 x.dir, .int .i64 x.no, .int .i64 x.n, .string (bs x.name), .string (bs x.text), .int .i64 x.to_, .string (bs x.as_)] 42) := fun T S w' h' => h'.has HB1.out HNB.out
    exact ph2_all (T := fun w' => Has w' b1 (.cells #[.int .i64 x.kind, .int .i64 x.uid, .int .i64 x.gid, .int .i64 x.dir, .int .i64 x.no, .int .i64 x.n, .string (bs x.name), .string (bs x.text), .int .i64 x.to_, .string (bs x.as_)] 42)) (hk _ _) (hk _ _) (hk _ _)
  have KQ : Hid (∀ w', Ph 2 w' → Mix W1 B g f T T X w') := by show ∀ w', _; intro w' hw; rw [hPh] at hw; exact hw
  have un : ∀ u : Hp Ph, u.w.cell? ⟨f.bF, 3, none⟩ = some (.int .i64 X.now) := by
    rw [hPh]
    exact ph2_all (T := fun w' => w'.cell? ⟨f.bF, 3, none⟩ = some (.int .i64 X.now)) (fun _ h' => Mix.now h') (fun _ h' => Mix.now h') (fun _ h' => Mix.now h')
  have P0 : Ph 0 = Mix W1 B g f S S X := by rw [hPh]; rfl
  have P1 : Ph 1 = Mix W1 B g f T S X := by rw [hPh]; rfl
  have P2 : Ph 2 = Mix W1 B g f T T X := by rw [hPh]; rfl
  have u1 : ∀ u : Hp Ph, u.w.cell? ⟨b1, 1, none⟩ = some (.int .i64 x.uid) := fun u => (ux u).cell 1
  have u2 : ∀ u : Hp Ph, u.w.cell? ⟨b1, 2, none⟩ = some (.int .i64 x.gid) := fun u => (ux u).cell 2
  have u6 : ∀ u : Hp Ph, u.w.cell? ⟨b1, 6, none⟩ = some (.string (bs x.name)) := fun u => (ux u).cell 6
  have u9 : ∀ u : Hp Ph, u.w.cell? ⟨b1, 9, none⟩ = some (.string (bs x.as_)) := fun u => (ux u).cell 9
  have KC0 : Hid (∀ u : Wc (Ph 0), Calls Tryz.prog 51 #[.pointer (some ⟨g.bW, 0, none⟩), .agg #[.int .i64 x.uid, .int .i64 x.gid], .int .i64 X.now, .int .i64 p, .string (bs x.name), .int .i64 q, .string (bs x.as_)] u.w (fun e w' => e = .returned (.int .i64 e0) ∧ Ph 1 w')) := by
    show ∀ u : Wc (Ph 0), _
    rintro ⟨u, hu⟩
    dsimp only
    rw [P0] at hu
    rw [P1]
    refine Mix.callW (T := S) hu fun g1 hg hK => ?_
    rw [HT2.out, HE0.out, ← hg]
    exact (pmove_any B g1 S r x.uid x.gid X.now p q x.name x.as_ _ hK HOK.out HR.out).mono fun _ _ hh => hh.to
  have KC1 : Hid (∀ u : Wc (Ph 1), Calls Tryz.prog 53 #[.pointer (some ⟨f.bF, 0, none⟩), .agg #[.int .i64 x.uid, .int .i64 x.gid], .int .i64 p, .string (bs x.name), .int .i64 q, .string (bs x.as_)] u.w (fun e w' => e = .returned (.int .i64 e0) ∧ Ph 2 w')) := by
    show ∀ u : Wc (Ph 1), _
    rintro ⟨u, hu⟩
    dsimp only
    rw [P1] at hu
    rw [P2]
    refine Mix.callF (S := S) (X := X) hu fun g1 hg hK => ?_
    rw [HT2.out, HE0.out, ← hg]
    exact (rmove_any B g1 S X x.uid x.gid p q x.name x.as_ _ hK HTT.out hcc hl (by omega) (by omega)).mono fun _ _ hh => hh
  clear hPh P0 P1 P2 ux M2 z2
  refine wp_region_phase Ph [13, 23] (by kernel_rfl) (by kernel_rfl) (by kernel_rfl) HV.out ?_
  repeat (first
    | (refine wpLexE_plain (by kernel_rfl) (fun K hK => ?_)
       go_simp
       refine hK _ ?_
       clear hK K)
    | (refine wpLexE_change 0 (by kernel_rfl) rfl (fun K hK => ?_)
       go_simp
       apply Exists.intro
       refine ⟨KC0.out, hK _ ?_⟩
       clear hK K)
    | (refine wpLexE_change 1 (by kernel_rfl) rfl (fun K hK => ?_)
       go_simp
       apply Exists.intro
       refine ⟨KC1.out, hK _ ?_⟩
       clear hK K))
  refine wpLexE_nil ?_
  intro w5 hw5
  have M5 := KQ.out _ hw5
  clear u1 u2 u6 u9 un KC0 KC1 HV hw5
  go_wp2_with fail
  go_ret
  exact ⟨rfl, by
    (unfold do19T; rw [← HP.out, ← HQ.out])
    rw [← HT2.out]; exact M5.base HE1.out⟩
end Go.Proofs.YtebghednhjaniaaGreat

namespace Go.Proofs.YtebghednhjaniaaGreat
open Go.ChangeShapes Go.WideShapes Go.ChangeAt Go.RowKit

theorem move_last (S : TreeD) (cu cg now fr to_ : Int) (a b : List UInt8) : (moveT S cu cg now fr to_ a b).last = S.last := by
  unfold moveT
  split
  · show (overT S now _).last = S.last
    exact (over_devs S now _).1
  · rfl
theorem tre_do19 {c : Nat} {S : TreeD} (h : Tre c S) (now : Int) (x : ActD) : Tre (c + 1) (do19T S now x) ∧ (do19T S now x).last ≤ S.last + 1 := by
  unfold do19T
  exact ⟨tre_move h .., by rw [move_last]; omega⟩
set_option maxRecDepth 100000 in
set_option maxHeartbeats 8000000 in
theorem renamePlays_any (A : Option Addr) (l : List ItemD) (cap : Nat) (A2 : Option Addr) (acts : List ActD) (cap2 : Nat) (w : World) (hA : ItemsAt w A l) (hlen : l.length ≤ 9223372036854775807) (hA2 : ActsAt w A2 acts) (hlen2 : acts.length ≤ 9223372036854775807) :
    Calls Tryz.prog 6 #[.slice A l.length cap, .slice A2 acts.length cap2] w (Ret w (.bool true)) := by
  obtain ⟨m, hm⟩ : ∃ m, m = l.length := ⟨_, rfl⟩
  obtain ⟨n, hn⟩ : ∃ n, n = acts.length := ⟨_, rfl⟩
  have hlen' := hlen
  have hlen2' := hlen2
  rw [← hm] at hlen' ⊢
  rw [← hn] at hlen2' ⊢
  have HM := Lib.hid hm
  have HN := Lib.hid hn
  have KF : Hid (Calls Tryz.prog 8 #[.slice A m cap] w (FewR w l)) := by show Calls _ _ _ _ _; rw [HM.out]; exact few14_any A l cap w hA hlen
  have KA : Hid (Calls Tryz.prog 9 #[.slice A2 n cap2] w (FewAR w acts)) := by show Calls _ _ _ _ _; rw [HN.out]; exact fewA_any A2 acts cap2 w hA2 hlen2
  clear hm hn
  go_enter Tryz.func6, Tryz.ntmps6
  go_wp2_with fail
  refine KF.out.mono ?_
  rintro e w1 ⟨rfl, ⟨hf, rfl⟩ | ⟨hf, rfl⟩⟩
  case inr =>
    go_wp2_with fail
    refine (awake19 _).mono ?_
    rintro e w3 ⟨rfl, b3⟩
    go_wp2_with fail
    go_ret
    exact Ret.mk rfl b3
  have HF := Lib.hid hf
  clear hf
  go_wp2_with fail
  refine KA.out.mono ?_
  rintro e w1 ⟨rfl, ⟨hf, rfl⟩ | ⟨hf, rfl⟩⟩
  case inr =>
    go_wp2_with fail
    refine (awake19 _).mono ?_
    rintro e w3 ⟨rfl, b3⟩
    go_wp2_with fail
    go_ret
    exact Ret.mk rfl b3
  have HFA := Lib.hid hf
  have hn30 : n ≤ 30 := by rw [HN.out]; exact hf.2
  have hG0 := tre_growAll (b := 300) (n := 60) (by decide) HF.out
  have hga := good_all (good_first (b := 300) (n := 60) (by decide)) l
  have hl40 := HF.out.2
  have KG : Hid (Calls Tryz.prog 11 #[.int .i64 300, .int .i64 60, .slice A m cap] w (GrowAllR w 300 60 l)) := by show Calls _ _ _ _ _; rw [HM.out]; exact growAll_any 300 60 A l cap w (by decide) HF.out hA
  clear hf KF KA
  go_wp2_with fail
  refine KG.out.mono ?_
  rintro e w3 ⟨g, f, rfl, ⟨K3, F3⟩, E3⟩
  obtain ⟨B, hB⟩ : ∃ B, B = w.heap.size := ⟨_, rfl⟩
  rw [← hB] at K3 F3
  obtain ⟨S, hS⟩ : ∃ S, S = growAll (firstT 300 60) l := ⟨_, rfl⟩
  rw [← hS] at K3 F3
  have hSl : S.last ≤ 41 := by
    have h2 := hga.2
    rw [hS]
    rw [show growAll (rootT emptyT 0 300 60) l = growAll (firstT 300 60) l from rfl, show (rootT emptyT 0 300 60).last = 1 from rfl] at h2
    omega
  have hT0 : Tre 40 S := by rw [hS]; exact hG0
  have HB := Lib.hid hB
  have HE3 := Lib.hid E3
  have HT0 := Lib.hid hT0
  have HK3 := Lib.hid K3
  have HF3 := Lib.hid F3
  clear hS hga hG0 hl40 KG hB hT0 hlen hlen'
  go_wp2_with fail
  go_loopw [8] (fun i wr => ∃ (k : Nat) (T : TreeD) (X : Xtra), i = .int .i64 k ∧ k ≤ n ∧ Tre (40 + k) T ∧ T.last ≤ S.last + k ∧ Mix w3 B g f T T X wr) (fun i _ => n - (intOf i).toNat)
  case atStart => exact ⟨0, S, _, rfl, Nat.zero_le _, HT0.out, by omega, Mix.start K3 F3⟩
  case round =>
    obtain ⟨k, T, X, rfl, hk, hT, hTl, hM⟩ := hrel
    have HT := Lib.hid hT
    have HM1 := Lib.hid hM
    have HTL := Lib.hid hTl
    have hsF := hM.lt.2
    have hnow := hM.now
    have hfr : wr.frozen? ⟨f.bF, 3, none⟩ = false := by
      obtain ⟨g1, f1, h1, h2, h3, ⟨_, cn, ce, kF, _⟩, h5⟩ := hM
      rw [← h2.1]; exact kF.free 3
    clear hT hM hTl
    by_cases hlt : (k : Int) < n
    · have hkl : k < acts.length := by have := HN.out; omega
      have y5 : IntKind.i64.wrap (5 * (k : Int)) = 5 * (k : Int) := wrap_i64_in (by omega) (by omega)
      have y0 : (0 : Int) ≤ (k : Int) := Int.natCast_nonneg _
      go_upto_region 10 with fail
      obtain ⟨W1, hW1⟩ : ∃ W1, W1 = wr.setCell ⟨f.bF, 3, none⟩ (.int .i64 (5 * (k : Int))) := ⟨_, rfl⟩
      rw [← hW1]
      have M1 : Mix w3 B g f T T { X with now := 5 * (k : Int) } W1 := by rw [hW1]; exact HM1.out.setNow _
      have X1 : Ext w W1 := M1.after HE3.out (by rw [HB.out]; exact Nat.le_refl _) HK3.out HF3.out
      obtain ⟨bI, o, rfl, hbw, i0, i1, i2, i3, i4, i5, i6, i7, i8, i9⟩ := hA2.at_ X1 k hkl
      have hsh := HFA.out.1 _ (List.getElem_mem hkl)
      obtain ⟨x, hx⟩ : ∃ x, x = acts[k] := ⟨_, rfl⟩
      rw [← hx] at i0 i1 i2 i3 i4 i5 i6 i7 i8 i9 hsh
      have HSH := Lib.hid hsh
      have HM2 := Lib.hid M1
      clear hx hsh hW1 hnow hfr hsF y5 M1
      go_wp2_with fail
      obtain ⟨g1, f1, h1, h2, h3, h4, h5⟩ := id HM2.out
      have hbb : B ≤ W1.heap.size := by have := (h3.apart _ (by simp : g1.bW ∈ g1.list)).1; have := h3.lt.1; omega
      have KD := do19_any B g1 f1 T { X with now := 5 * (k : Int) } x W1 ⟨h3, h4⟩ HT.out (by omega) (by have := HTL.out; omega) HSH.out
      rw [h1.1, h2.1] at KD
      refine KD.mono ?_
      rintro e w5 ⟨rfl, M5⟩
      obtain ⟨T5, hT5⟩ : ∃ T5, T5 = do19T T (5 * (k : Int)) x := ⟨_, rfl⟩
      rw [← hT5] at M5
      have hall := tre_do19 HT.out (5 * (k : Int)) x
      rw [← hT5] at hall
      have hT5' : Tre (40 + (k + 1)) T5 := hall.1
      have hT5l : T5.last ≤ S.last + (k + 1 : Nat) := by have := hall.2; have := HTL.out; omega
      clear hall
      have M6 : Mix w3 B g f T5 T5 { X with now := 5 * (k : Int) } w5 := by
        obtain ⟨g2, f2, a1, a2, a3, a4, a5⟩ := M5
        refine ⟨g2, f2, GhW.on_trans h1 a1 h5.size, GhF.on_trans h2 a2 h5.size, a3, a4, h5.trans a5 (fun b hb => ?_)⟩
        rcases List.mem_append.1 hb with hb | hb
        · rcases h1.2 b hb with e | e
          · exact .inl (List.mem_append_left _ e)
          · exact .inr e
        · rcases h2.2 b hb with e | e
          · exact .inl (List.mem_append_right _ e)
          · exact .inr e
      have HM6 := Lib.hid M6
      have HT5 := Lib.hid hT5'
      have HT5L := Lib.hid hT5l
      clear M6 hT5' hT5 hT5l M5 KD h1 h2 h3 h4 h5 i0 i1 i2 i3 i4 i5 i6 i7 i8 i9 hbb
      go_wp2_with fail
      obtain ⟨g2, f2, a1, a2, a3, a4, a5⟩ := id HM6.out
      have KA := alike_any B g2 f2 T5 _ w5 a3 a4 (HT5.out.fit (by omega) (by have := HT5L.out; omega))
      rw [a1.1, a2.1] at KA
      refine KA.mono ?_
      rintro e w6 ⟨rfl, b6⟩
      have M7 := Lib.hid (HM6.out.ext b6)
      clear KA a1 a2 a3 a4 a5 b6
      go_wp2_with fail
      go_roundw
      case rel => exact ⟨k + 1, T5, _, by go_num, by omega, HT5.out, HT5L.out, M7.out⟩
      case measure => simp [intOf]; omega
    · have X1 : Ext w wr := HM1.out.after HE3.out (by rw [HB.out]; exact Nat.le_refl _) HK3.out HF3.out
      clear hnow hfr hsF
      go_wp2_with fail
      refine (awake19 _).mono ?_
      rintro e w4 ⟨rfl, b4⟩
      go_wp2_with fail
      go_ret
      exact Ret.mk rfl (X1.trans b4)
set_option maxRecDepth 100000 in
theorem renamePlays_walk {H : Type} {enc : TypeId × Value → H} (W : World) (base : Nat) (v0 v1 : Value) (d0 d1 : DataW H) (p0 p1 : List MemPlace)
    (k0 : Value.okWide Tryz.prog W .any base 24 v0) (h0 : DataW.Trod enc Tryz.prog W 0 (fun _ => true) true 24 v0 d0 p0)
    (k1 : Value.okWide Tryz.prog W .any base 25 v1) (h1 : DataW.Trod enc Tryz.prog W 0 (fun _ => true) true 25 v1 d1 p1)
    : Calls Tryz.prog 6 #[v0, v1] W (Ret W (.bool true)) := by
  obtain ⟨A, l, cap, rfl, hA, _, hl, hc⟩ := open_Items k0 h0
  obtain ⟨A2, l2, cap2, rfl, hA2, _, hl2, hc2⟩ := open_Acts k1 h1
  exact renamePlays_any A l cap A2 l2 cap2 W hA (by unfold maxLen at hc; omega) hA2 (by unfold maxLen at hc2; omega)
end Go.Proofs.YtebghednhjaniaaGreat
