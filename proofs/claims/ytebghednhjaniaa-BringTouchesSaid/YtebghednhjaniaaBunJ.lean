/- The law BringTouches, walked. (Printed by gen_brgf.py.) -/
import Derived.Test.YtebghednhjaniaaBunI
import Derived.Test.YtebghednhjaniaaBunF
import Derived.Test.YtebghednhjaniaaBunD
import Derived.Test.YtebghednhjaniaaBunA
import Derived.Test.YtebghednhjaniaaBunG
namespace Go.Proofs.Ytebghednhjaniaa
open Go.ChangeShapes Go.WideShapes Go.ChangeAt Go.RowKit

attribute [local irreducible] wpQuiet
theorem EntsAt.low {w w' : World} {B : Nat} {A : Option Addr} {l : List EntD} (h : EntsAt w A l) (hE : Ext w w') (hB : w.heap.size ≤ B) : EntsT w' B A l := by
  rcases h with h | ⟨b, o, hA, hb, hc⟩
  · exact .inl h
  · refine .inr ⟨b, o, hA, by have := hE.size; omega, .inl (by omega), fun k hk => ?_⟩
    rw [hE.cell hb, hE.cell hb]; exact hc k hk
set_option maxRecDepth 100000 in
set_option maxHeartbeats 8000000 in
theorem bringTouches_any (A : Option Addr) (l : List ItemD) (cap : Nat) (x : ActD) (A2 : Option Addr) (es : List EntD) (cap2 : Nat) (w : World) (hA : ItemsAt w A l) (hlen : l.length ≤ 9223372036854775807) (hA2 : EntsAt w A2 es) (hn2 : A2 = none → cap2 = 0) (hl2 : es.length ≤ cap2) (hc2 : cap2 ≤ maxLen) :
    Calls Try.prog 10 #[.slice A l.length cap, .agg #[.int .i64 x.kind, .int .i64 x.uid, .int .i64 x.gid, .int .i64 x.dir, .int .i64 x.no, .int .i64 x.n, .string (bs x.name), .string (bs x.text), .int .i64 x.to_, .string (bs x.as_)], .slice A2 es.length cap2] w (Ret w (.bool true)) := by
  obtain ⟨W1, hW1⟩ : ∃ W, W = w.alloc (.cells #[.int .i64 x.kind, .int .i64 x.uid, .int .i64 x.gid, .int .i64 x.dir, .int .i64 x.no, .int .i64 x.n, .string (bs x.name), .string (bs x.text), .int .i64 x.to_, .string (bs x.as_)] 64) := ⟨_, rfl⟩
  have E1 : Ext w W1 := by rw [hW1]; exact (Ext.refl _).alloc _
  have B1 : Has W1 w.heap.size (.cells #[.int .i64 x.kind, .int .i64 x.uid, .int .i64 x.gid, .int .i64 x.dir, .int .i64 x.no, .int .i64 x.n, .string (bs x.name), .string (bs x.text), .int .i64 x.to_, .string (bs x.as_)] 64) := by rw [hW1]; exact Has.new _ _
  obtain ⟨m, hm⟩ : ∃ m, m = l.length := ⟨_, rfl⟩
  obtain ⟨n, hn⟩ : ∃ n, n = es.length := ⟨_, rfl⟩
  have hlen' := hlen
  have hnm : n ≤ 9223372036854775807 := by unfold maxLen at hc2; omega
  rw [← hm] at hlen' ⊢
  rw [← hn]
  have HM := Lib.hid hm
  have HN := Lib.hid hn
  have HN2 := Lib.hid hn2
  have HC2 := Lib.hid hc2
  have HL2 := Lib.hid hl2
  have KF : Hid (Calls Try.prog 29 #[.slice A m cap] W1 (FewR W1 l)) := by show Calls _ _ _ _ _; rw [HM.out]; exact few14_any A l cap W1 (hA.ext E1) hlen
  clear hm hn hn2 hc2 hl2
  go_enter Try.func10, Try.ntmps10
  go_upto_region 1 with fail
  rw [← hW1]
  clear hW1
  go_wp2_with fail
  refine KF.out.mono ?_
  rintro e w1 ⟨rfl, ⟨hf, rfl⟩ | ⟨hf, rfl⟩⟩
  case inr =>
    go_wp2_with fail
    refine (awake17 _).mono ?_
    rintro e wz ⟨rfl, bz⟩
    go_wp2_with fail
    go_ret
    exact Ret.mk rfl ((E1).trans bz)
  have HF := Lib.hid hf
  clear hf KF
  by_cases h20 : (20 : Int) < n
  · have t20 : decide ((20 : Int) < (n : Int)) = true := decide_eq_true h20
    clear h20
    go_wp2_with fail
    refine (awake17 _).mono ?_
    rintro e wz ⟨rfl, bz⟩
    go_wp2_with fail
    go_ret
    exact Ret.mk rfl ((E1).trans bz)
  have t20 : decide ((20 : Int) < (n : Int)) = false := decide_eq_false h20
  have HB1 := Lib.hid B1
  have HE1 := Lib.hid E1
  clear h20
  go_wp2_with fail
  go_loopw [7] (fun i wr => ∃ k : Nat, k ≤ n ∧ i = .int .i64 k ∧ Ext W1 wr) (fun i _ => n - (intOf i).toNat)
  case atStart => exact ⟨0, Nat.zero_le _, rfl, Ext.refl _⟩
  case round =>
    obtain ⟨k, hk, rfl, hE⟩ := hrel
    have HE := Lib.hid hE
    clear hE
    by_cases hlt : (k : Int) < n
    · have hkl : k < es.length := by have := HN.out; omega
      obtain ⟨b, o, hAe, hbw, ca, cb⟩ := hA2.at_ (HE1.out.trans HE.out) k hkl
      obtain ⟨z, hz⟩ : ∃ z, z = es[k] := ⟨_, rfl⟩
      rw [← hz] at ca cb
      have hsz : ((bs z.1).size : Int) = z.1.length := by rw [bs_size]
      have y0 : (0 : Int) ≤ (k : Int) := Int.natCast_nonneg _
      have HZ := Lib.hid hz
      clear hz
      by_cases h3 : (300 : Int) < z.1.length
      · have t3 : decide ((300 : Int) < (z.1.length : Int)) = true := decide_eq_true h3
        subst hAe
        clear h3
        go_upto_region 6 with fail
        go_quiet (fail)
        have EQ : Ext wr (wr.drewN nq) := (Ext.refl _).drewN nq
        go_wp2_with fail
        refine (awake17 _).mono ?_
        rintro e wz ⟨rfl, bz⟩
        go_wp2_with fail
        go_ret
        exact Ret.mk rfl (((HE1.out.trans HE.out).trans EQ).trans bz)
      have t3 : decide ((300 : Int) < (z.1.length : Int)) = false := decide_eq_false h3
      clear h3
      by_cases hk0 : k = 0
      · subst hk0
        simp only [Nat.zero_mul, Nat.add_zero] at ca cb
        have t4 : decide ((0 : Int) < ((0 : Nat) : Int)) = false := by decide
        subst hAe
        go_upto_region 6 with fail
        go_quiet (fail)
        have EQ : Ext wr (wr.drewN nq) := (Ext.refl _).drewN nq
        have HQ := Lib.hid (HE.out.trans EQ)
        go_wp2_with fail
        go_roundw
        case rel => exact ⟨1, by omega, by go_num, HQ.out⟩
        case measure => simp [intOf]; omega
      · obtain ⟨j, hkk⟩ : ∃ j, k = j + 1 := ⟨k - 1, by omega⟩
        obtain ⟨b', o', hAe', _, ca', cb'⟩ := hA2.at_ (HE1.out.trans HE.out) j (by omega)
        obtain ⟨z', hz'⟩ : ∃ z', z' = es[j]'(by omega) := ⟨_, rfl⟩
        rw [← hz'] at ca' cb'
        rw [hAe] at hAe'
        injection hAe' with hAe'
        injection hAe' with q1 q2 q3
        subst q1
        subst q2
        subst hAe
        have t4 : decide ((0 : Int) < (k : Int)) = true := decide_eq_true (by omega)
        have t4b : decide (0 < k) = true := decide_eq_true (by omega)
        have t4c : 0 < k := by omega
        have y1 : (k : Int) - 1 = (j : Int) := by omega
        have y2 : IntKind.i64.wrap (j : Int) = j := wrap_i64_in (by omega) (by omega)
        have y3 : (0 : Int) ≤ (j : Int) := Int.natCast_nonneg _
        have y4 : (j : Int) < (n : Int) := by omega
        have e1 : Go.Op.bytesLess (bs z'.1).toList (bs z.1).toList = bl z'.1 z.1 := by rw [bs_toList, bs_toList]
        clear hz' hkk q3 hk0
        cases hq : bl z'.1 z.1
        · rw [hq] at e1
          clear hq
          go_upto_region 6 with fail
          go_quiet (fail)
          have EQ : Ext wr (wr.drewN nq) := (Ext.refl _).drewN nq
          go_wp2_with fail
          refine (awake17 _).mono ?_
          rintro e wz ⟨rfl, bz⟩
          go_wp2_with fail
          go_ret
          exact Ret.mk rfl (((HE1.out.trans HE.out).trans EQ).trans bz)
        · rw [hq] at e1
          clear hq
          go_upto_region 6 with fail
          go_quiet (fail)
          have EQ : Ext wr (wr.drewN nq) := (Ext.refl _).drewN nq
          have HQ := Lib.hid (HE.out.trans EQ)
          clear ca ca' cb cb' y1 y2 y3 y4 e1
          go_wp2_with fail
          go_roundw
          case rel => exact ⟨k + 1, by omega, by go_num, HQ.out⟩
          case measure => simp [intOf]; omega
    · have X1 := HE1.out.trans HE.out
      obtain ⟨W2, hW2⟩ : ∃ W2, W2 = wr := ⟨_, rfl⟩
      rw [← hW2] at X1 ⊢
      have E2 : Ext W1 W2 := by rw [hW2]; exact HE.out
      have HX1 := Lib.hid X1
      have B2 := HB1.out.ext E2
      have HB2 := Lib.hid B2
      have hG0 := tre_growAll (b := 300) (n := 60) (by decide) HF.out
      have hga := good_all (good_first (b := 300) (n := 60) (by decide)) l
      have hl40 := HF.out.2
      have KG : Hid (Calls Try.prog 19 #[.int .i64 300, .int .i64 60, .slice A m cap] W2 (GrowAllR W2 300 60 l)) := by show Calls _ _ _ _ _; rw [HM.out]; exact growAll_any 300 60 A l cap W2 (by decide) HF.out (hA.ext X1)
      clear hW2 X1 E2 B2
      go_wp2_with fail
      refine KG.out.mono ?_
      rintro e w3 ⟨g, f, rfl, ⟨K3, F3⟩, E3⟩
      obtain ⟨B, hB⟩ : ∃ B, B = W2.heap.size := ⟨_, rfl⟩
      rw [← hB] at K3 F3
      obtain ⟨S, hS⟩ : ∃ S, S = growAll (firstT 300 60) l := ⟨_, rfl⟩
      rw [← hS] at K3 F3
      have hSl : S.last ≤ 41 := by
        have h2 := hga.2
        rw [hS]
        rw [show growAll (rootT emptyT 0 300 60) l = growAll (firstT 300 60) l from rfl, show (rootT emptyT 0 300 60).last = 1 from rfl] at h2
        omega
      have hT0 : Tre 40 S := by rw [hS]; exact hG0
      have hS1 := hT0.last
      have HB := Lib.hid hB
      have HE3 := Lib.hid E3
      have HT0 := Lib.hid hT0
      have HK3 := Lib.hid K3
      have HF3 := Lib.hid F3
      clear hS hga hG0 hl40 KG hB hT0
      have hes : EntsT w3 B A2 es := hA2.low (HX1.out.trans HE3.out) (by rw [HB.out]; exact HX1.out.size)
      have HES := Lib.hid hes
      have X3 := HX1.out.trans HE3.out
      have B3 := HB2.out.ext HE3.out
      have c2 : w3.cell? ⟨w.heap.size, 4, none⟩ = some (.int .i64 x.no) := B3.cell 4
      have c3 : w3.cell? ⟨w.heap.size, 3, none⟩ = some (.int .i64 x.dir) := B3.cell 3
      go_wp2_with fail
      refine (near_any B f S x0 x.dir _ HF3.out (by omega) (by omega)).mono ?_
      rintro e w4 ⟨rfl, b4⟩
      obtain ⟨dir, hdir⟩ : ∃ dir, dir = nearF S.last x.dir := ⟨_, rfl⟩
      rw [← hdir]
      clear hdir c2 c3
      go_wp2_with fail
      refine (rget_any B f S x0 dir _ (HF3.out.ext b4) (by have := HT0.out.count; omega) HT0.out.nos).mono ?_
      rintro e w5 ⟨A5, k5, rfl, ok5, b5⟩
      obtain ⟨m0, hm0⟩ : ∃ m0, m0 = getN S.nodes dir := ⟨_, rfl⟩
      rw [← hm0]
      have hfld : ∀ w', (Instr.field 100 (.agg #[.int .i64 m0.no, .int .i64 m0.dev, .int .i64 m0.kind, .int .i64 m0.mode, .int .i64 m0.uid, .int .i64 m0.gid, .int .i64 m0.mtime, .int .i64 m0.ctime, .int .i64 m0.links, .int .i64 m0.up, .string (bs m0.data), .slice A5 m0.ents.length k5]) 2).run Try.prog w' = .ok (.int .i64 m0.kind) w' := fun w' => (field_node _ _ _ _ _ _ _ _ _ _ _ _ w').2
      have E35 := b4.trans b5
      have HM0 := Lib.hid hm0
      have M5 : Mix w3 B g f S S x0 w5 := (Mix.start HK3.out HF3.out).ext E35
      have X5 := X3.trans E35
      have B5 := B3.ext E35
      clear hm0 ok5 b4 b5
      by_cases hk1 : m0.kind = 1
      case neg =>
        have t1 : (m0.kind == 1) = false := by simpa using hk1
        have t1b : (m0.kind != 1) = true := by simpa using hk1
        clear hk1
        go_wp2_with fail
        refine (awake17 _).mono ?_
        rintro e wz ⟨rfl, bz⟩
        go_wp2_with fail
        go_ret
        exact Ret.mk rfl ((X5).trans bz)
      have t1 : (m0.kind == 1) = true := by simpa using hk1
      have t1b : (m0.kind != 1) = false := by simpa using hk1
      have hsF := M5.lt.2
      have hnow := M5.now
      have hfr : w5.frozen? ⟨f.bF, 3, none⟩ = false := by
        obtain ⟨g1, f1, h1, h2, h3, ⟨_, cn, ce, kF, _⟩, h5⟩ := M5
        rw [← h2.1]; exact kF.free 3
      have c5 : w5.cell? ⟨w.heap.size, 5, none⟩ = some (.int .i64 x.n) := B5.cell 5
      have z5 := B5.lt
      have HK1 := Lib.hid hk1
      clear hk1
      go_upto_region 15 with fail
      obtain ⟨W6, hW6⟩ : ∃ W6, W6 = w5.setCell ⟨f.bF, 3, none⟩ (.int .i64 x.n) := ⟨_, rfl⟩
      rw [← hW6]
      have M6 : Mix w3 B g f S S { x0 with now := x.n } W6 := by rw [hW6]; exact M5.setNow _
      have hnb : w.heap.size ∉ g.list ++ f.list := Mix.notin HK3.out HF3.out (.inl (by rw [HB.out]; have := HB2.out.lt; omega))
      have B6 := M6.has B3 hnb
      have X6 : Ext w W6 := M6.after X3 (by rw [HB.out]; exact HX1.out.size) HK3.out HF3.out
      clear hW6 hsF hnow hfr c5 z5 hfld M5 B5 X5
      have c5 : W6.cell? ⟨w.heap.size, 5, none⟩ = some (.int .i64 x.n) := B6.cell 5
      have z5 := B6.lt
      have hapL : Apart w3 B (g.list ++ f.list) := fun b hb => by
        rcases List.mem_append.1 hb with hb | hb
        · exact HK3.out.apart b hb
        · exact HF3.out.apart b hb
      have HAP := Lib.hid hapL
      obtain ⟨T, hT⟩ : ∃ T, T = touchT S dir x.n es := ⟨_, rfl⟩
      have HT := Lib.hid hT
      have KT : Hid (Calls Try.prog 56 #[.pointer (some ⟨g.bW, 0, none⟩), .int .i64 dir, .int .i64 x.n, .slice A2 n cap2] W6 (fun e w' => e = .returned (.tuple #[]) ∧ Mix w3 B g f T S { x0 with now := x.n } w')) := by
        show Calls _ _ _ _ _
        refine Mix.callW M6 fun g1 hg hK => ?_
        rw [HN.out, ← hg, HT.out]
        exact (ptouch_any B g1 S dir x.n A2 es cap2 W6 hK HT0.out.nos (HES.out.only M6.only HAP.out) HL2.out HC2.out HN2.out).mono fun _ _ hh => hh.to
      have KR : Hid (∀ w7, Mix w3 B g f T S { x0 with now := x.n } w7 → Calls Try.prog 57 #[.pointer (some ⟨f.bF, 0, none⟩), .int .i64 dir, .slice A2 n cap2] w7 (fun e w' => e = .returned (.tuple #[]) ∧ Mix w3 B g f T T { x0 with now := x.n } w')) := by
        show ∀ w7, _
        intro w7 M7
        refine Mix.callF M7 fun f1 hf hF => ?_
        rw [HN.out, ← hf, HT.out]
        exact (rtouch_any B f1 S { x0 with now := x.n } dir A2 es cap2 w7 hF (by have := HT0.out.count; omega) HT0.out.nos (HES.out.only M7.only HAP.out) HL2.out HC2.out HN2.out).mono fun _ _ hh => hh.to
      have hTg : getN T.nodes dir = { m0 with ents := es, mtime := x.n, ctime := x.n } ∧ T.nodes.length = S.nodes.length ∧ NosUp T.nodes T.last := by
        have hi : isN S.nodes dir = true := by
          have := HK1.out
          rw [HM0.out] at this
          exact (getN_node this).1
        refine ⟨?_, by rw [hT]; show (setN _ _).length = _; rw [setN_len], by rw [hT]; exact HT0.out.nos.set _⟩
        have hno := (isN_true hi).2.1
        have hm := set_has (n := touchN S dir x.n es) (isN_true hi).2.2
        rw [if_pos (by show _ = (getN S.nodes dir).no; rfl)] at hm
        have h2 := (mem_getN (S := touchT S dir x.n es) (HT0.out.nos.set _) hm).1
        have e : (touchN S dir x.n es).no = dir := hno
        rw [e] at h2
        rw [hT, h2, HM0.out]
        rfl
      have HTG := Lib.hid hTg
      clear hapL hT hTg
      go_wp2_with fail
      refine KT.out.mono ?_
      rintro e w7 ⟨rfl, M7⟩
      go_wp2_with fail
      refine (KR.out _ M7).mono ?_
      rintro e w8 ⟨rfl, M8⟩
      have B8 := M8.has B3 hnb
      have X8 : Ext w w8 := M8.after X3 (by rw [HB.out]; exact HX1.out.size) HK3.out HF3.out
      clear KT KR c5 z5 M7 M6 B6 X6
      obtain ⟨g1, f1, a1, a2, a3, a4, a5⟩ := id M8
      obtain ⟨_, _, cd, hW8, _⟩ := id a3
      have v0 : w8.cell? ⟨g.bW, 0, none⟩ = some (.pointer (some ⟨g1.bT, 0, none⟩)) := by rw [← a1.1]; exact hW8.cell 0
      have vz := M8.lt.1
      clear hW8
      go_wp2_with fail
      refine (tget_any B g1.bT g1.bM T.nodes T.last dir _ a3.2.1).mono ?_
      rintro e w9 ⟨A9, k9, rfl, ok9, b9⟩
      obtain ⟨n9, hn9⟩ : ∃ n9, n9 = getN T.nodes dir := ⟨_, rfl⟩
      obtain ⟨i9, hi9⟩ : ∃ i9, i9 = isN T.nodes dir := ⟨_, rfl⟩
      rw [← hn9] at ok9
      rw [← hn9, ← hi9]
      obtain ⟨Wb, hWb⟩ : ∃ Wb, Wb = w9.alloc (.cells #[.int .i64 n9.no, .int .i64 n9.dev, .int .i64 n9.kind, .int .i64 n9.mode, .int .i64 n9.uid, .int .i64 n9.gid, .int .i64 n9.mtime, .int .i64 n9.ctime, .int .i64 n9.links, .int .i64 n9.up, .string (bs n9.data), .slice A9 n9.ents.length k9] 100) := ⟨_, rfl⟩
      have Eab : Ext w9 Wb := by rw [hWb]; exact (Ext.refl _).alloc _
      obtain ⟨b12, hb12⟩ : ∃ b12, b12 = w9.heap.size := ⟨_, rfl⟩
      have Nb : Has Wb b12 (.cells #[.int .i64 n9.no, .int .i64 n9.dev, .int .i64 n9.kind, .int .i64 n9.mode, .int .i64 n9.uid, .int .i64 n9.gid, .int .i64 n9.mtime, .int .i64 n9.ctime, .int .i64 n9.links, .int .i64 n9.up, .string (bs n9.data), .slice A9 n9.ents.length k9] 100) := by rw [hWb, hb12]; exact Has.new _ _
      have okb := ok9.ext Eab
      have E8b : Ext w8 Wb := b9.trans Eab
      have hn9' : n9.mtime = x.n ∧ n9.ents = es := by rw [hn9, HTG.out.1]; exact ⟨rfl, rfl⟩
      have HN9 := Lib.hid hn9
      have HNP := Lib.hid hn9'
      clear v0 vz hn9 hi9 ok9 b9 Eab hn9'
      go_upto_region 18 with fail
      rw [← hWb]
      rw [← hb12]
      clear hWb hb12
      have hn9' := HNP.out
      have ab4 := a4.ext E8b
      have ab3 := a3.ext E8b
      obtain ⟨A15, c15, ok15, C15⟩ := rget_fix B f1 T _ dir Wb ab4 (by have := HTG.out.2.1; have := HT0.out.count; omega) HTG.out.2.2
      rw [← HN9.out] at ok15 C15
      have KG' : Hid (∀ u : World, Ext Wb u → Calls Try.prog 55 #[.pointer (some ⟨f.bF, 0, none⟩), .int .i64 dir] u (Ret u (.agg #[.int .i64 n9.no, .int .i64 n9.dev, .int .i64 n9.kind, .int .i64 n9.mode, .int .i64 n9.uid, .int .i64 n9.gid, .int .i64 n9.mtime, .int .i64 n9.ctime, .int .i64 n9.links, .int .i64 n9.up, .string (bs n9.data), .slice A15 n9.ents.length c15]))) := by
        show ∀ u, _
        rw [← a2.1]; exact C15
      have hlen9 : n9.ents.length ≤ 1000000 := by rw [hn9'.2]; have := HN.out; have := of_decide_eq_false t20; omega
      have KS : Hid (∀ u : Gr Wb, Calls Try.prog 58 #[.agg #[.int .i64 n9.no, .int .i64 n9.dev, .int .i64 n9.kind, .int .i64 n9.mode, .int .i64 n9.uid, .int .i64 n9.gid, .int .i64 n9.mtime, .int .i64 n9.ctime, .int .i64 n9.links, .int .i64 n9.up, .string (bs n9.data), .slice A9 n9.ents.length k9], .agg #[.int .i64 n9.no, .int .i64 n9.dev, .int .i64 n9.kind, .int .i64 n9.mode, .int .i64 n9.uid, .int .i64 n9.gid, .int .i64 n9.mtime, .int .i64 n9.ctime, .int .i64 n9.links, .int .i64 n9.up, .string (bs n9.data), .slice A15 n9.ents.length c15]] u.w (Ret u.w (.bool true))) := by
        show ∀ u : Gr Wb, _
        intro u
        exact same_node n9 A9 A15 k9 c15 u.w (okb.ext u.h).ents.ents (ok15.ext u.h).ents.ents hlen9
      have KL : Hid (∀ u : Gr Wb, Calls Try.prog 27 #[.pointer (some ⟨g1.bT, 0, none⟩)] u.w (Ret u.w (.int .i64 T.nodes.length))) := by
        show ∀ u : Gr Wb, _
        exact fun u => tlen_any B g1.bT g1.bM T.nodes T.last _ (ab3.ext u.h).2.1
      have KW : Hid (∀ u : Gr Wb, Calls Try.prog 53 #[] u.w (Ret u.w (.bool true))) := by
        show ∀ u : Gr Wb, _
        exact fun u => awake17 u.w
      obtain ⟨_, _, cdb, hWb, _⟩ := id ab3
      obtain ⟨_, cnb, ceb, hFb, _, _⟩ := id ab4
      have v0 := Gr.cell hWb.lt (hWb.cell 0)
      have f0 := Gr.cell hFb.lt (hFb.cell 0)
      rw [a1.1] at v0
      rw [a2.1] at f0
      have zb := Nb.lt
      obtain ⟨x0', x1', x2', x3', x4', x5', x6', x7', x8', x9', x10', x11'⟩ := Nb.node12
      have y0 := Gr.cell zb x0'
      have y1 := Gr.cell zb x1'
      have y2 := Gr.cell zb x2'
      have y3 := Gr.cell zb x3'
      have y4 := Gr.cell zb x4'
      have y5 := Gr.cell zb x5'
      have y6 := Gr.cell zb x6'
      have y7 := Gr.cell zb x7'
      have y8 := Gr.cell zb x8'
      have y9 := Gr.cell zb x9'
      have y10 := Gr.cell zb x10'
      have y11 := Gr.cell zb x11'
      have B8b := B8.ext E8b
      have y12 : ∀ u : Gr Wb, u.w.cell? ⟨w.heap.size, 5, none⟩ = some (.int .i64 x.n) := Gr.cell B8b.lt (B8b.cell 5)
      have HX8 := Lib.hid (X8.trans E8b)
      have tq : (n9.mtime == x.n) = true := by simpa using hn9'.1
      have tln : ((T.nodes.length : Int) == (T.nodes.length : Int)) = true := by simp
      clear x0' x1' x2' x3' x4' x5' x6' x7' x8' x9' x10' x11' hWb hFb a1 a2 a3 a4 a5 ok15 C15 hn9' hlen9
      refine wp_region_grow Wb (by kernel_rfl) (by kernel_rfl) (Ext.refl _).drew ?_
      repeat (quiet_step (first
        | ((with_reducible refine (KG'.out _ (Gr.h _)).mono ?_); rintro e w'' ⟨rfl, hEx⟩; exact ⟨rfl, ⟨w'', Ext.trans (Gr.h _) hEx⟩, rfl⟩)
        | ((with_reducible refine (KS.out _).mono ?_); rintro e w'' ⟨rfl, hEx⟩; exact ⟨rfl, ⟨w'', Ext.trans (Gr.h _) hEx⟩, rfl⟩)
        | ((with_reducible refine (KL.out _).mono ?_); rintro e w'' ⟨rfl, hEx⟩; exact ⟨rfl, ⟨w'', Ext.trans (Gr.h _) hEx⟩, rfl⟩)
        | ((with_reducible refine (KW.out _).mono ?_); rintro e w'' ⟨rfl, hEx⟩; exact ⟨rfl, ⟨w'', Ext.trans (Gr.h _) hEx⟩, rfl⟩)))
      refine wpQuiet_nil ?_
      rintro w5 ⟨⟨w5', b5'⟩, h5⟩
      dsimp only at h5
      subst h5
      clear y0 y1 y2 y3 y4 y5 y6 y7 y8 y9 y10 y11 y12 v0 f0
      go_wp2_with fail
      go_ret
      exact Ret.mk rfl (HX8.out.trans b5')
set_option maxRecDepth 100000 in
theorem bringTouches_walk {H : Type} {enc : TypeId × Value → H} (W : World) (base : Nat) (v0 v1 v2 : Value) (d0 d1 d2 : DataW H) (p0 p1 p2 : List MemPlace)
    (k0 : Value.okWide Try.prog W .any base 24 v0) (h0 : DataW.Trod enc Try.prog W 0 (fun _ => true) true 24 v0 d0 p0)
    (k1 : Value.okWide Try.prog W .any base 64 v1) (h1 : DataW.Trod enc Try.prog W 0 (fun _ => true) true 64 v1 d1 p1)
    (k2 : Value.okWide Try.prog W .any base 67 v2) (h2 : DataW.Trod enc Try.prog W 0 (fun _ => true) true 67 v2 d2 p2)
    : Calls Try.prog 10 #[v0, v1, v2] W (Ret W (.bool true)) := by
  obtain ⟨A, l, cap, rfl, hA, _, hl, hc⟩ := open_Items k0 h0
  obtain ⟨x, rfl⟩ := open_Act k1 h1
  obtain ⟨A2, es, cap2, rfl, hA2, hn2, hl2, hc2, _⟩ := open_ents k2 h2
  exact bringTouches_any A l cap x A2 es cap2 W hA (by unfold maxLen at hc; omega) hA2 hn2 hl2 hc2
end Go.Proofs.Ytebghednhjaniaa
