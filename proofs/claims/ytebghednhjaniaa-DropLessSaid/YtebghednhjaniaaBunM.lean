/- The law DropLess, walked. (Printed by gen_drpf.py.) -/
import Derived.Test.YtebghednhjaniaaBunL
import Derived.Test.YtebghednhjaniaaBunK
import Derived.Test.YtebghednhjaniaaBunD
import Derived.Test.YtebghednhjaniaaBunG
namespace Go.Proofs.Ytebghednhjaniaa
open Go.ChangeShapes Go.WideShapes Go.ChangeAt Go.RowKit

attribute [local irreducible] wpQuiet
theorem isN_dropN (ns : List NodeD) (no : Int) : isN (dropN ns no) no = false := by
  unfold isN getO dropN
  rw [show ((ns.filter fun m => !(m.no == no)).find? fun n => n.no == no) = none from List.find?_eq_none.2 fun x hx => by
    have := (List.mem_filter.1 hx).2
    simpa using this]
  rfl
/-- What Less leaves: the node goes with its last name. -/
theorem less_is {S : TreeD} (L : Live S) {n : NodeD} (hi : isN S.nodes n.no = true) (hn : n = getN S.nodes n.no) (hr : rootF S.devs n.dev ≠ n.no) (hl : 1 ≤ n.links ∧ n.links ≤ 1000) (now : Int) :
    Live (lessT S now n) ∧ isN (lessT S now n).nodes n.no = decide (1 < n.links) ∧ hasD (lessT S now n).devs n.dev = true ∧ (1 < n.links → getN (lessT S now n).nodes n.no = lessN now n ∧ (lessT S now n).devs = S.devs ∧ (lessT S now n).last = S.last) := by
  have ho := L.on _ (isN_true hi).2.2
  rw [← hn] at ho
  have hone : n.no = 1 → n.dev = 1 := fun e => L.one n (by rw [hn]; exact (isN_true hi).2.2) e
  have hL : Live (setT S (lessN now n)) := L.set _ ho.1 ho.2 hone
  have hi2 : isN (setT S (lessN now n)).nodes n.no = true := by show isN (setN S.nodes _) n.no = true; rw [isN_set]; exact hi
  have hg : getN (setT S (lessN now n)).nodes n.no = lessN now n := set_self (n := lessN now n) L.nos hi
  unfold lessT
  split
  · rename_i h1
    have hk : killB (setT S (lessN now n)) n.no = true := by
      unfold killB
      rw [hi2, hg]
      have e : rootF (setT S (lessN now n)).devs (lessN now n).dev ≠ n.no := hr
      simpa using e
    refine ⟨hL.kill _, ?_, ?_, fun h => by omega⟩
    · unfold killT
      rw [if_pos hk]
      rw [show decide (1 < n.links) = false from decide_eq_false (by omega)]
      exact isN_dropN _ _
    · unfold killT
      rw [if_pos hk]
      exact (hasD_len (setQ_len S.devs _ _) _).trans ho.1
  · rename_i h1
    exact ⟨hL, by rw [hi2]; exact (decide_eq_true (by omega)).symm, ho.1, fun _ => ⟨hg, rfl, rfl⟩⟩
theorem and_three (x : Int) : bits .and .i64 x 3 = x % 4 := and_mask x 2 (by decide)
set_option maxRecDepth 100000 in
set_option maxHeartbeats 16000000 in
theorem dropLess_any (A : Option Addr) (l : List ItemD) (cap : Nat) (x : ActD) (w : World) (hA : ItemsAt w A l) (hlen : l.length ≤ 9223372036854775807) :
    Calls Try.prog 12 #[.slice A l.length cap, .agg #[.int .i64 x.kind, .int .i64 x.uid, .int .i64 x.gid, .int .i64 x.dir, .int .i64 x.no, .int .i64 x.n, .string (bs x.name), .string (bs x.text), .int .i64 x.to_, .string (bs x.as_)]] w (Ret w (.bool true)) := by
  obtain ⟨W1, hW1⟩ : ∃ W, W = w.alloc (.cells #[.int .i64 x.kind, .int .i64 x.uid, .int .i64 x.gid, .int .i64 x.dir, .int .i64 x.no, .int .i64 x.n, .string (bs x.name), .string (bs x.text), .int .i64 x.to_, .string (bs x.as_)] 64) := ⟨_, rfl⟩
  have E1 : Ext w W1 := by rw [hW1]; exact (Ext.refl _).alloc _
  have B1 : Has W1 w.heap.size (.cells #[.int .i64 x.kind, .int .i64 x.uid, .int .i64 x.gid, .int .i64 x.dir, .int .i64 x.no, .int .i64 x.n, .string (bs x.name), .string (bs x.text), .int .i64 x.to_, .string (bs x.as_)] 64) := by rw [hW1]; exact Has.new _ _
  obtain ⟨m, hm⟩ : ∃ m, m = l.length := ⟨_, rfl⟩
  have hlen' := hlen
  rw [← hm] at hlen' ⊢
  have HM := Lib.hid hm
  have KF : Hid (Calls Try.prog 29 #[.slice A m cap] W1 (FewR W1 l)) := by show Calls _ _ _ _ _; rw [HM.out]; exact few14_any A l cap W1 (hA.ext E1) hlen
  clear hm
  go_enter Try.func12, Try.ntmps12
  go_upto_region 1 with fail
  rw [← hW1]
  clear hW1
  go_wp2_with fail
  refine KF.out.mono ?_
  rintro e w2 ⟨rfl, ⟨hf, rfl⟩ | ⟨hf, rfl⟩⟩
  case inr =>
    clear hf
    go_wp2_with fail
    refine (awake18 _).mono ?_
    rintro e wz ⟨rfl, bz⟩
    go_wp2_with fail
    go_ret
    exact Ret.mk rfl ((E1).trans bz)
  have HF := Lib.hid hf
  have HB2 := Lib.hid B1
  have HX1 := Lib.hid E1
  have hG0 := tre_growAll (b := 300) (n := 60) (by decide) HF.out
  have hga := good_all (good_first (b := 300) (n := 60) (by decide)) l
  have hl40 := HF.out.2
  have KG : Hid (Calls Try.prog 19 #[.int .i64 300, .int .i64 60, .slice A m cap] W1 (GrowAllR W1 300 60 l)) := by show Calls _ _ _ _ _; rw [HM.out]; exact growAll_any 300 60 A l cap W1 (by decide) HF.out (hA.ext E1)
  clear hf KF B1 E1
  go_wp2_with fail
  refine KG.out.mono ?_
  rintro e w3 ⟨g, f, rfl, ⟨K3, F3⟩, E3⟩
  obtain ⟨B, hB⟩ : ∃ B, B = W1.heap.size := ⟨_, rfl⟩
  rw [← hB] at K3 F3
  obtain ⟨S, hS⟩ : ∃ S, S = growAll (firstT 300 60) l := ⟨_, rfl⟩
  rw [← hS] at K3 F3
  have hSl : S.last ≤ 41 := by
    have h2 := hga.2
    rw [hS]
    rw [show growAll (rootT emptyT 0 300 60) l = growAll (firstT 300 60) l from rfl, show (rootT emptyT 0 300 60).last = 1 from rfl] at h2
    omega
  have hT0 : Tre 40 S := by rw [hS]; exact hG0
  have hS1 := hT0.last
  have HB := Lib.hid hB
  have HE3 := Lib.hid E3
  have HT0 := Lib.hid hT0
  have HK3 := Lib.hid K3
  have HF3 := Lib.hid F3
  clear hS hga hG0 hl40 KG hB hT0
  have X3 := HX1.out.trans HE3.out
  have B3 := HB2.out.ext HE3.out
  have c3 : w3.cell? ⟨w.heap.size, 4, none⟩ = some (.int .i64 x.no) := B3.cell 4
  obtain ⟨no, hdir⟩ : ∃ no, no = nearF S.last x.no := ⟨_, rfl⟩
  have KN : Hid (∀ u : Gr w3, Calls Try.prog 54 #[.pointer (some ⟨f.bF, 0, none⟩), .int .i64 x.no] u.w (Ret u.w (.int .i64 no))) := by
    show ∀ u : Gr w3, _
    intro u
    rw [hdir]
    exact near_any B f S x0 x.no _ (HF3.out.ext u.h) (by omega) (by omega)
  clear hdir
  go_wp2_with fail
  refine (KN.out ⟨w3, Ext.refl _⟩).mono ?_
  rintro e w3a ⟨rfl, E3a⟩
  go_wp2_with fail
  refine (rget_any B f S x0 no _ (HF3.out.ext E3a) (by have := HT0.out.count; omega) HT0.out.nos).mono ?_
  rintro e w3b ⟨A0, k0, rfl, ok0, E3b⟩
  obtain ⟨m0, hm0⟩ : ∃ m0, m0 = getN S.nodes no := ⟨_, rfl⟩
  rw [← hm0] at ok0 ⊢
  obtain ⟨w4, hw4⟩ : ∃ W, W = w3b.alloc (.cells #[.int .i64 m0.no, .int .i64 m0.dev, .int .i64 m0.kind, .int .i64 m0.mode, .int .i64 m0.uid, .int .i64 m0.gid, .int .i64 m0.mtime, .int .i64 m0.ctime, .int .i64 m0.links, .int .i64 m0.up, .string (bs m0.data), .slice A0 m0.ents.length k0] 100) := ⟨_, rfl⟩
  obtain ⟨b9, hb9⟩ : ∃ b, b = w3b.heap.size := ⟨_, rfl⟩
  have N4 : Has w4 b9 (.cells #[.int .i64 m0.no, .int .i64 m0.dev, .int .i64 m0.kind, .int .i64 m0.mode, .int .i64 m0.uid, .int .i64 m0.gid, .int .i64 m0.mtime, .int .i64 m0.ctime, .int .i64 m0.links, .int .i64 m0.up, .string (bs m0.data), .slice A0 m0.ents.length k0] 100) := by rw [hw4, hb9]; exact Has.new _ _
  have E4 : Ext w3b w4 := by rw [hw4]; exact (Ext.refl _).alloc _
  have E34 : Ext w3 w4 := (E3a.trans E3b).trans E4
  have hb9' : w3.heap.size ≤ b9 := by rw [hb9]; exact (E3a.trans E3b).size
  have HM0 := Lib.hid hm0
  clear hm0 c3
  go_upto_region 7 with fail
  rw [← hw4, ← hb9]
  clear hw4 hb9
  have B4 := B3.ext E34
  have ok4 := ok0.ext E4
  have X4 := X3.trans E34
  have HK4 := Lib.hid (HK3.out.ext E34)
  have HF4 := Lib.hid (HF3.out.ext E34)
  have hnb : w.heap.size ∉ g.list ++ f.list := Mix.notin HK3.out HF3.out (.inl (by rw [HB.out]; have := HB2.out.lt; omega))
  have hb9g : b9 ∉ g.list ++ f.list := fun hb => by
    have h1 := HK3.out.lt
    have h2 := HF3.out.lt
    simp only [GhW.list, GhF.list, List.mem_append, List.mem_cons, List.not_mem_nil, or_false] at hb
    omega
  have HNB9 := Lib.hid hb9g
  have hb9w : w.heap.size < b9 := by have := HX1.out.size; have := B3.lt; omega
  have HBB := Lib.hid hb9'
  clear KN ok0 hb9'
  have z0 : ∀ u : Gr w4, u.w.cell? ⟨b9, 0, none⟩ = some (.int .i64 m0.no) := Gr.cell N4.lt (N4.cell 0)
  have z1 : ∀ u : Gr w4, u.w.cell? ⟨b9, 1, none⟩ = some (.int .i64 m0.dev) := Gr.cell N4.lt (N4.cell 1)
  have KR : Hid (∀ u : Gr w4, Calls Try.prog 64 #[.pointer (some ⟨f.bF, 0, none⟩), .int .i64 m0.dev] u.w (Ret u.w (.int .i64 (rootF S.devs m0.dev)))) := by
    show ∀ u : Gr w4, _
    intro u
    exact rroot_any B f S x0 m0.dev u.w (HF4.out.ext u.h) (by have := HT0.out.eight; omega)
  by_cases h0 : m0.no = 0
  · have t0 : (m0.no == 0) = true := by simpa using h0
    clear h0
    refine wp_region_grow w4 (by kernel_rfl) (by kernel_rfl) (Ext.refl _).drew ?_
    repeat (quiet_step (first
      | ((with_reducible refine (KR.out _).mono ?_); rintro e w'' ⟨rfl, hEx⟩; exact ⟨rfl, ⟨w'', Ext.trans (Gr.h _) hEx⟩, rfl⟩)))
    refine wpQuiet_nil ?_
    rintro w5 ⟨⟨wy, b5⟩, h5⟩
    dsimp only at h5
    subst h5
    clear z0 z1
    go_wp2_with fail
    refine (awake18 _).mono ?_
    rintro e wz ⟨rfl, bz⟩
    go_wp2_with fail
    go_ret
    exact Ret.mk rfl ((X4.trans b5).trans bz)
  have t0 : (m0.no == 0) = false := by simpa using h0
  by_cases h1 : rootF S.devs m0.dev = m0.no
  · have t1 : (rootF S.devs m0.dev == m0.no) = true := by simpa using h1
    clear h0 h1
    refine wp_region_grow w4 (by kernel_rfl) (by kernel_rfl) (Ext.refl _).drew ?_
    repeat (quiet_step (first
      | ((with_reducible refine (KR.out _).mono ?_); rintro e w'' ⟨rfl, hEx⟩; exact ⟨rfl, ⟨w'', Ext.trans (Gr.h _) hEx⟩, rfl⟩)))
    refine wpQuiet_nil ?_
    rintro w5 ⟨⟨wy, b5⟩, h5⟩
    dsimp only at h5
    subst h5
    clear z0 z1
    go_wp2_with fail
    refine (awake18 _).mono ?_
    rintro e wz ⟨rfl, bz⟩
    go_wp2_with fail
    go_ret
    exact Ret.mk rfl ((X4.trans b5).trans bz)
  have t1 : (rootF S.devs m0.dev == m0.no) = false := by simpa using h1
  have HR0 := Lib.hid h1
  have hi0 : isN S.nodes no = true ∧ m0.no = no := by
    rw [HM0.out] at h0 ⊢
    cases hi : isN S.nodes no
    · unfold isN at hi
      have hz : getN S.nodes no = nodeZ := by
        unfold getN
        cases hg : getO S.nodes no with
        | none => rfl
        | some y => rw [hg] at hi; cases hi
      rw [hz] at h0
      exact absurd rfl h0
    · exact ⟨rfl, (isN_true hi).2.1⟩
  have HI0 := Lib.hid hi0
  clear h0 h1 hi0
  refine wp_region_grow w4 (by kernel_rfl) (by kernel_rfl) (Ext.refl _).drew ?_
  repeat (quiet_step (first
    | ((with_reducible refine (KR.out _).mono ?_); rintro e w'' ⟨rfl, hEx⟩; exact ⟨rfl, ⟨w'', Ext.trans (Gr.h _) hEx⟩, rfl⟩)))
  refine wpQuiet_nil ?_
  rintro w5 ⟨⟨wy, b5⟩, h5⟩
  dsimp only at h5
  subst h5
  clear z0 z1 KR
  have B5 := B4.ext b5
  have N5 := N4.ext b5
  have ok5 := ok4.ext b5
  have X5 := X4.trans b5
  have K5 := HK4.out.ext b5
  have F5 := HF4.out.ext b5
  have c5 : w5.cell? ⟨w.heap.size, 5, none⟩ = some (.int .i64 x.n) := B5.cell 5
  have cz := B5.lt
  have nz := N5.lt
  have n8 : w5.cell? ⟨b9, 8, none⟩ = some (.int .i64 m0.links) := N5.cell 8
  have nf : w5.frozen? ⟨b9, 8, none⟩ = false := (N5.free 8).trans (by simp)
  have q0 : bits .and .i64 x.n 3 = x.n % 4 := and_three x.n
  have q1 : IntKind.i64.wrap (1 + x.n % 4) = 1 + x.n % 4 := wrap_i64_in (by omega) (by omega)
  clear N4 B4 ok4 X4 B3 X3
  go_upto_region 10 with fail
  obtain ⟨n1, hn1⟩ : ∃ n1 : NodeD, n1 = { m0 with links := 1 + x.n % 4 } := ⟨_, rfl⟩
  obtain ⟨W6, hW6⟩ : ∃ W6, W6 = w5.setCell ⟨b9, 8, none⟩ (.int .i64 (1 + x.n % 4)) := ⟨_, rfl⟩
  rw [← hW6]
  have O6 : Only [b9] w5 W6 := by rw [hW6]; exact Only.setCell _ _ _ _
  have N6 : Has W6 b9 (.cells #[.int .i64 n1.no, .int .i64 n1.dev, .int .i64 n1.kind, .int .i64 n1.mode, .int .i64 n1.uid, .int .i64 n1.gid, .int .i64 n1.mtime, .int .i64 n1.ctime, .int .i64 n1.links, .int .i64 n1.up, .string (bs n1.data), .slice A0 n1.ents.length k0] 100) := by rw [hW6, hn1]; exact N5.setCell 8 _
  have hap : Apart w5 B [b9] := by
    intro b hb
    rw [List.mem_singleton] at hb
    subst hb
    exact ⟨by have := HB.out; have := HE3.out.size; have := HBB.out; omega, N5.noTag (by decide)⟩
  have K6 : WAt W6 B g S := K5.only O6 hap (fun b hb he => by rw [List.mem_singleton] at he; subst he; exact HNB9.out (List.mem_append_left _ hb))
  have F6 : FAt W6 B f S x0 := F5.only O6 hap (fun b hb he => by rw [List.mem_singleton] at he; subst he; exact HNB9.out (List.mem_append_right _ hb))
  have ok6 : NodeOk W6 B n1 A0 k0 := (ok5.only O6 hap).same (by rw [hn1])
  have X6 : Ext w W6 := O6.after X5 (by intro b hb; rw [List.mem_singleton] at hb; omega)
  have HN1 := Lib.hid hn1
  clear hW6 hn1 c5 cz nz nf n8 q0 q1 N5 B5 ok5 X5 K5 F5 hap O6
  have hl1 : 1 ≤ n1.links ∧ n1.links ≤ 1000 := by rw [HN1.out]; show 1 ≤ 1 + x.n % 4 ∧ 1 + x.n % 4 ≤ 1000; omega
  have hn1no : n1.no = no := by rw [HN1.out]; exact HI0.out.2
  have hlv := HT0.out.live
  have hon := hlv.on _ (isN_true HI0.out.1).2.2
  have hone : n1.no = 1 → n1.dev = 1 := fun e => by
    have := hlv.one _ (isN_true HI0.out.1).2.2 (by rw [← HM0.out, HI0.out.2, ← hn1no]; exact e)
    rw [HN1.out]; show m0.dev = 1; rw [HM0.out]; exact this
  rw [← HM0.out] at hon
  have HS1 : Hid (Live (setT S n1)) := Lib.hid (hlv.set n1 (by rw [HN1.out]; exact hon.1) (by rw [HN1.out]; exact hon.2) hone)
  have HG1 : Hid (n1 = getN (setT S n1).nodes n1.no ∧ isN (setT S n1).nodes n1.no = true) := by
    refine Lib.hid ⟨(set_self hlv.nos (by rw [hn1no]; exact HI0.out.1)).symm, ?_⟩
    show isN (setN S.nodes n1) n1.no = true
    rw [isN_set, hn1no]; exact HI0.out.1
  have HR1 : Hid (rootF S.devs n1.dev ≠ n1.no) := Lib.hid (by rw [hn1no, HN1.out, ← HI0.out.2]; exact HR0.out)
  have HE1 : Hid (n1.ents.length ≤ 40) := by
    refine Lib.hid ?_
    rw [HN1.out]
    show m0.ents.length ≤ 40
    rw [HM0.out]
    exact (HT0.out.getN no).2
  have HL1 := Lib.hid hl1
  have HLV := Lib.hid hlv
  clear hl1 hn1no hlv hon hone
  go_wp2_with (refine wpList_load_node rfl _ rfl b9 n1 A0 k0 rfl N6 ?_)
  refine (rset_any B f S x0 n1 A0 k0 _ F6 (by have := HT0.out.count; omega) HT0.out.nos ok6).mono ?_
  rintro e w7 ⟨rfl, F7, O7⟩
  have K7 := K6.byF F6 O7
  have ok7 := ok6.only O7 F6.apart
  have N7 := O7.has N6 (fun hb => HNB9.out (List.mem_append_right _ hb))
  have X7 : Ext w w7 := O7.after X6 (fun b hb => by have := (HF3.out.apart b hb).1; have := HB.out; have := HX1.out.size; omega)
  clear F6 O7 K6 ok6 N6 X6
  obtain ⟨_, _, cd, hW7, _⟩ := id K7
  have v0 : w7.cell? ⟨g.bW, 0, none⟩ = some (.pointer (some ⟨g.bT, 0, none⟩)) := hW7.cell 0
  have vz := hW7.lt
  clear hW7
  obtain ⟨e0, e1, e2, e3, e4, e5, e6, e7, e8, e9, e10, e11⟩ := N7.node12
  have ez := N7.lt
  go_upto_region 11 with fail
  go_still_tail 5, (by kernel_rfl)
  change wpList _ _ _ _ _ w7.drew
  go_wp2_with fail
  have ED : Ext w7 w7.drew := (Ext.refl _).drew
  refine (wset_any B g S n1 A0 k0 _ (K7.ext ED) HT0.out.nos (ok7.ext ED)).mono ?_
  rintro e w8 ⟨rfl, K8, O8'⟩
  have O8 := Only.pre ED O8'
  have F8 := F7.byW K7 O8
  have ok8 := ok7.only O8 K7.apart
  have N8 := O8.has N7 (fun hb => HNB9.out (List.mem_append_left _ hb))
  clear e0 e1 e2 e3 e4 e5 e6 e7 e8 e9 e10 e11 ez ED O8'
  have X8 : Ext w w8 := O8.after X7 (fun b hb => by have := (HK3.out.apart b hb).1; have := HB.out; have := HX1.out.size; omega)
  clear F7 O8 K7 ok7 N7 X7 v0 vz
  have M8 : Mix w8 B g f (setT S n1) (setT S n1) x0 w8 := Mix.start K8 F8
  have hsF := F8.lt.1
  have hnow := M8.now
  have hfr : w8.frozen? ⟨f.bF, 3, none⟩ = false := by
    obtain ⟨_, cn, ce, kF, _⟩ := F8
    exact kF.free 3
  go_upto_region 13 with fail
  obtain ⟨W9, hW9⟩ : ∃ W9, W9 = w8.setCell ⟨f.bF, 3, none⟩ (.int .i64 9) := ⟨_, rfl⟩
  rw [← hW9]
  have F9 : FAt W9 B f (setT S n1) { x0 with now := 9 } := by rw [hW9]; exact F8.setNow 9
  have O9 : Only f.list w8 W9 := by rw [hW9]; exact (Only.setCell _ _ _ _).mono (by intro b hb; rw [List.mem_singleton] at hb; subst hb; simp)
  have K9 := K8.byF F8 O9
  have ok9 := ok8.only O9 F8.apart
  have N9 := O9.has N8 (fun hb => HNB9.out (List.mem_append_right _ hb))
  have X9 : Ext w W9 := O9.after X8 (fun b hb => by have := (HF3.out.apart b hb).1; have := HB.out; have := HX1.out.size; omega)
  clear hW9 O9 K8 ok8 N8 X8 F8 M8 hsF hnow hfr
  go_wp2_with fail
  go_loopw [9] (fun i wr => ∃ (k : Nat) (T : TreeD) (n : NodeD) (A : Option Addr) (c : Nat) (f1 : GhF), i = .int .i64 k ∧ k ≤ 2 ∧ f1.bF = f.bF ∧ b9 ∉ f1.list ∧ WAt wr B g T ∧ FAt wr B f1 T { x0 with now := 9 } ∧ Has wr b9 (.cells #[.int .i64 n.no, .int .i64 n.dev, .int .i64 n.kind, .int .i64 n.mode, .int .i64 n.uid, .int .i64 n.gid, .int .i64 n.mtime, .int .i64 n.ctime, .int .i64 n.links, .int .i64 n.up, .string (bs n.data), .slice A n.ents.length c] 100) ∧ NodeOk wr B n A c ∧ Ext w wr ∧ Live T ∧ T.last = S.last ∧ (n = getN T.nodes n.no ∧ isN T.nodes n.no = true) ∧ rootF T.devs n.dev ≠ n.no ∧ n.ents.length ≤ 40 ∧ 1 ≤ n.links ∧ n.links ≤ 1000) (fun i _ => 2 - (intOf i).toNat)
  case atStart => exact ⟨0, setT S n1, n1, A0, k0, f, rfl, by decide, rfl, fun hb => HNB9.out (List.mem_append_right _ hb), K9, F9, N9, ok9, X9, HS1.out, rfl, HG1.out, HR1.out, HE1.out, HL1.out⟩
  case round =>
    obtain ⟨k, T, n, A, c, f1, rfl, hk, hfF, hnf, K, F, N, ok, X, hL, hTl, hG, hR, hE, hl⟩ := hrel
    by_cases hlt : (k : Int) < 2
    case neg =>
      have tk : decide ((k : Int) < 2) = false := decide_eq_false hlt
      have HX := Lib.hid X
      clear hlt hk hfF hnf K F N ok X hL hTl hG hR hE hl
      go_wp2_with fail
      refine (awake18 _).mono ?_
      rintro e wz ⟨rfl, bz⟩
      go_wp2_with fail
      go_ret
      exact Ret.mk rfl (HX.out.trans bz)
    have tk : decide ((k : Int) < 2) = true := decide_eq_true hlt
    have hk1 : k ≤ 1 := by omega
    have hone : n.no = 1 → n.dev = 1 := fun e => hL.one n (by rw [hG.1]; exact (isN_true hG.2).2.2) e
    have hon := hL.on _ (isN_true hG.2).2.2
    rw [← hG.1] at hon
    have HH : Hid (Held T n) := Lib.hid ⟨hl, hon.1, hon.2, hone⟩
    have HLS := Lib.hid (less_is hL hG.2 hG.1 hR hl 9)
    have HG := Lib.hid hG
    have HR := Lib.hid hR
    have HL := Lib.hid hl
    have HLI := Lib.hid hL
    have HTL := Lib.hid hTl
    have HFF := Lib.hid hfF
    have hnl : T.last ≤ 41 := by omega
    obtain ⟨T', hT'⟩ : ∃ T', T' = lessT T 9 n := ⟨_, rfl⟩
    have HT' := Lib.hid hT'
    have hng : b9 ∉ g.list := fun hb => HNB9.out (List.mem_append_left _ hb)
    have hBB : w.heap.size ≤ B := by have := HB.out; have := HX1.out.size; omega
    clear hlt hG hR hl hL hTl hfF hone hon hT'
    go_wp2_with (refine wpList_load_node rfl _ rfl b9 n A c rfl N ?_)
    refine (pless_any B g T 9 n A c _ K HLI.out ok HH.out).mono ?_
    rw [← HT'.out]
    rintro e w5 ⟨rfl, K5, O5⟩
    have F5 := F.byW K O5
    have ok5 := ok.only O5 K.apart
    have N5 := O5.has N hng
    have X5 : Ext w w5 := O5.after X (fun b hb => by have := (K.apart b hb).1; omega)
    clear O5 K F ok N X
    rw [← HFF.out]
    go_wp2_with (refine wpList_load_node rfl _ rfl b9 n A c rfl N5 ?_)
    refine (rless_any B f1 T { x0 with now := 9 } n A c _ F5 HLI.out (by omega) ok5 HH.out).mono ?_
    rintro e w6 ⟨rfl, f2, F6', O6, hon⟩
    have F6 : FAt w6 B f2 T' { x0 with now := 9 } := by rw [HT'.out]; exact F6'
    have K6 := K5.byF F5 O6
    have ok6 := ok5.only O6 F5.apart
    have N6 := O6.has N5 hnf
    have X6 : Ext w w6 := O6.after X5 (fun b hb => by have := (F5.apart b hb).1; omega)
    have HF2 : Hid (f2.bF = f1.bF) := Lib.hid hon.1
    have HNF2 : Hid (b9 ∉ f2.list) := by
      refine Lib.hid fun hb => ?_
      have := N5.lt
      rcases hon.2 _ hb with h | h
      · exact hnf h
      · omega
    clear O6 K5 F5 ok5 N5 X5 F6' hon hnf
    rw [← HT'.out] at HLS
    obtain ⟨Ag, cg, okg, Cg⟩ := tget_fix B g T' n.no w6 K6
    obtain ⟨n7, hn7⟩ : ∃ n7, n7 = getN T'.nodes n.no := ⟨_, rfl⟩
    obtain ⟨i7, hi7⟩ : ∃ i7, i7 = isN T'.nodes n.no := ⟨_, rfl⟩
    rw [← hn7] at okg Cg
    rw [← hi7] at Cg
    have HCG := Lib.hid Cg
    have HN7 := Lib.hid hn7
    have HI7 := Lib.hid hi7
    obtain ⟨_, _, cd, hW6, _⟩ := id K6
    have v0 : ∀ u : Gr w6, u.w.cell? ⟨g.bW, 0, none⟩ = some (.pointer (some ⟨g.bT, 0, none⟩)) := Gr.cell hW6.lt (hW6.cell 0)
    have z0 : ∀ u : Gr w6, u.w.cell? ⟨b9, 0, none⟩ = some (.int .i64 n.no) := Gr.cell N6.lt (N6.cell 0)
    clear hn7 hi7 Cg hW6
    go_upto_region 18 with fail
    refine wp_region_nbox w6 10 11 10 78 n7 Ag cg _ _ (by kernel_rfl) (by kernel_rfl) rfl rfl rfl rfl (by simp) ((Ext.refl _).drew) ?_
    simp only [List.take_succ_cons, List.take_zero, List.drop_succ_cons, List.drop_zero, List.drop_nil]
    repeat (refine wpQuietR_step (fun K hK => ?_)
            go_simp
            first
              | (refine hK _ ?_; clear hK K)
              | (apply Exists.intro
                 refine ⟨fun u => ?_, hK _ ?_⟩
                 first
                   | ((with_reducible refine (HCG.out _ u.h).mono ?_); rintro e w'' ⟨rfl, hx⟩; exact ⟨rfl, hx⟩)
                 clear hK K))
    refine wpQuietR_nil ?_
    refine wpQuietR_nil ⟨rfl, ?_⟩
    repeat (refine wpQuietR_step (fun K hK => ?_); go_simp; refine hK _ ?_; clear hK K)
    refine wpQuietR_nil ?_
    intro w8 ba E68 hba Na
    simp only [Act.put]
    have K8 := K6.ext E68
    have F8 := F6.ext E68
    have N8 := N6.ext E68
    have X8 := X6.trans E68
    have okn8 := okg.ext E68
    clear v0 z0 HCG K6 F6 N6 X6 ok6 okg
    obtain ⟨g1, g2, g3, g4⟩ := HLS.out
    have HG1 := Lib.hid g1
    have HG4 := Lib.hid g4
    have hne : n7.ents.length ≤ 40 := by
      by_cases hl1 : 1 < n.links
      · rw [HN7.out, (g4 hl1).1]; exact hE
      · rw [HN7.out, (isN_false (by rw [g2]; exact decide_eq_false hl1)).1]; exact Nat.zero_le _
    have hi7 : i7 = decide (1 < n.links) := by rw [HI7.out]; exact g2
    have hcnt : T'.nodes.length ≤ 1000 := g1.len (by
      by_cases hl1 : 1 < n.links
      · rw [(g4 hl1).2.2]; omega
      · rw [HT'.out]
        unfold lessT
        split
        · unfold killT
          split
          · show T.last ≤ 1000; omega
          · show T.last ≤ 1000; omega
        · show T.last ≤ 1000; omega)
    obtain ⟨Ar, cr, okr, Cr⟩ := rget_fix B f2 T' _ n.no w8 F8 (by omega) g1.nos
    rw [← HN7.out] at okr Cr
    have KG' : Hid (∀ u : World, Ext w8 u → Calls Try.prog 55 #[.pointer (some ⟨f1.bF, 0, none⟩), .int .i64 n.no] u (Ret u (.agg #[.int .i64 n7.no, .int .i64 n7.dev, .int .i64 n7.kind, .int .i64 n7.mode, .int .i64 n7.uid, .int .i64 n7.gid, .int .i64 n7.mtime, .int .i64 n7.ctime, .int .i64 n7.links, .int .i64 n7.up, .string (bs n7.data), .slice Ar n7.ents.length cr]))) := by
      show ∀ u, _
      rw [← HF2.out]; exact Cr
    have KS : Hid (∀ u : Gr w8, Calls Try.prog 58 #[.agg #[.int .i64 n7.no, .int .i64 n7.dev, .int .i64 n7.kind, .int .i64 n7.mode, .int .i64 n7.uid, .int .i64 n7.gid, .int .i64 n7.mtime, .int .i64 n7.ctime, .int .i64 n7.links, .int .i64 n7.up, .string (bs n7.data), .slice Ag n7.ents.length cg], .agg #[.int .i64 n7.no, .int .i64 n7.dev, .int .i64 n7.kind, .int .i64 n7.mode, .int .i64 n7.uid, .int .i64 n7.gid, .int .i64 n7.mtime, .int .i64 n7.ctime, .int .i64 n7.links, .int .i64 n7.up, .string (bs n7.data), .slice Ar n7.ents.length cr]] u.w (Ret u.w (.bool true))) := by
      show ∀ u : Gr w8, _
      intro u
      exact same_node n7 Ag Ar cg cr u.w (okn8.ext u.h).ents.ents (okr.ext u.h).ents.ents (by omega)
    obtain ⟨d, hdl, e1, e2, e3, e4, e5, e6⟩ : ∃ (d : Nat) (hd : d < T'.devs.length), n.dev = d + 1 ∧ hasD T'.devs n.dev = true ∧ devN T'.devs n.dev = T'.devs[d] ∧ rootF T'.devs n.dev = T'.devs[d].root ∧ 0 < T'.devs[d].root ∧ Fine T'.devs[d].q := by
      rcases rootF_zero g1.roots n.dev with ⟨_, e2⟩ | ⟨k, hk, h⟩
      · rw [g3] at e2; cases e2
      · exact ⟨k, hk, h⟩
    obtain ⟨q, hq⟩ : ∃ q, q = useF T'.devs n.dev := ⟨_, rfl⟩
    have hv : q = T'.devs[d].q := by rw [hq]; unfold useF; rw [e2, e3]; rfl
    have HQ := Lib.hid hq
    have KU : Hid (∀ u : Gr w8, Calls Try.prog 28 #[.pointer (some ⟨g.bW, 0, none⟩), .int .i64 n.dev] u.w (Ret u.w (.agg #[.int .i64 q.blocks, .int .i64 q.nodes, .int .i64 q.mostB, .int .i64 q.mostN]))) := by
      show ∀ u : Gr w8, _
      intro u
      rw [HQ.out]
      exact puse_any B g T' _ _ (K8.ext u.h) g1.devs g1.eight g1.roots
    obtain ⟨D, hD⟩ : ∃ D, D = T'.devs.length := ⟨_, rfl⟩
    have HD := Lib.hid hD
    have hlF := F8.lt
    obtain ⟨_, cn, cer, kF, _, kD⟩ := id F8
    rw [HF2.out] at kF
    have c1 : w8.cell? ⟨f1.bF, 1, none⟩ = some (.slice (some ⟨f2.bE, 0, none⟩) D cer) := by rw [HD.out]; exact kF.cell 1
    obtain ⟨d0, d1, d2, d3, d4, d5⟩ := RowD.at_ kD d hdl
    rw [← hv] at d2 d3 d4 d5
    have y0 : (0 : Int) ≤ (d : Int) := Int.natCast_nonneg _
    have y1 : (d : Int) < (D : Int) := by omega
    have y2 : n.dev - 1 = d := by omega
    have y3 : IntKind.i64.wrap (d : Int) = d := wrap_i64_in (by omega) (by have := g1.eight; omega)
    have x1 := Gr.cell kF.lt c1
    have x2 := Gr.cell hlF.2.2 d2
    have x3 := Gr.cell hlF.2.2 d3
    have x4 := Gr.cell hlF.2.2 d4
    have x5 := Gr.cell hlF.2.2 d5
    have v0 : ∀ u : Gr w8, u.w.cell? ⟨b9, 0, none⟩ = some (.int .i64 n.no) := Gr.cell N8.lt (N8.cell 0)
    have v1 : ∀ u : Gr w8, u.w.cell? ⟨b9, 1, none⟩ = some (.int .i64 n.dev) := Gr.cell N8.lt (N8.cell 1)
    have v8 : ∀ u : Gr w8, u.w.cell? ⟨b9, 8, none⟩ = some (.int .i64 n.links) := Gr.cell N8.lt (N8.cell 8)
    obtain ⟨x0', x1', x2', x3', x4', x5', x6', x7', x8', x9', x10', x11'⟩ := Na.node12
    have zb := Na.lt
    have u0 := Gr.cell zb x0'
    have u1 := Gr.cell zb x1'
    have u2 := Gr.cell zb x2'
    have u3 := Gr.cell zb x3'
    have u4 := Gr.cell zb x4'
    have u5 := Gr.cell zb x5'
    have u6 := Gr.cell zb x6'
    have u7 := Gr.cell zb x7'
    have u8 := Gr.cell zb x8'
    have u9 := Gr.cell zb x9'
    have u10 := Gr.cell zb x10'
    have u11 := Gr.cell zb x11'
    have HE := Lib.hid hE
    have HNE := Lib.hid hne
    have HII := Lib.hid hi7
    clear x0' x1' x2' x3' x4' x5' x6' x7' x8' x9' x10' x11' kF kD d0 d1 d2 d3 d4 d5 c1 hq hv hD e1 e2 e3 e4 e5 e6 g1 g2 g3 g4 Cr okr hE hne hi7 hlF zb hk
    by_cases hl1 : 1 < n.links
    · have tq : decide ((1 : Int) < n.links) = true := decide_eq_true hl1
      have ti : i7 = true := by rw [HII.out]; exact tq
      clear hl1
      go_upto_region 19 with fail
      refine wp_region_grow w8 (by kernel_rfl) (by kernel_rfl) (Ext.refl _).drew ?_
      repeat (quiet_step (first
        | ((with_reducible refine (KG'.out _ (Gr.h _)).mono ?_); rintro e w'' ⟨rfl, hEx⟩; exact ⟨rfl, ⟨w'', Ext.trans (Gr.h _) hEx⟩, rfl⟩)
        | ((with_reducible refine (KS.out _).mono ?_); rintro e w'' ⟨rfl, hEx⟩; exact ⟨rfl, ⟨w'', Ext.trans (Gr.h _) hEx⟩, rfl⟩)
        | ((with_reducible refine (KU.out _).mono ?_); rintro e w'' ⟨rfl, hEx⟩; exact ⟨rfl, ⟨w'', Ext.trans (Gr.h _) hEx⟩, rfl⟩)))
      refine wpQuiet_nil ?_
      rintro w9 ⟨⟨wy, E9⟩, h9⟩
      dsimp only at h9
      subst h9
      clear x1 x2 x3 x4 x5 u0 u1 u2 u3 u4 u5 u6 u7 u8 u9 u10 u11 v0 v1 v8 KS KU KG'
      have N9 := N8.ext E9
      have Na9 := Na.ext E9
      have K9 := K8.ext E9
      have F9 := F8.ext E9
      have ok9 := okn8.ext E9
      have X9 := X8.trans E9
      have hap : Apart w9 B [b9] := by
        intro b hb
        rw [List.mem_singleton] at hb
        subst hb
        exact ⟨by have := HB.out; have := HE3.out.size; have := HBB.out; omega, N9.noTag (by decide)⟩
      have TI := Lib.hid ti
      have TQ := Lib.hid (of_decide_eq_true tq)
      clear y0 y1 y2 y3 K8 F8 N8 X8 okn8 Na tq
      go_wp2_with (first
        | (refine wpList_load_node rfl _ rfl ba n7 Ag cg rfl Na9 ?_)
        | (refine wpList_store_node rfl _ _ rfl b9 n7 Ag cg rfl rfl N9 ?_; intro w10 N10 O10))
      have K10 : WAt w10 B g T' := K9.only O10 hap (fun b hb he => by rw [List.mem_singleton] at he; subst he; exact hng hb)
      have F10 : FAt w10 B f2 T' { x0 with now := 9 } := F9.only O10 hap (fun b hb he => by rw [List.mem_singleton] at he; subst he; exact HNF2.out hb)
      have ok10 : NodeOk w10 B n7 Ag cg := ok9.only O10 hap
      have X10 : Ext w w10 := O10.after X9 (by intro b hb; rw [List.mem_singleton] at hb; have := HB.out; have := HE3.out.size; have := HBB.out; omega)
      have HK10 := Lib.hid K10
      have HF10 := Lib.hid F10
      have HN10 := Lib.hid N10
      have HOK := Lib.hid ok10
      have HX10 := Lib.hid X10
      clear K9 F9 N9 Na9 ok9 X9 O10 hap ti K10 F10 N10 ok10 X10
      rw [HFF.out]
      go_roundw
      case rel =>
        obtain ⟨h7, h8, h9⟩ := HG4.out TQ.out
        rw [← HN7.out] at h7
        have e7 : n7.no = n.no := by rw [h7]; rfl
        refine ⟨k + 1, T', n7, Ag, cg, f2, by go_num, by omega, HF2.out.trans HFF.out, HNF2.out, HK10.out, HF10.out, HN10.out, HOK.out, HX10.out, HG1.out, h9.trans HTL.out, ⟨by rw [e7]; exact HN7.out, by rw [e7, ← HI7.out]; exact TI.out⟩, ?_, HNE.out, ?_⟩
        · rw [h8, h7]; exact HR.out
        · rw [h7]
          have := HL.out
          have := TQ.out
          show 1 ≤ n.links - 1 ∧ n.links - 1 ≤ 1000
          omega
      case measure => simp [intOf]; omega
    · have tq : decide ((1 : Int) < n.links) = false := decide_eq_false hl1
      have ti : i7 = false := by rw [HII.out]; exact tq
      clear hl1
      go_upto_region 19 with fail
      refine wp_region_grow w8 (by kernel_rfl) (by kernel_rfl) (Ext.refl _).drew ?_
      repeat (quiet_step (first
        | ((with_reducible refine (KG'.out _ (Gr.h _)).mono ?_); rintro e w'' ⟨rfl, hEx⟩; exact ⟨rfl, ⟨w'', Ext.trans (Gr.h _) hEx⟩, rfl⟩)
        | ((with_reducible refine (KS.out _).mono ?_); rintro e w'' ⟨rfl, hEx⟩; exact ⟨rfl, ⟨w'', Ext.trans (Gr.h _) hEx⟩, rfl⟩)
        | ((with_reducible refine (KU.out _).mono ?_); rintro e w'' ⟨rfl, hEx⟩; exact ⟨rfl, ⟨w'', Ext.trans (Gr.h _) hEx⟩, rfl⟩)))
      refine wpQuiet_nil ?_
      rintro w9 ⟨⟨wy, E9⟩, h9⟩
      dsimp only at h9
      subst h9
      clear x1 x2 x3 x4 x5 u0 u1 u2 u3 u4 u5 u6 u7 u8 u9 u10 u11 v0 v1 v8 KS KU KG'
      go_wp2_with fail
      refine (awake18 _).mono ?_
      rintro e wz ⟨rfl, bz⟩
      go_wp2_with fail
      go_ret
      exact Ret.mk rfl ((X8.trans E9).trans bz)
set_option maxRecDepth 100000 in
theorem dropLess_walk {H : Type} {enc : TypeId × Value → H} (W : World) (base : Nat) (v0 v1 : Value) (d0 d1 : DataW H) (p0 p1 : List MemPlace)
    (k0 : Value.okWide Try.prog W .any base 24 v0) (h0 : DataW.Trod enc Try.prog W 0 (fun _ => true) true 24 v0 d0 p0)
    (k1 : Value.okWide Try.prog W .any base 64 v1) (h1 : DataW.Trod enc Try.prog W 0 (fun _ => true) true 64 v1 d1 p1)
    : Calls Try.prog 12 #[v0, v1] W (Ret W (.bool true)) := by
  obtain ⟨A, l, cap, rfl, hA, _, hl, hc⟩ := open_Items k0 h0
  obtain ⟨x, rfl⟩ := open_Act k1 h1
  exact dropLess_any A l cap x W hA (by unfold maxLen at hc; omega)
end Go.Proofs.Ytebghednhjaniaa
