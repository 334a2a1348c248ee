/- The law PeekTells, walked. (Printed by gen_pekg.py.) -/
import Derived.Test.YtebghednhjaniaaBunX
namespace Go.Proofs.Ytebghednhjaniaa
open Go.ChangeShapes Go.WideShapes Go.ChangeAt Go.RowKit

set_option maxRecDepth 100000 in
set_option maxHeartbeats 16000000 in
theorem peekTells_any (A : Option Addr) (l : List ItemD) (cap : Nat) (cu cg : Int) (nm : List UInt8) (w : World) (hA : ItemsAt w A l) (hlen : l.length ≤ 9223372036854775807) :
    Calls Try.prog 6 #[.slice A l.length cap, .agg #[.int .i64 cu, .int .i64 cg], .string (bs nm)] w (Ret w (.bool true)) := by
  obtain ⟨W1, hW1⟩ : ∃ W, W = w.alloc (.cells #[.int .i64 cu, .int .i64 cg] 62) := ⟨_, rfl⟩
  have E1 : Ext w W1 := by rw [hW1]; exact (Ext.refl _).alloc _
  have B1 : Has W1 w.heap.size (.cells #[.int .i64 cu, .int .i64 cg] 62) := by rw [hW1]; exact Has.new _ _
  obtain ⟨m, hm⟩ : ∃ m, m = l.length := ⟨_, rfl⟩
  have hlen' := hlen
  rw [← hm] at hlen' ⊢
  have HM := Lib.hid hm
  have KF : Hid (Calls Try.prog 29 #[.slice A m cap] W1 (FewR W1 l)) := by show Calls _ _ _ _ _; rw [HM.out]; exact few14_any A l cap W1 (hA.ext E1) hlen
  clear hm
  have hsz : (bs nm).size = nm.length := bs_size nm
  obtain ⟨q, hq⟩ : ∃ q, q = bs nm := ⟨_, rfl⟩
  rw [← hq] at hsz ⊢
  have HQ := Lib.hid hq
  clear hq
  go_enter Try.func6, Try.ntmps6
  go_upto_region 1 with fail
  rw [← hW1]
  clear hW1
  go_wp2_with fail
  refine KF.out.mono ?_
  rintro e w2 ⟨rfl, ⟨hf, rfl⟩ | ⟨hf, rfl⟩⟩
  case inr =>
    clear hf
    go_wp2_with fail
    refine (awake16 _).mono ?_
    rintro e wz ⟨rfl, bz⟩
    go_wp2_with fail
    go_ret
    exact Ret.mk rfl (E1.trans bz)
  by_cases hnm : 300 < (nm.length : Int)
  case pos =>
    clear hf
    go_wp2_with fail
    refine (awake16 _).mono ?_
    rintro e wz ⟨rfl, bz⟩
    go_wp2_with fail
    go_ret
    exact Ret.mk rfl (E1.trans bz)
  have HF := Lib.hid hf
  have HX1 := Lib.hid E1
  have HB1 := Lib.hid B1
  have hG0 := tre_growAll (b := 60000) (n := 60000) (by decide) HF.out
  have hga := good_all (good_first (b := 60000) (n := 60000) (by decide)) l
  have hl40 := HF.out.2
  have KG : Hid (Calls Try.prog 19 #[.int .i64 60000, .int .i64 60000, .slice A m cap] W1 (GrowAllR W1 60000 60000 l)) := by show Calls _ _ _ _ _; rw [HM.out]; exact growAll_any 60000 60000 A l cap W1 (by decide) HF.out (hA.ext E1)
  clear hf KF B1 E1
  go_wp2_with fail
  refine KG.out.mono ?_
  rintro e w3 ⟨g, f, rfl, ⟨K3, F3⟩, E3⟩
  obtain ⟨B, hB⟩ : ∃ B, B = W1.heap.size := ⟨_, rfl⟩
  rw [← hB] at K3 F3
  obtain ⟨S, hS⟩ : ∃ S, S = growAll (firstT 60000 60000) l := ⟨_, rfl⟩
  rw [← hS] at K3 F3
  have hSl : S.last ≤ 41 := by
    have h2 := hga.2
    rw [hS]
    rw [show growAll (rootT emptyT 0 60000 60000) l = growAll (firstT 60000 60000) l from rfl, show (rootT emptyT 0 60000 60000).last = 1 from rfl] at h2
    omega
  have hT0 : Tre 40 S := by rw [hS]; exact hG0
  have hS1 := hT0.last
  have HE3 := Lib.hid E3
  have HT0 := Lib.hid hT0
  have HK3 := Lib.hid K3
  have HF3 := Lib.hid F3
  have HX3 := Lib.hid (HX1.out.trans E3)
  have HB3 := Lib.hid (HB1.out.ext E3)
  have KK : Hid (∀ u, Ext w3 u → WAt u B g S) := fun u h => HK3.out.ext h
  have KFF : Hid (∀ u, Ext w3 u → FAt u B f S x0) := fun u h => HF3.out.ext h
  have hLL : Hid (S.last ≤ 100000) := by show _ ≤ _; omega
  have hNN : Hid (S.nodes.length ≤ 1000000) := by show _ ≤ _; have := hT0.count; omega
  obtain ⟨L, hL⟩ : ∃ L : Int, L = S.last := ⟨_, rfl⟩
  have HC2 : Hid (∀ u, Ext w3 u → u.cell? ⟨f.bF, 2, none⟩ = some (.int .i64 L)) := fun u h => by rw [hL]; obtain ⟨_, cn, ce, h2, _, _⟩ := HF3.out.ext h; exact h2.cell 2
  have HZF : Hid (∀ u, Ext w3 u → f.bF < u.heap.size) := fun u h => by obtain ⟨_, cn, ce, h2, _, _⟩ := HF3.out.ext h; exact h2.lt
  have hL1 : 0 ≤ L ∧ L ≤ 41 := by omega
  clear hS hga hG0 hl40 KG hB hT0 K3 F3 E3 hSl hS1 hL
  go_wp2_with fail
  go_loopw [10] (fun i wr => ∃ k : Int, i = .int .i64 k ∧ -1 ≤ k ∧ k ≤ L + 2 ∧ Ext w3 wr) (fun i _ => (L + 2 - intOf i).toNat)
  case atStart => exact ⟨-1, rfl, by omega, by omega, Ext.refl _⟩
  case round =>
    obtain ⟨k, rfl, hk1, hk2, hE⟩ := hrel
    have c2 := HC2.out _ hE
    have cz := HZF.out _ hE
    have w1w : IntKind.i64.wrap (L + 1) = L + 1 := IntWalk.i64_in _ (by omega)
    have w2w : IntKind.i64.wrap (k + 1) = k + 1 := IntWalk.i64_in _ (by omega)
    by_cases hlt : k ≤ L + 1
    case neg =>
      go_wp2_with fail
      refine (awake16 _).mono ?_
      rintro e wz ⟨rfl, bz⟩
      go_wp2_with fail
      go_ret
      exact Ret.mk rfl (HX3.out.trans (hE.trans bz))
    have hor := HT0.out.openN cu cg k 1 4
    have hml : Hid ((openN S cu cg k 1 4).ents.length ≤ 1000000) := by show _ ≤ _; have := hor.2; omega
    clear hor
    have HE := Lib.hid hE
    clear hE

    obtain ⟨n, hn⟩ : ∃ n, n = getN S.nodes k := ⟨_, rfl⟩
    obtain ⟨se, hse⟩ : ∃ y, y = statE S k := ⟨_, rfl⟩
    obtain ⟨le, hle⟩ : ∃ y, y = openE S cu cg k 1 4 := ⟨_, rfl⟩
    obtain ⟨re, hre⟩ : ∃ y, y = openE S cu cg k 2 4 := ⟨_, rfl⟩
    obtain ⟨te, hte⟩ : ∃ y, y = openE S 0 0 k 3 0 := ⟨_, rfl⟩
    obtain ⟨ke, hke⟩ : ∃ y, y = lookE S cu cg k nm := ⟨_, rfl⟩
    obtain ⟨kn, hkn⟩ : ∃ y, y = lookN S cu cg k nm := ⟨_, rfl⟩
    obtain ⟨rd, hrd⟩ : ∃ y, y = bs (openN S cu cg k 2 4).data := ⟨_, rfl⟩
    obtain ⟨td, htd⟩ : ∃ y, y = bs (openN S 0 0 k 3 0).data := ⟨_, rfl⟩
    obtain ⟨D, hD⟩ : ∃ D, D = listF S (openN S cu cg k 1 4).ents := ⟨_, rfl⟩
    have hDl : Hid (D.length ≤ 1000000) := by show _ ≤ _; rw [hD, listF_len]; exact hml.out
    have C1 : Hid (∀ u, Ext w3 u → Calls Try.prog 37 #[.pointer (some ⟨g.bW, 0, none⟩), .int .i64 k] u (Ret u (.tuple #[.agg #[.int .i64 n.no, .int .i64 n.dev, .int .i64 n.kind, .int .i64 n.mode, .int .i64 n.uid, .int .i64 n.gid, .int .i64 n.links, .int .i64 n.data.length, .int .i64 n.mtime, .int .i64 n.ctime], .int .i64 se]))) := by
      show ∀ u, _
      intro u hu
      rw [hn, hse]
      exact pstat_any B g S k u (KK.out u hu) HT0.out.devs
    have C2 : Hid (∀ u, Ext w3 u → Calls Try.prog 38 #[.pointer (some ⟨f.bF, 0, none⟩), .int .i64 k] u (Ret u (.tuple #[.agg #[.int .i64 n.no, .int .i64 n.dev, .int .i64 n.kind, .int .i64 n.mode, .int .i64 n.uid, .int .i64 n.gid, .int .i64 n.links, .int .i64 n.data.length, .int .i64 n.mtime, .int .i64 n.ctime], .int .i64 se]))) := by
      show ∀ u, _
      intro u hu
      rw [hn, hse]
      exact rstat_any B f S x0 k u (KFF.out u hu) hNN.out HT0.out.nos
    have C3 : Hid (∀ u, Ext w3 u → Calls Try.prog 35 #[.pointer (some ⟨g.bW, 0, none⟩), .agg #[.int .i64 cu, .int .i64 cg], .int .i64 k] u (ListQ u D le)) := by
      show ∀ u, _
      intro u hu
      rw [hD, hle]
      exact plist_any B g S cu cg k u (KK.out u hu) HT0.out (by decide)
    have C4 : Hid (∀ u, Ext w3 u → Calls Try.prog 39 #[.pointer (some ⟨f.bF, 0, none⟩), .agg #[.int .i64 cu, .int .i64 cg], .int .i64 k] u (ListQ u D le)) := by
      show ∀ u, _
      intro u hu
      rw [hD, hle]
      exact rlist_any B f S x0 cu cg k u (KFF.out u hu) hNN.out HT0.out.nos (by have := HT0.out.eight; omega) hml.out
    have C5 : Hid (∀ u, Ext w3 u → Calls Try.prog 40 #[.pointer (some ⟨g.bW, 0, none⟩), .agg #[.int .i64 cu, .int .i64 cg], .int .i64 k] u (Ret u (.tuple #[.string rd, .int .i64 re]))) := by
      show ∀ u, _
      intro u hu
      rw [hrd, hre]
      exact pread_any B g S cu cg k u (KK.out u hu) HT0.out hLL.out
    have C6 : Hid (∀ u, Ext w3 u → Calls Try.prog 41 #[.pointer (some ⟨f.bF, 0, none⟩), .agg #[.int .i64 cu, .int .i64 cg], .int .i64 k] u (Ret u (.tuple #[.string rd, .int .i64 re]))) := by
      show ∀ u, _
      intro u hu
      rw [hrd, hre]
      exact rread_any B f S x0 cu cg k u (KFF.out u hu) HT0.out hLL.out
    have C7 : Hid (∀ u, Ext w3 u → Calls Try.prog 43 #[.pointer (some ⟨g.bW, 0, none⟩), .int .i64 k] u (Ret u (.tuple #[.string td, .int .i64 te]))) := by
      show ∀ u, _
      intro u hu
      rw [htd, hte]
      exact ptarget_any B g S k u (KK.out u hu) HT0.out hLL.out
    have C8 : Hid (∀ u, Ext w3 u → Calls Try.prog 44 #[.pointer (some ⟨f.bF, 0, none⟩), .int .i64 k] u (Ret u (.tuple #[.string td, .int .i64 te]))) := by
      show ∀ u, _
      intro u hu
      rw [htd, hte]
      exact rtarget_any B f S x0 k u (KFF.out u hu) HT0.out hLL.out
    have C9 : Hid (∀ u, Ext w3 u → Calls Try.prog 36 #[.pointer (some ⟨g.bW, 0, none⟩), .agg #[.int .i64 cu, .int .i64 cg], .int .i64 k, .string q] u (Ret u (.tuple #[.int .i64 kn, .int .i64 ke]))) := by
      show ∀ u, _
      intro u hu
      rw [HQ.out, hkn, hke]
      exact plook_any B g S cu cg k nm u (KK.out u hu) HT0.out (by decide) hLL.out
    have C10 : Hid (∀ u, Ext w3 u → Calls Try.prog 45 #[.pointer (some ⟨f.bF, 0, none⟩), .agg #[.int .i64 cu, .int .i64 cg], .int .i64 k, .string q] u (Ret u (.tuple #[.int .i64 kn, .int .i64 ke]))) := by
      show ∀ u, _
      intro u hu
      rw [HQ.out, hkn, hke]
      exact rlook_any B f S x0 cu cg k nm u (KFF.out u hu) HT0.out (by decide) hLL.out
    clear hn hse hle hre hte hke hkn hrd htd hD
    go_wp2_with fail
    refine (C1.out _ HE.out).mono ?_
    rintro e r1 ⟨rfl, Ea⟩
    obtain ⟨s1, hs1⟩ : ∃ W, W = r1.alloc (.cells #[.int .i64 n.no, .int .i64 n.dev, .int .i64 n.kind, .int .i64 n.mode, .int .i64 n.uid, .int .i64 n.gid, .int .i64 n.links, .int .i64 n.data.length, .int .i64 n.mtime, .int .i64 n.ctime] 75) := ⟨_, rfl⟩
    obtain ⟨b1, hb1⟩ : ∃ b, b = r1.heap.size := ⟨_, rfl⟩
    have P1 : Has s1 b1 (.cells #[.int .i64 n.no, .int .i64 n.dev, .int .i64 n.kind, .int .i64 n.mode, .int .i64 n.uid, .int .i64 n.gid, .int .i64 n.links, .int .i64 n.data.length, .int .i64 n.mtime, .int .i64 n.ctime] 75) := by rw [hs1, hb1]; exact Has.new _ _
    have G1 : Ext r1 s1 := by rw [hs1]; exact (Ext.refl _).alloc _
    have X1 := Lib.hid (HE.out.trans (Ea.trans G1))
    clear c2 cz
    go_upto_region 10 with fail
    rw [← hs1, ← hb1]
    clear hs1 hb1 G1 Ea
    go_wp2_with fail
    refine (C2.out _ X1.out).mono ?_
    rintro e r2 ⟨rfl, Ea⟩
    obtain ⟨s2, hs2⟩ : ∃ W, W = r2.alloc (.cells #[.int .i64 n.no, .int .i64 n.dev, .int .i64 n.kind, .int .i64 n.mode, .int .i64 n.uid, .int .i64 n.gid, .int .i64 n.links, .int .i64 n.data.length, .int .i64 n.mtime, .int .i64 n.ctime] 75) := ⟨_, rfl⟩
    obtain ⟨b2, hb2⟩ : ∃ b, b = r2.heap.size := ⟨_, rfl⟩
    have P2 : Has s2 b2 (.cells #[.int .i64 n.no, .int .i64 n.dev, .int .i64 n.kind, .int .i64 n.mode, .int .i64 n.uid, .int .i64 n.gid, .int .i64 n.links, .int .i64 n.data.length, .int .i64 n.mtime, .int .i64 n.ctime] 75) := by rw [hs2, hb2]; exact Has.new _ _
    have G2 : Ext r2 s2 := by rw [hs2]; exact (Ext.refl _).alloc _
    have P1' := P1.ext (Ea.trans G2)
    have X2 := Lib.hid (X1.out.trans (Ea.trans G2))
    go_upto_region 11 with fail
    rw [← hs2, ← hb2]
    clear hs2 hb2 G2 Ea P1
    have BX := HB3.out.ext X2.out
    have c0 := BX.cell 0
    have c1 := BX.cell 1
    have cz := BX.lt
    go_wp2_with fail
    refine (C3.out _ X2.out).mono ?_
    rintro e r3 ⟨A1, k1, rfl, d1, Ea⟩
    have X3 := Lib.hid (X2.out.trans Ea)
    have Y3 := Lib.hid Ea
    clear BX c0 c1 cz Ea
    have BX := HB3.out.ext X3.out
    have c0 := BX.cell 0
    have c1 := BX.cell 1
    have cz := BX.lt
    go_wp2_with fail
    refine (C4.out _ X3.out).mono ?_
    rintro e r4 ⟨A2, k2, rfl, d2, Ea⟩
    have d1' := d1.ext Ea
    have X4 := Lib.hid (X3.out.trans Ea)
    have Y4 := Lib.hid (Y3.out.trans Ea)
    clear BX c0 c1 cz Ea d1
    have BX := HB3.out.ext X4.out
    have c0 := BX.cell 0
    have c1 := BX.cell 1
    have cz := BX.lt
    go_wp2_with fail
    refine (C5.out _ X4.out).mono ?_
    rintro e r5 ⟨rfl, Ea⟩
    have X5 := Lib.hid (X4.out.trans Ea)
    have Y5 := Lib.hid (Y4.out.trans Ea)
    have U5 := Lib.hid Ea
    clear BX c0 c1 cz Ea
    have BX := HB3.out.ext X5.out
    have c0 := BX.cell 0
    have c1 := BX.cell 1
    have cz := BX.lt
    go_wp2_with fail
    refine (C6.out _ X5.out).mono ?_
    rintro e r6 ⟨rfl, Ea⟩
    have X6 := Lib.hid (X5.out.trans Ea)
    have Y6 := Lib.hid (Y5.out.trans Ea)
    have U6 := Lib.hid (U5.out.trans Ea)
    have Q1 := P1'.ext Y6.out
    have Q2 := P2.ext Y6.out
    have KS : Hid (Calls Try.prog 42 #[.slice A1 D.length k1, .slice A2 D.length k2] r6 (Ret r6 (.bool true))) := same16_any A1 A2 k1 k2 D r6 (d1'.ext U6.out) (d2.ext U6.out) hDl.out
    clear BX c0 c1 cz Ea d1' d2 P1' P2
    go_wp2_with (first | (refine wpList_load_stat rfl _ rfl b1 n rfl Q1 ?_) | (refine wpList_load_stat rfl _ rfl b2 n rfl Q2 ?_))
    refine KS.out.mono ?_
    rintro e r7 ⟨rfl, Ea⟩
    have X7 := Lib.hid (X6.out.trans Ea)
    clear Ea Q1 Q2
    go_wp2_with fail
    refine (C7.out _ X7.out).mono ?_
    rintro e r8 ⟨rfl, Ea⟩
    have X8 := Lib.hid (X7.out.trans Ea)
    clear Ea
    go_wp2_with fail
    refine (C8.out _ X8.out).mono ?_
    rintro e r9 ⟨rfl, Ea⟩
    have X9 := Lib.hid (X8.out.trans Ea)
    clear Ea
    have BX := HB3.out.ext X9.out
    have c0 := BX.cell 0
    have c1 := BX.cell 1
    have cz := BX.lt
    go_wp2_with fail
    refine (C9.out _ X9.out).mono ?_
    rintro e r10 ⟨rfl, Ea⟩
    have X10 := Lib.hid (X9.out.trans Ea)
    clear Ea BX c0 c1 cz
    have BX := HB3.out.ext X10.out
    have c0 := BX.cell 0
    have c1 := BX.cell 1
    have cz := BX.lt
    go_wp2_with fail
    refine (C10.out _ X10.out).mono ?_
    rintro e r11 ⟨rfl, Ea⟩
    have X11 := Lib.hid (X10.out.trans Ea)
    clear Ea BX c0 c1 cz
    go_wp2_with fail
    go_roundw
    case rel => exact ⟨k + 1, by go_num, by omega, by omega, X11.out⟩
    case measure => simp [intOf]; omega
set_option maxRecDepth 100000 in
theorem peekTells_walk {H : Type} {enc : TypeId × Value → H} (W : World) (base : Nat) (v0 v1 v2 : Value) (d0 d1 d2 : DataW H) (p0 p1 p2 : List MemPlace)
    (k0 : Value.okWide Try.prog W .any base 24 v0) (h0 : DataW.Trod enc Try.prog W 0 (fun _ => true) true 24 v0 d0 p0)
    (k1 : Value.okWide Try.prog W .any base 62 v1) (h1 : DataW.Trod enc Try.prog W 0 (fun _ => true) true 62 v1 d1 p1)
    (k2 : Value.okWide Try.prog W .any base 9 v2) (h2 : DataW.Trod enc Try.prog W 0 (fun _ => true) true 9 v2 d2 p2)
    : Calls Try.prog 6 #[v0, v1, v2] W (Ret W (.bool true)) := by
  obtain ⟨A, l, cap, rfl, hA, _, hl, hc⟩ := open_Items k0 h0
  obtain ⟨x, rfl⟩ := open_Cred k1 h1
  obtain ⟨a2, rfl, rfl, rfl, w2⟩ := Go.ChangeMaps.open_string Try.underlying9 k2 h2
  have := peekTells_any A l cap x.1 x.2 a2.data.toList W hA (by unfold maxLen at hc; omega)
  rwa [show bs a2.data.toList = a2 from rfl] at this
end Go.Proofs.Ytebghednhjaniaa
