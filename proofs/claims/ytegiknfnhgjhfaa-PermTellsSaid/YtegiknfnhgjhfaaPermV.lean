/- Layer 10: the walks of the laws PermLess and PermTells, from what comes in. -/
import Derived.Test.YtegiknfnhgjhfaaPermL
import Derived.Deep.RegionHeld3
namespace Go.Proofs.Ytegiknfnhgjhfaa
open Go.ChangeShapes Go.WideShapes Go.ChangeAt Go.RowKit

theorem held2 {w0 w w' : World} {b1 b2 : Nat} {C1 C2 : Array Value} {t1 t2 : TypeId}
    (hb : Ext w w')
    (h : (Has w b1 (.cells C1 t1) ∧ Has w b2 (.cells C2 t2) ∧ Ext w0 w) ∧ (∀ i, w.cell? ⟨b1, i, none⟩ = C1[i]?) ∧ (∀ i, w.cell? ⟨b2, i, none⟩ = C2[i]?)) :
    (Has w' b1 (.cells C1 t1) ∧ Has w' b2 (.cells C2 t2) ∧ Ext w0 w') ∧ (∀ i, w'.cell? ⟨b1, i, none⟩ = C1[i]?) ∧ (∀ i, w'.cell? ⟨b2, i, none⟩ = C2[i]?) := by
  obtain ⟨⟨hA, hB, hX⟩, _, _⟩ := h
  exact ⟨⟨hA.ext hb, hB.ext hb, hX.trans hb⟩, fun i => (hA.ext hb).cell i, fun i => (hB.ext hb).cell i⟩
theorem permLess_walk {H : Type} {enc : TypeId × Value → H} (W : World) (base : Nat) (v0 v1 v2 : Value) (d0 d1 d2 : DataW H) (p0 p1 p2 : List MemPlace)
    (k0 : Value.okWide Try.prog W .any base 27 v0) (h0 : DataW.Trod enc Try.prog W 0 (fun _ => true) true 27 v0 d0 p0)
    (k1 : Value.okWide Try.prog W .any base 30 v1) (h1 : DataW.Trod enc Try.prog W 0 (fun _ => true) true 30 v1 d1 p1)
    (k2 : Value.okWide Try.prog W .any base 31 v2) (h2 : DataW.Trod enc Try.prog W 0 (fun _ => true) true 31 v2 d2 p2)
    : Calls Try.prog 4 #[v0, v1, v2] W (Ret W (.bool true)) := by
  obtain ⟨u, g, rfl⟩ := open_cred k0 h0
  obtain ⟨no, dev, kind, mode, o, gr, mt, ct, ln, up, dat, sa, sl, sc, rfl⟩ := open_node k1 h1
  obtain ⟨l0, l1, l2, rfl⟩ := open_three k2 h2
  exact permLess_core u g no dev kind mode o gr mt ct ln up dat sa sl sc l0 l1 l2 W

set_option maxRecDepth 100000 in
set_option maxHeartbeats 4000000 in
theorem permTells_core (u g : Int) (no1 dev1 kind1 mode1 o1 gr1 mt1 ct1 ln1 up1 : Int) (dat1 : ByteArray) (sa1 : Option Addr) (sl1 sc1 : Nat) (no2 dev2 kind2 mode2 o2 gr2 mt2 ct2 ln2 up2 : Int) (dat2 : ByteArray) (sa2 : Option Addr) (sl2 sc2 : Nat) (want : Int) (w : World) :
    Calls Try.prog 5 #[.agg #[.int .i64 u, .int .i64 g], .agg #[.int .i64 no1, .int .i64 dev1, .int .i64 kind1, .int .i64 mode1, .int .i64 o1, .int .i64 gr1, .int .i64 mt1, .int .i64 ct1, .int .i64 ln1, .int .i64 up1, .string dat1, .slice sa1 sl1 sc1, .int .i64 no2, .int .i64 dev2, .int .i64 kind2, .int .i64 mode2, .int .i64 o2, .int .i64 gr2, .int .i64 mt2, .int .i64 ct2, .int .i64 ln2, .int .i64 up2, .string dat2, .slice sa2 sl2 sc2], .int .i64 want] w (Ret w (.bool true)) := by
  obtain ⟨W0, hW0⟩ : ∃ W0, W0 = (w.alloc (.cells #[.int .i64 u, .int .i64 g] 27)).alloc (.cells #[.int .i64 no1, .int .i64 dev1, .int .i64 kind1, .int .i64 mode1, .int .i64 o1, .int .i64 gr1, .int .i64 mt1, .int .i64 ct1, .int .i64 ln1, .int .i64 up1, .string dat1, .slice sa1 sl1 sc1, .int .i64 no2, .int .i64 dev2, .int .i64 kind2, .int .i64 mode2, .int .i64 o2, .int .i64 gr2, .int .i64 mt2, .int .i64 ct2, .int .i64 ln2, .int .i64 up2, .string dat2, .slice sa2 sl2 sc2] 34) := ⟨_, rfl⟩
  have A1 : Has W0 w.heap.size (.cells #[.int .i64 u, .int .i64 g] 27) := by rw [hW0]; exact (Has.new _ _).alloc _
  have B1 : Has W0 (w.heap.size + 1) (.cells #[.int .i64 no1, .int .i64 dev1, .int .i64 kind1, .int .i64 mode1, .int .i64 o1, .int .i64 gr1, .int .i64 mt1, .int .i64 ct1, .int .i64 ln1, .int .i64 up1, .string dat1, .slice sa1 sl1 sc1, .int .i64 no2, .int .i64 dev2, .int .i64 kind2, .int .i64 mode2, .int .i64 o2, .int .i64 gr2, .int .i64 mt2, .int .i64 ct2, .int .i64 ln2, .int .i64 up2, .string dat2, .slice sa2 sl2 sc2] 34) := by rw [hW0]; have := Has.new (w.alloc (.cells #[.int .i64 u, .int .i64 g] 27)) (.cells #[.int .i64 no1, .int .i64 dev1, .int .i64 kind1, .int .i64 mode1, .int .i64 o1, .int .i64 gr1, .int .i64 mt1, .int .i64 ct1, .int .i64 ln1, .int .i64 up1, .string dat1, .slice sa1 sl1 sc1, .int .i64 no2, .int .i64 dev2, .int .i64 kind2, .int .i64 mode2, .int .i64 o2, .int .i64 gr2, .int .i64 mt2, .int .i64 ct2, .int .i64 ln2, .int .i64 up2, .string dat2, .slice sa2 sl2 sc2] 34); rwa [World.size_alloc] at this
  have X1 : Ext w W0 := by rw [hW0]; exact ((Ext.refl _).alloc _).alloc _
  go_enter Try.func5, Try.ntmps5
  go_wp2_with fail
  simp only [List.append_eq, List.cons_append, List.nil_append]
  rw [← hW0]
  clear hW0
  go_region_held3 (fun w' => (Has w' w.heap.size (.cells #[.int .i64 u, .int .i64 g] 27) ∧ Has w' (w.heap.size + 1) (.cells #[.int .i64 no1, .int .i64 dev1, .int .i64 kind1, .int .i64 mode1, .int .i64 o1, .int .i64 gr1, .int .i64 mt1, .int .i64 ct1, .int .i64 ln1, .int .i64 up1, .string dat1, .slice sa1 sl1 sc1, .int .i64 no2, .int .i64 dev2, .int .i64 kind2, .int .i64 mode2, .int .i64 o2, .int .i64 gr2, .int .i64 mt2, .int .i64 ct2, .int .i64 ln2, .int .i64 up2, .string dat2, .slice sa2 sl2 sc2] 34) ∧ Ext w w') ∧ (∀ i, w'.cell? ⟨w.heap.size, i, none⟩ = (#[.int .i64 u, .int .i64 g] : Array Value)[i]?) ∧ (∀ i, w'.cell? ⟨w.heap.size + 1, i, none⟩ = (#[.int .i64 no1, .int .i64 dev1, .int .i64 kind1, .int .i64 mode1, .int .i64 o1, .int .i64 gr1, .int .i64 mt1, .int .i64 ct1, .int .i64 ln1, .int .i64 up1, .string dat1, .slice sa1 sl1 sc1, .int .i64 no2, .int .i64 dev2, .int .i64 kind2, .int .i64 mode2, .int .i64 o2, .int .i64 gr2, .int .i64 mt2, .int .i64 ct2, .int .i64 ln2, .int .i64 up2, .string dat2, .slice sa2 sl2 sc2] : Array Value)[i]?))
    ((first
      | exact ⟨⟨A1.ext ((Ext.refl _).drew), B1.ext ((Ext.refl _).drew), X1.drew⟩, fun i => (A1.ext ((Ext.refl _).drew)).cell i, fun i => (B1.ext ((Ext.refl _).drew)).cell i⟩
      | (refine held2 hb ?_; assumption)))
    ((first
      | (go_at_call 16; refine (pfine_any _ _ _).mono ?_; rintro e w1 ⟨rfl, hb⟩)
      | (go_at_call 17; refine (rfine_any _ _ _).mono ?_; rintro e w1 ⟨rfl, hb⟩)
      | (go_at_call 15; refine (pnode_any _ _ _ _ _ _ _ _ _ _ _ _ _ _ _ _).mono ?_; rintro e w1 ⟨rfl, hb⟩)
      | (go_at_call 18; refine (rnode_any _ _ _ _ _ _ _ _ _ _ _ _ _ _ _ _).mono ?_; rintro e w1 ⟨rfl, hb⟩)
      | (go_at_call 19; refine (may_any _ _ _ _ _ _ _).mono ?_; rintro e w1 ⟨rfl, hb⟩)
      | (go_at_call 20; refine (powns_any _ _ _ _ _ _ _ _ _ _ _ _ _ _ _).mono ?_; rintro e w1 ⟨rfl, hb⟩)
      | (go_at_call 21; refine (rowns_any _ _ _ _ _ _ _ _ _ _ _ _ _ _ _).mono ?_; rintro e w1 ⟨rfl, hb⟩)
      | (go_at_call 22; refine (pfree_any _ _ _ _ _ _ _ _ _ _ _ _ _ _ _ _ _ _ _ _ _ _ _ _ _ _ _).mono ?_; rintro e w1 ⟨rfl, hb⟩)
      | (go_at_call 23; refine (rfree_any _ _ _ _ _ _ _ _ _ _ _ _ _ _ _ _ _ _ _ _ _ _ _ _ _ _ _).mono ?_; rintro e w1 ⟨rfl, hb⟩)
      | (go_at_call 13; refine (text_any _ _ _).mono ?_; rintro e w1 ⟨rfl, hb⟩)
      | (go_at_call 24; refine (rtext_any _ _ _).mono ?_; rintro e w1 ⟨rfl, hb⟩)
      | (go_at_call 14; refine (awake10 _).mono ?_; rintro e w1 ⟨rfl, hb⟩)))
  go_wp2_with fail
  go_ret
  refine Ret.mk rfl ?_
  repeat (refine Ext.trans ?_ (by assumption))
  exact X1.drew
theorem permTells_walk {H : Type} {enc : TypeId × Value → H} (W : World) (base : Nat) (v0 v1 v2 : Value) (d0 d1 d2 : DataW H) (p0 p1 p2 : List MemPlace)
    (k0 : Value.okWide Try.prog W .any base 27 v0) (h0 : DataW.Trod enc Try.prog W 0 (fun _ => true) true 27 v0 d0 p0)
    (k1 : Value.okWide Try.prog W .any base 34 v1) (h1 : DataW.Trod enc Try.prog W 0 (fun _ => true) true 34 v1 d1 p1)
    (k2 : Value.okWide Try.prog W .any base 3 v2) (h2 : DataW.Trod enc Try.prog W 0 (fun _ => true) true 3 v2 d2 p2)
    : Calls Try.prog 5 #[v0, v1, v2] W (Ret W (.bool true)) := by
  obtain ⟨u, g, rfl⟩ := open_cred k0 h0
  obtain ⟨no1, dev1, kind1, mode1, o1, gr1, mt1, ct1, ln1, up1, dat1, sa1, sl1, sc1, no2, dev2, kind2, mode2, o2, gr2, mt2, ct2, ln2, up2, dat2, sa2, sl2, sc2, rfl⟩ := open_two_nodes k1 h1
  obtain ⟨want, rfl, rfl, rfl, _⟩ := open_int Try.underlying3 k2 h2
  exact permTells_core u g no1 dev1 kind1 mode1 o1 gr1 mt1 ct1 ln1 up1 dat1 sa1 sl1 sc1 no2 dev2 kind2 mode2 o2 gr2 mt2 ct2 ln2 up2 dat2 sa2 sl2 sc2 want W
end Go.Proofs.Ytegiknfnhgjhfaa
