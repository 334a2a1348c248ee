/- Layer 17: the reference's Place and come. (Printed by gen_refa.py.) | Layer 17: the reference's Dir, File, Sym. (Printed by gen_refb.py.) | Layer 17: the reference's Hard. (Printed by gen_refb.py.) -/
import Derived.Test.YtebghednhjaniaaGreatBunI
import Derived.Test.YtebghednhjaniaaGreatBunD
import Derived.Test.YtebghednhjaniaaGreatBunC
namespace Go.Proofs.YtebghednhjaniaaGreat
open Go.ChangeShapes Go.WideShapes Go.ChangeAt Go.RowKit

theorem rchecks_any (nm : List UInt8) (w : World) (h : nm.length ≤ 1000000) : Calls Tryz.prog 87 #[.string (bs nm)] w (Ret w (.int .i64 (checkN nm))) := by
  have := rcheck_any (bs nm) (by rw [bs_size]; exact h) w
  rw [bs_list] at this
  exact this
set_option maxRecDepth 100000 in
set_option maxHeartbeats 8000000 in
theorem rplace_any (B : Nat) (g : GhF) (S : TreeD) (X : Xtra) (cu cg dir : Int) (nm : List UInt8) (w : World) (h : FAt w B g S X) (hl : S.nodes.length ≤ 1000000) (hu : NosUp S.nodes S.last) (hnm : nm.length ≤ 1000000) :
    Calls Tryz.prog 42 #[.pointer (some ⟨g.bF, 0, none⟩), .agg #[.int .i64 cu, .int .i64 cg], .int .i64 dir, .string (bs nm)] w (PlaceQ w B S cu cg dir nm) := by
  have h0 := h
  have E0 : Ext w ((w.alloc (.cells #[.int .i64 cu, .int .i64 cg] 40)).alloc (.cells #[.int .i64 0, .int .i64 0, .int .i64 0, .int .i64 0, .int .i64 0, .int .i64 0, .int .i64 0, .int .i64 0, .int .i64 0, .int .i64 0, .string ⟨#[]⟩, .slice none 0 0] 49)) := ((Ext.refl _).alloc _).alloc _
  go_enter Tryz.func42, Tryz.ntmps42
  go_wp2_with fail
  have b1 := Ext.refl ((w.alloc (.cells #[.int .i64 cu, .int .i64 cg] 40)).alloc (.cells #[.int .i64 0, .int .i64 0, .int .i64 0, .int .i64 0, .int .i64 0, .int .i64 0, .int .i64 0, .int .i64 0, .int .i64 0, .int .i64 0, .string ⟨#[]⟩, .slice none 0 0] 49))
  have E1 := E0
  have R0 := Has.new (w.alloc (.cells #[.int .i64 cu, .int .i64 cg] 40)) (.cells #[.int .i64 nodeZ.no, .int .i64 nodeZ.dev, .int .i64 nodeZ.kind, .int .i64 nodeZ.mode, .int .i64 nodeZ.uid, .int .i64 nodeZ.gid, .int .i64 nodeZ.mtime, .int .i64 nodeZ.ctime, .int .i64 nodeZ.links, .int .i64 nodeZ.up, .string (bs nodeZ.data), .slice none nodeZ.ents.length 0] 49)
  rw [World.size_alloc] at R0
  have R1 := R0.ext b1
  have C1 := ((Has.new w (.cells #[.int .i64 cu, .int .i64 cg] 40)).alloc (.cells #[.int .i64 0, .int .i64 0, .int .i64 0, .int .i64 0, .int .i64 0, .int .i64 0, .int .i64 0, .int .i64 0, .int .i64 0, .int .i64 0, .string ⟨#[]⟩, .slice none 0 0] 49)).ext b1
  refine (rget_any B g S X dir _ (h.ext E1) hl hu).mono ?_
  rintro e w2 ⟨A2, k2, rfl, ok2, b2⟩
  have R2 := R1.ext b2
  have C2 := C1.ext b2
  have hm : Hid (placeE S cu cg dir nm = if isN S.nodes dir = false then 5 else if ¬ (getN S.nodes dir).kind = 1 then 9 else if ¬ checkN nm = 0 then checkN nm
    else if mayB cu cg (getN S.nodes dir).uid (getN S.nodes dir).gid (getN S.nodes dir).mode 3 = false then 6 else 0) := by show _ = _; rfl
  have hm2 : Hid (placeN S cu cg dir nm = if placeE S cu cg dir nm = 0 then getN S.nodes dir else nodeZ) := by show _ = _; rfl
  have hnz : Hid (((getN S.nodes dir).no == 0) = !isN S.nodes dir) := by
    refine Lib.hid ?_
    cases hi : isN S.nodes dir
    · rw [(isN_false hi).1]; rfl
    · have h1 := (hu.2 _ (isN_true hi).2.2).1
      simp; omega
  obtain ⟨m, hmm⟩ : ∃ m, m = getN S.nodes dir := ⟨_, rfl⟩
  rw [← hmm] at ok2 hm hm2 hnz ⊢
  obtain ⟨W3, hW3⟩ : ∃ W3, W3 = w2.alloc (.cells #[.int .i64 m.no, .int .i64 m.dev, .int .i64 m.kind, .int .i64 m.mode, .int .i64 m.uid, .int .i64 m.gid, .int .i64 m.mtime, .int .i64 m.ctime, .int .i64 m.links, .int .i64 m.up, .string (bs m.data), .slice A2 m.ents.length k2] 49) := ⟨_, rfl⟩
  have E23 : Ext w2 W3 := by rw [hW3]; exact (Ext.refl _).alloc _
  have N3 : Has W3 w2.heap.size (.cells #[.int .i64 m.no, .int .i64 m.dev, .int .i64 m.kind, .int .i64 m.mode, .int .i64 m.uid, .int .i64 m.gid, .int .i64 m.mtime, .int .i64 m.ctime, .int .i64 m.links, .int .i64 m.up, .string (bs m.data), .slice A2 m.ents.length k2] 49) := by rw [hW3]; exact Has.new _ _
  have R3 := R2.ext E23
  have C3 := C2.ext E23
  have E3 : Ext w W3 := (E1.trans b2).trans E23
  obtain ⟨b8, hb8⟩ : ∃ b8, b8 = w2.heap.size := ⟨_, rfl⟩
  obtain ⟨i, hi⟩ : ∃ i, i = isN S.nodes dir := ⟨_, rfl⟩
  rw [← hi] at hm hnz
  clear hmm hi R1 C1 R2 C2
  go_upto_region 2 with fail
  rw [← hW3]
  rw [← hb8] at N3 ⊢
  have ok3 := ok2.ext E23
  clear hW3 hb8 E23
  have HS : Hid (∀ (w5 w6 : World) (x : Int), Ext w w5 → Only [w.heap.size + 1] w5 w6 → placeE S cu cg dir nm = x → x ≠ 0 → PlaceQ w B S cu cg dir nm (.returned (.tuple #[.agg #[.int .i64 nodeZ.no, .int .i64 nodeZ.dev, .int .i64 nodeZ.kind, .int .i64 nodeZ.mode, .int .i64 nodeZ.uid, .int .i64 nodeZ.gid, .int .i64 nodeZ.mtime, .int .i64 nodeZ.ctime, .int .i64 nodeZ.links, .int .i64 nodeZ.up, .string (bs nodeZ.data), .slice none nodeZ.ents.length 0], .int .i64 x])) w6) := by
    show ∀ (w5 w6 : World) (x : Int), _
    intro w5 w6 x hE hO hx hx0
    have hN : placeN S cu cg dir nm = nodeZ := by rw [hm2.out, if_neg (by rw [hx]; exact hx0)]
    exact ⟨none, 0, by rw [hx, hN], by rw [hN]; exact NodeOk.zero _ _, hO.after hE (by simp)⟩
  have k0' : W3.cell? ⟨b8, 0, none⟩ = some (.int .i64 m.no) := N3.cell 0
  have k2' : W3.cell? ⟨b8, 2, none⟩ = some (.int .i64 m.kind) := N3.cell 2
  have kz := N3.lt
  cases i
  · have hE : Hid (placeE S cu cg dir nm = 5) := by show _ = _; rw [hm.out]; rfl
    have tn : (m.no == 0) = true := hnz.out
    clear hm
    go_wp2_with (refine wpList_store_node rfl _ _ rfl (w.heap.size + 1) nodeZ none 0 rfl rfl R3 ?_; intro w9 R9 O9)
    refine bodyPost_ret (v := .tuple #[.agg #[.int .i64 nodeZ.no, .int .i64 nodeZ.dev, .int .i64 nodeZ.kind, .int .i64 nodeZ.mode, .int .i64 nodeZ.uid, .int .i64 nodeZ.gid, .int .i64 nodeZ.mtime, .int .i64 nodeZ.ctime, .int .i64 nodeZ.links, .int .i64 nodeZ.up, .string (bs nodeZ.data), .slice none nodeZ.ents.length 0], .int .i64 5]) (res_node Tryz.results42 _ _ (w.heap.size + 1) nodeZ none 0 _ rfl rfl R9) rfl ?_
    exact HS.out _ _ _ E3 O9 hE.out (by decide)
  have tn : (m.no == 0) = false := hnz.out
  by_cases c1 : m.kind = 1
  case neg =>
    have t1 : (m.kind == 1) = false := by simpa using c1
    have t1b : (m.kind != 1) = true := by simpa using c1
    have hE : Hid (placeE S cu cg dir nm = 9) := by show _ = _; rw [hm.out, if_neg (by decide), if_pos c1]
    clear hm c1
    go_wp2_with (refine wpList_store_node rfl _ _ rfl (w.heap.size + 1) nodeZ none 0 rfl rfl R3 ?_; intro w9 R9 O9)
    refine bodyPost_ret (v := .tuple #[.agg #[.int .i64 nodeZ.no, .int .i64 nodeZ.dev, .int .i64 nodeZ.kind, .int .i64 nodeZ.mode, .int .i64 nodeZ.uid, .int .i64 nodeZ.gid, .int .i64 nodeZ.mtime, .int .i64 nodeZ.ctime, .int .i64 nodeZ.links, .int .i64 nodeZ.up, .string (bs nodeZ.data), .slice none nodeZ.ents.length 0], .int .i64 9]) (res_node Tryz.results42 _ _ (w.heap.size + 1) nodeZ none 0 _ rfl rfl R9) rfl ?_
    exact HS.out _ _ _ E3 O9 hE.out (by decide)
  have t1 : (m.kind == 1) = true := by simpa using c1
  have t1b : (m.kind != 1) = false := by simpa using c1
  have hma : Hid (placeE S cu cg dir nm = if ¬ checkN nm = 0 then checkN nm else if mayB cu cg m.uid m.gid m.mode 3 = false then 6 else 0) := by show _ = _; rw [hm.out, if_neg (by decide), if_neg (by simpa using c1)]
  clear hm c1
  go_wp2_with fail
  refine (rchecks_any nm _ hnm).mono ?_
  rintro e w4 ⟨rfl, b4⟩
  have R4 := R3.ext b4
  have N4 := N3.ext b4
  have C4 := C3.ext b4
  have E4 := E3.trans b4
  have ok4 := ok3.ext b4
  obtain ⟨v, hv⟩ : ∃ v, v = checkN nm := ⟨_, rfl⟩
  rw [← hv] at hma ⊢
  clear hv k0' k2' kz R3 N3 C3
  by_cases hv0 : v = 0
  case neg =>
    have tv : (v == 0) = false := by simpa using hv0
    have tvb : (v != 0) = true := by simpa using hv0
    have hE : Hid (placeE S cu cg dir nm = v) := by show _ = _; rw [hma.out, if_pos hv0]
    have HV0 := Lib.hid hv0
    clear hma hv0
    go_wp2_with (refine wpList_store_node rfl _ _ rfl (w.heap.size + 1) nodeZ none 0 rfl rfl R4 ?_; intro w9 R9 O9)
    refine bodyPost_ret (v := .tuple #[.agg #[.int .i64 nodeZ.no, .int .i64 nodeZ.dev, .int .i64 nodeZ.kind, .int .i64 nodeZ.mode, .int .i64 nodeZ.uid, .int .i64 nodeZ.gid, .int .i64 nodeZ.mtime, .int .i64 nodeZ.ctime, .int .i64 nodeZ.links, .int .i64 nodeZ.up, .string (bs nodeZ.data), .slice none nodeZ.ents.length 0], .int .i64 v]) (res_node Tryz.results42 _ _ (w.heap.size + 1) nodeZ none 0 _ rfl rfl R9) rfl ?_
    exact HS.out _ _ _ E4 O9 hE.out HV0.out
  have tv : (v == 0) = true := by simpa using hv0
  have tvb : (v != 0) = false := by simpa using hv0
  obtain ⟨u, hu'⟩ : ∃ u, u = mayB cu cg m.uid m.gid m.mode 3 := ⟨_, rfl⟩
  have hm3 : Hid (placeE S cu cg dir nm = if u = false then 6 else 0) := by show _ = _; rw [hma.out, if_neg (by simpa using hv0), hu']
  have HU := Lib.hid hu'
  have x0 : w4.cell? ⟨w.heap.size, 0, none⟩ = some (.int .i64 cu) := C4.cell 0
  have x1 : w4.cell? ⟨w.heap.size, 1, none⟩ = some (.int .i64 cg) := C4.cell 1
  have xz := C4.lt
  clear hma hu' hv0
  go_wp2_with (refine wpList_load_node rfl _ rfl b8 m A2 k2 rfl N4 ?_)
  refine (rnode_any cu cg _ _ _ m.mode m.uid m.gid _ _ _ _ _ _ 3 _).mono ?_
  rw [← HU.out]
  rintro e w5 ⟨rfl, b5⟩
  have R5 := R4.ext b5
  have N5 := N4.ext b5
  have E5 := E4.trans b5
  clear x0 x1 xz R4 N4
  cases u
  · have hE : Hid (placeE S cu cg dir nm = 6) := by show _ = _; rw [hm3.out]; rfl
    clear hm3
    go_wp2_with (refine wpList_store_node rfl _ _ rfl (w.heap.size + 1) nodeZ none 0 rfl rfl R5 ?_; intro w9 R9 O9)
    refine bodyPost_ret (v := .tuple #[.agg #[.int .i64 nodeZ.no, .int .i64 nodeZ.dev, .int .i64 nodeZ.kind, .int .i64 nodeZ.mode, .int .i64 nodeZ.uid, .int .i64 nodeZ.gid, .int .i64 nodeZ.mtime, .int .i64 nodeZ.ctime, .int .i64 nodeZ.links, .int .i64 nodeZ.up, .string (bs nodeZ.data), .slice none nodeZ.ents.length 0], .int .i64 6]) (res_node Tryz.results42 _ _ (w.heap.size + 1) nodeZ none 0 _ rfl rfl R9) rfl ?_
    exact HS.out _ _ _ E5 O9 hE.out (by decide)
  · have hE : Hid (placeE S cu cg dir nm = 0) := by show _ = _; rw [hm3.out]; rfl
    have hN : Hid (placeN S cu cg dir nm = m) := by show _ = _; rw [hm2.out, hE.out]; rfl
    clear hm3
    go_wp2_with (first | (refine wpList_load_node rfl _ rfl b8 m A2 k2 rfl N5 ?_) | (refine wpList_store_node rfl _ _ rfl (w.heap.size + 1) m A2 k2 rfl rfl R5 ?_; intro w6 R6 O6))
    refine bodyPost_ret (v := .tuple #[.agg #[.int .i64 m.no, .int .i64 m.dev, .int .i64 m.kind, .int .i64 m.mode, .int .i64 m.uid, .int .i64 m.gid, .int .i64 m.mtime, .int .i64 m.ctime, .int .i64 m.links, .int .i64 m.up, .string (bs m.data), .slice A2 m.ents.length k2], .int .i64 0]) (res_node Tryz.results42 _ _ (w.heap.size + 1) m A2 k2 _ rfl rfl R6) rfl ?_
    have ok6 : NodeOk w6 B m A2 k2 := ((ok4.ext b5).only O6 (by
      intro b hb
      rw [List.mem_singleton] at hb
      subst hb
      exact ⟨by have := h0.1; have := h0.lt.1; omega, R5.noTag (by decide)⟩))
    exact ⟨A2, k2, by rw [hE.out, hN.out], by rw [hN.out]; exact ok6, O6.after E5 (by simp)⟩
def NoF (w : World) (B : Nat) (g : GhF) (T : TreeD) (X : Xtra) (a x : Int) (e : Ending) (w' : World) : Prop := e = .returned (.tuple #[.int .i64 a, .int .i64 x]) ∧ ∃ g2, FAt w' B g2 T X ∧ Only g.list w w' ∧ GhF.on g2 g w
theorem noF_same {w w' : World} {B : Nat} {g : GhF} {S : TreeD} {X : Xtra} {cu cg dir x : Int} {nm : List UInt8} {n : NodeD} (h : FAt w B g S X) (hE : Ext w w') (hx : comeE S cu cg X.now dir nm n = x) (h0 : x ≠ 0) : NoF w B g (comeT S cu cg X.now dir nm n) X (comeN S cu cg X.now dir nm n) (comeE S cu cg X.now dir nm n) (.returned (.tuple #[.int .i64 0, .int .i64 x])) w' := by
  refine ⟨?_, g, ?_, Only.of_ext hE, GhF.on_refl _ _⟩
  · unfold comeN; rw [hx, if_neg h0]
  · unfold comeT; rw [hx, if_neg h0]; exact h.ext hE
set_option maxRecDepth 100000 in
set_option maxHeartbeats 8000000 in
theorem rcome_any (B : Nat) (g : GhF) (S : TreeD) (X : Xtra) (cu cg dir : Int) (nm : List UInt8) (n : NodeD) (A : Option Addr) (c : Nat) (w : World) (h : FAt w B g S X) (O : Ok S) (hl1 : S.last ≤ 100000) (hn : NodeOk w B n A c) (hdl : n.data.length ≤ 1000000000) (hnm : nm.length ≤ 1000000) :
    Calls Tryz.prog 92 #[.pointer (some ⟨g.bF, 0, none⟩), .agg #[.int .i64 cu, .int .i64 cg], .int .i64 dir, .string (bs nm), .agg #[.int .i64 n.no, .int .i64 n.dev, .int .i64 n.kind, .int .i64 n.mode, .int .i64 n.uid, .int .i64 n.gid, .int .i64 n.mtime, .int .i64 n.ctime, .int .i64 n.links, .int .i64 n.up, .string (bs n.data), .slice A n.ents.length c]] w (NoF w B g (comeT S cu cg X.now dir nm n) X (comeN S cu cg X.now dir nm n) (comeE S cu cg X.now dir nm n)) := by
  obtain ⟨W0, hW0⟩ : ∃ W0, W0 = (w.alloc (.cells #[.int .i64 cu, .int .i64 cg] 40)).alloc (.cells #[.int .i64 n.no, .int .i64 n.dev, .int .i64 n.kind, .int .i64 n.mode, .int .i64 n.uid, .int .i64 n.gid, .int .i64 n.mtime, .int .i64 n.ctime, .int .i64 n.links, .int .i64 n.up, .string (bs n.data), .slice A n.ents.length c] 49) := ⟨_, rfl⟩
  have E0 : Ext w W0 := by rw [hW0]; exact ((Ext.refl _).alloc _).alloc _
  obtain ⟨b7, hb7⟩ : ∃ b, b = w.heap.size := ⟨_, rfl⟩
  have C0 : Has W0 b7 (.cells #[.int .i64 cu, .int .i64 cg] 40) := by rw [hW0, hb7]; exact (Has.new w _).alloc _
  have N0 : Has W0 (b7 + 1) (.cells #[.int .i64 n.no, .int .i64 n.dev, .int .i64 n.kind, .int .i64 n.mode, .int .i64 n.uid, .int .i64 n.gid, .int .i64 n.mtime, .int .i64 n.ctime, .int .i64 n.links, .int .i64 n.up, .string (bs n.data), .slice A n.ents.length c] 49) := by
    rw [hW0, hb7]
    have := Has.new (w.alloc (.cells #[.int .i64 cu, .int .i64 cg] 40)) (.cells #[.int .i64 n.no, .int .i64 n.dev, .int .i64 n.kind, .int .i64 n.mode, .int .i64 n.uid, .int .i64 n.gid, .int .i64 n.mtime, .int .i64 n.ctime, .int .i64 n.links, .int .i64 n.up, .string (bs n.data), .slice A n.ents.length c] 49)
    rwa [World.size_alloc] at this
  have HSZ0 : w.heap.size + 2 ≤ W0.heap.size := by rw [hW0]; simp
  have HO := Lib.hid O
  have hcnt := O.live.count
  have hcl : S.nodes.length ≤ 100000 := by omega
  have HCL := Lib.hid hcl
  have hm : Hid (comeE S cu cg X.now dir nm n = if ¬ placeE S cu cg dir nm = 0 then placeE S cu cg dir nm else if ¬ findF (getN S.nodes dir).ents nm = 0 then 7 else makeE S (newN S cu cg X.now dir n)) := by show _ = _; rfl
  have hp : Hid (placeE S cu cg dir nm = 0 → placeN S cu cg dir nm = getN S.nodes dir ∧ isN S.nodes dir = true) := fun h0 => ⟨placeN_zero h0, (placeE_zero h0).1⟩
  obtain ⟨now, hnow⟩ : ∃ now, now = X.now := ⟨_, rfl⟩
  have HS : Hid (∀ (w' : World) (x : Int), Ext w w' → comeE S cu cg now dir nm n = x → x ≠ 0 → NoF w B g (comeT S cu cg now dir nm n) X (comeN S cu cg now dir nm n) (comeE S cu cg now dir nm n) (.returned (.tuple #[.int .i64 0, .int .i64 x])) w') := by
    show ∀ (w' : World) (x : Int), _
    rw [hnow]
    exact fun w' x hE hx h0 => noF_same h hE hx h0
  rw [← hnow] at hm ⊢
  have HNW := Lib.hid hnow
  have HE0 := Lib.hid E0
  clear O hcnt hcl hnow
  go_enter Tryz.func92, Tryz.ntmps92
  go_upto_region 1 with fail
  rw [← hW0]
  rw [← hb7]
  have hb7a : b7 ≤ w.heap.size := by omega
  have hb7b : w.heap.size ≤ b7 := by omega
  clear hW0 hb7
  have x0 : W0.cell? ⟨b7, 0, none⟩ = some (.int .i64 cu) := C0.cell 0
  have x1 : W0.cell? ⟨b7, 1, none⟩ = some (.int .i64 cg) := C0.cell 1
  have xz := C0.lt
  go_wp2_with fail
  refine (rplace_any B g S X cu cg dir nm _ (h.ext E0) (by have := HCL.out; omega) HO.out.live.nos hnm).mono ?_
  rintro e w2 ⟨A2, k2, rfl, ok2, b2⟩
  obtain ⟨m, hmm⟩ : ∃ m, m = placeN S cu cg dir nm := ⟨_, rfl⟩
  obtain ⟨x, hx⟩ : ∃ x, x = placeE S cu cg dir nm := ⟨_, rfl⟩
  rw [← hmm] at ok2 hp
  rw [← hx] at hm hp
  rw [← hmm, ← hx]
  obtain ⟨W3, hW3⟩ : ∃ W3, W3 = w2.alloc (.cells #[.int .i64 m.no, .int .i64 m.dev, .int .i64 m.kind, .int .i64 m.mode, .int .i64 m.uid, .int .i64 m.gid, .int .i64 m.mtime, .int .i64 m.ctime, .int .i64 m.links, .int .i64 m.up, .string (bs m.data), .slice A2 m.ents.length k2] 49) := ⟨_, rfl⟩
  obtain ⟨b14, hb14⟩ : ∃ b, b = w2.heap.size := ⟨_, rfl⟩
  have E23 : Ext w2 W3 := by rw [hW3]; exact (Ext.refl _).alloc _
  have M3 : Has W3 b14 (.cells #[.int .i64 m.no, .int .i64 m.dev, .int .i64 m.kind, .int .i64 m.mode, .int .i64 m.uid, .int .i64 m.gid, .int .i64 m.mtime, .int .i64 m.ctime, .int .i64 m.links, .int .i64 m.up, .string (bs m.data), .slice A2 m.ents.length k2] 49) := by rw [hW3, hb14]; exact Has.new _ _
  have E03 : Ext W0 W3 := b2.trans E23
  have C3 := C0.ext E03
  have N3 := N0.ext E03
  have ok3 := ok2.ext E23
  have hb14w : W0.heap.size ≤ b14 := by rw [hb14]; exact b2.size
  clear x0 x1 xz hmm hx C0 N0
  go_upto_region 2 with fail
  rw [← hW3]
  rw [← hb14]
  clear hW3 hb14
  by_cases hx0 : x = 0
  case neg =>
    have t0 : (x == 0) = false := by simpa using hx0
    have t0b : (x != 0) = true := by simpa using hx0
    have hE : Hid (comeE S cu cg now dir nm n = x) := by show _ = _; rw [hm.out, if_pos hx0]
    have HX := Lib.hid hx0
    clear hm hx0
    go_wp2_with fail
    go_ret2
    exact HS.out _ _ (HE0.out.trans E03) hE.out HX.out
  have t0 : (x == 0) = true := by simpa using hx0
  have t0b : (x != 0) = false := by simpa using hx0
  obtain ⟨hmg, hid⟩ := hp.out hx0
  have hm2 : Hid (comeE S cu cg now dir nm n = if ¬ findF m.ents nm = 0 then 7 else makeE S (newN S cu cg now dir n)) := by show _ = _; rw [hm.out, if_neg (by simpa using hx0), ← hmg]
  have HMG := Lib.hid hmg
  have HID := Lib.hid hid
  have hen := HO.out.entsN dir
  rw [← hmg] at hen
  have HEN := Lib.hid hen
  have k11 : W3.cell? ⟨b14, 11, none⟩ = some (.slice A2 m.ents.length k2) := M3.cell 11
  have kz := M3.lt
  clear hm hp hx0 hmg hid hen
  go_wp2_with fail
  refine (rfind_any A2 m.ents k2 nm _ ok3.ents.ents (by have := HEN.out.2; omega)).mono ?_
  rintro e w4 ⟨rfl, b4⟩
  obtain ⟨v, hv⟩ : ∃ v, v = findF m.ents nm := ⟨_, rfl⟩
  rw [← hv] at hm2
  rw [← hv]
  have C4 := C3.ext b4
  have N4 := N3.ext b4
  have M4 := M3.ext b4
  have ok4 := ok3.ext b4
  have E4 := E03.trans b4
  clear hv k11 kz C3 N3 M3 ok3 E03 b4
  by_cases hv0 : v = 0
  case neg =>
    have t1 : (v == 0) = false := by simpa using hv0
    have t1b : (v != 0) = true := by simpa using hv0
    have hE : Hid (comeE S cu cg now dir nm n = 7) := by show _ = _; rw [hm2.out, if_pos hv0]
    clear hm2 hv0
    go_wp2_with fail
    go_ret2
    exact HS.out _ _ (HE0.out.trans E4) hE.out (by decide)
  have t1 : (v == 0) = true := by simpa using hv0
  have t1b : (v != 0) = false := by simpa using hv0
  have hm3 : Hid (comeE S cu cg now dir nm n = makeE S (newN S cu cg now dir n)) := by show _ = _; rw [hm2.out, if_neg (by simpa using hv0)]
  clear hm2 hv0
  go_upto_region 6 with fail
  obtain ⟨b11, hb11⟩ : ∃ b, b = b7 + 1 := ⟨_, rfl⟩
  rw [← hb11] at N4 ⊢
  have hb11a : b11 ≤ b7 + 1 := by omega
  have hb11b : b7 + 1 ≤ b11 := by omega
  clear hb11
  have hlw := h.lt
  have s0 := E0.size
  have hne1 : b14 ≠ b11 := by have := b2.size; omega
  have hne2 : b7 ≠ b11 := by omega
  have hne3 : g.bF ≠ b11 := by omega
  have nbf : (b11 = g.bF) = False := eq_false (by omega)
  have nbf2 : (g.bF = b11) = False := eq_false (by omega)
  have n1 : (b11 = b14) = False := eq_false (Ne.symm hne1)
  have n2 : (b14 = b11) = False := eq_false hne1
  have n3 : (b11 = b7) = False := eq_false (Ne.symm hne2)
  have n4 : (b7 = b11) = False := eq_false hne2
  have Ew4 : Ext w w4 := HE0.out.trans E4
  have u1 : w4.cell? ⟨b14, 1, none⟩ = some (.int .i64 m.dev) := M4.cell 1
  have u2 : w4.cell? ⟨b7, 0, none⟩ = some (.int .i64 cu) := C4.cell 0
  have u3 : w4.cell? ⟨b7, 1, none⟩ = some (.int .i64 cg) := C4.cell 1
  have u4 : w4.cell? ⟨g.bF, 3, none⟩ = some (.int .i64 now) := by rw [HNW.out]; obtain ⟨_, _, _, k, _⟩ := h.ext Ew4; exact k.cell 3
  have f1 : w4.cell? ⟨b11, 1, none⟩ = some (.int .i64 n.dev) := N4.cell 1
  have f4 : w4.cell? ⟨b11, 4, none⟩ = some (.int .i64 n.uid) := N4.cell 4
  have f5 : w4.cell? ⟨b11, 5, none⟩ = some (.int .i64 n.gid) := N4.cell 5
  have f6 : w4.cell? ⟨b11, 6, none⟩ = some (.int .i64 n.mtime) := N4.cell 6
  have f7 : w4.cell? ⟨b11, 7, none⟩ = some (.int .i64 n.ctime) := N4.cell 7
  have f8 : w4.cell? ⟨b11, 8, none⟩ = some (.int .i64 n.links) := N4.cell 8
  have yf : ∀ i, w4.frozen? ⟨b11, i, none⟩ = false := fun i => (N4.free i).trans (by simp)
  have z1 := M4.lt
  have z2 := C4.lt
  have z3 := N4.lt
  have z4 := (h.ext Ew4).lt.1
  go_upto_region 12 with fail
  obtain ⟨V, hV⟩ : ∃ V, V = (((((w4.setCell ⟨b11, 1, none⟩ (.int .i64 m.dev)).setCell ⟨b11, 4, none⟩ (.int .i64 cu)).setCell ⟨b11, 5, none⟩ (.int .i64 cg)).setCell ⟨b11, 6, none⟩ (.int .i64 now)).setCell ⟨b11, 7, none⟩ (.int .i64 now)).setCell ⟨b11, 8, none⟩ (.int .i64 1) := ⟨_, rfl⟩
  rw [← hV]
  have N5 : Has V b11 (.cells #[.int .i64 ((newN S cu cg now dir n)).no, .int .i64 ((newN S cu cg now dir n)).dev, .int .i64 ((newN S cu cg now dir n)).kind, .int .i64 ((newN S cu cg now dir n)).mode, .int .i64 ((newN S cu cg now dir n)).uid, .int .i64 ((newN S cu cg now dir n)).gid, .int .i64 ((newN S cu cg now dir n)).mtime, .int .i64 ((newN S cu cg now dir n)).ctime, .int .i64 ((newN S cu cg now dir n)).links, .int .i64 ((newN S cu cg now dir n)).up, .string (bs ((newN S cu cg now dir n)).data), .slice A ((newN S cu cg now dir n)).ents.length c] 49) := by
    rw [hV]
    have := (((((N4.setCell 1 (.int .i64 m.dev)).setCell 4 (.int .i64 cu)).setCell 5 (.int .i64 cg)).setCell 6 (.int .i64 now)).setCell 7 (.int .i64 now)).setCell 8 (.int .i64 1)
    rw [HMG.out] at this ⊢
    exact this
  have O5 : Only [b11] w4 V := by
    rw [hV]
    exact (((((Only.setCell _ _ _ _).then (Only.setCell _ _ _ _)).then (Only.setCell _ _ _ _)).then (Only.setCell _ _ _ _)).then (Only.setCell _ _ _ _)).then (Only.setCell _ _ _ _)
  clear hV u1 u2 u3 u4 f1 f4 f5 f6 f7 f8 yf z1 z2 z3 z4 nbf nbf2 n1 n2 n3 n4
  obtain ⟨n', hn'⟩ : ∃ n', n' = newN S cu cg now dir n := ⟨_, rfl⟩
  rw [← hn'] at N5 hm3
  have hdn : n'.data = n.data := by rw [hn']; rfl
  have hden : n'.ents = n.ents := by rw [hn']; rfl
  have HN' := Lib.hid hn'
  have HDN := Lib.hid hdn
  have ha4 : Apart w4 B [b11] := by
    intro b hb
    rw [List.mem_singleton] at hb
    subst hb
    exact ⟨by have := h.1; omega, N4.noTag (by decide)⟩
  have hnb : ∀ b ∈ g.list, b ∉ [b11] := by
    intro b hb
    simp only [GhF.list, List.mem_cons, List.not_mem_nil, or_false] at hb
    rw [List.mem_singleton]
    rcases hb with rfl | rfl | rfl <;> omega
  have F5 : FAt V B g S X := (h.ext Ew4).only O5 ha4 hnb
  have okn5 : NodeOk V B n' A c := ((hn.ext Ew4).only O5 ha4).same hden
  have ok5 := ok4.only O5 ha4
  have M5 := O5.has M4 (by simpa using hne1)
  have Ow5 : Only g.list w V := (Only.of_ext Ew4).trans O5 (by intro b hb; rw [List.mem_singleton] at hb; right; omega)
  have E5 : Ext w V := O5.after Ew4 (by intro b hb; rw [List.mem_singleton] at hb; omega)
  clear hn' hdn hden
  go_wp2_with (refine wpList_load_node rfl _ rfl b11 n' A c rfl N5 ?_)
  refine (rmake_any B g S X n' A c _ F5 HCL.out okn5 HO.out.live.roots HO.out.live.eight HO.out.live.nos (by have := HO.out.live.last; omega) (by omega) (by rw [HDN.out]; exact hdl)).mono ?_
  rintro e w6 ⟨rfl, bN, F6, O6, hbN⟩
  obtain ⟨e6, he6⟩ : ∃ e6, e6 = makeE S n' := ⟨_, rfl⟩
  have hno : makeE S n' = 0 → makeN S n' = S.last + 1 := fun h0 => by unfold makeN; rw [if_pos h0]
  obtain ⟨no, hno2⟩ : ∃ no, no = makeN S n' := ⟨_, rfl⟩
  rw [← he6, ← hno2] at hno
  rw [← he6] at hm3
  rw [← he6, ← hno2]
  have HNO := Lib.hid hno
  have HE6 := Lib.hid he6
  have M6 := O6.has M5 (by simp only [GhF.list, List.mem_cons, List.not_mem_nil, or_false]; omega)
  have ok6 := ok5.only O6 F5.apart
  have Ow6 := Ow5.then O6
  have hbN' : bN = g.bN ∨ w.heap.size ≤ bN := by rcases hbN with h | h; exact .inl h; exact .inr (by have := E5.size; omega)
  have hon : GhF.on ⟨g.bF, bN, g.bE⟩ g w := ⟨rfl, by
    intro b hb
    simp only [GhF.list, List.mem_cons, List.not_mem_nil, or_false] at hb ⊢
    rcases hb with rfl | rfl | rfl
    · exact .inl (.inl rfl)
    · rcases hbN' with h | h
      · exact .inl (.inr (.inl h))
      · exact .inr h
    · exact .inl (.inr (.inr rfl))⟩
  have HON := Lib.hid hon
  clear hno hno2 he6 hbN hbN' hon
  by_cases hz : e6 = 0
  case neg =>
    have t2 : (e6 == 0) = false := by simpa using hz
    have t2b : (e6 != 0) = true := by simpa using hz
    have HZ := Lib.hid hz
    clear hz
    go_wp2_with fail
    go_ret2
    have e1 : comeE S cu cg now dir nm n = e6 := hm3.out
    have e2 : comeN S cu cg now dir nm n = 0 := by unfold comeN; rw [if_neg (by rw [e1]; exact HZ.out)]
    have e3 : comeT S cu cg now dir nm n = S := by unfold comeT; rw [if_neg (by rw [e1]; exact HZ.out)]
    have e4 : makeT S n' = S := by unfold makeT; rw [if_neg (by rw [← HE6.out]; exact HZ.out)]
    rw [e4] at F6
    exact ⟨by rw [e1, e2]; rfl, ⟨g.bF, bN, g.bE⟩, by rw [e3]; exact F6, Ow6, HON.out⟩
  have t2 : (e6 == 0) = true := by simpa using hz
  have t2b : (e6 != 0) = false := by simpa using hz
  have HZ := Lib.hid hz
  have k11 : w6.cell? ⟨b14, 11, none⟩ = some (.slice A2 m.ents.length k2) := M6.cell 11
  have kz := M6.lt
  clear hz
  go_wp2_with fail
  refine (rput_any A2 m.ents k2 (nm, no) _ ok6.ents.ents (by have := HEN.out.2; omega)).mono ?_
  rintro e w7 ⟨v7, rfl, hown, b7'⟩
  obtain ⟨A7, c7, rfl, q1, q2, q3, q4⟩ := hown.entsT (B := B)
  obtain ⟨T, hT⟩ : ∃ T, T = makeT S n' := ⟨_, rfl⟩
  rw [← hT] at F6
  have hTu : NosUp T.nodes T.last := by rw [hT]; exact nos_make HO.out.live _
  have hTc : T.nodes.length ≤ 1000000 := by
    rw [hT]; unfold makeT; have := HCL.out
    split
    · simp; omega
    · omega
  obtain ⟨L7, hL7⟩ : ∃ L, L = putF m.ents (nm, no) := ⟨_, rfl⟩
  rw [← hL7] at q1 q3 ⊢
  have KTT : Hid (Calls Tryz.prog 95 #[.pointer (some ⟨g.bF, 0, none⟩), .int .i64 dir, .slice A7 L7.length c7] w7 (TouchF w7 B ⟨g.bF, bN, g.bE⟩ (touchT T dir X.now L7) X)) := rtouch_any B ⟨g.bF, bN, g.bE⟩ T X dir A7 L7 c7 w7 (F6.ext b7') hTc hTu q3 q1 q2 q4
  have HT := Lib.hid hT
  have HL7 := Lib.hid hL7
  clear k11 kz hown q1 q2 q3 q4 hT hL7
  go_wp2_with fail
  refine KTT.out.mono ?_
  rintro e w8 ⟨rfl, K8, O8⟩
  go_wp2_with fail
  go_ret2
  have e1 : comeE S cu cg now dir nm n = 0 := by rw [hm3.out]; exact HZ.out
  have e2 : comeN S cu cg now dir nm n = no := by unfold comeN; rw [if_pos e1]; exact (HNO.out HZ.out).symm
  have e3 : comeT S cu cg now dir nm n = touchT T dir X.now L7 := by
    unfold comeT
    rw [if_pos e1, HT.out, HL7.out, ← HN'.out, HMG.out, HNO.out HZ.out, HNW.out]
  refine ⟨by rw [e1, e2]; rfl, ⟨g.bF, bN, g.bE⟩, by rw [e3]; exact K8, (Ow6.ext b7').trans O8 (fun b hb => HON.out.2 b hb), HON.out⟩
end Go.Proofs.YtebghednhjaniaaGreat

namespace Go.Proofs.YtebghednhjaniaaGreat
open Go.ChangeShapes Go.WideShapes Go.ChangeAt Go.RowKit

theorem GhF.on_base {w w0 : World} {g2 g : GhF} (h : GhF.on g2 g w0) (E : Ext w w0) : GhF.on g2 g w := ⟨h.1, fun b hb => by rcases h.2 b hb with k | k; exact .inl k; exact .inr (by have := E.size; omega)⟩
theorem noF_pre {w w' : World} {B : Nat} {g : GhF} {S T : TreeD} {X : Xtra} {p a x : Int} (h : FAt w B g S X) (hE : Ext w w') (hp : p ≠ 0) : NoF w B g (preT p S T) X (preN p a) (preE p x) (.returned (.tuple #[.int .i64 0, .int .i64 p])) w' :=
  ⟨by unfold preN preE; rw [if_pos hp, if_pos hp], g, by unfold preT; rw [if_pos hp]; exact h.ext hE, Only.of_ext hE, GhF.on_refl _ _⟩
theorem noF_go {w w0 w' : World} {B : Nat} {g : GhF} {S T : TreeD} {X : Xtra} {p a x : Int} {e : Ending} (E : Ext w w0) (h : NoF w0 B g T X a x e w') (h0 : p = 0) : e = .returned (.tuple #[.int .i64 a, .int .i64 x]) ∧ NoF w B g (preT p S T) X (preN p a) (preE p x) e w' := by
  obtain ⟨he, g2, hK, hO, hn⟩ := h
  have n0 : ¬ (p ≠ 0) := fun x => x h0
  exact ⟨he, by unfold preN preE; rw [if_neg n0, if_neg n0]; exact he, g2, by unfold preT; rw [if_neg n0]; exact hK, Only.pre E hO, GhF.on_base hn E⟩
set_option maxRecDepth 100000 in
set_option maxHeartbeats 4000000 in
theorem rdir_any (B : Nat) (g : GhF) (S : TreeD) (X : Xtra) (cu cg dir : Int) (nm : List UInt8) (mode : Int) (w : World) (h : FAt w B g S X) (O : Ok S) (hl1 : S.last ≤ 100000) (hnm : nm.length ≤ 1000000) :
    Calls Tryz.prog 36 #[.pointer (some ⟨g.bF, 0, none⟩), .agg #[.int .i64 cu, .int .i64 cg], .int .i64 dir, .string (bs nm), .int .i64 mode] w
      (NoF w B g (preT (dirP mode) S (comeT S cu cg X.now dir nm (dirZ mode dir))) X (preN (dirP mode) (comeN S cu cg X.now dir nm (dirZ mode dir))) (preE (dirP mode) (comeE S cu cg X.now dir nm (dirZ mode dir)))) := by
  obtain ⟨W0, hW0⟩ : ∃ W0, W0 = w.alloc (.cells #[.int .i64 cu, .int .i64 cg] 40) := ⟨_, rfl⟩
  have E0 : Ext w W0 := by rw [hW0]; exact (Ext.refl _).alloc _
  have C0 : Has W0 w.heap.size (.cells #[.int .i64 cu, .int .i64 cg] 40) := by rw [hW0]; exact Has.new w _
  have x0 : W0.cell? ⟨w.heap.size, 0, none⟩ = some (.int .i64 cu) := C0.cell 0
  have x1 : W0.cell? ⟨w.heap.size, 1, none⟩ = some (.int .i64 cg) := C0.cell 1
  have xz := C0.lt
  obtain ⟨p, hp⟩ : ∃ p, p = dirP mode := ⟨_, rfl⟩
  obtain ⟨T, hT⟩ : ∃ T, T = comeT S cu cg X.now dir nm (dirZ mode dir) := ⟨_, rfl⟩
  obtain ⟨a, ha⟩ : ∃ a, a = comeN S cu cg X.now dir nm (dirZ mode dir) := ⟨_, rfl⟩
  obtain ⟨x, hx⟩ : ∃ x, x = comeE S cu cg X.now dir nm (dirZ mode dir) := ⟨_, rfl⟩
  have HS : Hid (∀ (w' : World) (y : Int), Ext w w' → p = y → y ≠ 0 → NoF w B g (preT p S T) X (preN p a) (preE p x) (.returned (.tuple #[.int .i64 0, .int .i64 y])) w') := by
    show ∀ (w' : World) (y : Int), _
    intro w' y hE hy h0
    subst hy
    exact noF_pre h hE h0
  have KP : Hid (∀ w1, Ext w w1 → Calls Tryz.prog 92 #[.pointer (some ⟨g.bF, 0, none⟩), .agg #[.int .i64 cu, .int .i64 cg], .int .i64 dir, .string (bs nm), .agg #[.int .i64 ((dirZ mode dir)).no, .int .i64 ((dirZ mode dir)).dev, .int .i64 ((dirZ mode dir)).kind, .int .i64 ((dirZ mode dir)).mode, .int .i64 ((dirZ mode dir)).uid, .int .i64 ((dirZ mode dir)).gid, .int .i64 ((dirZ mode dir)).mtime, .int .i64 ((dirZ mode dir)).ctime, .int .i64 ((dirZ mode dir)).links, .int .i64 ((dirZ mode dir)).up, .string (bs ((dirZ mode dir)).data), .slice none ((dirZ mode dir)).ents.length 0]] w1 (NoF w1 B g T X a x)) := by
    show ∀ w1, _
    intro w1 hE
    rw [hT, ha, hx]
    refine rcome_any B g S X cu cg dir nm (dirZ mode dir) none 0 w1 (h.ext hE) O hl1 ⟨.nil _ _ _, Nat.le_refl _, Nat.zero_le _, fun _ => rfl⟩ ?_ hnm
    simp [dirZ, nodeZ]
  rw [← hp, ← hT, ← ha, ← hx]
  have HP := Lib.hid hp
  have HE0 := Lib.hid E0
  have hlw := Lib.hid h
  clear O hp E0 C0 hT ha hx
  go_enter Tryz.func36, Tryz.ntmps36
  go_upto_region 1 with fail
  rw [← hW0]
  clear hW0
  by_cases c1 : mode < 0
  · have t1 : decide (mode < 0) = true := decide_eq_true c1
    have hE : Hid (p = 1) := by show _ = _; rw [HP.out]; unfold dirP; rw [if_pos (.inl c1)]
    go_wp2_with fail
    go_ret2
    exact HS.out _ _ HE0.out hE.out (by decide)
  have t1 : decide (mode < 0) = false := decide_eq_false c1
  by_cases c2 : 1023 < mode
  · have t2 : decide (1023 < mode) = true := decide_eq_true c2
    have hE : Hid (p = 1) := by show _ = _; rw [HP.out]; unfold dirP; rw [if_pos (.inr c2)]
    go_wp2_with fail
    go_ret2
    exact HS.out _ _ HE0.out hE.out (by decide)
  have t2 : decide (1023 < mode) = false := decide_eq_false c2
  have hE : Hid (p = 0) := by show _ = _; rw [HP.out]; unfold dirP; rw [if_neg (by omega)]
  go_wp2_with fail
  refine (KP.out _ HE0.out).mono ?_
  rintro e w2 hr
  obtain ⟨rfl, hD⟩ := noF_go (S := S) HE0.out hr hE.out
  clear hr
  go_wp2_with fail
  go_ret2
  exact hD
set_option maxRecDepth 100000 in
set_option maxHeartbeats 4000000 in
theorem rfile_any (B : Nat) (g : GhF) (S : TreeD) (X : Xtra) (cu cg dir : Int) (nm : List UInt8) (mode : Int) (data : List UInt8) (w : World) (h : FAt w B g S X) (O : Ok S) (hl1 : S.last ≤ 100000) (hnm : nm.length ≤ 1000000) (hd : data.length ≤ 1000000000) :
    Calls Tryz.prog 37 #[.pointer (some ⟨g.bF, 0, none⟩), .agg #[.int .i64 cu, .int .i64 cg], .int .i64 dir, .string (bs nm), .int .i64 mode, .string (bs data)] w
      (NoF w B g (preT (fileP mode data.length) S (comeT S cu cg X.now dir nm (fileZ mode data))) X (preN (fileP mode data.length) (comeN S cu cg X.now dir nm (fileZ mode data))) (preE (fileP mode data.length) (comeE S cu cg X.now dir nm (fileZ mode data)))) := by
  obtain ⟨W0, hW0⟩ : ∃ W0, W0 = w.alloc (.cells #[.int .i64 cu, .int .i64 cg] 40) := ⟨_, rfl⟩
  have E0 : Ext w W0 := by rw [hW0]; exact (Ext.refl _).alloc _
  have C0 : Has W0 w.heap.size (.cells #[.int .i64 cu, .int .i64 cg] 40) := by rw [hW0]; exact Has.new w _
  have x0 : W0.cell? ⟨w.heap.size, 0, none⟩ = some (.int .i64 cu) := C0.cell 0
  have x1 : W0.cell? ⟨w.heap.size, 1, none⟩ = some (.int .i64 cg) := C0.cell 1
  have xz := C0.lt
  obtain ⟨p, hp⟩ : ∃ p, p = fileP mode data.length := ⟨_, rfl⟩
  obtain ⟨T, hT⟩ : ∃ T, T = comeT S cu cg X.now dir nm (fileZ mode data) := ⟨_, rfl⟩
  obtain ⟨a, ha⟩ : ∃ a, a = comeN S cu cg X.now dir nm (fileZ mode data) := ⟨_, rfl⟩
  obtain ⟨x, hx⟩ : ∃ x, x = comeE S cu cg X.now dir nm (fileZ mode data) := ⟨_, rfl⟩
  have HS : Hid (∀ (w' : World) (y : Int), Ext w w' → p = y → y ≠ 0 → NoF w B g (preT p S T) X (preN p a) (preE p x) (.returned (.tuple #[.int .i64 0, .int .i64 y])) w') := by
    show ∀ (w' : World) (y : Int), _
    intro w' y hE hy h0
    subst hy
    exact noF_pre h hE h0
  have KP : Hid (∀ w1, Ext w w1 → Calls Tryz.prog 92 #[.pointer (some ⟨g.bF, 0, none⟩), .agg #[.int .i64 cu, .int .i64 cg], .int .i64 dir, .string (bs nm), .agg #[.int .i64 ((fileZ mode data)).no, .int .i64 ((fileZ mode data)).dev, .int .i64 ((fileZ mode data)).kind, .int .i64 ((fileZ mode data)).mode, .int .i64 ((fileZ mode data)).uid, .int .i64 ((fileZ mode data)).gid, .int .i64 ((fileZ mode data)).mtime, .int .i64 ((fileZ mode data)).ctime, .int .i64 ((fileZ mode data)).links, .int .i64 ((fileZ mode data)).up, .string (bs ((fileZ mode data)).data), .slice none ((fileZ mode data)).ents.length 0]] w1 (NoF w1 B g T X a x)) := by
    show ∀ w1, _
    intro w1 hE
    rw [hT, ha, hx]
    refine rcome_any B g S X cu cg dir nm (fileZ mode data) none 0 w1 (h.ext hE) O hl1 ⟨.nil _ _ _, Nat.le_refl _, Nat.zero_le _, fun _ => rfl⟩ ?_ hnm
    exact hd
  rw [← hp, ← hT, ← ha, ← hx]
  have HP := Lib.hid hp
  have HE0 := Lib.hid E0
  have hlw := Lib.hid h
  clear O hp E0 C0 hT ha hx
  go_enter Tryz.func37, Tryz.ntmps37
  go_upto_region 1 with fail
  rw [← hW0]
  clear hW0
  have hsz : ((bs data).size : Int) = data.length := by rw [bs_size]
  by_cases c1 : mode < 0
  · have t1 : decide (mode < 0) = true := decide_eq_true c1
    have hE : Hid (p = 1) := by show _ = _; rw [HP.out]; unfold fileP; rw [if_pos (.inl c1)]
    go_wp2_with fail
    go_ret2
    exact HS.out _ _ HE0.out hE.out (by decide)
  have t1 : decide (mode < 0) = false := decide_eq_false c1
  by_cases c2 : 1023 < mode
  · have t2 : decide (1023 < mode) = true := decide_eq_true c2
    have hE : Hid (p = 1) := by show _ = _; rw [HP.out]; unfold fileP; rw [if_pos (.inr c2)]
    go_wp2_with fail
    go_ret2
    exact HS.out _ _ HE0.out hE.out (by decide)
  have t2 : decide (1023 < mode) = false := decide_eq_false c2
  by_cases c3 : (1048576 : Int) < data.length
  · have t3 : decide ((1048576 : Int) < (data.length : Int)) = true := decide_eq_true c3
    have hE : Hid (p = 3) := by show _ = _; rw [HP.out]; unfold fileP; rw [if_neg (by omega), if_pos c3]
    go_wp2_with fail
    go_ret2
    exact HS.out _ _ HE0.out hE.out (by decide)
  have t3 : decide ((1048576 : Int) < (data.length : Int)) = false := decide_eq_false c3
  have hE : Hid (p = 0) := by show _ = _; rw [HP.out]; unfold fileP; rw [if_neg (by omega), if_neg c3]
  go_wp2_with fail
  refine (KP.out _ HE0.out).mono ?_
  rintro e w2 hr
  obtain ⟨rfl, hD⟩ := noF_go (S := S) HE0.out hr hE.out
  clear hr
  go_wp2_with fail
  go_ret2
  exact hD
set_option maxRecDepth 100000 in
set_option maxHeartbeats 4000000 in
theorem rsym_any (B : Nat) (g : GhF) (S : TreeD) (X : Xtra) (cu cg dir : Int) (nm : List UInt8) (text : List UInt8) (w : World) (h : FAt w B g S X) (O : Ok S) (hl1 : S.last ≤ 100000) (hnm : nm.length ≤ 1000000) (hd : text.length ≤ 1000000) :
    Calls Tryz.prog 39 #[.pointer (some ⟨g.bF, 0, none⟩), .agg #[.int .i64 cu, .int .i64 cg], .int .i64 dir, .string (bs nm), .string (bs text)] w
      (NoF w B g (preT (symP text) S (comeT S cu cg X.now dir nm (symZ text))) X (preN (symP text) (comeN S cu cg X.now dir nm (symZ text))) (preE (symP text) (comeE S cu cg X.now dir nm (symZ text)))) := by
  obtain ⟨W0, hW0⟩ : ∃ W0, W0 = w.alloc (.cells #[.int .i64 cu, .int .i64 cg] 40) := ⟨_, rfl⟩
  have E0 : Ext w W0 := by rw [hW0]; exact (Ext.refl _).alloc _
  have C0 : Has W0 w.heap.size (.cells #[.int .i64 cu, .int .i64 cg] 40) := by rw [hW0]; exact Has.new w _
  have x0 : W0.cell? ⟨w.heap.size, 0, none⟩ = some (.int .i64 cu) := C0.cell 0
  have x1 : W0.cell? ⟨w.heap.size, 1, none⟩ = some (.int .i64 cg) := C0.cell 1
  have xz := C0.lt
  obtain ⟨p, hp⟩ : ∃ p, p = symP text := ⟨_, rfl⟩
  obtain ⟨T, hT⟩ : ∃ T, T = comeT S cu cg X.now dir nm (symZ text) := ⟨_, rfl⟩
  obtain ⟨a, ha⟩ : ∃ a, a = comeN S cu cg X.now dir nm (symZ text) := ⟨_, rfl⟩
  obtain ⟨x, hx⟩ : ∃ x, x = comeE S cu cg X.now dir nm (symZ text) := ⟨_, rfl⟩
  have HS : Hid (∀ (w' : World) (y : Int), Ext w w' → p = y → y ≠ 0 → NoF w B g (preT p S T) X (preN p a) (preE p x) (.returned (.tuple #[.int .i64 0, .int .i64 y])) w') := by
    show ∀ (w' : World) (y : Int), _
    intro w' y hE hy h0
    subst hy
    exact noF_pre h hE h0
  have KP : Hid (∀ w1, Ext w w1 → Calls Tryz.prog 92 #[.pointer (some ⟨g.bF, 0, none⟩), .agg #[.int .i64 cu, .int .i64 cg], .int .i64 dir, .string (bs nm), .agg #[.int .i64 ((symZ text)).no, .int .i64 ((symZ text)).dev, .int .i64 ((symZ text)).kind, .int .i64 ((symZ text)).mode, .int .i64 ((symZ text)).uid, .int .i64 ((symZ text)).gid, .int .i64 ((symZ text)).mtime, .int .i64 ((symZ text)).ctime, .int .i64 ((symZ text)).links, .int .i64 ((symZ text)).up, .string (bs ((symZ text)).data), .slice none ((symZ text)).ents.length 0]] w1 (NoF w1 B g T X a x)) := by
    show ∀ w1, _
    intro w1 hE
    rw [hT, ha, hx]
    refine rcome_any B g S X cu cg dir nm (symZ text) none 0 w1 (h.ext hE) O hl1 ⟨.nil _ _ _, Nat.le_refl _, Nat.zero_le _, fun _ => rfl⟩ ?_ hnm
    show text.length ≤ _; omega
  rw [← hp, ← hT, ← ha, ← hx]
  have HP := Lib.hid hp
  have HE0 := Lib.hid E0
  have hlw := Lib.hid h
  clear O hp E0 C0 hT ha hx
  have hh : Hid (∀ w', Calls Tryz.prog 94 #[.string (bs text), .int .u8 0] w' (Ret w' (.bool (hasB text 0)))) := by
    show ∀ w', _
    intro w'
    have := rhas_any (bs text) 0 0 rfl (by rw [bs_size]; exact hd) w'
    rw [bs_list] at this
    exact this
  by_cases c0 : text = []
  · have hE : Hid (p = 1) := by show _ = _; rw [HP.out]; unfold symP; rw [if_pos (.inl c0)]
    have hem : (bs text).toList.isEmpty = true := by rw [bs_toList, c0]; rfl
    clear c0
    go_enter Tryz.func39, Tryz.ntmps39
    go_upto_region 1 with fail
    rw [← hW0]
    clear hW0
    go_wp2_with fail
    go_ret2
    exact HS.out _ _ HE0.out hE.out (by decide)
  have hem : (bs text).toList.isEmpty = false := by rw [bs_toList, List.isEmpty_eq_false_iff]; exact c0
  have hsz : ((bs text).size : Int) = text.length := by rw [bs_size]
  have HC0 := Lib.hid c0
  clear c0
  go_enter Tryz.func39, Tryz.ntmps39
  go_upto_region 1 with fail
  rw [← hW0]
  clear hW0
  go_wp2_with fail
  refine (hh.out _).mono ?_
  rintro e w1 ⟨rfl, b1⟩
  obtain ⟨hb, hhb⟩ : ∃ hb, hb = hasB text 0 := ⟨_, rfl⟩
  rw [← hhb]
  have HB := Lib.hid hhb
  have E1 := HE0.out.trans b1
  have x0' : w1.cell? ⟨w.heap.size, 0, none⟩ = some (.int .i64 cu) := (b1.cell xz).trans x0
  have x1' : w1.cell? ⟨w.heap.size, 1, none⟩ = some (.int .i64 cg) := (b1.cell xz).trans x1
  have xz' : w.heap.size < w1.heap.size := by have := b1.size; omega
  clear x0 x1 xz hhb
  cases hb
  case true =>
    have hE : Hid (p = 1) := by show _ = _; rw [HP.out]; unfold symP; rw [if_pos (.inr HB.out.symm)]
    go_wp2_with fail
    go_ret2
    exact HS.out _ _ E1 hE.out (by decide)
  by_cases c1 : (4096 : Int) < text.length
  · have t1 : decide ((4096 : Int) < (text.length : Int)) = true := decide_eq_true c1
    have hE : Hid (p = 13) := by show _ = _; rw [HP.out]; unfold symP; rw [if_neg (by rintro (h' | h'); exact HC0.out h'; rw [← HB.out] at h'; cases h'), if_pos (by omega)]
    go_wp2_with fail
    go_ret2
    exact HS.out _ _ E1 hE.out (by decide)
  have t1 : decide ((4096 : Int) < (text.length : Int)) = false := decide_eq_false c1
  have hE : Hid (p = 0) := by show _ = _; rw [HP.out]; unfold symP; rw [if_neg (by rintro (h' | h'); exact HC0.out h'; rw [← HB.out] at h'; cases h'), if_neg (by omega)]
  go_wp2_with fail
  refine (KP.out _ E1).mono ?_
  rintro e w2 hr
  obtain ⟨rfl, hD⟩ := noF_go (S := S) E1 hr hE.out
  clear hr
  go_wp2_with fail
  go_ret2
  exact hD
end Go.Proofs.YtebghednhjaniaaGreat

namespace Go.Proofs.YtebghednhjaniaaGreat
open Go.ChangeShapes Go.WideShapes Go.ChangeAt Go.RowKit

/-- An error alone. -/
def ErF (w : World) (B : Nat) (g : GhF) (T : TreeD) (X : Xtra) (x : Int) (e : Ending) (w' : World) : Prop := e = .returned (.int .i64 x) ∧ ∃ g2, FAt w' B g2 T X ∧ Only g.list w w' ∧ GhF.on g2 g w
set_option maxRecDepth 100000 in
set_option maxHeartbeats 8000000 in
theorem rhard_any (B : Nat) (g : GhF) (S : TreeD) (X : Xtra) (cu cg no dir : Int) (nm : List UInt8) (w : World) (h : FAt w B g S X) (O : Ok S) (hl1 : S.last ≤ 100000) (hnm : nm.length ≤ 1000000) :
    Calls Tryz.prog 40 #[.pointer (some ⟨g.bF, 0, none⟩), .agg #[.int .i64 cu, .int .i64 cg], .int .i64 no, .int .i64 dir, .string (bs nm)] w (ErF w B g (hardT S cu cg X.now no dir nm) X (hardE S cu cg no dir nm)) := by
  obtain ⟨W0, hW0⟩ : ∃ W0, W0 = w.alloc (.cells #[.int .i64 cu, .int .i64 cg] 40) := ⟨_, rfl⟩
  have E0 : Ext w W0 := by rw [hW0]; exact (Ext.refl _).alloc _
  have C0 : Has W0 w.heap.size (.cells #[.int .i64 cu, .int .i64 cg] 40) := by rw [hW0]; exact Has.new w _
  have HO := Lib.hid O
  have hcl : S.nodes.length ≤ 100000 := by have := O.live.count; omega
  have HCL := Lib.hid hcl
  obtain ⟨now, hnow⟩ : ∃ now, now = X.now := ⟨_, rfl⟩
  have hm : Hid (hardE S cu cg no dir nm = if ¬ placeE S cu cg dir nm = 0 then placeE S cu cg dir nm else if isN S.nodes no = false then 5 else if (getN S.nodes no).kind = 1 then 4
    else if ¬ findF (getN S.nodes dir).ents nm = 0 then 7 else if ¬ (getN S.nodes no).dev = (getN S.nodes dir).dev then 11 else if 1000 ≤ (getN S.nodes no).links then 18 else 0) := by show _ = _; rfl
  have hp : Hid (placeE S cu cg dir nm = 0 → placeN S cu cg dir nm = getN S.nodes dir ∧ isN S.nodes dir = true) := fun h0 => ⟨placeN_zero h0, (placeE_zero h0).1⟩
  have HS : Hid (∀ (w' : World) (x : Int), Ext w w' → hardE S cu cg no dir nm = x → x ≠ 0 → ErF w B g (hardT S cu cg now no dir nm) X (hardE S cu cg no dir nm) (.returned (.int .i64 x)) w') := by
    show ∀ (w' : World) (x : Int), _
    intro w' x hE hx h0
    rw [hx]
    refine ⟨rfl, g, ?_, Only.of_ext hE, GhF.on_refl _ _⟩
    unfold hardT
    rw [if_neg (by rw [hx]; exact h0)]
    exact h.ext hE
  have hnz : Hid (((getN S.nodes no).no == 0) = !isN S.nodes no) := by
    refine Lib.hid ?_
    cases hi : isN S.nodes no
    · rw [(isN_false hi).1]; rfl
    · have h1 := (O.live.nos.2 _ (isN_true hi).2.2).1
      simp; omega
  rw [← hnow]
  have HNW := Lib.hid hnow
  have HE0 := Lib.hid E0
  clear O hcl hnow
  go_enter Tryz.func40, Tryz.ntmps40
  go_upto_region 1 with fail
  rw [← hW0]
  clear hW0
  have x0 : W0.cell? ⟨w.heap.size, 0, none⟩ = some (.int .i64 cu) := C0.cell 0
  have x1 : W0.cell? ⟨w.heap.size, 1, none⟩ = some (.int .i64 cg) := C0.cell 1
  have xz := C0.lt
  go_wp2_with fail
  refine (rplace_any B g S X cu cg dir nm _ (h.ext E0) (by have := HCL.out; omega) HO.out.live.nos hnm).mono ?_
  rintro e w2 ⟨A2, k2, rfl, ok2, b2⟩
  obtain ⟨m, hmm⟩ : ∃ m, m = placeN S cu cg dir nm := ⟨_, rfl⟩
  obtain ⟨x, hx⟩ : ∃ x, x = placeE S cu cg dir nm := ⟨_, rfl⟩
  rw [← hmm] at ok2 hp
  rw [← hx] at hm hp
  rw [← hmm, ← hx]
  obtain ⟨W3, hW3⟩ : ∃ W3, W3 = w2.alloc (.cells #[.int .i64 m.no, .int .i64 m.dev, .int .i64 m.kind, .int .i64 m.mode, .int .i64 m.uid, .int .i64 m.gid, .int .i64 m.mtime, .int .i64 m.ctime, .int .i64 m.links, .int .i64 m.up, .string (bs m.data), .slice A2 m.ents.length k2] 49) := ⟨_, rfl⟩
  obtain ⟨b13, hb13⟩ : ∃ b, b = w2.heap.size := ⟨_, rfl⟩
  have E23 : Ext w2 W3 := by rw [hW3]; exact (Ext.refl _).alloc _
  have M3 : Has W3 b13 (.cells #[.int .i64 m.no, .int .i64 m.dev, .int .i64 m.kind, .int .i64 m.mode, .int .i64 m.uid, .int .i64 m.gid, .int .i64 m.mtime, .int .i64 m.ctime, .int .i64 m.links, .int .i64 m.up, .string (bs m.data), .slice A2 m.ents.length k2] 49) := by rw [hW3, hb13]; exact Has.new _ _
  have E3 : Ext w W3 := E0.trans (b2.trans E23)
  have ok3 := ok2.ext E23
  have hb13w : w.heap.size ≤ b13 := by rw [hb13]; exact (E0.trans b2).size
  clear x0 x1 xz hmm hx C0
  go_upto_region 2 with fail
  rw [← hW3]
  rw [← hb13]
  clear hW3 hb13
  go_wp2_with fail
  refine (rget_any B g S X no _ (h.ext E3) (by have := HCL.out; omega) HO.out.live.nos).mono ?_
  rintro e w4 ⟨A4, k4, rfl, ok4, b4⟩
  obtain ⟨n, hn⟩ : ∃ n, n = getN S.nodes no := ⟨_, rfl⟩
  obtain ⟨i, hi⟩ : ∃ i, i = isN S.nodes no := ⟨_, rfl⟩
  have hlk : isN S.nodes no = true → 1 ≤ (getN S.nodes no).links ∧ (getN S.nodes no).links ≤ 1000 := fun hi => HO.out.links _ (isN_true hi).2.2
  rw [← hn, ← hi] at hlk hnz
  rw [← hn] at ok4 hm ⊢
  rw [← hi] at hm
  have HLK := Lib.hid hlk
  obtain ⟨W5, hW5⟩ : ∃ W5, W5 = w4.alloc (.cells #[.int .i64 n.no, .int .i64 n.dev, .int .i64 n.kind, .int .i64 n.mode, .int .i64 n.uid, .int .i64 n.gid, .int .i64 n.mtime, .int .i64 n.ctime, .int .i64 n.links, .int .i64 n.up, .string (bs n.data), .slice A4 n.ents.length k4] 49) := ⟨_, rfl⟩
  obtain ⟨b15, hb15⟩ : ∃ b, b = w4.heap.size := ⟨_, rfl⟩
  have E45 : Ext w4 W5 := by rw [hW5]; exact (Ext.refl _).alloc _
  have N5 : Has W5 b15 (.cells #[.int .i64 n.no, .int .i64 n.dev, .int .i64 n.kind, .int .i64 n.mode, .int .i64 n.uid, .int .i64 n.gid, .int .i64 n.mtime, .int .i64 n.ctime, .int .i64 n.links, .int .i64 n.up, .string (bs n.data), .slice A4 n.ents.length k4] 49) := by rw [hW5, hb15]; exact Has.new _ _
  have E35 : Ext W3 W5 := b4.trans E45
  have M5 := M3.ext E35
  have ok5 := ok3.ext E35
  have okn5 := ok4.ext E45
  have E5 := E3.trans E35
  have hb15w : W3.heap.size ≤ b15 := by rw [hb15]; exact b4.size
  have hbne : b13 < b15 := by have := M3.lt; omega
  have HNN := Lib.hid hn
  have HI := Lib.hid hi
  clear hn hi M3 ok3 ok4 E3 hlk
  go_upto_region 3 with fail
  rw [← hW5]
  rw [← hb15]
  clear hW5 hb15
  by_cases hx0 : x = 0
  case neg =>
    have t0 : (x == 0) = false := by simpa using hx0
    have t0b : (x != 0) = true := by simpa using hx0
    have hE : Hid (hardE S cu cg no dir nm = x) := by show _ = _; rw [hm.out, if_pos hx0]
    have HX := Lib.hid hx0
    clear hm hx0
    go_wp2_with fail
    go_ret
    exact HS.out _ _ E5 hE.out HX.out
  have t0 : (x == 0) = true := by simpa using hx0
  have t0b : (x != 0) = false := by simpa using hx0
  obtain ⟨hmg, hid⟩ := hp.out hx0
  have hm2 : Hid (hardE S cu cg no dir nm = if i = false then 5 else if n.kind = 1 then 4 else if ¬ findF m.ents nm = 0 then 7 else if ¬ n.dev = m.dev then 11 else if 1000 ≤ n.links then 18 else 0) := by
    show _ = _; rw [hm.out, if_neg (by simpa using hx0), ← hmg]
  have HMG := Lib.hid hmg
  have hen := HO.out.entsN dir
  rw [← hmg] at hen
  have HEN := Lib.hid hen
  have k0' : W5.cell? ⟨b15, 0, none⟩ = some (.int .i64 n.no) := N5.cell 0
  have k2' : W5.cell? ⟨b15, 2, none⟩ = some (.int .i64 n.kind) := N5.cell 2
  have kz := N5.lt
  clear hm hp hx0 hmg hid hen
  cases i
  · have hE : Hid (hardE S cu cg no dir nm = 5) := by show _ = _; rw [hm2.out]; rfl
    have tn : (n.no == 0) = true := hnz.out
    clear hm2
    go_wp2_with fail
    go_ret
    exact HS.out _ _ E5 hE.out (by decide)
  have tn : (n.no == 0) = false := hnz.out
  by_cases c1 : n.kind = 1
  · have t1 : (n.kind == 1) = true := by simpa using c1
    have hE : Hid (hardE S cu cg no dir nm = 4) := by show _ = _; rw [hm2.out, if_neg (by decide), if_pos c1]
    clear hm2
    go_wp2_with fail
    go_ret
    exact HS.out _ _ E5 hE.out (by decide)
  have t1 : (n.kind == 1) = false := by simpa using c1
  have k11 : W5.cell? ⟨b13, 11, none⟩ = some (.slice A2 m.ents.length k2) := M5.cell 11
  have kz2 := M5.lt
  have HC1 := Lib.hid c1
  clear c1
  go_wp2_with fail
  refine (rfind_any A2 m.ents k2 nm _ ok5.ents.ents (by have := HEN.out.2; omega)).mono ?_
  rintro e w6 ⟨rfl, b6⟩
  obtain ⟨v, hv⟩ : ∃ v, v = findF m.ents nm := ⟨_, rfl⟩
  rw [← hv] at hm2
  rw [← hv]
  have N6 := N5.ext b6
  have M6 := M5.ext b6
  have ok6 := ok5.ext b6
  have okn6 := okn5.ext b6
  have E6 := E5.trans b6
  clear hv k2' kz k11 kz2 N5 M5 ok5 okn5
  by_cases c2 : v = 0
  case neg =>
    have t2 : (v == 0) = false := by simpa using c2
    have t2b : (v != 0) = true := by simpa using c2
    have hE : Hid (hardE S cu cg no dir nm = 7) := by show _ = _; rw [hm2.out, if_neg (by decide), if_neg HC1.out, if_pos c2]
    clear hm2 c2
    go_wp2_with fail
    go_ret
    exact HS.out _ _ E6 hE.out (by decide)
  have t2 : (v == 0) = true := by simpa using c2
  have t2b : (v != 0) = false := by simpa using c2
  have y1 : w6.cell? ⟨b15, 1, none⟩ = some (.int .i64 n.dev) := N6.cell 1
  have y2 : w6.cell? ⟨b13, 1, none⟩ = some (.int .i64 m.dev) := M6.cell 1
  have y3 : w6.cell? ⟨b15, 8, none⟩ = some (.int .i64 n.links) := N6.cell 8
  have yz := N6.lt
  have yz2 := M6.lt
  have HC2 := Lib.hid (show ¬ ¬ v = 0 by simpa using c2)
  clear c2
  by_cases c3 : n.dev = m.dev
  case neg =>
    have t3 : (n.dev == m.dev) = false := by simpa using c3
    have t3b : (n.dev != m.dev) = true := by simpa using c3
    have hE : Hid (hardE S cu cg no dir nm = 11) := by show _ = _; rw [hm2.out, if_neg (by decide), if_neg HC1.out, if_neg HC2.out, if_pos c3]
    clear hm2 c3
    go_wp2_with fail
    go_ret
    exact HS.out _ _ E6 hE.out (by decide)
  have t3 : (n.dev == m.dev) = true := by simpa using c3
  have t3b : (n.dev != m.dev) = false := by simpa using c3
  have HC3 := Lib.hid (show ¬ ¬ n.dev = m.dev by simpa using c3)
  clear c3
  by_cases c4 : 1000 ≤ n.links
  · have t4 : decide (1000 ≤ n.links) = true := decide_eq_true c4
    have hE : Hid (hardE S cu cg no dir nm = 18) := by show _ = _; rw [hm2.out, if_neg (by decide), if_neg HC1.out, if_neg HC2.out, if_neg HC3.out, if_pos c4]
    clear hm2 c4
    go_wp2_with fail
    go_ret
    exact HS.out _ _ E6 hE.out (by decide)
  have t4 : decide (1000 ≤ n.links) = false := decide_eq_false c4
  have hE : Hid (hardE S cu cg no dir nm = 0) := by show _ = _; rw [hm2.out, if_neg (by decide), if_neg HC1.out, if_neg HC2.out, if_neg HC3.out, if_neg c4]
  have hl1 := (HLK.out (by trivial)).1
  have y4 : IntKind.i64.wrap (n.links + 1) = n.links + 1 := wrap_i64_in (by omega) (by omega)
  have yf : ∀ i, w6.frozen? ⟨b15, i, none⟩ = false := fun i => (N6.free i).trans (by simp)
  have y7 : w6.cell? ⟨b15, 7, none⟩ = some (.int .i64 n.ctime) := N6.cell 7
  have nw : w6.cell? ⟨g.bF, 3, none⟩ = some (.int .i64 now) := by rw [HNW.out]; obtain ⟨_, _, _, k, _⟩ := h.ext E6; exact k.cell 3
  have nz := (h.ext E6).lt.1
  have hlt := h.lt
  have hs0 := HE0.out.size
  have hs1 := E35.size
  have hbF : g.bF < b15 := by omega
  have nbf : (b15 = g.bF) = False := eq_false (by omega)
  have nbf2 : (g.bF = b15) = False := eq_false (by omega)
  obtain ⟨n', hn'⟩ : ∃ n' : NodeD, n' = { n with links := n.links + 1, ctime := now } := ⟨_, rfl⟩
  have HN' := Lib.hid hn'
  clear hm2 c4 hl1 hn'
  go_upto_region 17 with fail
  obtain ⟨V, hV⟩ : ∃ V, V = (w6.setCell ⟨b15, 8, none⟩ (.int .i64 (n.links + 1))).setCell ⟨b15, 7, none⟩ (.int .i64 now) := ⟨_, rfl⟩
  rw [← hV]
  have NV : Has V b15 (.cells #[.int .i64 (n').no, .int .i64 (n').dev, .int .i64 (n').kind, .int .i64 (n').mode, .int .i64 (n').uid, .int .i64 (n').gid, .int .i64 (n').mtime, .int .i64 (n').ctime, .int .i64 (n').links, .int .i64 (n').up, .string (bs (n').data), .slice A4 (n').ents.length k4] 49) := by rw [hV, HN'.out]; exact (N6.setCell 8 _).setCell 7 _
  have OV : Only [b15] w6 V := by rw [hV]; exact (Only.setCell _ _ _ _).then (Only.setCell _ _ _ _)
  have haP : Apart w6 B [b15] := by
    intro b hb
    rw [List.mem_singleton] at hb
    subst hb
    exact ⟨by have := h.1; omega, N6.noTag (by decide)⟩
  have EV : Ext w V := OV.after E6 (by intro b hb; rw [List.mem_singleton] at hb; omega)
  have KV := h.ext EV
  have MV := OV.has M6 (by rw [List.mem_singleton]; omega)
  have okV := ok6.only OV haP
  have oknV : NodeOk V B n' A4 k4 := (okn6.only OV haP).same (by rw [HN'.out])
  clear hV y1 y2 y3 y4 yf y7 yz yz2 nw nz nbf nbf2 N6 M6 ok6 okn6
  go_wp2_with (refine wpList_load_node rfl _ rfl b15 n' A4 k4 rfl NV ?_)
  refine (rset_any B g S X n' A4 k4 _ KV (by have := HCL.out; omega) HO.out.live.nos oknV).mono ?_
  rintro e w7 ⟨rfl, K7, O7⟩
  have hb13g : b13 ∉ g.list := by
    simp only [GhF.list, List.mem_cons, List.not_mem_nil, or_false]
    omega
  have M7 := O7.has MV hb13g
  have ok7 := okV.only O7 KV.apart
  have Ow7 : Only g.list w w7 := Only.pre EV O7
  obtain ⟨T, hT⟩ : ∃ T, T = setT S n' := ⟨_, rfl⟩
  rw [← hT] at K7
  have hTu : NosUp T.nodes T.last := by rw [hT]; exact HO.out.live.nos.set _
  have hTc : T.nodes.length ≤ 1000000 := by rw [hT]; show (setN _ _).length ≤ _; rw [setN_len]; have := HCL.out; omega
  have HT := Lib.hid hT
  have k11 : w7.cell? ⟨b13, 11, none⟩ = some (.slice A2 m.ents.length k2) := M7.cell 11
  have kz := M7.lt
  clear hT
  go_wp2_with fail
  refine (rput_any A2 m.ents k2 (nm, no) _ ok7.ents.ents (by have := HEN.out.2; omega)).mono ?_
  rintro e w8 ⟨v8, rfl, hown, b8'⟩
  obtain ⟨A8, c8, rfl, q1, q2, q3, q4⟩ := hown.entsT (B := B)
  obtain ⟨L8, hL8⟩ : ∃ L, L = putF m.ents (nm, no) := ⟨_, rfl⟩
  rw [← hL8] at q1 q3 ⊢
  have KTT : Hid (Calls Tryz.prog 95 #[.pointer (some ⟨g.bF, 0, none⟩), .int .i64 dir, .slice A8 L8.length c8] w8 (TouchF w8 B g (touchT T dir X.now L8) X)) := rtouch_any B g T X dir A8 L8 c8 w8 (K7.ext b8') hTc hTu q3 q1 q2 q4
  have HL8 := Lib.hid hL8
  clear k11 kz hown q1 q2 q3 q4 hL8
  go_wp2_with fail
  refine KTT.out.mono ?_
  rintro e w9 ⟨rfl, K9, O9⟩
  go_wp2_with fail
  go_ret
  rw [hE.out]
  have e3 : hardT S cu cg now no dir nm = touchT T dir X.now L8 := by
    unfold hardT hardN
    rw [if_pos hE.out, HT.out, HL8.out, HN'.out, HNN.out, HMG.out, HNW.out]
  exact ⟨rfl, g, by rw [e3]; exact K9, (Ow7.ext b8').then O9, GhF.on_refl _ _⟩
end Go.Proofs.YtebghednhjaniaaGreat
