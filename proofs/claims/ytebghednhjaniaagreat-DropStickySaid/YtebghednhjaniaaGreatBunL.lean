/- Layer 18, plain; Less of both. | Layer 18: the program's Leave. (Printed by gen_drpb.py.) | Layer 18: the program's gone, Unlink, Rmdir. (Printed by gen_drpc.py.) | Plain: trees stay true where names go. -/
import Derived.Test.YtebghednhjaniaaGreatBunI
import Derived.Test.YtebghednhjaniaaGreatBunO
import Derived.Test.YtebghednhjaniaaGreatBunK
namespace Go.Proofs.YtebghednhjaniaaGreat
open Go.ChangeShapes Go.WideShapes Go.ChangeAt Go.RowKit

def leaveE (S : TreeD) (cu cg dir : Int) (nm : List UInt8) : Int :=
  if ¬ placeE S cu cg dir nm = 0 then placeE S cu cg dir nm else if isN S.nodes (findF (getN S.nodes dir).ents nm) = false then 5
  else if ¬ overF S.devs (findF (getN S.nodes dir).ents nm) = findF (getN S.nodes dir).ents nm then 16
  else if freeB cu (getN S.nodes dir).mode (getN S.nodes dir).uid (getN S.nodes (findF (getN S.nodes dir).ents nm)).uid = false then 4 else 0
def leaveD (S : TreeD) (cu cg dir : Int) (nm : List UInt8) : NodeD := if leaveE S cu cg dir nm = 0 then getN S.nodes dir else nodeZ
def leaveN (S : TreeD) (cu cg dir : Int) (nm : List UInt8) : NodeD := if leaveE S cu cg dir nm = 0 then getN S.nodes (findF (getN S.nodes dir).ents nm) else nodeZ
/-- One name less. -/
def lessN (now : Int) (n : NodeD) : NodeD := { n with links := n.links - 1, ctime := now }
def lessT (S : TreeD) (now : Int) (n : NodeD) : TreeD := if n.links - 1 < 1 then killT (setT S (lessN now n)) n.no else setT S (lessN now n)
def goneT (S : TreeD) (now : Int) (d n : NodeD) (nm : List UInt8) : TreeD := lessT (touchT S d.no now (dropF d.ents nm)) now n
def unlinkE (S : TreeD) (cu cg dir : Int) (nm : List UInt8) : Int := if ¬ leaveE S cu cg dir nm = 0 then leaveE S cu cg dir nm else if (leaveN S cu cg dir nm).kind = 1 then 8 else 0
def rmdirE (S : TreeD) (cu cg dir : Int) (nm : List UInt8) : Int :=
  if ¬ leaveE S cu cg dir nm = 0 then leaveE S cu cg dir nm else if ¬ (leaveN S cu cg dir nm).kind = 1 then 9 else if 0 < ((leaveN S cu cg dir nm).ents.length : Int) then 10 else 0
def unlinkT (S : TreeD) (cu cg now dir : Int) (nm : List UInt8) : TreeD := if unlinkE S cu cg dir nm = 0 then goneT S now (leaveD S cu cg dir nm) (leaveN S cu cg dir nm) nm else S
def rmdirT (S : TreeD) (cu cg now dir : Int) (nm : List UInt8) : TreeD := if rmdirE S cu cg dir nm = 0 then goneT S now (leaveD S cu cg dir nm) (leaveN S cu cg dir nm) nm else S
/-- A node as the calls hold it: of a tree, or like one of it. -/
structure Held (S : TreeD) (n : NodeD) : Prop where
  links : 1 ≤ n.links ∧ n.links ≤ 1000
  dev : hasD S.devs n.dev = true
  data : n.data.length ≤ 1048576
  one : n.no = 1 → n.dev = 1
theorem Held.live {S : TreeD} {n : NodeD} (h : Held S n) (L : Live S) (now : Int) : Live (setT S (lessN now n)) := L.set _ h.dev h.data h.one
theorem Ok.held {S : TreeD} (O : Ok S) {no : Int} (hi : isN S.nodes no = true) : Held S (getN S.nodes no) :=
  ⟨O.links _ (isN_true hi).2.2, (O.live.on _ (isN_true hi).2.2).1, (O.live.on _ (isN_true hi).2.2).2, O.live.one _ (isN_true hi).2.2⟩
set_option maxRecDepth 100000 in
set_option maxHeartbeats 4000000 in
theorem pless_any (B : Nat) (g : GhW) (S : TreeD) (now : Int) (n : NodeD) (A : Option Addr) (c : Nat) (w : World) (h : WAt w B g S) (L : Live S) (hn : NodeOk w B n A c) (hh : Held S n) :
    Calls Tryz.prog 115 #[.pointer (some ⟨g.bW, 0, none⟩), .int .i64 now, .agg #[.int .i64 n.no, .int .i64 n.dev, .int .i64 n.kind, .int .i64 n.mode, .int .i64 n.uid, .int .i64 n.gid, .int .i64 n.mtime, .int .i64 n.ctime, .int .i64 n.links, .int .i64 n.up, .string (bs n.data), .slice A n.ents.length c]] w (TouchR w B g (lessT S now n)) := by
  obtain ⟨W0, hW0⟩ : ∃ W0, W0 = w.alloc (.cells #[.int .i64 n.no, .int .i64 n.dev, .int .i64 n.kind, .int .i64 n.mode, .int .i64 n.uid, .int .i64 n.gid, .int .i64 n.mtime, .int .i64 n.ctime, .int .i64 n.links, .int .i64 n.up, .string (bs n.data), .slice A n.ents.length c] 49) := ⟨_, rfl⟩
  have E0 : Ext w W0 := by rw [hW0]; exact (Ext.refl _).alloc _
  obtain ⟨b5, hb5⟩ : ∃ b, b = w.heap.size := ⟨_, rfl⟩
  have N0 : Has W0 b5 (.cells #[.int .i64 n.no, .int .i64 n.dev, .int .i64 n.kind, .int .i64 n.mode, .int .i64 n.uid, .int .i64 n.gid, .int .i64 n.mtime, .int .i64 n.ctime, .int .i64 n.links, .int .i64 n.up, .string (bs n.data), .slice A n.ents.length c] 49) := by rw [hW0, hb5]; exact Has.new _ _
  have hbw : w.heap.size ≤ b5 := by omega
  have HL := Lib.hid L
  have HH := Lib.hid hh
  have LL := Lib.hid (hh.live L now)
  have y8 : W0.cell? ⟨b5, 8, none⟩ = some (.int .i64 n.links) := N0.cell 8
  have y7 : W0.cell? ⟨b5, 7, none⟩ = some (.int .i64 n.ctime) := N0.cell 7
  have yf : ∀ i, W0.frozen? ⟨b5, i, none⟩ = false := fun i => (N0.free i).trans (by simp)
  have yz := N0.lt
  have y4 : IntKind.i64.wrap (n.links - 1) = n.links - 1 := wrap_i64_in (by have := hh.links; omega) (by have := hh.links; omega)
  have HLT : Hid (lessT S now n = if n.links - 1 < 1 then killT (setT S (lessN now n)) n.no else setT S (lessN now n)) := by show _ = _; rfl
  obtain ⟨n', hn'⟩ : ∃ n', n' = lessN now n := ⟨_, rfl⟩
  rw [← hn'] at HLT LL
  have HN' := Lib.hid hn'
  clear L hh hn'
  go_enter Tryz.func115, Tryz.ntmps115
  go_upto_region 1 with fail
  rw [← hW0]
  rw [← hb5]
  clear hW0 hb5
  go_upto_region 3 with fail
  obtain ⟨V, hV⟩ : ∃ V, V = (W0.setCell ⟨b5, 8, none⟩ (.int .i64 (n.links - 1))).setCell ⟨b5, 7, none⟩ (.int .i64 now) := ⟨_, rfl⟩
  rw [← hV]
  have NV : Has V b5 (.cells #[.int .i64 (n').no, .int .i64 (n').dev, .int .i64 (n').kind, .int .i64 (n').mode, .int .i64 (n').uid, .int .i64 (n').gid, .int .i64 (n').mtime, .int .i64 (n').ctime, .int .i64 (n').links, .int .i64 (n').up, .string (bs (n').data), .slice A (n').ents.length c] 49) := by rw [hV, HN'.out]; exact (N0.setCell 8 _).setCell 7 _
  have OV : Only [b5] W0 V := by rw [hV]; exact (Only.setCell _ _ _ _).then (Only.setCell _ _ _ _)
  have haP : Apart W0 B [b5] := by
    intro b hb
    rw [List.mem_singleton] at hb
    subst hb
    exact ⟨by have := h.1; have := h.lt.1; omega, N0.noTag (by decide)⟩
  have EV : Ext w V := OV.after E0 (by intro b hb; rw [List.mem_singleton] at hb; omega)
  have KV := h.ext EV
  have okV : NodeOk V B n' A c := ((hn.ext E0).only OV haP).same (by rw [HN'.out]; rfl)
  clear hV y8 y7 yf yz y4
  obtain ⟨_, _, cdV, hWV, _⟩ := id KV
  have v0 : V.cell? ⟨g.bW, 0, none⟩ = some (.pointer (some ⟨g.bT, 0, none⟩)) := hWV.cell 0
  have vz := hWV.lt
  obtain ⟨x0, x1, x2, x3, x4, x5, x6, x7, x8, x9, x10, x11⟩ := NV.node12
  have zN := NV.lt
  clear hWV
  go_still_tail 5, (by kernel_rfl)
  change wpList _ _ _ _ _ V.drew
  go_wp2_with fail
  have ED : Ext V V.drew := (Ext.refl _).drew
  refine (wset_any B g S n' A c _ (KV.ext ED) HL.out.nos (okV.ext ED)).mono ?_
  rintro e w7 ⟨rfl, K7, O7⟩
  have hbg : b5 ∉ g.list := by
    have hlw := h.lt
    simp only [GhW.list, List.mem_cons, List.not_mem_nil, or_false]
    omega
  have N7 := O7.has (NV.ext ED) hbg
  have Ow7 : Only g.list w w7 := Only.pre (EV.trans ED) O7
  have z8 : w7.cell? ⟨b5, 8, none⟩ = some (.int .i64 n'.links) := N7.cell 8
  have z0 : w7.cell? ⟨b5, 0, none⟩ = some (.int .i64 n'.no) := N7.cell 0
  have zz := N7.lt
  have hnl : n'.links = n.links - 1 := by rw [HN'.out]; rfl
  have hno : n'.no = n.no := by rw [HN'.out]; rfl
  rw [hnl] at z8
  rw [hno] at z0
  clear v0 vz x0 x1 x2 x3 x4 x5 x6 x7 x8 x9 x10 x11 zN hnl hno
  by_cases hk : n.links - 1 ≤ 0
  · have t1 : decide (n.links - 1 ≤ 0) = true := decide_eq_true hk
    have e1 : Hid (lessT S now n = killT (setT S n') n.no) := by show _ = _; rw [HLT.out, if_pos (by omega)]
    clear hk
    go_wp2_with fail
    refine (pkill_any B g (setT S n') n.no _ K7 LL.out.devs LL.out.eight LL.out.roots LL.out.nos LL.out.on).mono ?_
    rintro e w8 ⟨rfl, K8, O8⟩
    go_wp2_with fail
    go_end0
    exact ⟨rfl, by rw [e1.out]; exact K8, Ow7.then O8⟩
  · have t1 : decide (n.links - 1 ≤ 0) = false := decide_eq_false hk
    have e1 : Hid (lessT S now n = setT S n') := by show _ = _; rw [HLT.out, if_neg (by omega)]
    clear hk
    go_wp2_with fail
    go_end0
    exact ⟨rfl, by rw [e1.out]; exact K7, Ow7⟩
/-- What a call of the reference's that tells nothing leaves. -/
def NoneF (w : World) (B : Nat) (g : GhF) (T : TreeD) (X : Xtra) (e : Ending) (w' : World) : Prop := e = .returned (.tuple #[]) ∧ ∃ g2, FAt w' B g2 T X ∧ Only g.list w w' ∧ GhF.on g2 g w
set_option maxRecDepth 100000 in
set_option maxHeartbeats 4000000 in
theorem rless_any (B : Nat) (g : GhF) (S : TreeD) (X : Xtra) (n : NodeD) (A : Option Addr) (c : Nat) (w : World) (h : FAt w B g S X) (L : Live S) (hl : S.last ≤ 1000) (hn : NodeOk w B n A c) (hh : Held S n) :
    Calls Tryz.prog 111 #[.pointer (some ⟨g.bF, 0, none⟩), .agg #[.int .i64 n.no, .int .i64 n.dev, .int .i64 n.kind, .int .i64 n.mode, .int .i64 n.uid, .int .i64 n.gid, .int .i64 n.mtime, .int .i64 n.ctime, .int .i64 n.links, .int .i64 n.up, .string (bs n.data), .slice A n.ents.length c]] w (NoneF w B g (lessT S X.now n) X) := by
  obtain ⟨W0, hW0⟩ : ∃ W0, W0 = w.alloc (.cells #[.int .i64 n.no, .int .i64 n.dev, .int .i64 n.kind, .int .i64 n.mode, .int .i64 n.uid, .int .i64 n.gid, .int .i64 n.mtime, .int .i64 n.ctime, .int .i64 n.links, .int .i64 n.up, .string (bs n.data), .slice A n.ents.length c] 49) := ⟨_, rfl⟩
  have E0 : Ext w W0 := by rw [hW0]; exact (Ext.refl _).alloc _
  obtain ⟨b5, hb5⟩ : ∃ b, b = w.heap.size := ⟨_, rfl⟩
  have N0 : Has W0 b5 (.cells #[.int .i64 n.no, .int .i64 n.dev, .int .i64 n.kind, .int .i64 n.mode, .int .i64 n.uid, .int .i64 n.gid, .int .i64 n.mtime, .int .i64 n.ctime, .int .i64 n.links, .int .i64 n.up, .string (bs n.data), .slice A n.ents.length c] 49) := by rw [hW0, hb5]; exact Has.new _ _
  have hbw : w.heap.size ≤ b5 := by omega
  have HL := Lib.hid L
  have HH := Lib.hid hh
  have LL := Lib.hid (hh.live L X.now)
  have y8 : W0.cell? ⟨b5, 8, none⟩ = some (.int .i64 n.links) := N0.cell 8
  have y7 : W0.cell? ⟨b5, 7, none⟩ = some (.int .i64 n.ctime) := N0.cell 7
  have yf : ∀ i, W0.frozen? ⟨b5, i, none⟩ = false := fun i => (N0.free i).trans (by simp)
  have yz := N0.lt
  have y4 : IntKind.i64.wrap (n.links - 1) = n.links - 1 := wrap_i64_in (by have := hh.links; omega) (by have := hh.links; omega)
  have HLT : Hid (lessT S X.now n = if n.links - 1 < 1 then killT (setT S (lessN X.now n)) n.no else setT S (lessN X.now n)) := by show _ = _; rfl
  obtain ⟨n', hn'⟩ : ∃ n', n' = lessN X.now n := ⟨_, rfl⟩
  rw [← hn'] at HLT LL
  have HN' := Lib.hid hn'
  have nw : W0.cell? ⟨g.bF, 3, none⟩ = some (.int .i64 X.now) := by obtain ⟨_, _, _, k, _⟩ := h.ext E0; exact k.cell 3
  have nz := (h.ext E0).lt.1
  have hlt := h.lt.1
  have nbf : (b5 = g.bF) = False := eq_false (by omega)
  have nbf2 : (g.bF = b5) = False := eq_false (by omega)
  clear L hh hn'
  go_enter Tryz.func111, Tryz.ntmps111
  go_upto_region 1 with fail
  rw [← hW0]
  rw [← hb5]
  clear hW0 hb5
  go_upto_region 3 with fail
  obtain ⟨V, hV⟩ : ∃ V, V = (W0.setCell ⟨b5, 8, none⟩ (.int .i64 (n.links - 1))).setCell ⟨b5, 7, none⟩ (.int .i64 X.now) := ⟨_, rfl⟩
  rw [← hV]
  have NV : Has V b5 (.cells #[.int .i64 (n').no, .int .i64 (n').dev, .int .i64 (n').kind, .int .i64 (n').mode, .int .i64 (n').uid, .int .i64 (n').gid, .int .i64 (n').mtime, .int .i64 (n').ctime, .int .i64 (n').links, .int .i64 (n').up, .string (bs (n').data), .slice A (n').ents.length c] 49) := by rw [hV, HN'.out]; exact (N0.setCell 8 _).setCell 7 _
  have OV : Only [b5] W0 V := by rw [hV]; exact (Only.setCell _ _ _ _).then (Only.setCell _ _ _ _)
  have haP : Apart W0 B [b5] := by
    intro b hb
    rw [List.mem_singleton] at hb
    subst hb
    exact ⟨by have := h.1; omega, N0.noTag (by decide)⟩
  have EV : Ext w V := OV.after E0 (by intro b hb; rw [List.mem_singleton] at hb; omega)
  have okV : NodeOk V B n' A c := ((hn.ext E0).only OV haP).same (by rw [HN'.out]; rfl)
  clear hV y8 y7 yf yz y4 nw nz nbf nbf2
  go_wp2_with (refine wpList_load_node rfl _ rfl b5 n' A c rfl NV ?_)
  refine (rset_any B g S X n' A c _ (h.ext EV) (by have := HL.out.count; omega) HL.out.nos okV).mono ?_
  rintro e w7 ⟨rfl, K7, O7⟩
  have hbg : b5 ∉ g.list := by
    have hlw := h.lt
    simp only [GhF.list, List.mem_cons, List.not_mem_nil, or_false]
    omega
  have N7 := O7.has NV hbg
  have Ow7 : Only g.list w w7 := Only.pre EV O7
  have z8 : w7.cell? ⟨b5, 8, none⟩ = some (.int .i64 n'.links) := N7.cell 8
  have z0 : w7.cell? ⟨b5, 0, none⟩ = some (.int .i64 n'.no) := N7.cell 0
  have zz := N7.lt
  have hnl : n'.links = n.links - 1 := by rw [HN'.out]; rfl
  have hno : n'.no = n.no := by rw [HN'.out]; rfl
  rw [hnl] at z8
  rw [hno] at z0
  clear hnl hno
  by_cases hk : n.links - 1 < 1
  · have t1 : decide (n.links - 1 < 1) = true := decide_eq_true hk
    have e1 : Hid (lessT S X.now n = killT (setT S n') n.no) := by show _ = _; rw [HLT.out, if_pos hk]
    clear hk
    go_wp2_with fail
    refine (rkill_any B g (setT S n') X n.no _ K7 (by have := LL.out.count; have e : (setT S n').last = S.last := rfl; omega) LL.out.eight LL.out.roots LL.out.nos LL.out.on (fun hk => LL.out.kept hk) (by have := (K7.apart _ (by simp : g.bF ∈ g.list)).1; have := K7.lt.1; omega)).mono ?_
    rintro e w8 ⟨rfl, g2, K8, on8, O8⟩
    go_wp2_with fail
    go_end0
    refine ⟨rfl, g2, by rw [e1.out]; exact K8, Ow7.then O8, on8.1, fun b hb => ?_⟩
    rcases on8.2 b hb with e | e
    · exact .inl e
    · exact .inr (by have := Ow7.size; omega)
  · have t1 : decide (n.links - 1 < 1) = false := decide_eq_false hk
    have e1 : Hid (lessT S X.now n = setT S n') := by show _ = _; rw [HLT.out, if_neg hk]
    clear hk
    go_wp2_with fail
    go_end0
    exact ⟨rfl, g, by rw [e1.out]; exact K7, Ow7, GhF.on_refl g w⟩
end Go.Proofs.YtebghednhjaniaaGreat

namespace Go.Proofs.YtebghednhjaniaaGreat
open Go.ChangeShapes Go.WideShapes Go.ChangeAt Go.RowKit

attribute [local irreducible] wpLexE wpQuiet
attribute [local go_sem] changeUpon
/-- A late store of a node into a box, as a change. -/
theorem wpLexE_store_node {ops : Array Oper} {Ph : Nat → World → Prop} {ks : List Nat} {Q : Act → Prop} {a : Act} {o : Oper} {rest : List Oper} {k : Nat} (j : Nat) (hp : placeOf ks k = some j) (hg : o.guard = none) (hd : o.dst = none)
    (x y : Operand) (ho : o.op = .store 49 x y) (b : Nat) (n : NodeD) (A : Option Addr) (c : Nat) (hx : a.eval x = .pointer (some ⟨b, 0, none⟩)) (hy : a.eval y = .agg #[.int .i64 n.no, .int .i64 n.dev, .int .i64 n.kind, .int .i64 n.mode, .int .i64 n.uid, .int .i64 n.gid, .int .i64 n.mtime, .int .i64 n.ctime, .int .i64 n.links, .int .i64 n.up, .string (bs n.data), .slice A n.ents.length c])
    (hb : ∀ u : Wc (Ph j), ∃ (m : NodeD) (A' : Option Addr) (c' : Nat), Has u.w b (.cells #[.int .i64 m.no, .int .i64 m.dev, .int .i64 m.kind, .int .i64 m.mode, .int .i64 m.uid, .int .i64 m.gid, .int .i64 m.mtime, .int .i64 m.ctime, .int .i64 m.links, .int .i64 m.up, .string (bs m.data), .slice A' m.ents.length c'] 49)) (hn : ∀ (u : Wc (Ph j)) (w' : World), Has w' b (.cells #[.int .i64 n.no, .int .i64 n.dev, .int .i64 n.kind, .int .i64 n.mode, .int .i64 n.uid, .int .i64 n.gid, .int .i64 n.mtime, .int .i64 n.ctime, .int .i64 n.links, .int .i64 n.up, .string (bs n.data), .slice A n.ents.length c] 49) → Only [b] u.w w' → Ph (j + 1) w')
    (h : wpLexE ops (phE Tryz.prog Ph ks) Q rest (k + 1) a) : wpLexE ops (phE Tryz.prog Ph ks) Q (o :: rest) k a := by
  refine wpLexE_change j hp hg fun K hK => ⟨undef, fun u => ?_, ?_⟩
  · obtain ⟨m, A', c', hu⟩ := hb u
    have hr : (execOp a.eval o).run Tryz.prog u.w = .ok .skip (u.w.setCells b 0 (nodeL n A c)) := by
      simp only [execOp, ho, hx, hy, run_storeAt_mid u.w b 0 49 #[.int .i64 n.no, .int .i64 n.dev, .int .i64 n.kind, .int .i64 n.mode, .int .i64 n.uid, .int .i64 n.gid, .int .i64 n.mtime, .int .i64 n.ctime, .int .i64 n.links, .int .i64 n.up, .string (bs n.data), .slice A n.ents.length c] hu.there infoNode12 (node_all n A c), Sem.run_bind, Sem.run_pure, Result.andThen_ok]
      rfl
    rw [hr]
    exact ⟨rfl, hn u _ (hu.setNode n A c) (only_setCells (nodeL n A c) 0 u.w)⟩
  · rw [hd]
    exact hK _ h
theorem res_node2 {fn : Func} {p q t : Tmp} (h : fn.results = #[.cell p 49, .cell q 49, .tmp t]) (tmps : Array Value) (w : World) (b1 b2 : Nat) (n m : NodeD) (A A' : Option Addr) (c c' : Nat) (v : Value)
    (hp : tmps.getD p undef = .pointer (some ⟨b1, 0, none⟩)) (hq : tmps.getD q undef = .pointer (some ⟨b2, 0, none⟩)) (hv : tmps.getD t undef = v) (h1 : Has w b1 (.cells #[.int .i64 n.no, .int .i64 n.dev, .int .i64 n.kind, .int .i64 n.mode, .int .i64 n.uid, .int .i64 n.gid, .int .i64 n.mtime, .int .i64 n.ctime, .int .i64 n.links, .int .i64 n.up, .string (bs n.data), .slice A n.ents.length c] 49)) (h2 : Has w b2 (.cells #[.int .i64 m.no, .int .i64 m.dev, .int .i64 m.kind, .int .i64 m.mode, .int .i64 m.uid, .int .i64 m.gid, .int .i64 m.mtime, .int .i64 m.ctime, .int .i64 m.links, .int .i64 m.up, .string (bs m.data), .slice A' m.ents.length c'] 49)) :
    (results fn tmps).run Tryz.prog w = .ok (.tuple #[.agg #[.int .i64 n.no, .int .i64 n.dev, .int .i64 n.kind, .int .i64 n.mode, .int .i64 n.uid, .int .i64 n.gid, .int .i64 n.mtime, .int .i64 n.ctime, .int .i64 n.links, .int .i64 n.up, .string (bs n.data), .slice A n.ents.length c], .agg #[.int .i64 m.no, .int .i64 m.dev, .int .i64 m.kind, .int .i64 m.mode, .int .i64 m.uid, .int .i64 m.gid, .int .i64 m.mtime, .int .i64 m.ctime, .int .i64 m.links, .int .i64 m.up, .string (bs m.data), .slice A' m.ents.length c'], v]) w := by
  have hp' : tmps[p]?.getD undef = .pointer (some ⟨b1, 0, none⟩) := by simpa using hp
  have hq' : tmps[q]?.getD undef = .pointer (some ⟨b2, 0, none⟩) := by simpa using hq
  have hv' : tmps[t]?.getD undef = v := by simpa using hv
  have hl1 := run_loadVar_row (P := Tryz.prog) w b1 49 49 _ (0, 0) _ h1 Tryz.underlying49 rfl infoNode12
  have hl2 := run_loadVar_row (P := Tryz.prog) w b2 49 49 _ (0, 0) _ h2 Tryz.underlying49 rfl infoNode12
  simp [results, h, hp', hq', hv', asAddr, hl1, hl2]
def LeaveQ (w : World) (B : Nat) (S : TreeD) (cu cg dir : Int) (nm : List UInt8) (e : Ending) (w' : World) : Prop :=
  ∃ A c A' c', e = .returned (.tuple #[.agg #[.int .i64 (leaveD S cu cg dir nm).no, .int .i64 (leaveD S cu cg dir nm).dev, .int .i64 (leaveD S cu cg dir nm).kind, .int .i64 (leaveD S cu cg dir nm).mode, .int .i64 (leaveD S cu cg dir nm).uid, .int .i64 (leaveD S cu cg dir nm).gid, .int .i64 (leaveD S cu cg dir nm).mtime, .int .i64 (leaveD S cu cg dir nm).ctime, .int .i64 (leaveD S cu cg dir nm).links, .int .i64 (leaveD S cu cg dir nm).up, .string (bs (leaveD S cu cg dir nm).data), .slice A (leaveD S cu cg dir nm).ents.length c], .agg #[.int .i64 (leaveN S cu cg dir nm).no, .int .i64 (leaveN S cu cg dir nm).dev, .int .i64 (leaveN S cu cg dir nm).kind, .int .i64 (leaveN S cu cg dir nm).mode, .int .i64 (leaveN S cu cg dir nm).uid, .int .i64 (leaveN S cu cg dir nm).gid, .int .i64 (leaveN S cu cg dir nm).mtime, .int .i64 (leaveN S cu cg dir nm).ctime, .int .i64 (leaveN S cu cg dir nm).links, .int .i64 (leaveN S cu cg dir nm).up, .string (bs (leaveN S cu cg dir nm).data), .slice A' (leaveN S cu cg dir nm).ents.length c'], .int .i64 (leaveE S cu cg dir nm)]) ∧ NodeOk w' B (leaveD S cu cg dir nm) A c ∧ NodeOk w' B (leaveN S cu cg dir nm) A' c' ∧ Ext w w'
theorem pure_over (ds : List DevD) (no : Int) : overF ds no = overF ds no := rfl
set_option maxRecDepth 100000 in
set_option maxHeartbeats 8000000 in
theorem pleave_any (B : Nat) (g : GhW) (S : TreeD) (cu cg dir : Int) (nm : List UInt8) (w : World) (h : WAt w B g S) (O : Ok S) :
    Calls Tryz.prog 47 #[.pointer (some ⟨g.bW, 0, none⟩), .agg #[.int .i64 cu, .int .i64 cg], .int .i64 dir, .string (bs nm)] w (LeaveQ w B S cu cg dir nm) := by
  obtain ⟨W0, hW0⟩ : ∃ W0, W0 = ((w.alloc (.cells #[.int .i64 cu, .int .i64 cg] 40)).alloc (.cells #[.int .i64 0, .int .i64 0, .int .i64 0, .int .i64 0, .int .i64 0, .int .i64 0, .int .i64 0, .int .i64 0, .int .i64 0, .int .i64 0, .string ⟨#[]⟩, .slice none 0 0] 49)).alloc (.cells #[.int .i64 0, .int .i64 0, .int .i64 0, .int .i64 0, .int .i64 0, .int .i64 0, .int .i64 0, .int .i64 0, .int .i64 0, .int .i64 0, .string ⟨#[]⟩, .slice none 0 0] 49) := ⟨_, rfl⟩
  have E0 : Ext w W0 := by rw [hW0]; exact (((Ext.refl _).alloc _).alloc _).alloc _
  obtain ⟨b5, hb5⟩ : ∃ b, b = w.heap.size := ⟨_, rfl⟩
  have C0 : Has W0 b5 (.cells #[.int .i64 cu, .int .i64 cg] 40) := by rw [hW0, hb5]; exact ((Has.new w _).alloc _).alloc _
  have P0 : Has W0 (b5 + 1) (.cells #[.int .i64 nodeZ.no, .int .i64 nodeZ.dev, .int .i64 nodeZ.kind, .int .i64 nodeZ.mode, .int .i64 nodeZ.uid, .int .i64 nodeZ.gid, .int .i64 nodeZ.mtime, .int .i64 nodeZ.ctime, .int .i64 nodeZ.links, .int .i64 nodeZ.up, .string (bs nodeZ.data), .slice none nodeZ.ents.length 0] 49) := by
    rw [hW0, hb5]
    have := (Has.new (w.alloc (.cells #[.int .i64 cu, .int .i64 cg] 40)) (.cells #[.int .i64 nodeZ.no, .int .i64 nodeZ.dev, .int .i64 nodeZ.kind, .int .i64 nodeZ.mode, .int .i64 nodeZ.uid, .int .i64 nodeZ.gid, .int .i64 nodeZ.mtime, .int .i64 nodeZ.ctime, .int .i64 nodeZ.links, .int .i64 nodeZ.up, .string (bs nodeZ.data), .slice none nodeZ.ents.length 0] 49)).alloc (.cells #[.int .i64 0, .int .i64 0, .int .i64 0, .int .i64 0, .int .i64 0, .int .i64 0, .int .i64 0, .int .i64 0, .int .i64 0, .int .i64 0, .string ⟨#[]⟩, .slice none 0 0] 49)
    rwa [World.size_alloc] at this
  have Q0 : Has W0 (b5 + 2) (.cells #[.int .i64 nodeZ.no, .int .i64 nodeZ.dev, .int .i64 nodeZ.kind, .int .i64 nodeZ.mode, .int .i64 nodeZ.uid, .int .i64 nodeZ.gid, .int .i64 nodeZ.mtime, .int .i64 nodeZ.ctime, .int .i64 nodeZ.links, .int .i64 nodeZ.up, .string (bs nodeZ.data), .slice none nodeZ.ents.length 0] 49) := by
    rw [hW0, hb5]
    have := Has.new ((w.alloc (.cells #[.int .i64 cu, .int .i64 cg] 40)).alloc (.cells #[.int .i64 0, .int .i64 0, .int .i64 0, .int .i64 0, .int .i64 0, .int .i64 0, .int .i64 0, .int .i64 0, .int .i64 0, .int .i64 0, .string ⟨#[]⟩, .slice none 0 0] 49)) (.cells #[.int .i64 nodeZ.no, .int .i64 nodeZ.dev, .int .i64 nodeZ.kind, .int .i64 nodeZ.mode, .int .i64 nodeZ.uid, .int .i64 nodeZ.gid, .int .i64 nodeZ.mtime, .int .i64 nodeZ.ctime, .int .i64 nodeZ.links, .int .i64 nodeZ.up, .string (bs nodeZ.data), .slice none nodeZ.ents.length 0] 49)
    rwa [World.size_alloc, World.size_alloc] at this
  have HO := Lib.hid O
  have hm : Hid (leaveE S cu cg dir nm = if ¬ placeE S cu cg dir nm = 0 then placeE S cu cg dir nm else if isN S.nodes (findF (getN S.nodes dir).ents nm) = false then 5
    else if ¬ overF S.devs (findF (getN S.nodes dir).ents nm) = findF (getN S.nodes dir).ents nm then 16
    else if freeB cu (getN S.nodes dir).mode (getN S.nodes dir).uid (getN S.nodes (findF (getN S.nodes dir).ents nm)).uid = false then 4 else 0) := by show _ = _; rfl
  have hp : Hid (placeE S cu cg dir nm = 0 → placeN S cu cg dir nm = getN S.nodes dir ∧ isN S.nodes dir = true) := fun h0 => ⟨placeN_zero h0, (placeE_zero h0).1⟩
  have hlw := h.lt
  have HS : Hid (∀ (v w' : World) (x : Int), Ext w v → Only [b5 + 1, b5 + 2] v w' → leaveE S cu cg dir nm = x → x ≠ 0 → LeaveQ w B S cu cg dir nm (.returned (.tuple #[.agg #[.int .i64 nodeZ.no, .int .i64 nodeZ.dev, .int .i64 nodeZ.kind, .int .i64 nodeZ.mode, .int .i64 nodeZ.uid, .int .i64 nodeZ.gid, .int .i64 nodeZ.mtime, .int .i64 nodeZ.ctime, .int .i64 nodeZ.links, .int .i64 nodeZ.up, .string (bs nodeZ.data), .slice none nodeZ.ents.length 0], .agg #[.int .i64 nodeZ.no, .int .i64 nodeZ.dev, .int .i64 nodeZ.kind, .int .i64 nodeZ.mode, .int .i64 nodeZ.uid, .int .i64 nodeZ.gid, .int .i64 nodeZ.mtime, .int .i64 nodeZ.ctime, .int .i64 nodeZ.links, .int .i64 nodeZ.up, .string (bs nodeZ.data), .slice none nodeZ.ents.length 0], .int .i64 x])) w') := by
    show ∀ (v w' : World) (x : Int), _
    intro v w' x hE hO hx h0
    have e1 : leaveD S cu cg dir nm = nodeZ := by unfold leaveD; rw [if_neg (by rw [hx]; exact h0)]
    have e2 : leaveN S cu cg dir nm = nodeZ := by unfold leaveN; rw [if_neg (by rw [hx]; exact h0)]
    exact ⟨none, 0, none, 0, by rw [e1, e2, hx], by rw [e1]; exact NodeOk.zero _ _, by rw [e2]; exact NodeOk.zero _ _, hO.after hE (by intro b hb; simp only [List.mem_cons, List.not_mem_nil, or_false] at hb; omega)⟩
  have hb5a : b5 ≤ w.heap.size := by omega
  have hb5b : w.heap.size ≤ b5 := by omega
  clear O
  go_enter Tryz.func47, Tryz.ntmps47
  go_upto_region 1 with fail
  rw [← hW0]
  rw [← hb5]
  clear hW0 hb5
  have x0 : W0.cell? ⟨b5, 0, none⟩ = some (.int .i64 cu) := C0.cell 0
  have x1 : W0.cell? ⟨b5, 1, none⟩ = some (.int .i64 cg) := C0.cell 1
  have xz := C0.lt
  go_wp2_with fail
  refine (pplace_any B g S cu cg dir nm _ (h.ext E0) HO.out.live.devs).mono ?_
  rintro e w2 ⟨A2, k2, rfl, ok2, b2⟩
  obtain ⟨m, hmm⟩ : ∃ m, m = placeN S cu cg dir nm := ⟨_, rfl⟩
  obtain ⟨x, hx⟩ : ∃ x, x = placeE S cu cg dir nm := ⟨_, rfl⟩
  rw [← hmm] at ok2 hp
  rw [← hx] at hm hp
  rw [← hmm, ← hx]
  obtain ⟨W3, hW3⟩ : ∃ W3, W3 = w2.alloc (.cells #[.int .i64 m.no, .int .i64 m.dev, .int .i64 m.kind, .int .i64 m.mode, .int .i64 m.uid, .int .i64 m.gid, .int .i64 m.mtime, .int .i64 m.ctime, .int .i64 m.links, .int .i64 m.up, .string (bs m.data), .slice A2 m.ents.length k2] 49) := ⟨_, rfl⟩
  obtain ⟨b11, hb11⟩ : ∃ b, b = w2.heap.size := ⟨_, rfl⟩
  have E23 : Ext w2 W3 := by rw [hW3]; exact (Ext.refl _).alloc _
  have M3 : Has W3 b11 (.cells #[.int .i64 m.no, .int .i64 m.dev, .int .i64 m.kind, .int .i64 m.mode, .int .i64 m.uid, .int .i64 m.gid, .int .i64 m.mtime, .int .i64 m.ctime, .int .i64 m.links, .int .i64 m.up, .string (bs m.data), .slice A2 m.ents.length k2] 49) := by rw [hW3, hb11]; exact Has.new _ _
  have E03 : Ext W0 W3 := b2.trans E23
  have C3 := C0.ext E03
  have P3 := P0.ext E03
  have Q3 := Q0.ext E03
  have ok3 := ok2.ext E23
  have E3 := E0.trans E03
  have hb11w : W0.heap.size ≤ b11 := by rw [hb11]; exact b2.size
  have hb52 : b5 + 2 < W0.heap.size := Q0.lt
  clear x0 x1 xz hmm hx C0 P0 Q0
  go_upto_region 2 with fail
  rw [← hW3]
  rw [← hb11]
  clear hW3 hb11
  by_cases hx0 : x = 0
  case neg =>
    have t0 : (x == 0) = false := by simpa using hx0
    have t0b : (x != 0) = true := by simpa using hx0
    have hE : Hid (leaveE S cu cg dir nm = x) := by show _ = _; rw [hm.out, if_pos hx0]
    have HX := Lib.hid hx0
    clear hm hx0
    go_wp2_with (first | (refine wpList_store_node rfl _ _ rfl (b5 + 1) nodeZ none 0 rfl rfl P3 ?_; intro wp Pp Op; have Qp := Op.has Q3 (by rw [List.mem_singleton]; omega)) | (refine wpList_store_node rfl _ _ rfl (b5 + 2) nodeZ none 0 rfl rfl Qp ?_; intro wq Qq Oq; have Pq := Oq.has Pp (by rw [List.mem_singleton]; omega)))
    refine bodyPost_ret (v := .tuple #[.agg #[.int .i64 nodeZ.no, .int .i64 nodeZ.dev, .int .i64 nodeZ.kind, .int .i64 nodeZ.mode, .int .i64 nodeZ.uid, .int .i64 nodeZ.gid, .int .i64 nodeZ.mtime, .int .i64 nodeZ.ctime, .int .i64 nodeZ.links, .int .i64 nodeZ.up, .string (bs nodeZ.data), .slice none nodeZ.ents.length 0], .agg #[.int .i64 nodeZ.no, .int .i64 nodeZ.dev, .int .i64 nodeZ.kind, .int .i64 nodeZ.mode, .int .i64 nodeZ.uid, .int .i64 nodeZ.gid, .int .i64 nodeZ.mtime, .int .i64 nodeZ.ctime, .int .i64 nodeZ.links, .int .i64 nodeZ.up, .string (bs nodeZ.data), .slice none nodeZ.ents.length 0], .int .i64 x]) (res_node2 Tryz.results47 _ _ (b5 + 1) (b5 + 2) nodeZ nodeZ none none 0 0 _ rfl rfl rfl Pq Qq) rfl ?_
    exact HS.out _ _ _ E3 ((Op.mono (by simp)).then (Oq.mono (by simp))) hE.out HX.out
  have t0 : (x == 0) = true := by simpa using hx0
  have t0b : (x != 0) = false := by simpa using hx0
  obtain ⟨hmg, hid⟩ := hp.out hx0
  obtain ⟨no, hno⟩ : ∃ no, no = findF m.ents nm := ⟨_, rfl⟩
  have hm2 : Hid (leaveE S cu cg dir nm = if isN S.nodes no = false then 5 else if ¬ overF S.devs no = no then 16 else if freeB cu m.mode m.uid (getN S.nodes no).uid = false then 4 else 0) := by
    show _ = _; rw [hm.out, if_neg (by simpa using hx0), ← hmg, ← hno]
  have HMG := Lib.hid hmg
  have hen := HO.out.entsN dir
  rw [← hmg] at hen
  have HEN := Lib.hid hen
  have KF : Hid (∀ u : Gr W3, Calls Tryz.prog 79 #[.slice A2 m.ents.length k2, .string (bs nm)] u.w (Ret u.w (.int .i64 no))) := by
    show ∀ u : Gr W3, _
    intro u
    rw [hno, ← numOf_findF HEN.out.1]
    exact find_any A2 m.ents k2 nm u.w (ok3.ext u.h).ents.ents HEN.out.1 (by have := HEN.out.2; omega)
  obtain ⟨A4, k4, ok4, C4⟩ := tget_fix B g S no W3 (h.ext E3)
  obtain ⟨n, hn⟩ : ∃ n, n = getN S.nodes no := ⟨_, rfl⟩
  obtain ⟨i, hi⟩ : ∃ i, i = isN S.nodes no := ⟨_, rfl⟩
  have hin : isN S.nodes no = true → (getN S.nodes no).no = no := fun h => (isN_true h).2.1
  rw [← hn] at ok4 hm2 hin
  rw [← hi] at hm2 hin
  rw [← hn, ← hi] at C4
  have HC4 := Lib.hid C4
  have HIN := Lib.hid hin
  have HNO := Lib.hid hno
  have HNN := Lib.hid hn
  have HI := Lib.hid hi
  obtain ⟨_, _, cd, h3, _⟩ := id (h.ext E3)
  have v0 : ∀ u : Gr W3, u.w.cell? ⟨g.bW, 0, none⟩ = some (.pointer (some ⟨g.bT, 0, none⟩)) := Gr.cell h3.lt (h3.cell 0)
  have y11 : ∀ u : Gr W3, u.w.cell? ⟨b11, 11, none⟩ = some (.slice A2 m.ents.length k2) := Gr.cell M3.lt (M3.cell 11)
  clear hm hp hx0 hmg hid hen hno hn hi hin C4 h3
  go_upto_region 4 with fail
  refine wp_region_nbox W3 12 13 13 38 n A4 k4 _ _ (by kernel_rfl) (by kernel_rfl) rfl rfl rfl rfl (by simp) ((Ext.refl _).drew) ?_
  simp only [List.take_succ_cons, List.take_zero, List.drop_succ_cons, List.drop_zero, List.drop_nil]
  repeat (refine wpQuietR_step (fun K hK => ?_)
          go_simp
          first
            | (refine hK _ ?_; clear hK K)
            | (apply Exists.intro
               refine ⟨fun u => ?_, hK _ ?_⟩
               first
                 | ((with_reducible refine (KF.out _).mono ?_); rintro e w'' ⟨rfl, hx⟩; exact ⟨rfl, hx⟩)
                 | ((with_reducible refine (HC4.out _ u.h).mono ?_); rintro e w'' ⟨rfl, hx⟩; exact ⟨rfl, hx⟩)
               clear hK K))
  refine wpQuietR_nil ?_
  refine wpQuietR_nil ⟨rfl, ?_⟩
  refine wpQuietR_step (fun K hK => ?_)
  go_simp
  refine hK _ ?_
  clear hK K
  refine wpQuietR_nil ?_
  intro w4 b13 E34 hb13 N4
  simp only [Act.put]
  have C4 := C3.ext E34
  have P4 := P3.ext E34
  have Q4 := Q3.ext E34
  have M4 := M3.ext E34
  have okm4 := ok3.ext E34
  have okn4 := ok4.ext E34
  have E4 := E3.trans E34
  have hM3 := M3.lt
  clear v0 y11 KF C3 P3 Q3 M3 ok3 ok4 E3
  cases i
  · have hE : Hid (leaveE S cu cg dir nm = 5) := by show _ = _; rw [hm2.out]; rfl
    clear hm2
    go_wp2_with (first | (refine wpList_store_node rfl _ _ rfl (b5 + 1) nodeZ none 0 rfl rfl P4 ?_; intro wp Pp Op; have Qp := Op.has Q4 (by rw [List.mem_singleton]; omega)) | (refine wpList_store_node rfl _ _ rfl (b5 + 2) nodeZ none 0 rfl rfl Qp ?_; intro wq Qq Oq; have Pq := Oq.has Pp (by rw [List.mem_singleton]; omega)))
    refine bodyPost_ret (v := .tuple #[.agg #[.int .i64 nodeZ.no, .int .i64 nodeZ.dev, .int .i64 nodeZ.kind, .int .i64 nodeZ.mode, .int .i64 nodeZ.uid, .int .i64 nodeZ.gid, .int .i64 nodeZ.mtime, .int .i64 nodeZ.ctime, .int .i64 nodeZ.links, .int .i64 nodeZ.up, .string (bs nodeZ.data), .slice none nodeZ.ents.length 0], .agg #[.int .i64 nodeZ.no, .int .i64 nodeZ.dev, .int .i64 nodeZ.kind, .int .i64 nodeZ.mode, .int .i64 nodeZ.uid, .int .i64 nodeZ.gid, .int .i64 nodeZ.mtime, .int .i64 nodeZ.ctime, .int .i64 nodeZ.links, .int .i64 nodeZ.up, .string (bs nodeZ.data), .slice none nodeZ.ents.length 0], .int .i64 5]) (res_node2 Tryz.results47 _ _ (b5 + 1) (b5 + 2) nodeZ nodeZ none none 0 0 _ rfl rfl rfl Pq Qq) rfl ?_
    exact HS.out _ _ _ E4 ((Op.mono (by simp)).then (Oq.mono (by simp))) hE.out (by decide)
  have hnn := HIN.out (by trivial)
  have z0 : w4.cell? ⟨b13, 0, none⟩ = some (.int .i64 n.no) := N4.cell 0
  rw [hnn] at z0
  have KO : Hid (∀ u : Gr w4, Calls Tryz.prog 104 #[.pointer (some ⟨g.bW, 0, none⟩), .int .i64 no] u.w (Ret u.w (.int .i64 (overF S.devs no)))) := by
    show ∀ u : Gr w4, _
    exact fun u => pover_any B g S no _ ((h.ext E4).ext u.h) HO.out.live.devs (by have := HO.out.live.eight; omega)
  have y0 := Gr.cell N4.lt z0
  clear z0 hnn
  go_upto_region 7 with fail
  by_cases ho : overF S.devs no = no
  case neg =>
    have t1 : (overF S.devs no == no) = false := by simpa using ho
    have t1b : (overF S.devs no != no) = true := by simpa using ho
    have hE : Hid (leaveE S cu cg dir nm = 16) := by show _ = _; rw [hm2.out, if_neg (by decide), if_pos ho]
    clear hm2 ho
    refine wp_region_grow w4 (by kernel_rfl) (by kernel_rfl) (Ext.refl _).drew ?_
    repeat (quiet_step (((with_reducible refine (KO.out _).mono ?_); rintro e w'' ⟨rfl, hEx⟩; exact ⟨rfl, ⟨w'', Ext.trans (Gr.h _) hEx⟩, rfl⟩)))
    refine wpQuiet_nil ?_
    rintro w5 ⟨⟨w5', b5'⟩, h5⟩
    dsimp only at h5
    subst h5
    clear y0 KO
    have P5 := P4.ext b5'
    have Q5 := Q4.ext b5'
    go_wp2_with (first | (refine wpList_store_node rfl _ _ rfl (b5 + 1) nodeZ none 0 rfl rfl P5 ?_; intro wp Pp Op; have Qp := Op.has Q5 (by rw [List.mem_singleton]; omega)) | (refine wpList_store_node rfl _ _ rfl (b5 + 2) nodeZ none 0 rfl rfl Qp ?_; intro wq Qq Oq; have Pq := Oq.has Pp (by rw [List.mem_singleton]; omega)))
    refine bodyPost_ret (v := .tuple #[.agg #[.int .i64 nodeZ.no, .int .i64 nodeZ.dev, .int .i64 nodeZ.kind, .int .i64 nodeZ.mode, .int .i64 nodeZ.uid, .int .i64 nodeZ.gid, .int .i64 nodeZ.mtime, .int .i64 nodeZ.ctime, .int .i64 nodeZ.links, .int .i64 nodeZ.up, .string (bs nodeZ.data), .slice none nodeZ.ents.length 0], .agg #[.int .i64 nodeZ.no, .int .i64 nodeZ.dev, .int .i64 nodeZ.kind, .int .i64 nodeZ.mode, .int .i64 nodeZ.uid, .int .i64 nodeZ.gid, .int .i64 nodeZ.mtime, .int .i64 nodeZ.ctime, .int .i64 nodeZ.links, .int .i64 nodeZ.up, .string (bs nodeZ.data), .slice none nodeZ.ents.length 0], .int .i64 16]) (res_node2 Tryz.results47 _ _ (b5 + 1) (b5 + 2) nodeZ nodeZ none none 0 0 _ rfl rfl rfl Pq Qq) rfl ?_
    exact HS.out _ _ _ (E4.trans b5') ((Op.mono (by simp)).then (Oq.mono (by simp))) hE.out (by decide)
  have t1 : (overF S.devs no == no) = true := by simpa using ho
  have t1b : (overF S.devs no != no) = false := by simpa using ho
  have HOV := Lib.hid (show ¬ ¬ overF S.devs no = no by simpa using ho)
  clear ho
  refine wp_region_grow w4 (by kernel_rfl) (by kernel_rfl) (Ext.refl _).drew ?_
  repeat (quiet_step (((with_reducible refine (KO.out _).mono ?_); rintro e w'' ⟨rfl, hEx⟩; exact ⟨rfl, ⟨w'', Ext.trans (Gr.h _) hEx⟩, rfl⟩)))
  refine wpQuiet_nil ?_
  rintro w5 ⟨⟨w5', b5'⟩, h5⟩
  dsimp only at h5
  subst h5
  clear y0 KO
  have P5 := P4.ext b5'
  have Q5 := Q4.ext b5'
  have C5 := C4.ext b5'
  have M5 := M4.ext b5'
  have N5 := N4.ext b5'
  have okm5 := okm4.ext b5'
  have okn5 := okn4.ext b5'
  have E5 := E4.trans b5'
  have x0 : w5.cell? ⟨b5, 0, none⟩ = some (.int .i64 cu) := C5.cell 0
  have x1 : w5.cell? ⟨b5, 1, none⟩ = some (.int .i64 cg) := C5.cell 1
  have xz := C5.lt
  obtain ⟨u, hu⟩ : ∃ u, u = freeB cu m.mode m.uid n.uid := ⟨_, rfl⟩
  have hm3 : Hid (leaveE S cu cg dir nm = if u = false then 4 else 0) := by show _ = _; rw [hm2.out, if_neg (by decide), if_neg HOV.out, hu]
  have HU := Lib.hid hu
  clear hm2 hu P4 Q4 C4 M4 N4 okm4 okn4
  go_wp2_with (first | (refine wpList_load_node rfl _ rfl b11 m A2 k2 rfl M5 ?_) | (refine wpList_load_node rfl _ rfl b13 n A4 k4 rfl N5 ?_))
  refine (pfree_any cu cg _ _ _ m.mode m.uid _ _ _ _ _ _ _ _ _ _ _ n.uid _ _ _ _ _ _ _ _).mono ?_
  rw [← HU.out]
  rintro e w6 ⟨rfl, b6⟩
  have P6 := P5.ext b6
  have Q6 := Q5.ext b6
  have M6 := M5.ext b6
  have N6 := N5.ext b6
  have okm6 := okm5.ext b6
  have okn6 := okn5.ext b6
  have E6 := E5.trans b6
  clear x0 x1 xz P5 Q5 M5 N5 C5
  cases u
  · have hE : Hid (leaveE S cu cg dir nm = 4) := by show _ = _; rw [hm3.out]; rfl
    clear hm3
    go_wp2_with (first | (refine wpList_store_node rfl _ _ rfl (b5 + 1) nodeZ none 0 rfl rfl P6 ?_; intro wp Pp Op; have Qp := Op.has Q6 (by rw [List.mem_singleton]; omega)) | (refine wpList_store_node rfl _ _ rfl (b5 + 2) nodeZ none 0 rfl rfl Qp ?_; intro wq Qq Oq; have Pq := Oq.has Pp (by rw [List.mem_singleton]; omega)))
    refine bodyPost_ret (v := .tuple #[.agg #[.int .i64 nodeZ.no, .int .i64 nodeZ.dev, .int .i64 nodeZ.kind, .int .i64 nodeZ.mode, .int .i64 nodeZ.uid, .int .i64 nodeZ.gid, .int .i64 nodeZ.mtime, .int .i64 nodeZ.ctime, .int .i64 nodeZ.links, .int .i64 nodeZ.up, .string (bs nodeZ.data), .slice none nodeZ.ents.length 0], .agg #[.int .i64 nodeZ.no, .int .i64 nodeZ.dev, .int .i64 nodeZ.kind, .int .i64 nodeZ.mode, .int .i64 nodeZ.uid, .int .i64 nodeZ.gid, .int .i64 nodeZ.mtime, .int .i64 nodeZ.ctime, .int .i64 nodeZ.links, .int .i64 nodeZ.up, .string (bs nodeZ.data), .slice none nodeZ.ents.length 0], .int .i64 4]) (res_node2 Tryz.results47 _ _ (b5 + 1) (b5 + 2) nodeZ nodeZ none none 0 0 _ rfl rfl rfl Pq Qq) rfl ?_
    exact HS.out _ _ _ E6 ((Op.mono (by simp)).then (Oq.mono (by simp))) hE.out (by decide)
  have hE : Hid (leaveE S cu cg dir nm = 0) := by show _ = _; rw [hm3.out]; rfl
  clear hm3
  go_upto_region 11 with fail
  obtain ⟨Ph, hPh⟩ : ∃ Ph : Nat → World → Prop, Ph = ph2 (fun w' => w' = w6.drew) (fun w' => Has w' (b5 + 1) (.cells #[.int .i64 m.no, .int .i64 m.dev, .int .i64 m.kind, .int .i64 m.mode, .int .i64 m.uid, .int .i64 m.gid, .int .i64 m.mtime, .int .i64 m.ctime, .int .i64 m.links, .int .i64 m.up, .string (bs m.data), .slice A2 m.ents.length k2] 49) ∧ Only [b5 + 1] w6.drew w') (fun w' => Has w' (b5 + 1) (.cells #[.int .i64 m.no, .int .i64 m.dev, .int .i64 m.kind, .int .i64 m.mode, .int .i64 m.uid, .int .i64 m.gid, .int .i64 m.mtime, .int .i64 m.ctime, .int .i64 m.links, .int .i64 m.up, .string (bs m.data), .slice A2 m.ents.length k2] 49) ∧ Has w' (b5 + 2) (.cells #[.int .i64 n.no, .int .i64 n.dev, .int .i64 n.kind, .int .i64 n.mode, .int .i64 n.uid, .int .i64 n.gid, .int .i64 n.mtime, .int .i64 n.ctime, .int .i64 n.links, .int .i64 n.up, .string (bs n.data), .slice A4 n.ents.length k4] 49) ∧ Only [b5 + 1, b5 + 2] w6.drew w') := ⟨_, rfl⟩
  have ED : Ext w6 w6.drew := (Ext.refl _).drew
  have HV : Hid (Ph 0 w6.drew) := by show Ph 0 _; rw [hPh]; exact rfl
  have hne : Nonempty (Hp Ph) := ⟨⟨0, _, HV.out⟩⟩
  have uM : ∀ u : Hp Ph, Has u.w b11 (.cells #[.int .i64 m.no, .int .i64 m.dev, .int .i64 m.kind, .int .i64 m.mode, .int .i64 m.uid, .int .i64 m.gid, .int .i64 m.mtime, .int .i64 m.ctime, .int .i64 m.links, .int .i64 m.up, .string (bs m.data), .slice A2 m.ents.length k2] 49) := by
    rw [hPh]
    exact ph2_all (T := fun w' => Has w' b11 (.cells #[.int .i64 m.no, .int .i64 m.dev, .int .i64 m.kind, .int .i64 m.mode, .int .i64 m.uid, .int .i64 m.gid, .int .i64 m.mtime, .int .i64 m.ctime, .int .i64 m.links, .int .i64 m.up, .string (bs m.data), .slice A2 m.ents.length k2] 49)) (fun w' h' => by rw [h']; exact M6.ext ED) (fun w' h' => h'.2.has (M6.ext ED) (by rw [List.mem_singleton]; omega)) (fun w' h' => h'.2.2.has (M6.ext ED) (by simp only [List.mem_cons, List.not_mem_nil, or_false]; omega))
  have uN : ∀ u : Hp Ph, Has u.w b13 (.cells #[.int .i64 n.no, .int .i64 n.dev, .int .i64 n.kind, .int .i64 n.mode, .int .i64 n.uid, .int .i64 n.gid, .int .i64 n.mtime, .int .i64 n.ctime, .int .i64 n.links, .int .i64 n.up, .string (bs n.data), .slice A4 n.ents.length k4] 49) := by
    rw [hPh]
    exact ph2_all (T := fun w' => Has w' b13 (.cells #[.int .i64 n.no, .int .i64 n.dev, .int .i64 n.kind, .int .i64 n.mode, .int .i64 n.uid, .int .i64 n.gid, .int .i64 n.mtime, .int .i64 n.ctime, .int .i64 n.links, .int .i64 n.up, .string (bs n.data), .slice A4 n.ents.length k4] 49)) (fun w' h' => by rw [h']; exact N6.ext ED) (fun w' h' => h'.2.has (N6.ext ED) (by rw [List.mem_singleton]; omega)) (fun w' h' => h'.2.2.has (N6.ext ED) (by simp only [List.mem_cons, List.not_mem_nil, or_false]; omega))
  have my0 : ∀ u : Hp Ph, u.w.cell? ⟨b11, 0, none⟩ = some (.int .i64 m.no) := fun u => (uM u).cell 0
  have my1 : ∀ u : Hp Ph, u.w.cell? ⟨b11, 1, none⟩ = some (.int .i64 m.dev) := fun u => (uM u).cell 1
  have my2 : ∀ u : Hp Ph, u.w.cell? ⟨b11, 2, none⟩ = some (.int .i64 m.kind) := fun u => (uM u).cell 2
  have my3 : ∀ u : Hp Ph, u.w.cell? ⟨b11, 3, none⟩ = some (.int .i64 m.mode) := fun u => (uM u).cell 3
  have my4 : ∀ u : Hp Ph, u.w.cell? ⟨b11, 4, none⟩ = some (.int .i64 m.uid) := fun u => (uM u).cell 4
  have my5 : ∀ u : Hp Ph, u.w.cell? ⟨b11, 5, none⟩ = some (.int .i64 m.gid) := fun u => (uM u).cell 5
  have my6 : ∀ u : Hp Ph, u.w.cell? ⟨b11, 6, none⟩ = some (.int .i64 m.mtime) := fun u => (uM u).cell 6
  have my7 : ∀ u : Hp Ph, u.w.cell? ⟨b11, 7, none⟩ = some (.int .i64 m.ctime) := fun u => (uM u).cell 7
  have my8 : ∀ u : Hp Ph, u.w.cell? ⟨b11, 8, none⟩ = some (.int .i64 m.links) := fun u => (uM u).cell 8
  have my9 : ∀ u : Hp Ph, u.w.cell? ⟨b11, 9, none⟩ = some (.int .i64 m.up) := fun u => (uM u).cell 9
  have my10 : ∀ u : Hp Ph, u.w.cell? ⟨b11, 10, none⟩ = some (.string (bs m.data)) := fun u => (uM u).cell 10
  have my11 : ∀ u : Hp Ph, u.w.cell? ⟨b11, 11, none⟩ = some (.slice A2 m.ents.length k2) := fun u => (uM u).cell 11
  have ny0 : ∀ u : Hp Ph, u.w.cell? ⟨b13, 0, none⟩ = some (.int .i64 n.no) := fun u => (uN u).cell 0
  have ny1 : ∀ u : Hp Ph, u.w.cell? ⟨b13, 1, none⟩ = some (.int .i64 n.dev) := fun u => (uN u).cell 1
  have ny2 : ∀ u : Hp Ph, u.w.cell? ⟨b13, 2, none⟩ = some (.int .i64 n.kind) := fun u => (uN u).cell 2
  have ny3 : ∀ u : Hp Ph, u.w.cell? ⟨b13, 3, none⟩ = some (.int .i64 n.mode) := fun u => (uN u).cell 3
  have ny4 : ∀ u : Hp Ph, u.w.cell? ⟨b13, 4, none⟩ = some (.int .i64 n.uid) := fun u => (uN u).cell 4
  have ny5 : ∀ u : Hp Ph, u.w.cell? ⟨b13, 5, none⟩ = some (.int .i64 n.gid) := fun u => (uN u).cell 5
  have ny6 : ∀ u : Hp Ph, u.w.cell? ⟨b13, 6, none⟩ = some (.int .i64 n.mtime) := fun u => (uN u).cell 6
  have ny7 : ∀ u : Hp Ph, u.w.cell? ⟨b13, 7, none⟩ = some (.int .i64 n.ctime) := fun u => (uN u).cell 7
  have ny8 : ∀ u : Hp Ph, u.w.cell? ⟨b13, 8, none⟩ = some (.int .i64 n.links) := fun u => (uN u).cell 8
  have ny9 : ∀ u : Hp Ph, u.w.cell? ⟨b13, 9, none⟩ = some (.int .i64 n.up) := fun u => (uN u).cell 9
  have ny10 : ∀ u : Hp Ph, u.w.cell? ⟨b13, 10, none⟩ = some (.string (bs n.data)) := fun u => (uN u).cell 10
  have ny11 : ∀ u : Hp Ph, u.w.cell? ⟨b13, 11, none⟩ = some (.slice A4 n.ents.length k4) := fun u => (uN u).cell 11
  have hB0 : Hid (∀ u : Wc (Ph 0), ∃ (m : NodeD) (A' : Option Addr) (c' : Nat), Has u.w (b5 + 1) (.cells #[.int .i64 m.no, .int .i64 m.dev, .int .i64 m.kind, .int .i64 m.mode, .int .i64 m.uid, .int .i64 m.gid, .int .i64 m.mtime, .int .i64 m.ctime, .int .i64 m.links, .int .i64 m.up, .string (bs m.data), .slice A' m.ents.length c'] 49)) := by
    show ∀ u : Wc (Ph 0), _
    rintro ⟨u, hu⟩
    rw [hPh] at hu
    exact ⟨nodeZ, none, 0, by show Has u _ _; rw [show u = w6.drew from hu]; exact P6.ext ED⟩
  have hN0 : Hid (∀ (u : Wc (Ph 0)) (w' : World), Has w' (b5 + 1) (.cells #[.int .i64 m.no, .int .i64 m.dev, .int .i64 m.kind, .int .i64 m.mode, .int .i64 m.uid, .int .i64 m.gid, .int .i64 m.mtime, .int .i64 m.ctime, .int .i64 m.links, .int .i64 m.up, .string (bs m.data), .slice A2 m.ents.length k2] 49) → Only [b5 + 1] u.w w' → Ph 1 w') := by
    show ∀ (u : Wc (Ph 0)) (w' : World), _
    rintro ⟨u, hu⟩ w' h1 h2
    rw [hPh] at hu ⊢
    dsimp only at h2
    rw [show u = w6.drew from hu] at h2
    exact ⟨h1, h2⟩
  have hB1 : Hid (∀ u : Wc (Ph 1), ∃ (m : NodeD) (A' : Option Addr) (c' : Nat), Has u.w (b5 + 2) (.cells #[.int .i64 m.no, .int .i64 m.dev, .int .i64 m.kind, .int .i64 m.mode, .int .i64 m.uid, .int .i64 m.gid, .int .i64 m.mtime, .int .i64 m.ctime, .int .i64 m.links, .int .i64 m.up, .string (bs m.data), .slice A' m.ents.length c'] 49)) := by
    show ∀ u : Wc (Ph 1), _
    rintro ⟨u, hu⟩
    rw [hPh] at hu
    exact ⟨nodeZ, none, 0, hu.2.has (Q6.ext ED) (by rw [List.mem_singleton]; omega)⟩
  have hN1 : Hid (∀ (u : Wc (Ph 1)) (w' : World), Has w' (b5 + 2) (.cells #[.int .i64 n.no, .int .i64 n.dev, .int .i64 n.kind, .int .i64 n.mode, .int .i64 n.uid, .int .i64 n.gid, .int .i64 n.mtime, .int .i64 n.ctime, .int .i64 n.links, .int .i64 n.up, .string (bs n.data), .slice A4 n.ents.length k4] 49) → Only [b5 + 2] u.w w' → Ph 2 w') := by
    show ∀ (u : Wc (Ph 1)) (w' : World), _
    rintro ⟨u, hu⟩ w' h1 h2
    rw [hPh] at hu ⊢
    dsimp only at h2
    exact ⟨h2.has hu.1 (by rw [List.mem_singleton]; omega), h1, (hu.2.mono (by simp)).then (h2.mono (by simp))⟩
  have KQ : Hid (∀ w', Ph 2 w' → Has w' (b5 + 1) (.cells #[.int .i64 m.no, .int .i64 m.dev, .int .i64 m.kind, .int .i64 m.mode, .int .i64 m.uid, .int .i64 m.gid, .int .i64 m.mtime, .int .i64 m.ctime, .int .i64 m.links, .int .i64 m.up, .string (bs m.data), .slice A2 m.ents.length k2] 49) ∧ Has w' (b5 + 2) (.cells #[.int .i64 n.no, .int .i64 n.dev, .int .i64 n.kind, .int .i64 n.mode, .int .i64 n.uid, .int .i64 n.gid, .int .i64 n.mtime, .int .i64 n.ctime, .int .i64 n.links, .int .i64 n.up, .string (bs n.data), .slice A4 n.ents.length k4] 49) ∧ Only [b5 + 1, b5 + 2] w6.drew w') := by
    show ∀ w', _
    intro w' hw
    rw [hPh] at hw
    exact hw
  clear hPh uM uN
  refine wp_region_phase Ph [2, 3] (by kernel_rfl) (by kernel_rfl) (by kernel_rfl) HV.out ?_
  iterate 2 (refine wpLexE_plain (by kernel_rfl) (fun K hK => ?_); go_simp; refine hK _ ?_; clear hK K)
  refine wpLexE_store_node 0 (by kernel_rfl) rfl rfl _ _ rfl (b5 + 1) m A2 k2 rfl rfl hB0.out hN0.out ?_
  refine wpLexE_store_node 1 (by kernel_rfl) rfl rfl _ _ rfl (b5 + 2) n A4 k4 rfl rfl hB1.out hN1.out ?_
  refine wpLexE_plain (by kernel_rfl) (fun K hK => ?_)
  go_simp
  refine hK _ ?_
  clear hK K
  refine wpLexE_nil ?_
  intro w7 hw7
  obtain ⟨P7, Q7, O7⟩ := KQ.out _ hw7
  clear my0 my1 my2 my3 my4 my5 my6 my7 my8 my9 my10 my11 ny0 ny1 ny2 ny3 ny4 ny5 ny6 ny7 ny8 ny9 ny10 ny11 hB0 hN0 hB1 hN1 KQ hw7
  go_wp2_with fail
  refine bodyPost_ret (v := .tuple #[.agg #[.int .i64 m.no, .int .i64 m.dev, .int .i64 m.kind, .int .i64 m.mode, .int .i64 m.uid, .int .i64 m.gid, .int .i64 m.mtime, .int .i64 m.ctime, .int .i64 m.links, .int .i64 m.up, .string (bs m.data), .slice A2 m.ents.length k2], .agg #[.int .i64 n.no, .int .i64 n.dev, .int .i64 n.kind, .int .i64 n.mode, .int .i64 n.uid, .int .i64 n.gid, .int .i64 n.mtime, .int .i64 n.ctime, .int .i64 n.links, .int .i64 n.up, .string (bs n.data), .slice A4 n.ents.length k4], .int .i64 0]) (res_node2 Tryz.results47 _ _ (b5 + 1) (b5 + 2) m n A2 A4 k2 k4 _ rfl rfl rfl P7 Q7) rfl ?_
  have e1 : leaveD S cu cg dir nm = m := by unfold leaveD; rw [if_pos hE.out, HMG.out]
  have e2 : leaveN S cu cg dir nm = n := by unfold leaveN; rw [if_pos hE.out, HNN.out, HNO.out, HMG.out]
  have haP : Apart w6.drew B [b5 + 1, b5 + 2] := by
    intro b hb
    simp only [List.mem_cons, List.not_mem_nil, or_false] at hb
    have := h.1
    rcases hb with rfl | rfl
    · exact ⟨by omega, (P6.ext ED).noTag (by decide)⟩
    · exact ⟨by omega, (Q6.ext ED).noTag (by decide)⟩
  refine ⟨A2, k2, A4, k4, by rw [e1, e2, hE.out], by rw [e1]; exact (okm6.ext ED).only O7 haP, by rw [e2]; exact (okn6.ext ED).only O7 haP, O7.after (E6.trans ED) (by intro b hb; simp only [List.mem_cons, List.not_mem_nil, or_false] at hb; omega)⟩
end Go.Proofs.YtebghednhjaniaaGreat

namespace Go.Proofs.YtebghednhjaniaaGreat
open Go.ChangeShapes Go.WideShapes Go.ChangeAt Go.RowKit

theorem has_of_find {l : List EntD} {nm : List UInt8} (h : findF l nm ≠ 0) : has l nm = true := by
  unfold findF at h
  unfold has
  rw [List.any_eq_true]
  cases hf : l.find? (fun x => x.1 == nm) with
  | none => rw [hf] at h; exact absurd rfl h
  | some y =>
    have h2 := List.find?_some (p := fun x : EntD => x.1 == nm) hf
    exact ⟨y, List.mem_of_find?_eq_some hf, h2⟩
set_option maxRecDepth 100000 in
set_option maxHeartbeats 4000000 in
theorem pgone_any (B : Nat) (g : GhW) (S : TreeD) (now : Int) (d n : NodeD) (A A' : Option Addr) (c c' : Nat) (nm : List UInt8) (w : World) (h : WAt w B g S) (O : Ok S) (hd : NodeOk w B d A c) (hn : NodeOk w B n A' c') (hdr : Rise d.ents) (hdl : d.ents.length ≤ 100000) (hhas : has d.ents nm = true) (hdd : hasD S.devs (getN S.nodes d.no).dev = true ∧ (getN S.nodes d.no).data.length ≤ 1048576) (hd1 : (getN S.nodes d.no).no = 1 → (getN S.nodes d.no).dev = 1) (hh : Held S n) :
    Calls Tryz.prog 50 #[.pointer (some ⟨g.bW, 0, none⟩), .int .i64 now, .agg #[.int .i64 d.no, .int .i64 d.dev, .int .i64 d.kind, .int .i64 d.mode, .int .i64 d.uid, .int .i64 d.gid, .int .i64 d.mtime, .int .i64 d.ctime, .int .i64 d.links, .int .i64 d.up, .string (bs d.data), .slice A d.ents.length c], .agg #[.int .i64 n.no, .int .i64 n.dev, .int .i64 n.kind, .int .i64 n.mode, .int .i64 n.uid, .int .i64 n.gid, .int .i64 n.mtime, .int .i64 n.ctime, .int .i64 n.links, .int .i64 n.up, .string (bs n.data), .slice A' n.ents.length c'], .string (bs nm)] w (ErrR w B g (goneT S now d n nm) 0) := by
  obtain ⟨W0, hW0⟩ : ∃ W0, W0 = (w.alloc (.cells #[.int .i64 d.no, .int .i64 d.dev, .int .i64 d.kind, .int .i64 d.mode, .int .i64 d.uid, .int .i64 d.gid, .int .i64 d.mtime, .int .i64 d.ctime, .int .i64 d.links, .int .i64 d.up, .string (bs d.data), .slice A d.ents.length c] 49)).alloc (.cells #[.int .i64 n.no, .int .i64 n.dev, .int .i64 n.kind, .int .i64 n.mode, .int .i64 n.uid, .int .i64 n.gid, .int .i64 n.mtime, .int .i64 n.ctime, .int .i64 n.links, .int .i64 n.up, .string (bs n.data), .slice A' n.ents.length c'] 49) := ⟨_, rfl⟩
  have E0 : Ext w W0 := by rw [hW0]; exact ((Ext.refl _).alloc _).alloc _
  obtain ⟨b7, hb7⟩ : ∃ b, b = w.heap.size := ⟨_, rfl⟩
  have D0 : Has W0 b7 (.cells #[.int .i64 d.no, .int .i64 d.dev, .int .i64 d.kind, .int .i64 d.mode, .int .i64 d.uid, .int .i64 d.gid, .int .i64 d.mtime, .int .i64 d.ctime, .int .i64 d.links, .int .i64 d.up, .string (bs d.data), .slice A d.ents.length c] 49) := by rw [hW0, hb7]; exact (Has.new w _).alloc _
  have N0 : Has W0 (b7 + 1) (.cells #[.int .i64 n.no, .int .i64 n.dev, .int .i64 n.kind, .int .i64 n.mode, .int .i64 n.uid, .int .i64 n.gid, .int .i64 n.mtime, .int .i64 n.ctime, .int .i64 n.links, .int .i64 n.up, .string (bs n.data), .slice A' n.ents.length c'] 49) := by
    rw [hW0, hb7]
    have := Has.new (w.alloc (.cells #[.int .i64 d.no, .int .i64 d.dev, .int .i64 d.kind, .int .i64 d.mode, .int .i64 d.uid, .int .i64 d.gid, .int .i64 d.mtime, .int .i64 d.ctime, .int .i64 d.links, .int .i64 d.up, .string (bs d.data), .slice A d.ents.length c] 49)) (.cells #[.int .i64 n.no, .int .i64 n.dev, .int .i64 n.kind, .int .i64 n.mode, .int .i64 n.uid, .int .i64 n.gid, .int .i64 n.mtime, .int .i64 n.ctime, .int .i64 n.links, .int .i64 n.up, .string (bs n.data), .slice A' n.ents.length c'] 49)
    rwa [World.size_alloc] at this
  have hb7b : w.heap.size ≤ b7 := by omega
  have HO := Lib.hid O
  have HR := Lib.hid hdr
  have HHAS := Lib.hid hhas
  have HH := Lib.hid hh
  have HDD := Lib.hid hdd
  have HD1 := Lib.hid hd1
  have y11 : W0.cell? ⟨b7, 11, none⟩ = some (.slice A d.ents.length c) := D0.cell 11
  have yz := D0.lt
  have okd := hd.ext E0
  have okn := hn.ext E0
  clear O hdr hhas hh hdd hd1
  go_enter Tryz.func50, Tryz.ntmps50
  go_upto_region 1 with fail
  rw [← hW0]
  rw [← hb7]
  clear hW0 hb7
  go_wp2_with fail
  refine (drop_yes A d.ents c nm _ okd.ents.ents HR.out okd.cap okd.max (by omega) HHAS.out).mono ?_
  rintro e w2 ⟨v2, rfl, hown, b2⟩
  rw [cutP_dropF _ _ HR.out HHAS.out] at hown
  obtain ⟨A2, c2, rfl, q1, q2, q3, q4⟩ := hown.entsT (B := B)
  have D2 := D0.ext b2
  have N2 := N0.ext b2
  have okn2 := okn.ext b2
  have E2 := E0.trans b2
  obtain ⟨L2, hL2⟩ : ∃ L, L = dropF d.ents nm := ⟨_, rfl⟩
  rw [← hL2] at q1 q3 ⊢
  have HL2 := Lib.hid hL2
  have z0 : w2.cell? ⟨b7, 0, none⟩ = some (.int .i64 d.no) := D2.cell 0
  have zz := D2.lt
  obtain ⟨T, hT⟩ : ∃ T, T = touchT S d.no now L2 := ⟨_, rfl⟩
  have HT := Lib.hid hT
  have KT : Hid (Calls Tryz.prog 81 #[.pointer (some ⟨g.bW, 0, none⟩), .int .i64 d.no, .int .i64 now, .slice A2 L2.length c2] w2 (TouchR w2 B g T)) := by
    show Calls _ _ _ _ _
    rw [hT]
    exact ptouch_any B g S d.no now A2 L2 c2 w2 (h.ext E2) HO.out.live.nos q3 q1 q2 q4
  have hTL : Live T := by
    rw [hT]
    exact HO.out.live.set _ HDD.out.1 HDD.out.2 HD1.out
  have hHT : Held T n := ⟨HH.out.links, by rw [hT]; exact HH.out.dev, HH.out.data, HH.out.one⟩
  have HTL := Lib.hid hTL
  have HHT := Lib.hid hHT
  clear y11 yz hown q1 q2 q3 q4 hL2 hT hTL hHT D0 N0 okd
  go_wp2_with fail
  refine KT.out.mono ?_
  rintro e w3 ⟨rfl, K3, O3⟩
  have hng : b7 + 1 ∉ g.list := by
    have hlw := h.lt
    simp only [GhW.list, List.mem_cons, List.not_mem_nil, or_false]
    omega
  have N3 := O3.has N2 hng
  have okn3 := okn2.only O3 (h.ext E2).apart
  clear z0 zz KT
  go_wp2_with (refine wpList_load_node rfl _ rfl (b7 + 1) n A' c' rfl N3 ?_)
  refine (pless_any B g T now n A' c' _ K3 HTL.out okn3 HHT.out).mono ?_
  rintro e w4 ⟨rfl, K4, O4⟩
  go_wp2_with fail
  go_ret
  have e1 : goneT S now d n nm = lessT T now n := by unfold goneT; rw [HT.out, HL2.out]
  exact ⟨rfl, by rw [e1]; exact K4, (Only.pre E2 O3).then O4⟩
/-! ### Unlink, Rmdir. -/
theorem leaveE_zero {S : TreeD} {cu cg dir : Int} {nm : List UInt8} (h : leaveE S cu cg dir nm = 0) : placeE S cu cg dir nm = 0 ∧ isN S.nodes (findF (getN S.nodes dir).ents nm) = true ∧ overF S.devs (findF (getN S.nodes dir).ents nm) = findF (getN S.nodes dir).ents nm ∧ leaveD S cu cg dir nm = getN S.nodes dir ∧ leaveN S cu cg dir nm = getN S.nodes (findF (getN S.nodes dir).ents nm) := by
  have e1 : leaveD S cu cg dir nm = getN S.nodes dir := by unfold leaveD; rw [if_pos h]
  have e2 : leaveN S cu cg dir nm = getN S.nodes (findF (getN S.nodes dir).ents nm) := by unfold leaveN; rw [if_pos h]
  refine ⟨?_, ?_, ?_, e1, e2⟩ <;> unfold leaveE at h <;> split at h
  · rename_i h1; exact absurd h h1
  · rename_i h1; exact Decidable.not_not.1 h1
  · rename_i h1; exact absurd h h1
  · split at h
    · cases h
    · rename_i h2; simpa using h2
  · rename_i h1; exact absurd h h1
  · split at h
    · cases h
    · split at h
      · cases h
      · rename_i h3; exact Decidable.not_not.1 h3
set_option maxRecDepth 100000 in
set_option maxHeartbeats 8000000 in
theorem punlink_any (B : Nat) (g : GhW) (S : TreeD) (cu cg now dir : Int) (nm : List UInt8) (w : World) (h : WAt w B g S) (O : Ok S) :
    Calls Tryz.prog 19 #[.pointer (some ⟨g.bW, 0, none⟩), .agg #[.int .i64 cu, .int .i64 cg], .int .i64 now, .int .i64 dir, .string (bs nm)] w (ErrR w B g (unlinkT S cu cg now dir nm) (unlinkE S cu cg dir nm)) := by
  obtain ⟨W0, hW0⟩ : ∃ W0, W0 = w.alloc (.cells #[.int .i64 cu, .int .i64 cg] 40) := ⟨_, rfl⟩
  have E0 : Ext w W0 := by rw [hW0]; exact (Ext.refl _).alloc _
  have C0 : Has W0 w.heap.size (.cells #[.int .i64 cu, .int .i64 cg] 40) := by rw [hW0]; exact Has.new w _
  have HO := Lib.hid O
  have HE : Hid (unlinkE S cu cg dir nm = if ¬ leaveE S cu cg dir nm = 0 then leaveE S cu cg dir nm else if (leaveN S cu cg dir nm).kind = 1 then 8 else 0) := by show _ = _; rfl
  have HZ : Hid (leaveE S cu cg dir nm = 0 → _) := fun h0 => leaveE_zero (nm := nm) h0
  have HS : Hid (∀ (w' : World) (x : Int), Ext w w' → unlinkE S cu cg dir nm = x → x ≠ 0 → ErrR w B g (unlinkT S cu cg now dir nm) (unlinkE S cu cg dir nm) (.returned (.int .i64 x)) w') := by
    show ∀ (w' : World) (x : Int), _
    intro w' x hE hx h0
    rw [hx]
    exact errR_same h hE (by unfold unlinkT; rw [if_neg (by rw [hx]; exact h0)])
  have x0 : W0.cell? ⟨w.heap.size, 0, none⟩ = some (.int .i64 cu) := C0.cell 0
  have x1 : W0.cell? ⟨w.heap.size, 1, none⟩ = some (.int .i64 cg) := C0.cell 1
  have xz := C0.lt
  clear O
  go_enter Tryz.func19, Tryz.ntmps19
  go_upto_region 1 with fail
  rw [← hW0]
  clear hW0
  go_wp2_with fail
  refine (pleave_any B g S cu cg dir nm _ (h.ext E0) HO.out).mono ?_
  rintro e w2 ⟨A1, c1, A2, c2, rfl, okd, okn, b2⟩
  obtain ⟨d, hd⟩ : ∃ d, d = leaveD S cu cg dir nm := ⟨_, rfl⟩
  obtain ⟨n, hn⟩ : ∃ n, n = leaveN S cu cg dir nm := ⟨_, rfl⟩
  obtain ⟨x, hx⟩ : ∃ x, x = leaveE S cu cg dir nm := ⟨_, rfl⟩
  rw [← hd] at okd
  rw [← hn] at okn
  rw [← hd, ← hn, ← hx]
  rw [← hx] at HE HZ
  have HDD := Lib.hid hd
  have HNN := Lib.hid hn
  obtain ⟨W3, hW3⟩ : ∃ W3, W3 = (w2.alloc (.cells #[.int .i64 d.no, .int .i64 d.dev, .int .i64 d.kind, .int .i64 d.mode, .int .i64 d.uid, .int .i64 d.gid, .int .i64 d.mtime, .int .i64 d.ctime, .int .i64 d.links, .int .i64 d.up, .string (bs d.data), .slice A1 d.ents.length c1] 49)).alloc (.cells #[.int .i64 n.no, .int .i64 n.dev, .int .i64 n.kind, .int .i64 n.mode, .int .i64 n.uid, .int .i64 n.gid, .int .i64 n.mtime, .int .i64 n.ctime, .int .i64 n.links, .int .i64 n.up, .string (bs n.data), .slice A2 n.ents.length c2] 49) := ⟨_, rfl⟩
  have E23 : Ext w2 W3 := by rw [hW3]; exact ((Ext.refl _).alloc _).alloc _
  obtain ⟨b11, hb11⟩ : ∃ b, b = w2.heap.size := ⟨_, rfl⟩
  have D3 : Has W3 b11 (.cells #[.int .i64 d.no, .int .i64 d.dev, .int .i64 d.kind, .int .i64 d.mode, .int .i64 d.uid, .int .i64 d.gid, .int .i64 d.mtime, .int .i64 d.ctime, .int .i64 d.links, .int .i64 d.up, .string (bs d.data), .slice A1 d.ents.length c1] 49) := by rw [hW3, hb11]; exact (Has.new w2 _).alloc _
  have N3 : Has W3 (b11 + 1) (.cells #[.int .i64 n.no, .int .i64 n.dev, .int .i64 n.kind, .int .i64 n.mode, .int .i64 n.uid, .int .i64 n.gid, .int .i64 n.mtime, .int .i64 n.ctime, .int .i64 n.links, .int .i64 n.up, .string (bs n.data), .slice A2 n.ents.length c2] 49) := by
    rw [hW3, hb11]
    have := Has.new (w2.alloc (.cells #[.int .i64 d.no, .int .i64 d.dev, .int .i64 d.kind, .int .i64 d.mode, .int .i64 d.uid, .int .i64 d.gid, .int .i64 d.mtime, .int .i64 d.ctime, .int .i64 d.links, .int .i64 d.up, .string (bs d.data), .slice A1 d.ents.length c1] 49)) (.cells #[.int .i64 n.no, .int .i64 n.dev, .int .i64 n.kind, .int .i64 n.mode, .int .i64 n.uid, .int .i64 n.gid, .int .i64 n.mtime, .int .i64 n.ctime, .int .i64 n.links, .int .i64 n.up, .string (bs n.data), .slice A2 n.ents.length c2] 49)
    rwa [World.size_alloc] at this
  have okd3 := okd.ext E23
  have okn3 := okn.ext E23
  have E3 := (E0.trans b2).trans E23
  clear x0 x1 xz hd hn hx C0
  go_upto_region 2 with fail
  rw [← hW3]
  rw [← hb11]
  have hb11w : w.heap.size ≤ b11 := by rw [hb11]; exact (E0.trans b2).size
  clear hW3 hb11
  by_cases hx0 : x = 0
  case neg =>
    have t0 : (x == 0) = false := by simpa using hx0
    have t0b : (x != 0) = true := by simpa using hx0
    have hE : Hid (unlinkE S cu cg dir nm = x) := by show _ = _; rw [HE.out, if_pos hx0]
    have HX := Lib.hid hx0
    clear hx0
    go_wp2_with fail
    go_ret
    exact HS.out _ _ E3 hE.out HX.out
  have t0 : (x == 0) = true := by simpa using hx0
  have t0b : (x != 0) = false := by simpa using hx0
  have hz := HZ.out hx0
  have HLZ := Lib.hid hz
  have HX0 := Lib.hid (show ¬ ¬ x = 0 by simpa using hx0)
  have k2 : W3.cell? ⟨b11 + 1, 2, none⟩ = some (.int .i64 n.kind) := N3.cell 2
  have kz := N3.lt
  clear hx0 hz
  by_cases c1' : n.kind = 1
  · have t1 : (n.kind == 1) = true := by simpa using c1'
    have hE : Hid (unlinkE S cu cg dir nm = 8) := by show _ = _; rw [HE.out, if_neg HX0.out, ← HNN.out, if_pos c1']
    clear c1'
    go_wp2_with fail
    go_ret
    exact HS.out _ _ E3 hE.out (by decide)
  have t1 : (n.kind == 1) = false := by simpa using c1'
  have HC1 := Lib.hid c1'
  clear c1'
  have hE : Hid (unlinkE S cu cg dir nm = 0) := by show _ = _; rw [HE.out, if_neg HX0.out, ← HNN.out, if_neg HC1.out]
  obtain ⟨z1, z2, z3, z4, z5⟩ := HLZ.out
  rw [← HDD.out] at z4
  rw [← HNN.out] at z5
  have hpos : findF (getN S.nodes dir).ents nm ≠ 0 := fun e => by
    rw [e] at z2
    have := HO.out.live.nos.zero (no := 0) (.inl (by omega))
    rw [this] at z2; cases z2
  have hdi := (placeE_zero z1).1
  have hdn := (isN_true hdi).2.1
  have hden := HO.out.entsN dir
  have KG : Hid (Calls Tryz.prog 50 #[.pointer (some ⟨g.bW, 0, none⟩), .int .i64 now, .agg #[.int .i64 d.no, .int .i64 d.dev, .int .i64 d.kind, .int .i64 d.mode, .int .i64 d.uid, .int .i64 d.gid, .int .i64 d.mtime, .int .i64 d.ctime, .int .i64 d.links, .int .i64 d.up, .string (bs d.data), .slice A1 d.ents.length c1], .agg #[.int .i64 n.no, .int .i64 n.dev, .int .i64 n.kind, .int .i64 n.mode, .int .i64 n.uid, .int .i64 n.gid, .int .i64 n.mtime, .int .i64 n.ctime, .int .i64 n.links, .int .i64 n.up, .string (bs n.data), .slice A2 n.ents.length c2], .string (bs nm)] W3 (ErrR W3 B g (goneT S now d n nm) 0)) := by
    have e1 : getN S.nodes d.no = getN S.nodes dir := by rw [z4, hdn]
    refine pgone_any B g S now d n A1 A2 c1 c2 nm W3 (h.ext E3) HO.out okd3 okn3 (by rw [z4]; exact hden.1) (by rw [z4]; exact hden.2) (by rw [z4]; exact has_of_find hpos) ?_ ?_ (by rw [z5]; exact HO.out.held z2)
    · rw [e1]; exact HO.out.live.on _ (isN_true hdi).2.2
    · rw [e1]; exact HO.out.live.one _ (isN_true hdi).2.2
  have e3 : Hid (unlinkT S cu cg now dir nm = goneT S now d n nm) := by show _ = _; unfold unlinkT; rw [if_pos hE.out, ← HDD.out, ← HNN.out]
  clear z1 z2 z3 z4 z5 hpos hdi hdn hden
  go_wp2_with (first | (refine wpList_load_node rfl _ rfl b11 d A1 c1 rfl D3 ?_) | (refine wpList_load_node rfl _ rfl (b11 + 1) n A2 c2 rfl N3 ?_))
  refine KG.out.mono ?_
  rintro e w4 ⟨rfl, K4, O4⟩
  go_wp2_with fail
  go_ret
  rw [hE.out]
  exact ⟨rfl, by rw [e3.out]; exact K4, Only.pre E3 O4⟩
set_option maxRecDepth 100000 in
set_option maxHeartbeats 8000000 in
theorem prmdir_any (B : Nat) (g : GhW) (S : TreeD) (cu cg now dir : Int) (nm : List UInt8) (w : World) (h : WAt w B g S) (O : Ok S) :
    Calls Tryz.prog 20 #[.pointer (some ⟨g.bW, 0, none⟩), .agg #[.int .i64 cu, .int .i64 cg], .int .i64 now, .int .i64 dir, .string (bs nm)] w (ErrR w B g (rmdirT S cu cg now dir nm) (rmdirE S cu cg dir nm)) := by
  obtain ⟨W0, hW0⟩ : ∃ W0, W0 = w.alloc (.cells #[.int .i64 cu, .int .i64 cg] 40) := ⟨_, rfl⟩
  have E0 : Ext w W0 := by rw [hW0]; exact (Ext.refl _).alloc _
  have C0 : Has W0 w.heap.size (.cells #[.int .i64 cu, .int .i64 cg] 40) := by rw [hW0]; exact Has.new w _
  have HO := Lib.hid O
  have HE : Hid (rmdirE S cu cg dir nm = if ¬ leaveE S cu cg dir nm = 0 then leaveE S cu cg dir nm else if ¬ (leaveN S cu cg dir nm).kind = 1 then 9 else if 0 < ((leaveN S cu cg dir nm).ents.length : Int) then 10 else 0) := by show _ = _; rfl
  have HZ : Hid (leaveE S cu cg dir nm = 0 → _) := fun h0 => leaveE_zero (nm := nm) h0
  have HS : Hid (∀ (w' : World) (x : Int), Ext w w' → rmdirE S cu cg dir nm = x → x ≠ 0 → ErrR w B g (rmdirT S cu cg now dir nm) (rmdirE S cu cg dir nm) (.returned (.int .i64 x)) w') := by
    show ∀ (w' : World) (x : Int), _
    intro w' x hE hx h0
    rw [hx]
    exact errR_same h hE (by unfold rmdirT; rw [if_neg (by rw [hx]; exact h0)])
  have x0 : W0.cell? ⟨w.heap.size, 0, none⟩ = some (.int .i64 cu) := C0.cell 0
  have x1 : W0.cell? ⟨w.heap.size, 1, none⟩ = some (.int .i64 cg) := C0.cell 1
  have xz := C0.lt
  clear O
  go_enter Tryz.func20, Tryz.ntmps20
  go_upto_region 1 with fail
  rw [← hW0]
  clear hW0
  go_wp2_with fail
  refine (pleave_any B g S cu cg dir nm _ (h.ext E0) HO.out).mono ?_
  rintro e w2 ⟨A1, c1, A2, c2, rfl, okd, okn, b2⟩
  obtain ⟨d, hd⟩ : ∃ d, d = leaveD S cu cg dir nm := ⟨_, rfl⟩
  obtain ⟨n, hn⟩ : ∃ n, n = leaveN S cu cg dir nm := ⟨_, rfl⟩
  obtain ⟨x, hx⟩ : ∃ x, x = leaveE S cu cg dir nm := ⟨_, rfl⟩
  rw [← hd] at okd
  rw [← hn] at okn
  rw [← hd, ← hn, ← hx]
  rw [← hx] at HE HZ
  have HDD := Lib.hid hd
  have HNN := Lib.hid hn
  obtain ⟨W3, hW3⟩ : ∃ W3, W3 = (w2.alloc (.cells #[.int .i64 d.no, .int .i64 d.dev, .int .i64 d.kind, .int .i64 d.mode, .int .i64 d.uid, .int .i64 d.gid, .int .i64 d.mtime, .int .i64 d.ctime, .int .i64 d.links, .int .i64 d.up, .string (bs d.data), .slice A1 d.ents.length c1] 49)).alloc (.cells #[.int .i64 n.no, .int .i64 n.dev, .int .i64 n.kind, .int .i64 n.mode, .int .i64 n.uid, .int .i64 n.gid, .int .i64 n.mtime, .int .i64 n.ctime, .int .i64 n.links, .int .i64 n.up, .string (bs n.data), .slice A2 n.ents.length c2] 49) := ⟨_, rfl⟩
  have E23 : Ext w2 W3 := by rw [hW3]; exact ((Ext.refl _).alloc _).alloc _
  obtain ⟨b11, hb11⟩ : ∃ b, b = w2.heap.size := ⟨_, rfl⟩
  have D3 : Has W3 b11 (.cells #[.int .i64 d.no, .int .i64 d.dev, .int .i64 d.kind, .int .i64 d.mode, .int .i64 d.uid, .int .i64 d.gid, .int .i64 d.mtime, .int .i64 d.ctime, .int .i64 d.links, .int .i64 d.up, .string (bs d.data), .slice A1 d.ents.length c1] 49) := by rw [hW3, hb11]; exact (Has.new w2 _).alloc _
  have N3 : Has W3 (b11 + 1) (.cells #[.int .i64 n.no, .int .i64 n.dev, .int .i64 n.kind, .int .i64 n.mode, .int .i64 n.uid, .int .i64 n.gid, .int .i64 n.mtime, .int .i64 n.ctime, .int .i64 n.links, .int .i64 n.up, .string (bs n.data), .slice A2 n.ents.length c2] 49) := by
    rw [hW3, hb11]
    have := Has.new (w2.alloc (.cells #[.int .i64 d.no, .int .i64 d.dev, .int .i64 d.kind, .int .i64 d.mode, .int .i64 d.uid, .int .i64 d.gid, .int .i64 d.mtime, .int .i64 d.ctime, .int .i64 d.links, .int .i64 d.up, .string (bs d.data), .slice A1 d.ents.length c1] 49)) (.cells #[.int .i64 n.no, .int .i64 n.dev, .int .i64 n.kind, .int .i64 n.mode, .int .i64 n.uid, .int .i64 n.gid, .int .i64 n.mtime, .int .i64 n.ctime, .int .i64 n.links, .int .i64 n.up, .string (bs n.data), .slice A2 n.ents.length c2] 49)
    rwa [World.size_alloc] at this
  have okd3 := okd.ext E23
  have okn3 := okn.ext E23
  have E3 := (E0.trans b2).trans E23
  clear x0 x1 xz hd hn hx C0
  go_upto_region 2 with fail
  rw [← hW3]
  rw [← hb11]
  have hb11w : w.heap.size ≤ b11 := by rw [hb11]; exact (E0.trans b2).size
  clear hW3 hb11
  by_cases hx0 : x = 0
  case neg =>
    have t0 : (x == 0) = false := by simpa using hx0
    have t0b : (x != 0) = true := by simpa using hx0
    have hE : Hid (rmdirE S cu cg dir nm = x) := by show _ = _; rw [HE.out, if_pos hx0]
    have HX := Lib.hid hx0
    clear hx0
    go_wp2_with fail
    go_ret
    exact HS.out _ _ E3 hE.out HX.out
  have t0 : (x == 0) = true := by simpa using hx0
  have t0b : (x != 0) = false := by simpa using hx0
  have hz := HZ.out hx0
  have HLZ := Lib.hid hz
  have HX0 := Lib.hid (show ¬ ¬ x = 0 by simpa using hx0)
  have k2 : W3.cell? ⟨b11 + 1, 2, none⟩ = some (.int .i64 n.kind) := N3.cell 2
  have kz := N3.lt
  clear hx0 hz
  by_cases c1' : n.kind = 1
  case neg =>
    have t1 : (n.kind == 1) = false := by simpa using c1'
    have t1b : (n.kind != 1) = true := by simpa using c1'
    have hE : Hid (rmdirE S cu cg dir nm = 9) := by show _ = _; rw [HE.out, if_neg HX0.out, ← HNN.out, if_pos c1']
    clear c1'
    go_wp2_with fail
    go_ret
    exact HS.out _ _ E3 hE.out (by decide)
  have t1 : (n.kind == 1) = true := by simpa using c1'
  have t1b : (n.kind != 1) = false := by simpa using c1'
  have HC1 := Lib.hid (show ¬ ¬ n.kind = 1 by simpa using c1')
  have k11 : W3.cell? ⟨b11 + 1, 11, none⟩ = some (.slice A2 n.ents.length c2) := N3.cell 11
  clear c1'
  obtain ⟨L, hL⟩ : ∃ L, L = n.ents.length := ⟨_, rfl⟩
  rw [← hL] at k11
  by_cases c2' : 0 < (L : Int)
  · have t2 : decide (0 < (L : Int)) = true := decide_eq_true c2'
    have t2b : decide (0 < L) = true := decide_eq_true (by omega)
    have t2c : 0 < L := by omega
    have HLL := Lib.hid hL
    clear hL c2'
    have hE : Hid (rmdirE S cu cg dir nm = 10) := by show _ = _; rw [HE.out, if_neg HX0.out, ← HNN.out, if_neg HC1.out, if_pos (by rw [← HLL.out]; omega)]
    go_wp2_with fail
    go_ret
    exact HS.out _ _ E3 hE.out (by decide)
  have hL0 : L = 0 := by omega
  rw [hL0] at k11
  have HL0 := Lib.hid (show n.ents.length = 0 by omega)
  clear c2' hL hL0
  have hE : Hid (rmdirE S cu cg dir nm = 0) := by show _ = _; rw [HE.out, if_neg HX0.out, ← HNN.out, if_neg HC1.out, if_neg (by rw [HL0.out]; decide)]
  obtain ⟨z1, z2, z3, z4, z5⟩ := HLZ.out
  rw [← HDD.out] at z4
  rw [← HNN.out] at z5
  have hpos : findF (getN S.nodes dir).ents nm ≠ 0 := fun e => by
    rw [e] at z2
    have := HO.out.live.nos.zero (no := 0) (.inl (by omega))
    rw [this] at z2; cases z2
  have hdi := (placeE_zero z1).1
  have hdn := (isN_true hdi).2.1
  have hden := HO.out.entsN dir
  have KG : Hid (Calls Tryz.prog 50 #[.pointer (some ⟨g.bW, 0, none⟩), .int .i64 now, .agg #[.int .i64 d.no, .int .i64 d.dev, .int .i64 d.kind, .int .i64 d.mode, .int .i64 d.uid, .int .i64 d.gid, .int .i64 d.mtime, .int .i64 d.ctime, .int .i64 d.links, .int .i64 d.up, .string (bs d.data), .slice A1 d.ents.length c1], .agg #[.int .i64 n.no, .int .i64 n.dev, .int .i64 n.kind, .int .i64 n.mode, .int .i64 n.uid, .int .i64 n.gid, .int .i64 n.mtime, .int .i64 n.ctime, .int .i64 n.links, .int .i64 n.up, .string (bs n.data), .slice A2 n.ents.length c2], .string (bs nm)] W3 (ErrR W3 B g (goneT S now d n nm) 0)) := by
    have e1 : getN S.nodes d.no = getN S.nodes dir := by rw [z4, hdn]
    refine pgone_any B g S now d n A1 A2 c1 c2 nm W3 (h.ext E3) HO.out okd3 okn3 (by rw [z4]; exact hden.1) (by rw [z4]; exact hden.2) (by rw [z4]; exact has_of_find hpos) ?_ ?_ (by rw [z5]; exact HO.out.held z2)
    · rw [e1]; exact HO.out.live.on _ (isN_true hdi).2.2
    · rw [e1]; exact HO.out.live.one _ (isN_true hdi).2.2
  have e3 : Hid (rmdirT S cu cg now dir nm = goneT S now d n nm) := by show _ = _; unfold rmdirT; rw [if_pos hE.out, ← HDD.out, ← HNN.out]
  clear z1 z2 z3 z4 z5 hpos hdi hdn hden
  go_wp2_with (first | (refine wpList_load_node rfl _ rfl b11 d A1 c1 rfl D3 ?_) | (refine wpList_load_node rfl _ rfl (b11 + 1) n A2 c2 rfl N3 ?_))
  refine KG.out.mono ?_
  rintro e w4 ⟨rfl, K4, O4⟩
  go_wp2_with fail
  go_ret
  rw [hE.out]
  exact ⟨rfl, by rw [e3.out]; exact K4, Only.pre E3 O4⟩
end Go.Proofs.YtebghednhjaniaaGreat

namespace Go.Proofs.YtebghednhjaniaaGreat

theorem getN_setT {S : TreeD} {n : NodeD} {no : Int} (hne : no ≠ n.no) : getN (setT S n).nodes no = getN S.nodes no := (setN_get hne).1
/-- A kill asks what is on which mount, of what size: the node's other parts do not matter. -/
theorem kill_set {S : TreeD} (hu : NosUp S.nodes S.last) {n : NodeD} (hkb : killB S n.no = true) (hi : isN S.nodes n.no = true) (hv : n.dev = (getN S.nodes n.no).dev) (hk : n.kind = (getN S.nodes n.no).kind) (hd : n.data = (getN S.nodes n.no).data) : killT (setT S n) n.no = killT S n.no := by
  have hg := set_self hu hi
  have hi2 : isN (setT S n).nodes n.no = true := by show isN (setN S.nodes n) n.no = true; rw [isN_set]; exact hi
  have hb : killB (setT S n) n.no = killB S n.no := by
    unfold killB
    rw [hi, hi2, hg, hv]; rfl
  unfold killT
  have hq : killQ (setT S n) (getN (setT S n).nodes n.no) = killQ S (getN S.nodes n.no) := by
    unfold killQ
    rw [hg, hv, hk, hd]; rfl
  have hn : dropN (setT S n).nodes n.no = dropN S.nodes n.no := by
    unfold dropN setT setN
    induction S.nodes with
    | nil => rfl
    | cons m ms ih =>
      simp only [List.map_cons, List.filter_cons] at ih ⊢
      rw [ih]
      by_cases e : m.no = n.no
      · simp [e]
      · simp [e]
  rw [hq, hn, hb, if_pos hkb, if_pos hkb]
  rfl
/-- A node has one name less; without any it goes. -/
theorem tre_less {c : Nat} {k : Int} {S : TreeD} (h : TreB c k S) {no now : Int} (hi : isN S.nodes no = true) (ho : overF S.devs no = no) (hr : rootF S.devs (getN S.nodes no).dev ≠ no) (hne : (getN S.nodes no).kind = 1 → (getN S.nodes no).ents = []) (hkk : k = 0 ∨ (k = no ∧ (getN S.nodes no).kind = 1)) : Tre c (lessT S now (getN S.nodes no)) := by
  obtain ⟨_, hno, hm⟩ := isN_true hi
  have hb := h.bits _ hm
  unfold lessT
  split
  · have hkb : killB S no = true := by unfold killB; rw [hi]; simpa using hr
    have e : killT (setT S (lessN now (getN S.nodes no))) (getN S.nodes no).no = killT S no := by
      have := kill_set h.nos (n := lessN now (getN S.nodes no)) (by show killB S (getN S.nodes no).no = true; rw [hno]; exact hkb) (by show isN S.nodes (getN S.nodes no).no = true; rw [hno]; exact hi) (by show _ = (getN S.nodes (getN S.nodes no).no).dev; rw [hno]; rfl) (by show _ = (getN S.nodes (getN S.nodes no).no).kind; rw [hno]; rfl) (by show _ = (getN S.nodes (getN S.nodes no).no).data; rw [hno]; rfl)
      have e2 : (lessN now (getN S.nodes no)).no = no := hno
      rw [e2] at this
      rw [hno]; exact this
    rw [e]
    refine tre_kill h hkb ho ?_ hne
    · rcases hkk with e | e
      · exact .inr (.inr e)
      · exact .inr (.inl e.1)
  · rename_i hl
    have hnk : (getN S.nodes no).kind ≠ 1 := fun hk => by
      have := h.dlinks _ hm hk
      rw [this] at hl
      omega
    have hk0 : k = 0 := by
      rcases hkk with e | e
      · exact e
      · exact absurd e.2 hnk
    subst hk0
    have e1 : ∀ {P : NodeD → Prop}, P (getN S.nodes no) → P (getN S.nodes (lessN now (getN S.nodes no)).no) := fun hp => by
      have : (lessN now (getN S.nodes no)).no = no := hno
      rw [this]; exact hp
    refine tre_set h (.inl rfl) (by show isN S.nodes (getN S.nodes no).no = true; rw [hno]; exact hi) (Nat.le_refl _) (e1 (P := fun m => (lessN now (getN S.nodes no)).kind = m.kind) rfl) (e1 (P := fun m => (lessN now (getN S.nodes no)).dev = m.dev) rfl) (e1 (P := fun m => (lessN now (getN S.nodes no)).up = m.up) rfl) (fun hk1 => absurd hk1 hnk) (h.rise (getN S.nodes no) hm) (h.names (getN S.nodes no) hm) (h.pos (getN S.nodes no) hm) (h.small (getN S.nodes no) hm) (h.on (getN S.nodes no) hm).2
      ⟨hb.1, hb.2.1, by show 1 ≤ (getN S.nodes no).links - 1; omega, by show (getN S.nodes no).links - 1 ≤ 1000; omega⟩ (fun x hx => h.kin (getN S.nodes no) hm x hx) (fun q hq hqk _ hqu hqn => ?_)
    rcases h.ups q hq hqk (by have := (h.nos.2 q hq).1; omega) with ⟨_, u2⟩ | ⟨_, _, m, hm2, u3, u4, _⟩
    · exact absurd (u2.symm.trans hqu) hqn
    · have : m = getN S.nodes no := node_eq h.nos hm2 hm (by rw [u3, hqu]; rfl)
      subst this
      exact absurd u4 hnk
theorem findF_mem {l : List EntD} {nm : List UInt8} (hr : Rise l) {x : EntD} (hx : x ∈ l) (he : x.1 = nm) : findF l nm = x.2 := by
  unfold findF
  cases hf : l.find? (fun x => x.1 == nm) with
  | none => have := List.find?_eq_none.1 hf x hx; simp at this; exact absurd he this
  | some y =>
    have h2 := List.find?_some (p := fun x : EntD => x.1 == nm) hf
    have h2' : y.1 = nm := by simpa using h2
    have hy := List.mem_of_find?_eq_some hf
    have : y = x := by
      obtain ⟨i, hi, rfl⟩ := List.getElem_of_mem hy
      obtain ⟨j, hj, rfl⟩ := List.getElem_of_mem hx
      rcases Nat.lt_trichotomy i j with g | g | g
      · have := bl_ne (List.pairwise_iff_getElem.1 hr i j hi hj g)
        rw [h2', he] at this; exact absurd rfl this
      · subst g; rfl
      · have := bl_ne (List.pairwise_iff_getElem.1 hr j i hj hi g)
        rw [h2', he] at this; exact absurd rfl this
    subst this; rfl
theorem findF_in {l : List EntD} {nm : List UInt8} (h : findF l nm ≠ 0) : ∃ x ∈ l, x.1 = nm ∧ x.2 = findF l nm := by
  unfold findF at h ⊢
  cases hf : l.find? (fun x => x.1 == nm) with
  | none => rw [hf] at h; exact absurd rfl h
  | some y =>
    have h2 := List.find?_some (p := fun x : EntD => x.1 == nm) hf
    exact ⟨y, List.mem_of_find?_eq_some hf, by simpa using h2, rfl⟩
theorem mem_dropF {l : List EntD} {nm : List UInt8} {x : EntD} (h : x ∈ dropF l nm) : x ∈ l ∧ x.1 ≠ nm := by
  unfold dropF at h
  rw [List.mem_filter] at h
  exact ⟨h.1, by simpa using h.2⟩
/-- A name goes out of its directory: of the node itself it is no longer said where it lies. -/
theorem tre_unname {c : Nat} {S : TreeD} (h : Tre c S) {dir now : Int} {nm : List UInt8} (hi : isN S.nodes dir = true) (hkd : (getN S.nodes dir).kind = 1) {k' : Int} (hk' : ∀ q ∈ S.nodes, q.kind = 1 → q.no ≠ k' → q.no ≠ findF (getN S.nodes dir).ents nm) : TreB c k' (touchT S dir now (dropF (getN S.nodes dir).ents nm)) := by
  obtain ⟨_, hno, hmem⟩ := isN_true hi
  refine tre_touch h (.inl rfl) hi hkd (Nat.le_refl _) (h.rise _ hmem |>.sublist List.filter_sublist) (fun x hx => h.names _ hmem x (mem_dropF hx).1) (fun x hx => h.pos _ hmem x (mem_dropF hx).1) ?_ (fun x hx => h.kin _ hmem x (mem_dropF hx).1) (fun q hq hqk hqk' hqu hqn => ?_)
  · have h1 : (dropF (getN S.nodes dir).ents nm).length ≤ (getN S.nodes dir).ents.length := List.length_filter_le ..
    have := h.small _ hmem
    omega
  · rcases h.ups0 q hq hqk with ⟨_, u2⟩ | ⟨_, _, m, hm, u3, _, _, x, hx, u6⟩
    · exact absurd (u2.symm.trans hqu) hqn
    · have : m = getN S.nodes dir := node_eq h.nos hm hmem (by rw [u3, hqu, hno])
      subst this
      refine ⟨x, ?_, u6⟩
      unfold dropF
      rw [List.mem_filter]
      refine ⟨hx, ?_⟩
      have : x.1 ≠ nm := fun e => by
        have := findF_mem (h.rise _ hmem) hx e
        exact hk' q hq hqk hqk' (by rw [this, u6])
      simpa using this
theorem kin_root {c : Nat} {k : Int} {S : TreeD} (h : TreB c k S) {no y dev : Int} (hK : Kin S no dev y) (d : Int) (hd : hasD S.devs d = true) : rootF S.devs d ≠ y := by
  rcases rootF_zero h.roots d with ⟨_, e2⟩ | ⟨j, hj, _, _, _, e4, _⟩
  · rw [e2] at hd; cases hd
  · rw [e4]
    exact fun e => hK.2.1 _ (List.getElem_mem hj) e.symm
theorem tre_gone {c : Nat} {S : TreeD} (h : Tre c S) {cu cg now dir : Int} {nm : List UInt8} (hl : leaveE S cu cg dir nm = 0) (hne : (leaveN S cu cg dir nm).kind = 1 → (leaveN S cu cg dir nm).ents = []) : Tre c (goneT S now (leaveD S cu cg dir nm) (leaveN S cu cg dir nm) nm) := by
  obtain ⟨z1, z2, z3, z4, z5⟩ := leaveE_zero hl
  obtain ⟨hi, hkd, _⟩ := placeE_zero z1
  obtain ⟨_, hno, hmem⟩ := isN_true hi
  rw [z5] at hne
  obtain ⟨no, hn⟩ : ∃ no, no = findF (getN S.nodes dir).ents nm := ⟨_, rfl⟩
  rw [← hn] at z2 z3 z5 hne
  have hpos := (h.nos.2 _ (isN_true z2).2.2).1
  rw [(isN_true z2).2.1] at hpos
  obtain ⟨x, hx, hx1, hx2⟩ := findF_in (l := (getN S.nodes dir).ents) (nm := nm) (by rw [← hn]; omega)
  have hK := h.kin _ hmem x hx
  rw [hx2, ← hn, hno] at hK
  have hnd : no ≠ dir := hK.1
  unfold goneT
  rw [z4, z5, hno]
  have hgn : getN (touchT S dir now (dropF (getN S.nodes dir).ents nm)).nodes no = getN S.nodes no := getN_setT (by show no ≠ (getN S.nodes dir).no; rw [hno]; exact hnd)
  have hin : isN (touchT S dir now (dropF (getN S.nodes dir).ents nm)).nodes no = true := by
    show isN (setN S.nodes _) no = true; rw [isN_set]; exact z2
  have hrt := kin_root h hK (getN S.nodes no).dev (h.on _ (isN_true z2).2.2).1
  rw [← hgn] at hrt hne ⊢
  by_cases hk : (getN S.nodes no).kind = 1
  · have hT := tre_unname h (now := now) (nm := nm) hi hkd (k' := no) (fun q _ _ hq => by rw [← hn]; exact hq)
    exact tre_less hT hin z3 hrt hne (.inr ⟨rfl, by rw [hgn]; exact hk⟩)
  · have hT := tre_unname h (now := now) (nm := nm) hi hkd (k' := 0) (fun q hq hqk _ e => by
      rw [← hn] at e
      have := (mem_getN h.nos hq).1
      rw [e] at this
      rw [this] at hk
      exact hk hqk)
    exact tre_less hT hin z3 hrt hne (.inl rfl)
theorem tre_unlink {c : Nat} {S : TreeD} (h : Tre c S) (cu cg now dir : Int) (nm : List UInt8) : Tre c (unlinkT S cu cg now dir nm) := by
  unfold unlinkT
  split
  · rename_i h0
    unfold unlinkE at h0
    split at h0
    · rename_i h1; exact absurd h0 h1
    · rename_i h1
      split at h0
      · cases h0
      · rename_i h2
        exact tre_gone h (Decidable.not_not.1 h1) (fun hk => absurd hk h2)
  · exact h
theorem tre_rmdir {c : Nat} {S : TreeD} (h : Tre c S) (cu cg now dir : Int) (nm : List UInt8) : Tre c (rmdirT S cu cg now dir nm) := by
  unfold rmdirT
  split
  · rename_i h0
    unfold rmdirE at h0
    split at h0
    · rename_i h1; exact absurd h0 h1
    · rename_i h1
      split at h0
      · cases h0
      · split at h0
        · cases h0
        · rename_i h3
          refine tre_gone h (Decidable.not_not.1 h1) (fun _ => ?_)
          exact List.eq_nil_of_length_eq_zero (by omega)
  · exact h
end Go.Proofs.YtebghednhjaniaaGreat
