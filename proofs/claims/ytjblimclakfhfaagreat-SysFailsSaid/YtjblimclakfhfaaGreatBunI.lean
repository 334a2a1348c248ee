/- Layer 16: the program's List. | Layer 16: the reference's List; the law's Same of two equal lists. | Layer 16: Stat of both. (Printed by gen_pekc.py.) | Layer 21: the calls of a missing file system (a nil receiver). (Printed by gen_sysa.py.) -/
import Derived.Test.YtjblimclakfhfaaGreatBunH
import Derived.Test.YtjblimclakfhfaaGreatBunA
import Derived.RegionIn
import Derived.OwnWalkIn
import Derived.Deep.RegionHeld3
namespace Go.Proofs.YtjblimclakfhfaaGreat
open Go.ChangeShapes Go.WideShapes Go.ChangeAt Go.RowKit Go.Shelf
attribute [local go_sem] Oper.semAt_some

section
variable {F : Fence} {n : Nat} {P : Program} {ops : Array Oper} {md : Region.Mode} {Q : Exit → Act → World → Prop}
end
end Go.Proofs.YtjblimclakfhfaaGreat

namespace Go.Proofs.YtjblimclakfhfaaGreat
open Go.ChangeShapes Go.WideShapes Go.ChangeAt Go.RowKit

end Go.Proofs.YtjblimclakfhfaaGreat

namespace Go.Proofs.YtjblimclakfhfaaGreat
open Go.ChangeShapes Go.WideShapes Go.ChangeAt Go.RowKit

def statL (n : NodeD) : List Value := [.int .i64 n.no, .int .i64 n.dev, .int .i64 n.kind, .int .i64 n.mode, .int .i64 n.uid, .int .i64 n.gid, .int .i64 n.links, .int .i64 n.data.length, .int .i64 n.mtime, .int .i64 n.ctime]
def statV (n : NodeD) : Value := .agg #[.int .i64 n.no, .int .i64 n.dev, .int .i64 n.kind, .int .i64 n.mode, .int .i64 n.uid, .int .i64 n.gid, .int .i64 n.links, .int .i64 n.data.length, .int .i64 n.mtime, .int .i64 n.ctime]
def statE (S : TreeD) (no : Int) : Int := if isN S.nodes no = true then 0 else 5
theorem infoStat10 : (Tryz.prog.info? 94).map (·.size) = some 10 := by kernel_rfl
/-- Ten stores into a box. -/
theorem Has.setStat {w : World} {b : Nat} {a0 a1 a2 a3 a4 a5 a6 a7 a8 a9 : Value} {t : TypeId} (h : Has w b (.cells #[a0, a1, a2, a3, a4, a5, a6, a7, a8, a9] t)) (n : NodeD) : Has (w.setCells b 0 (statL n)) b (.cells #[.int .i64 n.no, .int .i64 n.dev, .int .i64 n.kind, .int .i64 n.mode, .int .i64 n.uid, .int .i64 n.gid, .int .i64 n.links, .int .i64 n.data.length, .int .i64 n.mtime, .int .i64 n.ctime] t) := by
  have h0 : Has (w.setCell ⟨b, 0, none⟩ (.int .i64 n.no)) b (.cells #[.int .i64 n.no, a1, a2, a3, a4, a5, a6, a7, a8, a9] t) := by have := Has.setCell h 0 (.int .i64 n.no); simpa using this
  have h1 : Has ((w.setCell ⟨b, 0, none⟩ (.int .i64 n.no)).setCell ⟨b, 1, none⟩ (.int .i64 n.dev)) b (.cells #[.int .i64 n.no, .int .i64 n.dev, a2, a3, a4, a5, a6, a7, a8, a9] t) := by have := Has.setCell h0 1 (.int .i64 n.dev); simpa using this
  have h2 : Has (((w.setCell ⟨b, 0, none⟩ (.int .i64 n.no)).setCell ⟨b, 1, none⟩ (.int .i64 n.dev)).setCell ⟨b, 2, none⟩ (.int .i64 n.kind)) b (.cells #[.int .i64 n.no, .int .i64 n.dev, .int .i64 n.kind, a3, a4, a5, a6, a7, a8, a9] t) := by have := Has.setCell h1 2 (.int .i64 n.kind); simpa using this
  have h3 : Has ((((w.setCell ⟨b, 0, none⟩ (.int .i64 n.no)).setCell ⟨b, 1, none⟩ (.int .i64 n.dev)).setCell ⟨b, 2, none⟩ (.int .i64 n.kind)).setCell ⟨b, 3, none⟩ (.int .i64 n.mode)) b (.cells #[.int .i64 n.no, .int .i64 n.dev, .int .i64 n.kind, .int .i64 n.mode, a4, a5, a6, a7, a8, a9] t) := by have := Has.setCell h2 3 (.int .i64 n.mode); simpa using this
  have h4 : Has (((((w.setCell ⟨b, 0, none⟩ (.int .i64 n.no)).setCell ⟨b, 1, none⟩ (.int .i64 n.dev)).setCell ⟨b, 2, none⟩ (.int .i64 n.kind)).setCell ⟨b, 3, none⟩ (.int .i64 n.mode)).setCell ⟨b, 4, none⟩ (.int .i64 n.uid)) b (.cells #[.int .i64 n.no, .int .i64 n.dev, .int .i64 n.kind, .int .i64 n.mode, .int .i64 n.uid, a5, a6, a7, a8, a9] t) := by have := Has.setCell h3 4 (.int .i64 n.uid); simpa using this
  have h5 : Has ((((((w.setCell ⟨b, 0, none⟩ (.int .i64 n.no)).setCell ⟨b, 1, none⟩ (.int .i64 n.dev)).setCell ⟨b, 2, none⟩ (.int .i64 n.kind)).setCell ⟨b, 3, none⟩ (.int .i64 n.mode)).setCell ⟨b, 4, none⟩ (.int .i64 n.uid)).setCell ⟨b, 5, none⟩ (.int .i64 n.gid)) b (.cells #[.int .i64 n.no, .int .i64 n.dev, .int .i64 n.kind, .int .i64 n.mode, .int .i64 n.uid, .int .i64 n.gid, a6, a7, a8, a9] t) := by have := Has.setCell h4 5 (.int .i64 n.gid); simpa using this
  have h6 : Has (((((((w.setCell ⟨b, 0, none⟩ (.int .i64 n.no)).setCell ⟨b, 1, none⟩ (.int .i64 n.dev)).setCell ⟨b, 2, none⟩ (.int .i64 n.kind)).setCell ⟨b, 3, none⟩ (.int .i64 n.mode)).setCell ⟨b, 4, none⟩ (.int .i64 n.uid)).setCell ⟨b, 5, none⟩ (.int .i64 n.gid)).setCell ⟨b, 6, none⟩ (.int .i64 n.links)) b (.cells #[.int .i64 n.no, .int .i64 n.dev, .int .i64 n.kind, .int .i64 n.mode, .int .i64 n.uid, .int .i64 n.gid, .int .i64 n.links, a7, a8, a9] t) := by have := Has.setCell h5 6 (.int .i64 n.links); simpa using this
  have h7 : Has ((((((((w.setCell ⟨b, 0, none⟩ (.int .i64 n.no)).setCell ⟨b, 1, none⟩ (.int .i64 n.dev)).setCell ⟨b, 2, none⟩ (.int .i64 n.kind)).setCell ⟨b, 3, none⟩ (.int .i64 n.mode)).setCell ⟨b, 4, none⟩ (.int .i64 n.uid)).setCell ⟨b, 5, none⟩ (.int .i64 n.gid)).setCell ⟨b, 6, none⟩ (.int .i64 n.links)).setCell ⟨b, 7, none⟩ (.int .i64 n.data.length)) b (.cells #[.int .i64 n.no, .int .i64 n.dev, .int .i64 n.kind, .int .i64 n.mode, .int .i64 n.uid, .int .i64 n.gid, .int .i64 n.links, .int .i64 n.data.length, a8, a9] t) := by have := Has.setCell h6 7 (.int .i64 n.data.length); simpa using this
  have h8 : Has (((((((((w.setCell ⟨b, 0, none⟩ (.int .i64 n.no)).setCell ⟨b, 1, none⟩ (.int .i64 n.dev)).setCell ⟨b, 2, none⟩ (.int .i64 n.kind)).setCell ⟨b, 3, none⟩ (.int .i64 n.mode)).setCell ⟨b, 4, none⟩ (.int .i64 n.uid)).setCell ⟨b, 5, none⟩ (.int .i64 n.gid)).setCell ⟨b, 6, none⟩ (.int .i64 n.links)).setCell ⟨b, 7, none⟩ (.int .i64 n.data.length)).setCell ⟨b, 8, none⟩ (.int .i64 n.mtime)) b (.cells #[.int .i64 n.no, .int .i64 n.dev, .int .i64 n.kind, .int .i64 n.mode, .int .i64 n.uid, .int .i64 n.gid, .int .i64 n.links, .int .i64 n.data.length, .int .i64 n.mtime, a9] t) := by have := Has.setCell h7 8 (.int .i64 n.mtime); simpa using this
  have h9 : Has ((((((((((w.setCell ⟨b, 0, none⟩ (.int .i64 n.no)).setCell ⟨b, 1, none⟩ (.int .i64 n.dev)).setCell ⟨b, 2, none⟩ (.int .i64 n.kind)).setCell ⟨b, 3, none⟩ (.int .i64 n.mode)).setCell ⟨b, 4, none⟩ (.int .i64 n.uid)).setCell ⟨b, 5, none⟩ (.int .i64 n.gid)).setCell ⟨b, 6, none⟩ (.int .i64 n.links)).setCell ⟨b, 7, none⟩ (.int .i64 n.data.length)).setCell ⟨b, 8, none⟩ (.int .i64 n.mtime)).setCell ⟨b, 9, none⟩ (.int .i64 n.ctime)) b (.cells #[.int .i64 n.no, .int .i64 n.dev, .int .i64 n.kind, .int .i64 n.mode, .int .i64 n.uid, .int .i64 n.gid, .int .i64 n.links, .int .i64 n.data.length, .int .i64 n.mtime, .int .i64 n.ctime] t) := by have := Has.setCell h8 9 (.int .i64 n.ctime); simpa using this
  exact h9
theorem stat_all (n : NodeD) : (#[.int .i64 n.no, .int .i64 n.dev, .int .i64 n.kind, .int .i64 n.mode, .int .i64 n.uid, .int .i64 n.gid, .int .i64 n.links, .int .i64 n.data.length, .int .i64 n.mtime, .int .i64 n.ctime] : Array Value).all (·.oneCell') = true := all_oneCell_toArray (cs := statL n) fun u hu => by
  simp only [statL, List.mem_cons, List.not_mem_nil, or_false] at hu
  rcases hu with rfl | rfl | rfl | rfl | rfl | rfl | rfl | rfl | rfl | rfl <;> rfl
theorem wpList_store_stat {ops : Array Oper} {rest : List Oper} {op : Oper} {a : Act} {w : World} {Q : Exit → Act → World → Prop} (hgd : op.guard = none) (x y : Operand) (ho : op.op = .store 94 x y)
    (b : Nat) (n : NodeD) (hx : a.eval x = .pointer (some ⟨b, 0, none⟩)) (hy : a.eval y = .agg #[.int .i64 n.no, .int .i64 n.dev, .int .i64 n.kind, .int .i64 n.mode, .int .i64 n.uid, .int .i64 n.gid, .int .i64 n.links, .int .i64 n.data.length, .int .i64 n.mtime, .int .i64 n.ctime]) {m : NodeD} (hb : Has w b (.cells #[.int .i64 m.no, .int .i64 m.dev, .int .i64 m.kind, .int .i64 m.mode, .int .i64 m.uid, .int .i64 m.gid, .int .i64 m.links, .int .i64 m.data.length, .int .i64 m.mtime, .int .i64 m.ctime] 94))
    (h : ∀ w', Has w' b (.cells #[.int .i64 n.no, .int .i64 n.dev, .int .i64 n.kind, .int .i64 n.mode, .int .i64 n.uid, .int .i64 n.gid, .int .i64 n.links, .int .i64 n.data.length, .int .i64 n.mtime, .int .i64 n.ctime] 94) → Only [b] w w' → wpList Tryz.prog ops Q rest (a.put op.dst undef) w') : wpList Tryz.prog ops Q (op :: rest) a w := by
  refine wpList_store_mid hgd 94 x y ho b 0 #[.int .i64 n.no, .int .i64 n.dev, .int .i64 n.kind, .int .i64 n.mode, .int .i64 n.uid, .int .i64 n.gid, .int .i64 n.links, .int .i64 n.data.length, .int .i64 n.mtime, .int .i64 n.ctime] hx hy hb.there infoStat10 (stat_all n) ?_
  exact h _ (hb.setStat n) (only_setCells (statL n) 0 w)
theorem res_stat {fn : Func} {p t : Tmp} (h : fn.results = #[.cell p 94, .tmp t]) (tmps : Array Value) (w : World) (g : Nat) (n : NodeD) (v : Value)
    (hp : tmps.getD p undef = .pointer (some ⟨g, 0, none⟩)) (hv : tmps.getD t undef = v) (hg : Has w g (.cells #[.int .i64 n.no, .int .i64 n.dev, .int .i64 n.kind, .int .i64 n.mode, .int .i64 n.uid, .int .i64 n.gid, .int .i64 n.links, .int .i64 n.data.length, .int .i64 n.mtime, .int .i64 n.ctime] 94)) :
    (results fn tmps).run Tryz.prog w = .ok (.tuple #[.agg #[.int .i64 n.no, .int .i64 n.dev, .int .i64 n.kind, .int .i64 n.mode, .int .i64 n.uid, .int .i64 n.gid, .int .i64 n.links, .int .i64 n.data.length, .int .i64 n.mtime, .int .i64 n.ctime], v]) w :=
  res_cell_tmp h tmps w g 94 _ _ v hp hv hg Tryz.underlying94 rfl infoStat10
set_option maxRecDepth 100000 in
set_option maxHeartbeats 8000000 in
theorem pstat_any (B : Nat) (g : GhW) (S : TreeD) (no : Int) (w : World) (h : WAt w B g S) (hd : 0 < S.devs.length) :
    Calls Tryz.prog 104 #[.pointer (some ⟨g.bW, 0, none⟩), .int .i64 no] w (Ret w (.tuple #[statV (getN S.nodes no), .int .i64 (statE S no)])) := by
  obtain ⟨W0, hW0⟩ : ∃ W, W = w.alloc (.cells #[.int .i64 0, .int .i64 0, .int .i64 0, .int .i64 0, .int .i64 0, .int .i64 0, .int .i64 0, .int .i64 0, .int .i64 0, .int .i64 0] 94) := ⟨_, rfl⟩
  obtain ⟨b0, hb0⟩ : ∃ b, b = w.heap.size := ⟨_, rfl⟩
  have E0 : Ext w W0 := by rw [hW0]; exact (Ext.refl _).alloc _
  have R0 : Has W0 b0 (.cells #[.int .i64 nodeZ.no, .int .i64 nodeZ.dev, .int .i64 nodeZ.kind, .int .i64 nodeZ.mode, .int .i64 nodeZ.uid, .int .i64 nodeZ.gid, .int .i64 nodeZ.links, .int .i64 nodeZ.data.length, .int .i64 nodeZ.mtime, .int .i64 nodeZ.ctime] 94) := by rw [hW0, hb0]; exact Has.new _ _
  have hbw : w.heap.size ≤ b0 := by omega
  have h0 := h.ext E0
  go_enter Tryz.func104, Tryz.ntmps104
  go_upto_region 1 with fail
  rw [show w.alloc _ = W0 from hW0.symm, ← hb0]
  clear hW0 hb0
  go_wp2_with fail
  refine (pdevs_any B g S _ h0 hd).mono ?_
  rintro e w1 ⟨rfl, b1⟩
  have R1 := R0.ext b1
  have E1 := E0.trans b1
  have h1 := h0.ext b1
  have td : ((S.devs.length : Int) == 0) = false := by simp; intro e; rw [e] at hd; exact absurd hd (by simp)
  obtain ⟨_, _, cd, hWr, _⟩ := id h1
  have v0 : w1.cell? ⟨g.bW, 0, none⟩ = some (.pointer (some ⟨g.bT, 0, none⟩)) := hWr.cell 0
  have vz := hWr.lt
  clear hWr
  go_wp2_with fail
  refine (tget_any B g.bT g.bM S.nodes S.last no _ h1.2.1).mono ?_
  rintro e w2 ⟨A2, k2, rfl, ok2, b2⟩
  have R2 := R1.ext b2
  have E2 := E1.trans b2
  obtain ⟨m, hm⟩ : ∃ m, m = getN S.nodes no := ⟨_, rfl⟩
  obtain ⟨i, hi⟩ : ∃ i, i = isN S.nodes no := ⟨_, rfl⟩
  have hE : statE S no = if i = true then 0 else 5 := by rw [hi]; rfl
  have hZ : i = false → m = nodeZ := fun e => by rw [hm]; exact (isN_false (hi.symm.trans e)).1
  rw [← hm, ← hi]
  clear ok2
  obtain ⟨W3, hW3⟩ : ∃ W3, W3 = w2.alloc (.cells #[.int .i64 m.no, .int .i64 m.dev, .int .i64 m.kind, .int .i64 m.mode, .int .i64 m.uid, .int .i64 m.gid, .int .i64 m.mtime, .int .i64 m.ctime, .int .i64 m.links, .int .i64 m.up, .string (bs m.data), .slice A2 m.ents.length k2] 87) := ⟨_, rfl⟩
  obtain ⟨b8, hb8⟩ : ∃ b8, b8 = w2.heap.size := ⟨_, rfl⟩
  have E23 : Ext w2 W3 := by rw [hW3]; exact (Ext.refl _).alloc _
  have N3 : Has W3 b8 (.cells #[.int .i64 m.no, .int .i64 m.dev, .int .i64 m.kind, .int .i64 m.mode, .int .i64 m.uid, .int .i64 m.gid, .int .i64 m.mtime, .int .i64 m.ctime, .int .i64 m.links, .int .i64 m.up, .string (bs m.data), .slice A2 m.ents.length k2] 87) := by rw [hW3, hb8]; exact Has.new _ _
  have R3 := R2.ext E23
  have E3 := E2.trans E23
  obtain ⟨e0, he0⟩ : ∃ e0, e0 = statE S no := ⟨_, rfl⟩
  rw [← he0]
  rw [← he0] at hE
  have HE := Lib.hid hE
  have HZ := Lib.hid hZ
  have HMM := Lib.hid hm
  have HEE := Lib.hid he0
  clear hm hi hE hZ he0 v0 vz
  go_upto_region 4 with fail
  rw [← hW3, ← hb8]
  clear hW3 hb8 E23 R1 R2 E1 E2
  unfold statV
  cases i
  · have e1 : Hid (e0 = 5) := Lib.hid (HE.out.trans rfl)
    have e2 : Hid (m = nodeZ) := Lib.hid (HZ.out rfl)
    go_wp2_with (refine wpList_store_stat rfl _ _ rfl b0 nodeZ rfl rfl R3 ?_; intro w9 R9 O9)
    refine bodyPost_ret (v := .tuple #[.agg #[.int .i64 nodeZ.no, .int .i64 nodeZ.dev, .int .i64 nodeZ.kind, .int .i64 nodeZ.mode, .int .i64 nodeZ.uid, .int .i64 nodeZ.gid, .int .i64 nodeZ.links, .int .i64 nodeZ.data.length, .int .i64 nodeZ.mtime, .int .i64 nodeZ.ctime], .int .i64 5]) (res_stat Tryz.results104 _ _ b0 nodeZ _ rfl rfl R9) rfl ?_
    refine ⟨by (try rw [← HMM.out]); (try rw [← HEE.out]); rw [e1.out, e2.out]; rfl, O9.after E3 (by simpa using hbw)⟩
  · have e1 : Hid (e0 = 0) := Lib.hid (HE.out.trans rfl)
    obtain ⟨x0, x1, x2, x3, x4, x5, x6, x7, x8, x9, x10, x11⟩ := N3.node12
    have xz := N3.lt
    go_wp2_with (refine wpList_store_stat rfl _ _ rfl b0 m rfl rfl R3 ?_; intro w9 R9 O9)
    refine bodyPost_ret (v := .tuple #[.agg #[.int .i64 m.no, .int .i64 m.dev, .int .i64 m.kind, .int .i64 m.mode, .int .i64 m.uid, .int .i64 m.gid, .int .i64 m.links, .int .i64 m.data.length, .int .i64 m.mtime, .int .i64 m.ctime], .int .i64 0]) (res_stat Tryz.results104 _ _ b0 m _ rfl rfl R9) rfl ?_
    refine ⟨by (try rw [← HMM.out]); (try rw [← HEE.out]); rw [e1.out]; rfl, O9.after E3 (by simpa using hbw)⟩
end Go.Proofs.YtjblimclakfhfaaGreat

namespace Go.Proofs.YtjblimclakfhfaaGreat
open Go.ChangeShapes Go.WideShapes Go.ChangeAt Go.RowKit

end Go.Proofs.YtjblimclakfhfaaGreat
