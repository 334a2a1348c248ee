/- Layer 20 (attr): own. | Layer 20 (attr): Mode, Owner, Time. | Layer 20 (attr): Owner, Time. | Layer 14 (mount): the program's Fill. | Layer 20 (attr): Fill. | Layer 20 (attr): the chapter's example. | AttrOne, plain: what three calls on a node leave. | The law AttrOne, walked. -/
import Derived.Test.YtgkhhjgjepbjdaaBunD
import Derived.Test.YtgkhhjgjepbjdaaBunB
namespace Go.Proofs.Ytgkhhjgjepbjdaa
open Go.ChangeShapes Go.WideShapes Go.ChangeAt Go.RowKit

def ownE (S : TreeD) (cu no : Int) : Int := if isN S.nodes no = false then 5 else if ownsB cu (getN S.nodes no).uid = false then 4 else 0
def ownN (S : TreeD) (cu no : Int) : NodeD := if ownE S cu no = 0 then getN S.nodes no else nodeZ
def OwnQ (w : World) (B : Nat) (S : TreeD) (cu no : Int) (e : Ending) (w' : World) : Prop :=
  ∃ A c, e = .returned (.tuple #[.agg #[.int .i64 (ownN S cu no).no, .int .i64 (ownN S cu no).dev, .int .i64 (ownN S cu no).kind, .int .i64 (ownN S cu no).mode, .int .i64 (ownN S cu no).uid, .int .i64 (ownN S cu no).gid, .int .i64 (ownN S cu no).mtime, .int .i64 (ownN S cu no).ctime, .int .i64 (ownN S cu no).links, .int .i64 (ownN S cu no).up, .string (bs (ownN S cu no).data), .slice A (ownN S cu no).ents.length c], .int .i64 (ownE S cu no)]) ∧ NodeOk w' B (ownN S cu no) A c ∧ Ext w w'
set_option maxRecDepth 100000 in
set_option maxHeartbeats 4000000 in
theorem pown_any (B : Nat) (g : GhW) (S : TreeD) (cu cg no : Int) (w : World) (h : WAt w B g S) (hd : 0 < S.devs.length) : Calls Try.prog 90 #[.pointer (some ⟨g.bW, 0, none⟩), .agg #[.int .i64 cu, .int .i64 cg], .int .i64 no] w (OwnQ w B S cu no) := by
  have h0 := h
  obtain ⟨h1, h2, cd, h3, h4⟩ := h
  have hl0 : ((S.devs.length : Int) == 0) = false := by simpa using (show ¬ (S.devs.length : Int) = 0 by omega)
  have E0 : Ext w ((w.alloc (.cells #[.int .i64 cu, .int .i64 cg] 63)).alloc (.cells #[.int .i64 0, .int .i64 0, .int .i64 0, .int .i64 0, .int .i64 0, .int .i64 0, .int .i64 0, .int .i64 0, .int .i64 0, .int .i64 0, .string ⟨#[]⟩, .slice none 0 0] 71)) := ((Ext.refl _).alloc _).alloc _
  go_enter Try.func90, Try.ntmps90
  go_wp2_with fail
  refine (pdevs_any B g S _ (h0.ext E0) hd).mono ?_
  rintro e w1 ⟨rfl, b1⟩
  have E1 := E0.trans b1
  have R0 := Has.new (w.alloc (.cells #[.int .i64 cu, .int .i64 cg] 63)) (.cells #[.int .i64 nodeZ.no, .int .i64 nodeZ.dev, .int .i64 nodeZ.kind, .int .i64 nodeZ.mode, .int .i64 nodeZ.uid, .int .i64 nodeZ.gid, .int .i64 nodeZ.mtime, .int .i64 nodeZ.ctime, .int .i64 nodeZ.links, .int .i64 nodeZ.up, .string (bs nodeZ.data), .slice none nodeZ.ents.length 0] 71)
  rw [World.size_alloc] at R0
  have R1 := R0.ext b1
  have C1 := ((Has.new w (.cells #[.int .i64 cu, .int .i64 cg] 63)).alloc (.cells #[.int .i64 0, .int .i64 0, .int .i64 0, .int .i64 0, .int .i64 0, .int .i64 0, .int .i64 0, .int .i64 0, .int .i64 0, .int .i64 0, .string ⟨#[]⟩, .slice none 0 0] 71)).ext b1
  have v0 : w1.cell? ⟨g.bW, 0, none⟩ = some (.pointer (some ⟨g.bT, 0, none⟩)) := (h3.ext E1).cell 0
  have z1 := (h3.ext E1).lt
  go_wp2_with fail
  refine (tget_any B g.bT g.bM S.nodes S.last no _ (h2.ext E1)).mono ?_
  rintro e w2 ⟨A2, k2, rfl, ok2, b2⟩
  have R2 := R1.ext b2
  have C2 := C1.ext b2
  have hm : Hid (ownE S cu no = if isN S.nodes no = false then 5 else if ownsB cu (getN S.nodes no).uid = false then 4 else 0) := by show _ = _; rfl
  have hm2 : Hid (ownN S cu no = if ownE S cu no = 0 then getN S.nodes no else nodeZ) := by show _ = _; rfl
  obtain ⟨m, hmm⟩ : ∃ m, m = getN S.nodes no := ⟨_, rfl⟩
  rw [← hmm] at ok2 hm hm2 ⊢
  obtain ⟨W3, hW3⟩ : ∃ W3, W3 = w2.alloc (.cells #[.int .i64 m.no, .int .i64 m.dev, .int .i64 m.kind, .int .i64 m.mode, .int .i64 m.uid, .int .i64 m.gid, .int .i64 m.mtime, .int .i64 m.ctime, .int .i64 m.links, .int .i64 m.up, .string (bs m.data), .slice A2 m.ents.length k2] 71) := ⟨_, rfl⟩
  have E23 : Ext w2 W3 := by rw [hW3]; exact (Ext.refl _).alloc _
  have N3 : Has W3 w2.heap.size (.cells #[.int .i64 m.no, .int .i64 m.dev, .int .i64 m.kind, .int .i64 m.mode, .int .i64 m.uid, .int .i64 m.gid, .int .i64 m.mtime, .int .i64 m.ctime, .int .i64 m.links, .int .i64 m.up, .string (bs m.data), .slice A2 m.ents.length k2] 71) := by rw [hW3]; exact Has.new _ _
  have R3 := R2.ext E23
  have C3 := C2.ext E23
  have E3 : Ext w W3 := (E1.trans b2).trans E23
  obtain ⟨b8, hb8⟩ : ∃ b8, b8 = w2.heap.size := ⟨_, rfl⟩
  obtain ⟨i, hi⟩ : ∃ i, i = isN S.nodes no := ⟨_, rfl⟩
  rw [← hi] at hm ⊢
  clear v0 hmm hi
  go_upto_region 4 with fail
  rw [← hW3]
  rw [← hb8] at N3 ⊢
  clear hW3 hb8
  cases i
  · have hE : Hid (ownE S cu no = 5) := by show _ = _; rw [hm.out]; rfl
    have hN : Hid (ownN S cu no = nodeZ) := by show _ = _; rw [hm2.out, hE.out]; rfl
    clear hm hm2
    go_wp2_with (refine wpList_store_node rfl _ _ rfl (w.heap.size + 1) nodeZ none 0 rfl rfl R3 ?_; intro w4 R4 O4)
    refine bodyPost_ret (v := .tuple #[.agg #[.int .i64 nodeZ.no, .int .i64 nodeZ.dev, .int .i64 nodeZ.kind, .int .i64 nodeZ.mode, .int .i64 nodeZ.uid, .int .i64 nodeZ.gid, .int .i64 nodeZ.mtime, .int .i64 nodeZ.ctime, .int .i64 nodeZ.links, .int .i64 nodeZ.up, .string (bs nodeZ.data), .slice none nodeZ.ents.length 0], .int .i64 5]) (res_node Try.results90 _ _ (w.heap.size + 1) nodeZ none 0 _ rfl rfl R4) rfl ?_
    exact ⟨none, 0, by rw [hE.out, hN.out], by rw [hN.out]; exact NodeOk.zero _ _, O4.after E3 (by simp)⟩
  · obtain ⟨u, hu⟩ : ∃ u, u = ownsB cu m.uid := ⟨_, rfl⟩
    rw [← hu] at hm
    have HU := Lib.hid hu
    have c0 : W3.cell? ⟨w.heap.size, 0, none⟩ = some (.int .i64 cu) := C3.cell 0
    have c1 : W3.cell? ⟨w.heap.size, 1, none⟩ = some (.int .i64 cg) := C3.cell 1
    have zc := C3.lt
    clear hu
    go_wp2_with (refine wpList_load_node rfl _ rfl b8 m A2 k2 rfl N3 ?_)
    refine (powns_any cu cg _ _ _ _ m.uid _ _ _ _ _ _ _ _).mono ?_
    rw [← HU.out]
    rintro e w4 ⟨rfl, b4⟩
    have R4 := R3.ext b4
    have N4 := N3.ext b4
    cases u
    · have hE : Hid (ownE S cu no = 4) := by show _ = _; rw [hm.out]; rfl
      have hN : Hid (ownN S cu no = nodeZ) := by show _ = _; rw [hm2.out, hE.out]; rfl
      clear hm hm2
      go_wp2_with (refine wpList_store_node rfl _ _ rfl (w.heap.size + 1) nodeZ none 0 rfl rfl R4 ?_; intro w5 R5 O5)
      refine bodyPost_ret (v := .tuple #[.agg #[.int .i64 nodeZ.no, .int .i64 nodeZ.dev, .int .i64 nodeZ.kind, .int .i64 nodeZ.mode, .int .i64 nodeZ.uid, .int .i64 nodeZ.gid, .int .i64 nodeZ.mtime, .int .i64 nodeZ.ctime, .int .i64 nodeZ.links, .int .i64 nodeZ.up, .string (bs nodeZ.data), .slice none nodeZ.ents.length 0], .int .i64 4]) (res_node Try.results90 _ _ (w.heap.size + 1) nodeZ none 0 _ rfl rfl R5) rfl ?_
      exact ⟨none, 0, by rw [hE.out, hN.out], by rw [hN.out]; exact NodeOk.zero _ _, O5.after (E3.trans b4) (by simp)⟩
    · have hE : Hid (ownE S cu no = 0) := by show _ = _; rw [hm.out]; rfl
      have hN : Hid (ownN S cu no = m) := by show _ = _; rw [hm2.out, hE.out]; rfl
      clear hm hm2 c0 c1
      go_wp2_with (first | (refine wpList_load_node rfl _ rfl b8 m A2 k2 rfl N4 ?_) | (refine wpList_store_node rfl _ _ rfl (w.heap.size + 1) m A2 k2 rfl rfl R4 ?_; intro w5 R5 O5))
      refine bodyPost_ret (v := .tuple #[.agg #[.int .i64 m.no, .int .i64 m.dev, .int .i64 m.kind, .int .i64 m.mode, .int .i64 m.uid, .int .i64 m.gid, .int .i64 m.mtime, .int .i64 m.ctime, .int .i64 m.links, .int .i64 m.up, .string (bs m.data), .slice A2 m.ents.length k2], .int .i64 0]) (res_node Try.results90 _ _ (w.heap.size + 1) m A2 k2 _ rfl rfl R5) rfl ?_
      have ok5 : NodeOk w5 B m A2 k2 := (((ok2.ext E23).ext b4).only O5 (by
        intro b hb
        rw [List.mem_singleton] at hb
        subst hb
        exact ⟨by have := h1; have := h0.lt.1; omega, R4.noTag (by decide)⟩))
      exact ⟨A2, k2, by rw [hE.out, hN.out], by rw [hN.out]; exact ok5, O5.after (E3.trans b4) (by simp)⟩
end Go.Proofs.Ytgkhhjgjepbjdaa

namespace Go.Proofs.Ytgkhhjgjepbjdaa
open Go.ChangeShapes Go.WideShapes Go.ChangeAt Go.RowKit

/-- A call that changes the program's tree, and tells an error. -/
def ErrR (w : World) (B : Nat) (g : GhW) (T : TreeD) (x : Int) (e : Ending) (w' : World) : Prop :=
  e = .returned (.int .i64 x) ∧ WAt w' B g T ∧ Only g.list w w'
theorem errR_same {w w' : World} {B : Nat} {g : GhW} {S T : TreeD} {x : Int} (h : WAt w B g S) (hE : Ext w w') (hT : T = S) : ErrR w B g T x (.returned (.int .i64 x)) w' :=
  ⟨rfl, by rw [hT]; exact h.ext hE, Only.of_ext hE⟩
def modeE (S : TreeD) (cu no mode : Int) : Int := if ownE S cu no ≠ 0 then ownE S cu no else if mode < 0 ∨ 1023 < mode ∨ (getN S.nodes no).kind = 3 then 1 else 0
def modeT (S : TreeD) (cu now no mode : Int) : TreeD := if modeE S cu no mode = 0 then setT S { getN S.nodes no with mode := mode, ctime := now } else S
theorem ownE_zero {S : TreeD} {cu no : Int} (h : ownE S cu no = 0) : isN S.nodes no = true ∧ ownsB cu (getN S.nodes no).uid = true ∧ ownN S cu no = getN S.nodes no := by
  refine ⟨?_, ?_, by unfold ownN; rw [if_pos h]⟩
  · cases hi : isN S.nodes no
    · unfold ownE at h; rw [if_pos hi] at h; cases h
    · rfl
  · unfold ownE at h
    split at h
    · cases h
    · split at h
      · cases h
      · rename_i h2; simpa using h2
/-- The table's Set, called on a world's table with a node that lies in a box of one's own. -/
theorem wset_any (B : Nat) (g : GhW) (S : TreeD) (n : NodeD) (A : Option Addr) (c : Nat) (w : World) (h : WAt w B g S) (hu : NosUp S.nodes S.last) (hn : NodeOk w B n A c) :
    Calls Try.prog 82 #[.pointer (some ⟨g.bT, 0, none⟩), .agg #[.int .i64 n.no, .int .i64 n.dev, .int .i64 n.kind, .int .i64 n.mode, .int .i64 n.uid, .int .i64 n.gid, .int .i64 n.mtime, .int .i64 n.ctime, .int .i64 n.links, .int .i64 n.up, .string (bs n.data), .slice A n.ents.length c]] w (fun e w' => e = .returned (.bool (isN S.nodes n.no)) ∧ WAt w' B g (setT S n) ∧ Only g.list w w') := by
  refine (tset_any B g.bT g.bM S.nodes S.last n A c w h.2.1 hu hn).mono ?_
  rintro e w' ⟨rfl, h2, h3⟩
  exact ⟨rfl, WAt.table h h3 h2, h3.mono (by simp)⟩
set_option maxRecDepth 100000 in
set_option maxHeartbeats 4000000 in
theorem pmode_any (B : Nat) (g : GhW) (S : TreeD) (cu cg now no mode : Int) (w : World) (h : WAt w B g S) (hd : 0 < S.devs.length) (hu : NosUp S.nodes S.last) :
    Calls Try.prog 35 #[.pointer (some ⟨g.bW, 0, none⟩), .agg #[.int .i64 cu, .int .i64 cg], .int .i64 now, .int .i64 no, .int .i64 mode] w (ErrR w B g (modeT S cu now no mode) (modeE S cu no mode)) := by
  have E0 : Ext w (w.alloc (.cells #[.int .i64 cu, .int .i64 cg] 63)) := (Ext.refl _).alloc _
  have hm : Hid (modeE S cu no mode = if ownE S cu no ≠ 0 then ownE S cu no else if mode < 0 ∨ 1023 < mode ∨ (getN S.nodes no).kind = 3 then 1 else 0) := by show _ = _; rfl
  have hoz : Hid (ownE S cu no = 0 → isN S.nodes no = true ∧ ownsB cu (getN S.nodes no).uid = true ∧ ownN S cu no = getN S.nodes no) := ownE_zero
  go_enter Try.func35, Try.ntmps35
  go_wp2_with fail
  refine (pown_any B g S cu cg no _ (h.ext E0) hd).mono ?_
  rintro e w2 ⟨A, c, rfl, ok2, b2⟩
  have E2 := E0.trans b2
  obtain ⟨m, hmm⟩ : ∃ m, m = ownN S cu no := ⟨_, rfl⟩
  obtain ⟨x, hx⟩ : ∃ x, x = ownE S cu no := ⟨_, rfl⟩
  rw [← hmm] at ok2 hoz
  rw [← hx] at hm hoz
  rw [← hmm, ← hx]
  clear hmm hx
  by_cases hx0 : x = 0
  · have t0 : (x == 0) = true := by simpa using hx0
    have t0b : (x != 0) = false := by simpa using hx0
    obtain ⟨hi, ho, hmg⟩ := hoz.out hx0
    have hm2 : Hid (modeE S cu no mode = if mode < 0 ∨ 1023 < mode ∨ m.kind = 3 then 1 else 0) := by show _ = _; rw [hm.out, if_neg (by simpa using hx0), ← hmg]
    have hmno : m.no = no := by rw [hmg]; exact (isN_true hi).2.1
    have HMG := Lib.hid hmg
    have HNO := Lib.hid hmno
    clear hm hoz hmg hmno hi ho hx0
    by_cases c1 : mode < 0
    · have t1 : decide (mode < 0) = true := decide_eq_true c1
      have hE : Hid (modeE S cu no mode = 1) := by show _ = _; rw [hm2.out, if_pos (.inl c1)]
      clear hm2 c1
      go_wp2_with fail
      go_ret
      rw [hE.out]
      exact errR_same h (E2.alloc _) (by unfold modeT; rw [hE.out]; rfl)
    · have t1 : decide (mode < 0) = false := decide_eq_false c1
      by_cases c2 : 1023 < mode
      · have t2 : decide (1023 < mode) = true := decide_eq_true c2
        have hE : Hid (modeE S cu no mode = 1) := by show _ = _; rw [hm2.out, if_pos (.inr (.inl c2))]
        clear hm2 c1 c2
        go_wp2_with fail
        go_ret
        rw [hE.out]
        exact errR_same h (E2.alloc _) (by unfold modeT; rw [hE.out]; rfl)
      · have t2 : decide (1023 < mode) = false := decide_eq_false c2
        by_cases c3 : m.kind = 3
        · have t3 : (m.kind == 3) = true := by simpa using c3
          have hE : Hid (modeE S cu no mode = 1) := by show _ = _; rw [hm2.out, if_pos (.inr (.inr c3))]
          clear hm2 c1 c2 c3
          go_wp2_with fail
          go_ret
          rw [hE.out]
          exact errR_same h (E2.alloc _) (by unfold modeT; rw [hE.out]; rfl)
        · have t3 : (m.kind == 3) = false := by simpa using c3
          have hE : Hid (modeE S cu no mode = 0) := by show _ = _; rw [hm2.out, if_neg (by rintro (g' | g' | g') <;> contradiction)]
          clear hm2 c1 c2 c3
          go_upto_region 7 with fail
          obtain ⟨n, hn⟩ : ∃ n : NodeD, n = { m with mode := mode, ctime := now } := ⟨_, rfl⟩
          obtain ⟨V, hV⟩ : ∃ V, V = w2.alloc (.cells #[.int .i64 n.no, .int .i64 n.dev, .int .i64 n.kind, .int .i64 n.mode, .int .i64 n.uid, .int .i64 n.gid, .int .i64 n.mtime, .int .i64 n.ctime, .int .i64 n.links, .int .i64 n.up, .string (bs n.data), .slice A n.ents.length c] 71) := ⟨_, rfl⟩
          have hV2 := hV
          rw [hn] at hV2
          rw [← hV2]
          have NV : Has V w2.heap.size (.cells #[.int .i64 n.no, .int .i64 n.dev, .int .i64 n.kind, .int .i64 n.mode, .int .i64 n.uid, .int .i64 n.gid, .int .i64 n.mtime, .int .i64 n.ctime, .int .i64 n.links, .int .i64 n.up, .string (bs n.data), .slice A n.ents.length c] 71) := by rw [hV]; exact Has.new _ _
          have EV : Ext w V := by rw [hV]; exact E2.alloc _
          have okV : NodeOk V B n A c := ((ok2.ext (by rw [hV]; exact (Ext.refl _).alloc _)).same (by rw [hn]))
          have HN := Lib.hid hn
          clear hV hV2 hn
          have KV := h.ext EV
          obtain ⟨_, _, cd, hW, _⟩ := id KV
          have v0 : V.cell? ⟨g.bW, 0, none⟩ = some (.pointer (some ⟨g.bT, 0, none⟩)) := hW.cell 0
          have vz := hW.lt
          obtain ⟨x0, x1, x2, x3, x4, x5, x6, x7, x8, x9, x10, x11⟩ := NV.node12
          have zN := NV.lt
          go_still_tail 5, (by kernel_rfl)
          change wpList _ _ _ _ _ V.drew
          go_wp2_with fail
          have ED : Ext V V.drew := (Ext.refl _).drew
          refine (wset_any B g S n A c _ (KV.ext ED) hu (okV.ext ED)).mono ?_
          rintro e w5 ⟨rfl, K5, O5⟩
          go_wp2_with fail
          go_ret
          rw [hE.out]
          refine ⟨rfl, ?_, Only.pre (EV.trans ED) O5⟩
          have : modeT S cu now no mode = setT S n := by unfold modeT; rw [if_pos hE.out, HN.out, HMG.out]
          rw [this]; exact K5
  · have t0 : (x == 0) = false := by simpa using hx0
    have t0b : (x != 0) = true := by simpa using hx0
    have hE : Hid (modeE S cu no mode = x) := by show _ = _; rw [hm.out, if_pos hx0]
    have hT : Hid (modeT S cu now no mode = S) := by show _ = _; unfold modeT; rw [if_neg (by rw [hE.out]; exact hx0)]
    clear hm hoz hx0
    go_wp2_with fail
    go_ret
    rw [hE.out]
    exact errR_same h (E2.alloc _) hT.out
end Go.Proofs.Ytgkhhjgjepbjdaa

namespace Go.Proofs.Ytgkhhjgjepbjdaa
open Go.ChangeShapes Go.WideShapes Go.ChangeAt Go.RowKit

def ownrE (S : TreeD) (cu no uid gid : Int) : Int := if ownE S cu no ≠ 0 then ownE S cu no else if ¬ cu = 0 then 4 else if fineB uid gid = false then 1 else 0
def ownrT (S : TreeD) (cu now no uid gid : Int) : TreeD := if ownrE S cu no uid gid = 0 then setT S { getN S.nodes no with uid := uid, gid := gid, ctime := now } else S
def timeE (S : TreeD) (cu no mt : Int) : Int := if ownE S cu no ≠ 0 then ownE S cu no else if mt < 0 ∨ 253402300799 < mt then 1 else 0
def timeT (S : TreeD) (cu now no mt : Int) : TreeD := if timeE S cu no mt = 0 then setT S { getN S.nodes no with mtime := mt, ctime := now } else S
set_option maxRecDepth 100000 in
set_option maxHeartbeats 4000000 in
theorem ptime_any (B : Nat) (g : GhW) (S : TreeD) (cu cg now no mt : Int) (w : World) (h : WAt w B g S) (hd : 0 < S.devs.length) (hu : NosUp S.nodes S.last) :
    Calls Try.prog 37 #[.pointer (some ⟨g.bW, 0, none⟩), .agg #[.int .i64 cu, .int .i64 cg], .int .i64 now, .int .i64 no, .int .i64 mt] w (ErrR w B g (timeT S cu now no mt) (timeE S cu no mt)) := by
  have E0 : Ext w (w.alloc (.cells #[.int .i64 cu, .int .i64 cg] 63)) := (Ext.refl _).alloc _
  have hm : Hid (timeE S cu no mt = if ownE S cu no ≠ 0 then ownE S cu no else if mt < 0 ∨ 253402300799 < mt then 1 else 0) := by show _ = _; rfl
  have hoz : Hid (ownE S cu no = 0 → isN S.nodes no = true ∧ ownsB cu (getN S.nodes no).uid = true ∧ ownN S cu no = getN S.nodes no) := ownE_zero
  go_enter Try.func37, Try.ntmps37
  go_wp2_with fail
  refine (pown_any B g S cu cg no _ (h.ext E0) hd).mono ?_
  rintro e w2 ⟨A, c, rfl, ok2, b2⟩
  have E2 := E0.trans b2
  obtain ⟨m, hmm⟩ : ∃ m, m = ownN S cu no := ⟨_, rfl⟩
  obtain ⟨x, hx⟩ : ∃ x, x = ownE S cu no := ⟨_, rfl⟩
  rw [← hmm] at ok2 hoz
  rw [← hx] at hm hoz
  rw [← hmm, ← hx]
  clear hmm hx
  by_cases hx0 : x = 0
  · have t0 : (x == 0) = true := by simpa using hx0
    have t0b : (x != 0) = false := by simpa using hx0
    obtain ⟨hi, ho, hmg⟩ := hoz.out hx0
    have hm2 : Hid (timeE S cu no mt = if mt < 0 ∨ 253402300799 < mt then 1 else 0) := by show _ = _; rw [hm.out, if_neg (by simpa using hx0)]
    have hmno : m.no = no := by rw [hmg]; exact (isN_true hi).2.1
    have HMG := Lib.hid hmg
    have HNO := Lib.hid hmno
    clear hm hoz hmg hmno hi ho hx0
    by_cases c1 : mt < 0
    · have t1 : decide (mt < 0) = true := decide_eq_true c1
      have hE : Hid (timeE S cu no mt = 1) := by show _ = _; rw [hm2.out, if_pos (.inl c1)]
      clear hm2 c1
      go_wp2_with fail
      go_ret
      rw [hE.out]
      exact errR_same h (E2.alloc _) (by unfold timeT; rw [hE.out]; rfl)
    · have t1 : decide (mt < 0) = false := decide_eq_false c1
      by_cases c2 : 253402300799 < mt
      · have t2 : decide (253402300799 < mt) = true := decide_eq_true c2
        have hE : Hid (timeE S cu no mt = 1) := by show _ = _; rw [hm2.out, if_pos (.inr c2)]
        clear hm2 c1 c2
        go_wp2_with fail
        go_ret
        rw [hE.out]
        exact errR_same h (E2.alloc _) (by unfold timeT; rw [hE.out]; rfl)
      · have t2 : decide (253402300799 < mt) = false := decide_eq_false c2
        · have hE : Hid (timeE S cu no mt = 0) := by show _ = _; rw [hm2.out, if_neg (by rintro (g' | g') <;> contradiction)]
          clear hm2 c1 c2
          go_upto_region 7 with fail
          obtain ⟨n, hn⟩ : ∃ n : NodeD, n = { m with mtime := mt, ctime := now } := ⟨_, rfl⟩
          obtain ⟨V, hV⟩ : ∃ V, V = w2.alloc (.cells #[.int .i64 n.no, .int .i64 n.dev, .int .i64 n.kind, .int .i64 n.mode, .int .i64 n.uid, .int .i64 n.gid, .int .i64 n.mtime, .int .i64 n.ctime, .int .i64 n.links, .int .i64 n.up, .string (bs n.data), .slice A n.ents.length c] 71) := ⟨_, rfl⟩
          have hV2 := hV
          rw [hn] at hV2
          rw [← hV2]
          have NV : Has V w2.heap.size (.cells #[.int .i64 n.no, .int .i64 n.dev, .int .i64 n.kind, .int .i64 n.mode, .int .i64 n.uid, .int .i64 n.gid, .int .i64 n.mtime, .int .i64 n.ctime, .int .i64 n.links, .int .i64 n.up, .string (bs n.data), .slice A n.ents.length c] 71) := by rw [hV]; exact Has.new _ _
          have EV : Ext w V := by rw [hV]; exact E2.alloc _
          have okV : NodeOk V B n A c := ((ok2.ext (by rw [hV]; exact (Ext.refl _).alloc _)).same (by rw [hn]))
          have HN := Lib.hid hn
          clear hV hV2 hn
          have KV := h.ext EV
          obtain ⟨_, _, cd, hW, _⟩ := id KV
          have v0 : V.cell? ⟨g.bW, 0, none⟩ = some (.pointer (some ⟨g.bT, 0, none⟩)) := hW.cell 0
          have vz := hW.lt
          obtain ⟨x0, x1, x2, x3, x4, x5, x6, x7, x8, x9, x10, x11⟩ := NV.node12
          have zN := NV.lt
          go_still_tail 5, (by kernel_rfl)
          change wpList _ _ _ _ _ V.drew
          go_wp2_with fail
          have ED : Ext V V.drew := (Ext.refl _).drew
          refine (wset_any B g S n A c _ (KV.ext ED) hu (okV.ext ED)).mono ?_
          rintro e w5 ⟨rfl, K5, O5⟩
          go_wp2_with fail
          go_ret
          rw [hE.out]
          refine ⟨rfl, ?_, Only.pre (EV.trans ED) O5⟩
          have : timeT S cu now no mt = setT S n := by unfold timeT; rw [if_pos hE.out, HN.out, HMG.out]
          rw [this]; exact K5
  · have t0 : (x == 0) = false := by simpa using hx0
    have t0b : (x != 0) = true := by simpa using hx0
    have hE : Hid (timeE S cu no mt = x) := by show _ = _; rw [hm.out, if_pos hx0]
    have hT : Hid (timeT S cu now no mt = S) := by show _ = _; unfold timeT; rw [if_neg (by rw [hE.out]; exact hx0)]
    clear hm hoz hx0
    go_wp2_with fail
    go_ret
    rw [hE.out]
    exact errR_same h (E2.alloc _) hT.out
set_option maxRecDepth 100000 in
set_option maxHeartbeats 4000000 in
theorem powner_any (B : Nat) (g : GhW) (S : TreeD) (cu cg now no uid gid : Int) (w : World) (h : WAt w B g S) (hd : 0 < S.devs.length) (hu : NosUp S.nodes S.last) :
    Calls Try.prog 36 #[.pointer (some ⟨g.bW, 0, none⟩), .agg #[.int .i64 cu, .int .i64 cg], .int .i64 now, .int .i64 no, .int .i64 uid, .int .i64 gid] w (ErrR w B g (ownrT S cu now no uid gid) (ownrE S cu no uid gid)) := by
  have E0 : Ext w (w.alloc (.cells #[.int .i64 cu, .int .i64 cg] 63)) := (Ext.refl _).alloc _
  have hm : Hid (ownrE S cu no uid gid = if ownE S cu no ≠ 0 then ownE S cu no else if ¬ cu = 0 then 4 else if fineB uid gid = false then 1 else 0) := by show _ = _; rfl
  have hoz : Hid (ownE S cu no = 0 → isN S.nodes no = true ∧ ownsB cu (getN S.nodes no).uid = true ∧ ownN S cu no = getN S.nodes no) := ownE_zero
  go_enter Try.func36, Try.ntmps36
  go_wp2_with fail
  refine (pown_any B g S cu cg no _ (h.ext E0) hd).mono ?_
  rintro e w2 ⟨A, c, rfl, ok2, b2⟩
  have E2 := E0.trans b2
  obtain ⟨m, hmm⟩ : ∃ m, m = ownN S cu no := ⟨_, rfl⟩
  obtain ⟨x, hx⟩ : ∃ x, x = ownE S cu no := ⟨_, rfl⟩
  rw [← hmm] at ok2 hoz
  rw [← hx] at hm hoz
  rw [← hmm, ← hx]
  clear hmm hx
  by_cases hx0 : x = 0
  · have t0 : (x == 0) = true := by simpa using hx0
    have t0b : (x != 0) = false := by simpa using hx0
    obtain ⟨hi, ho, hmg⟩ := hoz.out hx0
    have hm2 : Hid (ownrE S cu no uid gid = if ¬ cu = 0 then 4 else if fineB uid gid = false then 1 else 0) := by show _ = _; rw [hm.out, if_neg (by simpa using hx0)]
    have hmno : m.no = no := by rw [hmg]; exact (isN_true hi).2.1
    have HMG := Lib.hid hmg
    have HNO := Lib.hid hmno
    clear hm hoz hmg hmno hi ho hx0
    have C2 := ((Has.new w (.cells #[.int .i64 cu, .int .i64 cg] 63)).ext b2)
    have k0 : w2.cell? ⟨w.heap.size, 0, none⟩ = some (.int .i64 cu) := C2.cell 0
    have kz := C2.lt
    by_cases c1 : cu = 0
    · have t1 : (cu == 0) = true := by simpa using c1
      have t1b : (cu != 0) = false := by simpa using c1
      cases c2 : fineB uid gid
      · have hE : Hid (ownrE S cu no uid gid = 1) := by show _ = _; rw [hm2.out, if_neg (by simpa using c1), if_pos c2]
        have HC := Lib.hid c2
        clear hm2 c1 c2
        go_wp2_with fail
        refine (pfine_any uid gid _).mono ?_
        rw [HC.out]
        rintro e w4 ⟨rfl, b4⟩
        go_wp2_with fail
        go_ret
        rw [hE.out]
        exact errR_same h ((E2.alloc _).trans b4) (by unfold ownrT; rw [hE.out]; rfl)
      · have hE : Hid (ownrE S cu no uid gid = 0) := by show _ = _; rw [hm2.out, if_neg (by simpa using c1), if_neg (by rw [c2]; decide)]
        have HC := Lib.hid c2
        clear hm2 c1 c2
        go_wp2_with fail
        refine (pfine_any uid gid _).mono ?_
        rw [HC.out]
        rintro e w4 ⟨rfl, b4⟩
        have N4 := (Has.new w2 (.cells #[.int .i64 m.no, .int .i64 m.dev, .int .i64 m.kind, .int .i64 m.mode, .int .i64 m.uid, .int .i64 m.gid, .int .i64 m.mtime, .int .i64 m.ctime, .int .i64 m.links, .int .i64 m.up, .string (bs m.data), .slice A m.ents.length c] 71)).ext b4
        have ok4 := (ok2.ext ((Ext.refl _).alloc (.cells #[.int .i64 m.no, .int .i64 m.dev, .int .i64 m.kind, .int .i64 m.mode, .int .i64 m.uid, .int .i64 m.gid, .int .i64 m.mtime, .int .i64 m.ctime, .int .i64 m.links, .int .i64 m.up, .string (bs m.data), .slice A m.ents.length c] 71))).ext b4
        have E4 := (E2.alloc (.cells #[.int .i64 m.no, .int .i64 m.dev, .int .i64 m.kind, .int .i64 m.mode, .int .i64 m.uid, .int .i64 m.gid, .int .i64 m.mtime, .int .i64 m.ctime, .int .i64 m.links, .int .i64 m.up, .string (bs m.data), .slice A m.ents.length c] 71)).trans b4
        obtain ⟨y0, y1, y2, y3, y4, y5, y6, y7, y8, y9, y10, y11⟩ := N4.node12
        have yf : ∀ i, w4.frozen? ⟨w2.heap.size, i, none⟩ = false := fun i => (N4.free i).trans (by simp)
        have yz := N4.lt
        go_upto_region 9 with fail
        obtain ⟨n, hn⟩ : ∃ n : NodeD, n = { m with uid := uid, gid := gid, ctime := now } := ⟨_, rfl⟩
        obtain ⟨V, hV⟩ : ∃ V, V = ((w4.setCell ⟨w2.heap.size, 4, none⟩ (.int .i64 uid)).setCell ⟨w2.heap.size, 5, none⟩ (.int .i64 gid)).setCell ⟨w2.heap.size, 7, none⟩ (.int .i64 now) := ⟨_, rfl⟩
        rw [← hV]
        have NV : Has V w2.heap.size (.cells #[.int .i64 n.no, .int .i64 n.dev, .int .i64 n.kind, .int .i64 n.mode, .int .i64 n.uid, .int .i64 n.gid, .int .i64 n.mtime, .int .i64 n.ctime, .int .i64 n.links, .int .i64 n.up, .string (bs n.data), .slice A n.ents.length c] 71) := by rw [hV, hn]; exact ((N4.setCell 4 _).setCell 5 _).setCell 7 _
        have OV : Only [w2.heap.size] w4 V := by rw [hV]; exact ((Only.setCell _ _ _ _).then (Only.setCell _ _ _ _)).then (Only.setCell _ _ _ _)
        have EV : Ext w V := OV.after E4 (by intro x hx; rw [List.mem_singleton] at hx; have := E2.size; omega)
        have okV : NodeOk V B n A c := (ok4.same (by rw [hn])).only OV (by
          intro b hb
          rw [List.mem_singleton] at hb
          subst hb
          exact ⟨by have := h.1; have := h.lt.1; have := E2.size; omega, N4.noTag (by decide)⟩)
        have HN := Lib.hid hn
        clear hV hn y0 y1 y2 y3 y4 y5 y6 y7 y8 y9 y10 y11 yf yz
        have KV := h.ext EV
        obtain ⟨_, _, cd, hW, _⟩ := id KV
        have v0 : V.cell? ⟨g.bW, 0, none⟩ = some (.pointer (some ⟨g.bT, 0, none⟩)) := hW.cell 0
        have vz := hW.lt
        obtain ⟨x0, x1, x2, x3, x4, x5, x6, x7, x8, x9, x10, x11⟩ := NV.node12
        have zN := NV.lt
        go_still_tail 5, (by kernel_rfl)
        change wpList _ _ _ _ _ V.drew
        go_wp2_with fail
        have ED : Ext V V.drew := (Ext.refl _).drew
        refine (wset_any B g S n A c _ (KV.ext ED) hu (okV.ext ED)).mono ?_
        rintro e w5 ⟨rfl, K5, O5⟩
        go_wp2_with fail
        go_ret
        rw [hE.out]
        refine ⟨rfl, ?_, Only.pre (EV.trans ED) O5⟩
        have : ownrT S cu now no uid gid = setT S n := by unfold ownrT; rw [if_pos hE.out, HN.out, HMG.out]
        rw [this]; exact K5
    · have t1 : (cu == 0) = false := by simpa using c1
      have t1b : (cu != 0) = true := by simpa using c1
      have hE : Hid (ownrE S cu no uid gid = 4) := by show _ = _; rw [hm2.out, if_pos c1]
      clear hm2 c1
      go_wp2_with fail
      go_ret
      rw [hE.out]
      exact errR_same h (E2.alloc _) (by unfold ownrT; rw [hE.out]; rfl)
  · have t0 : (x == 0) = false := by simpa using hx0
    have t0b : (x != 0) = true := by simpa using hx0
    have hE : Hid (ownrE S cu no uid gid = x) := by show _ = _; rw [hm.out, if_pos hx0]
    have hT : Hid (ownrT S cu now no uid gid = S) := by show _ = _; unfold ownrT; rw [if_neg (by rw [hE.out]; exact hx0)]
    clear hm hoz hx0
    go_wp2_with fail
    go_ret
    rw [hE.out]
    exact errR_same h (E2.alloc _) hT.out
end Go.Proofs.Ytgkhhjgjepbjdaa

namespace Go.Proofs.Ytgkhhjgjepbjdaa
open Go.ChangeShapes Go.WideShapes Go.ChangeAt Go.RowKit

/-- Every node lies on a mount that is there, and has not too many bytes. -/
def OnDev (S : TreeD) : Prop := ∀ n ∈ S.nodes, hasD S.devs n.dev = true ∧ n.data.length ≤ 1048576
def moreB (n : NodeD) (dl : Int) : Int := blocksF n.kind dl - blocksF n.kind n.data.length
def fillE (S : TreeD) (no dl : Int) : Int :=
  if isN S.nodes no = false then 5 else takeE (devN S.devs (getN S.nodes no).dev).q (moreB (getN S.nodes no) dl) 0
def fillT (S : TreeD) (no : Int) (data : List UInt8) : TreeD :=
  if fillE S no data.length = 0 then ⟨setN S.nodes { getN S.nodes no with data := data }, setQ S.devs (getN S.nodes no).dev (takeQ (devN S.devs (getN S.nodes no).dev).q (moreB (getN S.nodes no) data.length) 0), S.last⟩ else S
theorem keepFi {V w' : World} {b2 b3 o1 o2 o3 o4 : Nat} {C2 : Array Value} {v1 v2 v3 v4 : Value} (hb : Ext V w') (h : b2 < V.heap.size ∧ b3 < V.heap.size)
    (k : (∀ i, V.cell? ⟨b2, i, none⟩ = C2[i]?) ∧ V.cell? ⟨b3, o1, none⟩ = some v1 ∧ V.cell? ⟨b3, o2, none⟩ = some v2 ∧ V.cell? ⟨b3, o3, none⟩ = some v3 ∧ V.cell? ⟨b3, o4, none⟩ = some v4) :
    Ext V w' ∧ (∀ i, w'.cell? ⟨b2, i, none⟩ = C2[i]?) ∧ w'.cell? ⟨b3, o1, none⟩ = some v1 ∧ w'.cell? ⟨b3, o2, none⟩ = some v2 ∧ w'.cell? ⟨b3, o3, none⟩ = some v3 ∧ w'.cell? ⟨b3, o4, none⟩ = some v4 := by
  obtain ⟨k2, k3, k4, k5, k6⟩ := k
  refine ⟨hb, fun i => ?_, ?_, ?_, ?_, ?_⟩
  · rw [hb.cell h.1]; exact k2 i
  all_goals (rw [hb.cell h.2]; assumption)
set_option maxRecDepth 100000 in
set_option maxHeartbeats 8000000 in
theorem pfill_any (B : Nat) (g : GhW) (S : TreeD) (no : Int) (data : List UInt8) (w : World) (h : WAt w B g S) (hd : 0 < S.devs.length) (hd2 : S.devs.length ≤ 8) (hr : RootsOk S.devs) (hu : NosUp S.nodes S.last) (hdv : OnDev S) (hdl : data.length ≤ 1048576) :
    Calls Try.prog 23 #[.pointer (some ⟨g.bW, 0, none⟩), .int .i64 no, .string (bs data)] w (ErrR w B g (fillT S no data) (fillE S no data.length)) := by
  have hm : Hid (fillE S no data.length = if isN S.nodes no = false then 5 else takeE (devN S.devs (getN S.nodes no).dev).q (moreB (getN S.nodes no) data.length) 0) := by show _ = _; rfl
  have R0 := Has.new w (.cells #[.int .i64 nodeZ.no, .int .i64 nodeZ.dev, .int .i64 nodeZ.kind, .int .i64 nodeZ.mode, .int .i64 nodeZ.uid, .int .i64 nodeZ.gid, .int .i64 nodeZ.mtime, .int .i64 nodeZ.ctime, .int .i64 nodeZ.links, .int .i64 nodeZ.up, .string (bs nodeZ.data), .slice none nodeZ.ents.length 0] 71)
  have E0 : Ext w (w.alloc (.cells #[.int .i64 0, .int .i64 0, .int .i64 0, .int .i64 0, .int .i64 0, .int .i64 0, .int .i64 0, .int .i64 0, .int .i64 0, .int .i64 0, .string ⟨#[]⟩, .slice none 0 0] 71)) := (Ext.refl _).alloc _
  go_enter Try.func23, Try.ntmps23
  go_wp2_with fail
  refine (pnone_any B g S _ (h.ext E0) hd).mono ?_
  rintro e w1 ⟨rfl, b1⟩
  have R1 := R0.ext b1
  have E1 := E0.trans b1
  obtain ⟨_, _, cd, hW, hD⟩ := id (h.ext E1)
  have v0 : w1.cell? ⟨g.bW, 0, none⟩ = some (.pointer (some ⟨g.bT, 0, none⟩)) := hW.cell 0
  have z1 := hW.lt
  clear hD
  go_wp2_with fail
  refine (tget_any B g.bT g.bM S.nodes S.last no _ (h.ext E1).2.1).mono ?_
  rintro e w2 ⟨A, c, rfl, ok2, b2⟩
  have R2 := R1.ext b2
  have E2 := E1.trans b2
  have hmem : isN S.nodes no = true → (getN S.nodes no).no = no ∧ hasD S.devs (getN S.nodes no).dev = true ∧ (getN S.nodes no).data.length ≤ 1048576 := fun hi => ⟨(isN_true hi).2.1, hdv _ (isN_true hi).2.2⟩
  obtain ⟨n, hn⟩ : ∃ n, n = getN S.nodes no := ⟨_, rfl⟩
  obtain ⟨i, hi⟩ : ∃ i, i = isN S.nodes no := ⟨_, rfl⟩
  rw [← hn] at ok2 hm hmem
  rw [← hi] at hm hmem
  rw [← hn, ← hi]
  have HN := Lib.hid hn
  have HI := Lib.hid hi
  have HM := Lib.hid hmem
  clear v0 hn hi hmem
  cases i
  · have hE : Hid (fillE S no data.length = 5) := by show _ = _; rw [hm.out]; rfl
    clear hm
    go_wp2_with (refine wpList_store_node rfl _ _ rfl w.heap.size n A c rfl rfl R2 ?_; intro w3 R3 O3)
    go_ret
    rw [hE.out]
    exact errR_same h (O3.after E2 (by simp)) (by unfold fillT; rw [hE.out]; rfl)
  · obtain ⟨hno, hdev, hdata⟩ := HM.out rfl
    have HNO := Lib.hid hno
    have hroot := rootF_zero hr n.dev
    rcases hroot with ⟨_, e2⟩ | ⟨k, hk, e1, _, e3, _, _, e6⟩
    · rw [e2] at hdev; cases hdev
    have e0 : fillE S no data.length = takeE S.devs[k].q (moreB n data.length) 0 := by rw [hm.out, if_neg (by decide), e3]
    obtain ⟨bl1, hbl1⟩ : ∃ bl, bl = blocksF n.kind data.length := ⟨_, rfl⟩
    obtain ⟨bl0, hbl0⟩ : ∃ bl, bl = blocksF n.kind n.data.length := ⟨_, rfl⟩
    have hb1 := blocks_bd (k := n.kind) (s := data.length) (by omega) (by omega)
    have hb0 := blocks_bd (k := n.kind) (s := n.data.length) (by omega) (by omega)
    rw [← hbl1] at hb1
    rw [← hbl0] at hb0
    have hdif : moreB n data.length = bl1 - bl0 := by rw [hbl1, hbl0]; rfl
    rw [hdif] at e0
    obtain ⟨q, hq⟩ : ∃ q, q = S.devs[k].q := ⟨_, rfl⟩
    rw [← hq] at e6 e0
    have inr : inR (bl1 - bl0) 0 := ⟨by omega, by omega, by omega, by omega⟩
    have HB1 := Lib.hid hbl1
    have HB0 := Lib.hid hbl0
    have HE0 := Lib.hid e0
    have HQ := Lib.hid hq
    have H3 := Lib.hid e3
    have HD := Lib.hid e1
    have HDF := Lib.hid hdif
    have hsz : ((bs n.data).size : Int) = n.data.length := by rw [bs_size]
    have hsz2 : ((bs data).size : Int) = data.length := by rw [bs_size]
    have y0 : (0 : Int) ≤ n.dev - 1 := by rw [e1]; omega
    have y1 : n.dev - 1 < (S.devs.length : Int) := by rw [e1]; omega
    have y2 : (n.dev - 1).toNat = k := by rw [e1]; omega
    have y3 : IntKind.i64.wrap (n.dev - 1) = n.dev - 1 := wrap_i64_in (by omega) (by omega)
    have y4 : 1 ≤ n.dev := by omega
    have y5 : n.dev.toNat - 1 = k := by omega
    clear hm hno hdev hdif hbl1 hbl0 hq e3 e1 e0
    go_upto_region 6 with (refine wpList_store_node rfl _ _ rfl w.heap.size n A c rfl rfl R2 ?_; intro w3 R3 O3)
    have E3 : Ext w w3 := O3.after E2 (by simp)
    have x1 : w3.cell? ⟨w.heap.size, 1, none⟩ = some (.int .i64 n.dev) := R3.cell 1
    have xz := R3.lt
    obtain ⟨hb, hT, cd3, hW3, hD3⟩ := id (h.ext E3)
    have v1 : w3.cell? ⟨g.bW, 1, none⟩ = some (.slice (some ⟨g.bD, 0, none⟩) S.devs.length cd3) := hW3.cell 1
    have vz := hW3.lt
    go_cut [9] (fun p wc => p = .pointer (some ⟨g.bD, k * 6, none⟩) ∧ Ext w3 wc)
    case first =>
      go_quiet (fail)
      go_wp2_with fail
      go_meet
      exact ⟨rfl, (Ext.refl _).drewN nq⟩
    case rest =>
    obtain ⟨rfl, E4⟩ := hcut
    obtain ⟨W4, hW4⟩ : ∃ W4, W4 = wc := ⟨_, rfl⟩
    rw [← hW4] at E4 ⊢
    clear hW4 x1 v1 vz xz
    go_upto_region 7 with fail
    have R4 := R3.ext E4
    have EW4 : Ext w W4 := E3.trans E4
    have hl := h.lt
    obtain ⟨_, _, cd4, _, hD4⟩ := id (h.ext EW4)
    obtain ⟨_, _, d2, d3, d4, d5⟩ := RowD.at_ hD4 k hk
    rw [← HQ.out] at d2 d3 d4 d5
    have y6 : IntKind.i64.wrap (bl1 - bl0) = bl1 - bl0 := wrap_i64_in (by omega) (by omega)
    have hbd : g.bD < W4.heap.size := by have := EW4.size; omega
    go_cut [10, 11] (fun p e wc => ∃ bx, p = .pointer (some ⟨bx, 0, none⟩) ∧ e = .int .i64 (takeE q (bl1 - bl0) 0) ∧ Has wc bx (.cells #[.int .i64 (takeQ q (bl1 - bl0) 0).blocks, .int .i64 (takeQ q (bl1 - bl0) 0).nodes, .int .i64 (takeQ q (bl1 - bl0) 0).mostB, .int .i64 (takeQ q (bl1 - bl0) 0).mostN] 57) ∧ Ext W4 wc ∧ W4.heap.size ≤ bx)
    case first =>
      have K1 : Hid (∀ w : World, Calls Try.prog 76 #[.int .i64 n.kind, .int .i64 data.length] w (fun e w' => e = .returned (.int .i64 bl1) ∧ w' = w)) := by
        show ∀ w : World, _
        intro w; rw [HB1.out]; exact pblocks_same n.kind data.length (by omega) (by omega) w
      have K0 : Hid (∀ w : World, Calls Try.prog 76 #[.int .i64 n.kind, .int .i64 n.data.length] w (fun e w' => e = .returned (.int .i64 bl0) ∧ w' = w)) := by
        show ∀ w : World, _
        intro w; rw [HB0.out]; exact pblocks_same n.kind n.data.length (by omega) (by omega) w
      have KT : Hid (∀ w : World, Calls Try.prog 75 #[.agg #[.int .i64 q.blocks, .int .i64 q.nodes, .int .i64 q.mostB, .int .i64 q.mostN], .int .i64 (bl1 - bl0), .int .i64 0] w (Ret w (.tuple #[.agg #[.int .i64 (takeQ q (bl1 - bl0) 0).blocks, .int .i64 (takeQ q (bl1 - bl0) 0).nodes, .int .i64 (takeQ q (bl1 - bl0) 0).mostB, .int .i64 (takeQ q (bl1 - bl0) 0).mostN], .int .i64 (takeE q (bl1 - bl0) 0)]))) := ptake_any q (bl1 - bl0) 0 e6 inr
      have u2 : ∀ u : Gr W4, u.w.cell? ⟨w.heap.size, 2, none⟩ = some (.int .i64 n.kind) := Gr.cell R4.lt (R4.cell 2)
      have u10 : ∀ u : Gr W4, u.w.cell? ⟨w.heap.size, 10, none⟩ = some (.string (bs n.data)) := Gr.cell R4.lt (R4.cell 10)
      have t2 : ∀ u : Gr W4, u.w.cell? ⟨g.bD, k * 6 + 2, none⟩ = some (.int .i64 q.blocks) := Gr.cell hbd d2
      have t3 : ∀ u : Gr W4, u.w.cell? ⟨g.bD, k * 6 + 3, none⟩ = some (.int .i64 q.nodes) := Gr.cell hbd d3
      have t4 : ∀ u : Gr W4, u.w.cell? ⟨g.bD, k * 6 + 4, none⟩ = some (.int .i64 q.mostB) := Gr.cell hbd d4
      have t5 : ∀ u : Gr W4, u.w.cell? ⟨g.bD, k * 6 + 5, none⟩ = some (.int .i64 q.mostN) := Gr.cell hbd d5
      clear d2 d3 d4 d5 hD4 R4 EW4 E4
      refine wp_region_space W4 20 21 10 53 (takeQ q (bl1 - bl0) 0) _ _ (by kernel_rfl) (by kernel_rfl) rfl rfl rfl rfl (by simp) ((Ext.refl _).drew) ?_
      simp only [List.take_succ_cons, List.take_zero, List.drop_succ_cons, List.drop_zero, List.drop_nil]
      repeat (refine wpQuietR_step (fun K hK => ?_)
              go_simp
              first
                | (refine hK _ ?_; clear hK K)
                | (apply Exists.intro
                   refine ⟨fun u => ?_, hK _ ?_⟩
                   first
                     | ((with_reducible refine (K1.out _).mono ?_); rintro e w'' ⟨rfl, rfl⟩; exact ⟨rfl, Ext.refl _⟩)
                     | ((with_reducible refine (K0.out _).mono ?_); rintro e w'' ⟨rfl, rfl⟩; exact ⟨rfl, Ext.refl _⟩)
                     | ((with_reducible refine (KT.out _).mono ?_); rintro e w'' ⟨rfl, hx⟩; exact ⟨rfl, hx⟩)
                   clear hK K))
      refine wpQuietR_nil ?_
      refine wpQuietR_nil ⟨rfl, ?_⟩
      refine wpQuietR_step (fun K hK => ?_)
      go_simp
      refine hK _ ?_
      clear hK K
      refine wpQuietR_nil ?_
      intro w' bx hx hbx hb
      simp only [Act.put]
      go_wp2_with fail
      go_meet
      exact ⟨bx, rfl, rfl, hb, hx, hbx⟩
    case rest =>
    obtain ⟨bx, rfl, rfl, XB, E5, hbx⟩ := hcut
    obtain ⟨W5, hW5⟩ : ∃ W5, W5 = wc := ⟨_, rfl⟩
    rw [← hW5] at XB E5 ⊢
    obtain ⟨x, hx⟩ : ∃ x, x = takeE q (bl1 - bl0) 0 := ⟨_, rfl⟩
    rw [← hx]
    have hE1 : fillE S no data.length = x := by rw [HE0.out, hx]
    have EW5 := EW4.trans E5
    have R5 := R4.ext E5
    have K5 := h.ext EW5
    have HX := Lib.hid hx
    have HE1 := Lib.hid hE1
    have s4 := EW4.size
    have s5 := EW5.size
    have r4 := R4.lt
    clear hW5 hx hE1 d2 d3 d4 d5
    by_cases hz : x = 0
    · have hzb : (x == 0) = true := by simpa using hz
      have hzb2 : (x != 0) = false := by simpa using hz
      have HZ := Lib.hid hz
      have q0 : W5.cell? ⟨bx, 0, none⟩ = some (.int .i64 (takeQ q (bl1 - bl0) 0).blocks) := XB.cell 0
      have q1 : W5.cell? ⟨bx, 1, none⟩ = some (.int .i64 (takeQ q (bl1 - bl0) 0).nodes) := XB.cell 1
      have q2 : W5.cell? ⟨bx, 2, none⟩ = some (.int .i64 (takeQ q (bl1 - bl0) 0).mostB) := XB.cell 2
      have q3 : W5.cell? ⟨bx, 3, none⟩ = some (.int .i64 (takeQ q (bl1 - bl0) 0).mostN) := XB.cell 3
      have qz := XB.lt
      obtain ⟨_, hT5, cd5, hW5, hD5⟩ := id K5
      obtain ⟨_, _, d2, d3, d4, d5⟩ := RowD.at_ hD5 k hk
      have hdz := K5.lt.2.2.2
      have f2 := (show W5.ownsRow B 128 6 (.slice (some ⟨g.bD, 0, none⟩) S.devs.length cd5) S.devs.length (devCells S.devs) from hD5).frozenAt (k * 6 + 2)
      have f3 := (show W5.ownsRow B 128 6 (.slice (some ⟨g.bD, 0, none⟩) S.devs.length cd5) S.devs.length (devCells S.devs) from hD5).frozenAt (k * 6 + 3)
      have f4 := (show W5.ownsRow B 128 6 (.slice (some ⟨g.bD, 0, none⟩) S.devs.length cd5) S.devs.length (devCells S.devs) from hD5).frozenAt (k * 6 + 4)
      have f5 := (show W5.ownsRow B 128 6 (.slice (some ⟨g.bD, 0, none⟩) S.devs.length cd5) S.devs.length (devCells S.devs) from hD5).frozenAt (k * 6 + 5)
      clear hz
      go_upto_region 11 with fail
      obtain ⟨W6, hW6⟩ : ∃ W6, W6 = (((W5.setCell ⟨g.bD, k * 6 + 2, none⟩ (.int .i64 (takeQ q (bl1 - bl0) 0).blocks)).setCell ⟨g.bD, k * 6 + 2 + 1, none⟩ (.int .i64 (takeQ q (bl1 - bl0) 0).nodes)).setCell ⟨g.bD, k * 6 + 2 + 2, none⟩ (.int .i64 (takeQ q (bl1 - bl0) 0).mostB)).setCell ⟨g.bD, k * 6 + 2 + 3, none⟩ (.int .i64 (takeQ q (bl1 - bl0) 0).mostN) := ⟨_, rfl⟩
      rw [← hW6]
      have O6 : Only [g.bD] W5 W6 := by rw [hW6]; exact (((Only.setCell _ _ _ _).then (Only.setCell _ _ _ _)).then (Only.setCell _ _ _ _)).then (Only.setCell _ _ _ _)
      have D6 : W6.ownsRow B 128 6 (.slice (some ⟨g.bD, 0, none⟩) S.devs.length cd5) S.devs.length (devCells (setQ S.devs ((k : Int) + 1) (takeQ q (bl1 - bl0) 0))) := by
        rw [hW6, ← devCells_setQ S.devs k hk]
        exact (World.ownsRow.stored (World.ownsRow.stored (World.ownsRow.stored (World.ownsRow.stored hD5 (k * 6 + 2) _).1 (k * 6 + 3) _).1 (k * 6 + 4) _).1 (k * 6 + 5) _).1
      have K5a := K5.apart
      obtain ⟨m1, m2, m3, m4, m5, m6⟩ := K5.ne
      have H6 := O6.has hW5 (by simpa using m3)
      have T6 : TAt W6 B g.bT g.bM S.nodes S.last := hT5.only O6 (K5a.sub (by simp)) (by simpa using m5) (by simpa using m6)
      have K6 : WAt W6 B g ⟨S.nodes, setQ S.devs n.dev (takeQ q (bl1 - bl0) 0), S.last⟩ := by
        refine ⟨h.1, T6, cd5, ?_, ?_⟩
        · simpa [setQ_len] using H6
        · unfold RowD
          simp only [setQ_len]
          rw [HD.out]; exact D6
      have hbD : w.heap.size ≠ g.bD := by have := hl.2.2.2; omega
      have R6 := O6.has R5 (by simpa using hbD)
      have ok6 : NodeOk W6 B n A c := ((((ok2.only O3 (by
        intro b hb
        rw [List.mem_singleton] at hb
        subst hb
        exact ⟨by have := h.1; have := h.lt.1; omega, R2.noTag (by decide)⟩)).ext E4).ext E5).only O6 (K5a.sub (by simp)))
      have z6 := R6.lt
      have c10 : W6.cell? ⟨w.heap.size, 10, none⟩ = some (.string (bs n.data)) := R6.cell 10
      have f10 : W6.frozen? ⟨w.heap.size, 10, none⟩ = false := R6.free 10
      clear hW6 q0 q1 q2 q3 d2 d3 d4 d5 f2 f3 f4 f5
      obtain ⟨n', hn'⟩ : ∃ n' : NodeD, n' = { n with data := data } := ⟨_, rfl⟩
      go_upto_region 12 with fail
      obtain ⟨W7, hW7⟩ : ∃ W7, W7 = W6.setCell ⟨w.heap.size, 10, none⟩ (.string (bs data)) := ⟨_, rfl⟩
      rw [← hW7]
      have R7 : Has W7 w.heap.size (.cells #[.int .i64 (n').no, .int .i64 (n').dev, .int .i64 (n').kind, .int .i64 (n').mode, .int .i64 (n').uid, .int .i64 (n').gid, .int .i64 (n').mtime, .int .i64 (n').ctime, .int .i64 (n').links, .int .i64 (n').up, .string (bs (n').data), .slice A (n').ents.length c] 71) := by rw [hW7, hn']; exact R6.setCell 10 _
      have O7 : Only [w.heap.size] W6 W7 := by rw [hW7]; exact Only.setCell _ _ _ _
      have haP : Apart W6 B [w.heap.size] := by
        intro b hb
        rw [List.mem_singleton] at hb
        subst hb
        exact ⟨by have := h.1; omega, R6.noTag (by decide)⟩
      have K7 : WAt W7 B g ⟨S.nodes, setQ S.devs n.dev (takeQ q (bl1 - bl0) 0), S.last⟩ := K6.only O7 haP (by
        intro b hb
        simp only [GhW.list, List.mem_cons, List.not_mem_nil, or_false] at hb
        rw [List.mem_singleton]
        rcases hb with rfl | rfl | rfl | rfl <;> omega)
      have ok7 : NodeOk W7 B n' A c := (ok6.same (by rw [hn'])).only O7 haP
      have HN' := Lib.hid hn'
      clear hW7 hn' c10 f10
      obtain ⟨_, _, cd7, hW7, _⟩ := id K7
      have v0 : W7.cell? ⟨g.bW, 0, none⟩ = some (.pointer (some ⟨g.bT, 0, none⟩)) := hW7.cell 0
      have vz := hW7.lt
      obtain ⟨x0, x1, x2, x3, x4, x5, x6, x7, x8, x9, x10, x11⟩ := R7.node12
      have zN := R7.lt
      clear hW7
      go_still_tail 5, (by kernel_rfl)
      change wpList _ _ _ _ _ W7.drew
      go_wp2_with fail
      have ED : Ext W7 W7.drew := (Ext.refl _).drew
      refine (wset_any B g ⟨S.nodes, setQ S.devs n.dev (takeQ q (bl1 - bl0) 0), S.last⟩ n' A c _ (K7.ext ED) hu (ok7.ext ED)).mono ?_
      rintro e w8 ⟨rfl, K8, O8⟩
      go_wp2_with fail
      go_ret
      have e1 : fillE S no data.length = 0 := by rw [HE1.out]; exact HZ.out
      rw [e1]
      have e2 : fillT S no data = setT ⟨S.nodes, setQ S.devs n.dev (takeQ q (bl1 - bl0) 0), S.last⟩ n' := by
        unfold fillT
        rw [if_pos e1, ← HN.out, HDF.out, H3.out, ← HQ.out, HN'.out]
        rfl
      refine ⟨rfl, by rw [e2]; exact K8, ?_⟩
      have a1 : Only g.list w W6 := Only.pre EW5 (O6.mono (by simp))
      have a2 : Only g.list w W7 := a1.trans O7 (by intro b hb; rw [List.mem_singleton] at hb; right; omega)
      exact (a2.ext ED).then O8
    · have hzb : (x == 0) = false := by simpa using hz
      have hzb2 : (x != 0) = true := by simpa using hz
      have HZ := Lib.hid hz
      clear hz
      go_wp2_with fail
      go_ret
      rw [HE1.out]
      exact errR_same h EW5 (by unfold fillT; rw [if_neg (by rw [HE1.out]; exact HZ.out)])
end Go.Proofs.Ytgkhhjgjepbjdaa

namespace Go.Proofs.Ytgkhhjgjepbjdaa
open Go.ChangeShapes Go.WideShapes Go.ChangeAt Go.RowKit

def wriE (S : TreeD) (cu cg no dl : Int) : Int :=
  if isN S.nodes no = false then 5 else if (getN S.nodes no).kind = 1 then 8 else if ¬ (getN S.nodes no).kind = 2 then 1
  else if mayB cu cg (getN S.nodes no).uid (getN S.nodes no).gid (getN S.nodes no).mode 2 = false then 6 else if 1048576 < dl then 3 else fillE S no dl
def wriT (S : TreeD) (cu cg now no : Int) (data : List UInt8) : TreeD :=
  if wriE S cu cg no data.length = 0 then setT (fillT S no data) { getN (fillT S no data).nodes no with mtime := now, ctime := now } else S
set_option maxRecDepth 100000 in
set_option maxHeartbeats 4000000 in
theorem pwri_any (B : Nat) (g : GhW) (S : TreeD) (cu cg now no : Int) (data : List UInt8) (w : World) (h : WAt w B g S) (hd : 0 < S.devs.length) (hd2 : S.devs.length ≤ 8) (hr : RootsOk S.devs) (hu : NosUp S.nodes S.last) (hdv : OnDev S) (hdl : data.length ≤ 1000000000) :
    Calls Try.prog 88 #[.pointer (some ⟨g.bW, 0, none⟩), .agg #[.int .i64 cu, .int .i64 cg], .int .i64 now, .int .i64 no, .string (bs data)] w (ErrR w B g (wriT S cu cg now no data) (wriE S cu cg no data.length)) := by
  have h0 := h
  have hl0 : ((S.devs.length : Int) == 0) = false := by simpa using (show ¬ (S.devs.length : Int) = 0 by omega)
  have E0 : Ext w (w.alloc (.cells #[.int .i64 cu, .int .i64 cg] 63)) := (Ext.refl _).alloc _
  have hm : Hid (wriE S cu cg no data.length = if isN S.nodes no = false then 5 else if (getN S.nodes no).kind = 1 then 8 else if ¬ (getN S.nodes no).kind = 2 then 1
      else if mayB cu cg (getN S.nodes no).uid (getN S.nodes no).gid (getN S.nodes no).mode 2 = false then 6 else if 1048576 < (data.length : Int) then 3 else fillE S no data.length) := by show _ = _; rfl
  go_enter Try.func88, Try.ntmps88
  go_wp2_with fail
  refine (pdevs_any B g S _ (h0.ext E0) hd).mono ?_
  rintro e w1 ⟨rfl, b1⟩
  have E1 := E0.trans b1
  have C1 := (Has.new w (.cells #[.int .i64 cu, .int .i64 cg] 63)).ext b1
  obtain ⟨_, _, cd, h3, _⟩ := id (h0.ext E1)
  have v0 : w1.cell? ⟨g.bW, 0, none⟩ = some (.pointer (some ⟨g.bT, 0, none⟩)) := h3.cell 0
  have z1 := h3.lt
  clear h3
  go_wp2_with fail
  refine (tget_any B g.bT g.bM S.nodes S.last no _ (h0.ext E1).2.1).mono ?_
  rintro e w2 ⟨A, c, rfl, ok2, b2⟩
  have E2 := E1.trans b2
  have C2 := C1.ext b2
  obtain ⟨m, hmm⟩ : ∃ m, m = getN S.nodes no := ⟨_, rfl⟩
  obtain ⟨i, hi⟩ : ∃ i, i = isN S.nodes no := ⟨_, rfl⟩
  rw [← hmm] at ok2 hm
  rw [← hi] at hm
  rw [← hmm, ← hi]
  obtain ⟨W3, hW3⟩ : ∃ W3, W3 = w2.alloc (.cells #[.int .i64 m.no, .int .i64 m.dev, .int .i64 m.kind, .int .i64 m.mode, .int .i64 m.uid, .int .i64 m.gid, .int .i64 m.mtime, .int .i64 m.ctime, .int .i64 m.links, .int .i64 m.up, .string (bs m.data), .slice A m.ents.length c] 71) := ⟨_, rfl⟩
  have E23 : Ext w2 W3 := by rw [hW3]; exact (Ext.refl _).alloc _
  have N3 : Has W3 w2.heap.size (.cells #[.int .i64 m.no, .int .i64 m.dev, .int .i64 m.kind, .int .i64 m.mode, .int .i64 m.uid, .int .i64 m.gid, .int .i64 m.mtime, .int .i64 m.ctime, .int .i64 m.links, .int .i64 m.up, .string (bs m.data), .slice A m.ents.length c] 71) := by rw [hW3]; exact Has.new _ _
  have C3 := C2.ext E23
  have E3 : Ext w W3 := E2.trans E23
  obtain ⟨b11, hb11⟩ : ∃ b, b = w2.heap.size := ⟨_, rfl⟩
  have hbw : w.heap.size ≤ b11 := by rw [hb11]; exact E2.size
  have HMM := Lib.hid hmm
  have HI := Lib.hid hi
  clear v0 hmm hi
  go_upto_region 4 with fail
  rw [← hW3]
  rw [← hb11] at N3 ⊢
  clear hW3 hb11
  have HS : Hid (∀ (w' : World) (x : Int), Ext w w' → wriE S cu cg no data.length = x → x ≠ 0 → ErrR w B g (wriT S cu cg now no data) (wriE S cu cg no data.length) (.returned (.int .i64 x)) w') := by
    show ∀ (w' : World) (x : Int), _
    intro w' x hE hx hx0
    rw [hx]
    exact errR_same h hE (by unfold wriT; rw [if_neg (by rw [hx]; exact hx0)])
  cases i
  · have hE : Hid (wriE S cu cg no data.length = 5) := by show _ = _; rw [hm.out]; rfl
    clear hm
    go_wp2_with fail
    go_ret
    exact HS.out _ _ E3 hE.out (by decide)
  · have k2 : W3.cell? ⟨b11, 2, none⟩ = some (.int .i64 m.kind) := N3.cell 2
    have kz := N3.lt
    by_cases c1 : m.kind = 1
    · have t1 : (m.kind == 1) = true := by simpa using c1
      have hE : Hid (wriE S cu cg no data.length = 8) := by show _ = _; rw [hm.out, if_neg (by decide), if_pos c1]
      clear hm c1
      go_wp2_with fail
      go_ret
      exact HS.out _ _ E3 hE.out (by decide)
    · have t1 : (m.kind == 1) = false := by simpa using c1
      by_cases c2 : m.kind = 2
      · have t2 : (m.kind == 2) = true := by simpa using c2
        have t2b : (m.kind != 2) = false := by simpa using c2
        have x0 : W3.cell? ⟨w.heap.size, 0, none⟩ = some (.int .i64 cu) := C3.cell 0
        have x1 : W3.cell? ⟨w.heap.size, 1, none⟩ = some (.int .i64 cg) := C3.cell 1
        have xz := C3.lt
        obtain ⟨u, hu'⟩ : ∃ u, u = mayB cu cg m.uid m.gid m.mode 2 := ⟨_, rfl⟩
        rw [← hu'] at hm
        have hm2 : Hid (wriE S cu cg no data.length = if u = false then 6 else if 1048576 < (data.length : Int) then 3 else fillE S no data.length) := by
          show _ = _; rw [hm.out, if_neg (by decide), if_neg c1, if_neg (by simpa using c2)]
        have HU := Lib.hid hu'
        clear hu' hm c1 c2
        go_wp2_with (refine wpList_load_node rfl _ rfl b11 m A c rfl N3 ?_)
        refine (pnode_any cu cg _ _ _ m.mode m.uid m.gid _ _ _ _ _ _ 2 _).mono ?_
        rw [← HU.out]
        rintro e w4 ⟨rfl, b4⟩
        have E4 := E3.trans b4
        have N4 := N3.ext b4
        clear x0 x1 xz k2 kz
        cases u
        · have hE : Hid (wriE S cu cg no data.length = 6) := by show _ = _; rw [hm2.out]; rfl
          clear hm2
          go_wp2_with fail
          go_ret
          exact HS.out _ _ E4 hE.out (by decide)
        · have hsz : ((bs data).size : Int) = data.length := by rw [bs_size]
          by_cases c3 : 1048576 < (data.length : Int)
          · have t3 : decide (1048576 < (data.length : Int)) = true := decide_eq_true c3
            have hE : Hid (wriE S cu cg no data.length = 3) := by show _ = _; rw [hm2.out, if_neg (by decide), if_pos c3]
            clear hm2 c3
            go_wp2_with fail
            go_ret
            exact HS.out _ _ E4 hE.out (by decide)
          · have t3 : decide (1048576 < (data.length : Int)) = false := decide_eq_false c3
            have hm3 : Hid (wriE S cu cg no data.length = fillE S no data.length) := by show _ = _; rw [hm2.out, if_neg (by decide), if_neg c3]
            have c3' : data.length ≤ 1048576 := by omega
            clear hm2 c3
            go_wp2_with fail
            refine (pfill_any B g S no data _ (h.ext E4) hd hd2 hr hu hdv c3').mono ?_
            rintro e w5 ⟨rfl, K5, O5⟩
            obtain ⟨x, hx⟩ : ∃ x, x = fillE S no data.length := ⟨_, rfl⟩
            rw [← hx] at hm3
            rw [← hx]
            have HX := Lib.hid hx
            have s3 := E3.size
            have s4 := E4.size
            have hlw := h.lt
            have N5 := O5.has N4 (by simp; omega)
            clear hx
            by_cases hz : x = 0
            · have hzb : (x == 0) = true := by simpa using hz
              have hzb2 : (x != 0) = false := by simpa using hz
              have HZ := Lib.hid hz
              obtain ⟨T, hT⟩ : ∃ T, T = fillT S no data := ⟨_, rfl⟩
              rw [← hT] at K5
              have hTu : NosUp T.nodes T.last := by
                rw [hT]; unfold fillT; split
                · exact hu.set _
                · exact hu
              obtain ⟨_, _, cd5, hW5, _⟩ := id K5
              have v0 : w5.cell? ⟨g.bW, 0, none⟩ = some (.pointer (some ⟨g.bT, 0, none⟩)) := hW5.cell 0
              have vz := hW5.lt
              have HT := Lib.hid hT
              clear hz hW5 hT
              go_wp2_with fail
              refine (tget_any B g.bT g.bM T.nodes T.last no _ K5.2.1).mono ?_
              rintro e w6 ⟨A6, c6, rfl, ok6, b6⟩
              have N6 := N5.ext b6
              obtain ⟨n6, hn6⟩ : ∃ n6, n6 = getN T.nodes no := ⟨_, rfl⟩
              obtain ⟨i6, hi6⟩ : ∃ i6, i6 = isN T.nodes no := ⟨_, rfl⟩
              rw [← hn6] at ok6
              rw [← hn6, ← hi6]
              have HN6 := Lib.hid hn6
              clear hn6 hi6 v0 vz
              go_upto_region 18 with (refine wpList_store_node rfl _ _ rfl b11 n6 A6 c6 rfl rfl N6 ?_; intro w7 N7 O7)
              have haP : Apart w6 B [b11] := by
                intro b hb
                rw [List.mem_singleton] at hb
                subst hb
                exact ⟨by have := h.1; omega, N6.noTag (by decide)⟩
              have hnb : ∀ b ∈ g.list, b ∉ [b11] := by
                intro b hb
                simp only [GhW.list, List.mem_cons, List.not_mem_nil, or_false] at hb
                rw [List.mem_singleton]
                rcases hb with rfl | rfl | rfl | rfl <;> omega
              have K7 : WAt w7 B g T := (K5.ext b6).only O7 haP hnb
              have ok7 : NodeOk w7 B n6 A6 c6 := ok6.only O7 haP
              have O57 : Only g.list w w7 := ((Only.pre E4 O5).ext b6).trans O7 (by intro b hb; rw [List.mem_singleton] at hb; right; omega)
              obtain ⟨y0, y1, y2, y3, y4, y5, y6, y7, y8, y9, y10, y11⟩ := N7.node12
              have yf : ∀ i, w7.frozen? ⟨b11, i, none⟩ = false := fun i => (N7.free i).trans (by simp)
              have yz := N7.lt
              obtain ⟨n, hn⟩ : ∃ n : NodeD, n = { n6 with mtime := now, ctime := now } := ⟨_, rfl⟩
              go_upto_region 19 with fail
              obtain ⟨V, hV⟩ : ∃ V, V = (w7.setCell ⟨b11, 6, none⟩ (.int .i64 now)).setCell ⟨b11, 7, none⟩ (.int .i64 now) := ⟨_, rfl⟩
              rw [← hV]
              have NV : Has V b11 (.cells #[.int .i64 n.no, .int .i64 n.dev, .int .i64 n.kind, .int .i64 n.mode, .int .i64 n.uid, .int .i64 n.gid, .int .i64 n.mtime, .int .i64 n.ctime, .int .i64 n.links, .int .i64 n.up, .string (bs n.data), .slice A6 n.ents.length c6] 71) := by rw [hV, hn]; exact (N7.setCell 6 _).setCell 7 _
              have OV : Only [b11] w7 V := by rw [hV]; exact (Only.setCell _ _ _ _).then (Only.setCell _ _ _ _)
              have haP7 : Apart w7 B [b11] := by
                intro b hb
                rw [List.mem_singleton] at hb
                subst hb
                exact ⟨by have := h.1; omega, N7.noTag (by decide)⟩
              have KV : WAt V B g T := K7.only OV haP7 hnb
              have okV : NodeOk V B n A6 c6 := (ok7.same (by rw [hn])).only OV haP7
              have O5V : Only g.list w V := O57.trans OV (by intro b hb; rw [List.mem_singleton] at hb; right; omega)
              have HN := Lib.hid hn
              clear hV hn y0 y1 y2 y3 y4 y5 y6 y7 y8 y9 y10 y11 yf yz
              obtain ⟨_, _, cdV, hWV, _⟩ := id KV
              have v0 : V.cell? ⟨g.bW, 0, none⟩ = some (.pointer (some ⟨g.bT, 0, none⟩)) := hWV.cell 0
              have vz := hWV.lt
              obtain ⟨x0, x1, x2, x3, x4, x5, x6, x7, x8, x9, x10, x11⟩ := NV.node12
              have zN := NV.lt
              clear hWV
              go_still_tail 5, (by kernel_rfl)
              change wpList _ _ _ _ _ V.drew
              go_wp2_with fail
              have ED : Ext V V.drew := (Ext.refl _).drew
              refine (wset_any B g T n A6 c6 _ (KV.ext ED) hTu (okV.ext ED)).mono ?_
              rintro e w8 ⟨rfl, K8, O8⟩
              go_wp2_with fail
              go_ret
              have e1 : wriE S cu cg no data.length = 0 := by rw [hm3.out]; exact HZ.out
              rw [e1]
              have e2 : wriT S cu cg now no data = setT T n := by
                unfold wriT
                rw [if_pos e1, ← HT.out, ← HN6.out, HN.out]
              exact ⟨rfl, by rw [e2]; exact K8, (O5V.ext ED).then O8⟩
            · have hzb : (x == 0) = false := by simpa using hz
              have hzb2 : (x != 0) = true := by simpa using hz
              have hT : Hid (fillT S no data = S) := by show _ = _; unfold fillT; rw [if_neg (by rw [← HX.out]; exact hz)]
              have hT2 : Hid (wriT S cu cg now no data = S) := by show _ = _; unfold wriT; rw [if_neg (by rw [hm3.out]; exact hz)]
              clear hz
              go_wp2_with fail
              go_ret
              rw [hm3.out]
              rw [hT.out] at K5
              exact ⟨rfl, by rw [hT2.out]; exact K5, Only.pre E4 O5⟩
      · have t2 : (m.kind == 2) = false := by simpa using c2
        have t2b : (m.kind != 2) = true := by simpa using c2
        have hE : Hid (wriE S cu cg no data.length = 1) := by show _ = _; rw [hm.out, if_neg (by decide), if_neg c1, if_pos c2]
        clear hm c1 c2
        go_wp2_with fail
        go_ret
        exact HS.out _ _ E3 hE.out (by decide)
end Go.Proofs.Ytgkhhjgjepbjdaa

namespace Go.Proofs.Ytgkhhjgjepbjdaa
open Go.ChangeShapes Go.WideShapes Go.ChangeAt Go.RowKit

/-- A list of one item, as it lies in its own block. -/
theorem items_one {w : World} {b : Nat} {t : TypeId} (it : ItemD) (h : Has w b (.cells #[.int .i64 it.dir, .string (bs it.name), .int .i64 it.kind, .int .i64 it.mode, .int .i64 it.uid, .int .i64 it.gid, .string (bs it.data), .int .i64 it.n] t)) : ItemsAt w (some ⟨b, 0, none⟩) [it] := by
  refine .inr ⟨b, 0, rfl, h.lt, fun k hk => ?_⟩
  have : k = 0 := by simpa using hk
  subst this
  exact ⟨h.cell 0, h.cell 1, h.cell 2, h.cell 3, h.cell 4, h.cell 5, h.cell 6, h.cell 7⟩
def exI : ItemD := ⟨0, [102], 2, 384, 5, 0, [], 0⟩
def exF (mode uid gid mt ct : Int) (data : List UInt8) : NodeD := ⟨2, 1, 2, mode, uid, gid, mt, ct, 1, 0, data, []⟩
def exT (f : NodeD) (b : Int) : TreeD := ⟨[⟨1, 1, 1, 493, 0, 0, 0, 0, 1, 1, [], [([102], 2)]⟩, f], [⟨1, 0, ⟨b, 2, 9, 9⟩⟩], 2⟩
theorem ex0 : growAll (firstT 9 9) [exI] = exT (exF 384 5 0 0 0 []) 1 := by kernel_rfl
theorem ex1 : modeE (exT (exF 384 5 0 0 0 []) 1) 6 2 0 = 4 ∧ modeT (exT (exF 384 5 0 0 0 []) 1) 6 1 2 0 = exT (exF 384 5 0 0 0 []) 1 := ⟨by kernel_rfl, by kernel_rfl⟩
theorem ex2 : modeE (exT (exF 384 5 0 0 0 []) 1) 5 2 256 = 0 ∧ modeT (exT (exF 384 5 0 0 0 []) 1) 5 1 2 256 = exT (exF 256 5 0 0 1 []) 1 := ⟨by kernel_rfl, by kernel_rfl⟩
theorem ex3 : wriE (exT (exF 256 5 0 0 1 []) 1) 5 0 2 1 = 6 ∧ wriT (exT (exF 256 5 0 0 1 []) 1) 5 0 2 2 [120] = exT (exF 256 5 0 0 1 []) 1 := ⟨by kernel_rfl, by kernel_rfl⟩
theorem ex4 : ownrE (exT (exF 256 5 0 0 1 []) 1) 0 2 7 8 = 0 ∧ ownrT (exT (exF 256 5 0 0 1 []) 1) 0 3 2 7 8 = exT (exF 256 7 8 0 3 []) 1 := ⟨by kernel_rfl, by kernel_rfl⟩
theorem ex5 : timeE (exT (exF 256 7 8 0 3 []) 1) 7 2 99 = 0 ∧ timeT (exT (exF 256 7 8 0 3 []) 1) 7 4 2 99 = exT (exF 256 7 8 99 4 []) 1 := ⟨by kernel_rfl, by kernel_rfl⟩
theorem ex6 : wriE (exT (exF 256 7 8 99 4 []) 1) 0 0 2 2 = 0 ∧ wriT (exT (exF 256 7 8 99 4 []) 1) 0 0 5 2 [120, 121] = exT (exF 256 7 8 5 5 [120, 121]) 2 := ⟨by kernel_rfl, by kernel_rfl⟩
theorem ex7 : getN (exT (exF 256 7 8 5 5 [120, 121]) 2).nodes 2 = exF 256 7 8 5 5 [120, 121] ∧ isN (exT (exF 256 7 8 5 5 [120, 121]) 2).nodes 2 = true := ⟨by kernel_rfl, by kernel_rfl⟩
theorem exT_nos {f : NodeD} (b : Int) (h : f.no = 2) : NosUp (exT f b).nodes (exT f b).last := by
  refine ⟨?_, ?_⟩
  · unfold exT; simp [h]
  · intro n hn
    simp only [exT, List.mem_cons, List.not_mem_nil, or_false] at hn ⊢
    rcases hn with rfl | rfl
    · exact ⟨by show (1 : Int) ≤ 1; decide, by show (1 : Int) ≤ 2; decide⟩
    · omega
theorem exT_roots {f : NodeD} {b : Int} (h0 : 0 ≤ b) (h1 : b ≤ 9) : RootsOk (exT f b).devs := by
  intro d hd
  simp only [exT, List.mem_singleton] at hd
  subst hd
  exact ⟨by show (0 : Int) < 1; decide, by unfold Fine; simp only; omega⟩
theorem exT_dev {f : NodeD} {b : Int} (h : f.dev = 1) (h2 : f.data.length ≤ 1048576) : OnDev (exT f b) := by
  intro n hn
  simp only [exT, List.mem_cons, List.not_mem_nil, or_false] at hn
  rcases hn with rfl | rfl
  · exact ⟨rfl, by simp⟩
  · exact ⟨by rw [h]; rfl, h2⟩
set_option maxRecDepth 100000 in
set_option maxHeartbeats 8000000 in
theorem awake20 (w : World) : Calls Try.prog 32 #[] w (Ret w (.bool true)) := by
  go_enter Try.func32, Try.ntmps32
  go_wp2_with fail
  have I1 := Has.new w (.cells #[.int .i64 exI.dir, .string (bs exI.name), .int .i64 exI.kind, .int .i64 exI.mode, .int .i64 exI.uid, .int .i64 exI.gid, .string (bs exI.data), .int .i64 exI.n] 122)
  refine (growAll_any 9 9 (some ⟨w.heap.size, 0, none⟩) [exI] 1 _ (by decide) ⟨by intro x hx; rw [List.mem_singleton] at hx; subst hx; exact ⟨by decide, by decide⟩, by decide⟩ (items_one exI I1)).mono ?_
  rintro e w1 ⟨g, f, rfl, ⟨K1, F1⟩, E1⟩
  rw [ex0] at K1
  have X1 : Ext w w1 := ((Ext.refl _).alloc _).trans E1
  clear F1
  obtain ⟨B, hB⟩ : ∃ B, B = (w.alloc (.cells #[.int .i64 exI.dir, .string (bs exI.name), .int .i64 exI.kind, .int .i64 exI.mode, .int .i64 exI.uid, .int .i64 exI.gid, .string (bs exI.data), .int .i64 exI.n] 122)).heap.size := ⟨_, rfl⟩
  have hBw : w.heap.size ≤ B := by rw [hB]; simp
  have K1' : WAt w1 B g (exT (exF 384 5 0 0 0 []) 1) := by rw [hB]; exact K1
  clear hB K1 I1
  have aft : ∀ {S : TreeD} {v v' : World}, WAt v B g S → Ext w v → Only g.list v v' → Ext w v' := by
    intro S v v' hK hX hO
    exact hO.after hX fun x hx => by have := (hK.apart x hx).1; omega
  have HA := @aft
  clear aft E1
  go_wp2_with fail
  refine (pmode_any B g _ 6 0 1 2 0 _ K1' (by decide) (exT_nos 1 rfl)).mono ?_
  rintro e w2 ⟨rfl, K2, O2⟩
  have X2 := HA K1' X1 O2
  rw [ex1.1]
  rw [ex1.2] at K2
  clear K1' O2 X1
  go_wp2_with fail
  refine (pmode_any B g _ 5 0 1 2 256 _ K2 (by decide) (exT_nos 1 rfl)).mono ?_
  rintro e w3 ⟨rfl, K3, O3⟩
  have X3 := HA K2 X2 O3
  rw [ex2.1]
  rw [ex2.2] at K3
  clear K2 O3 X2
  go_wp2_with fail
  refine (pwri_any B g _ 5 0 2 2 [120] _ K3 (by decide) (by decide) (exT_roots (by decide) (by decide)) (exT_nos 1 rfl) (exT_dev rfl (by decide)) (by decide)).mono ?_
  rintro e w4 ⟨rfl, K4, O4⟩
  have X4 := HA K3 X3 O4
  rw [show (([120] : List UInt8).length : Int) = 1 from rfl, ex3.1]
  rw [ex3.2] at K4
  clear K3 O4 X3
  go_wp2_with fail
  refine (powner_any B g _ 0 0 3 2 7 8 _ K4 (by decide) (exT_nos 1 rfl)).mono ?_
  rintro e w5 ⟨rfl, K5, O5⟩
  have X5 := HA K4 X4 O5
  rw [ex4.1]
  rw [ex4.2] at K5
  clear K4 O5 X4
  go_wp2_with fail
  refine (ptime_any B g _ 7 0 4 2 99 _ K5 (by decide) (exT_nos 1 rfl)).mono ?_
  rintro e w6 ⟨rfl, K6, O6⟩
  have X6 := HA K5 X5 O6
  rw [ex5.1]
  rw [ex5.2] at K6
  clear K5 O6 X5
  go_wp2_with fail
  refine (pwri_any B g _ 0 0 5 2 [120, 121] _ K6 (by decide) (by decide) (exT_roots (by decide) (by decide)) (exT_nos 1 rfl) (exT_dev rfl (by decide)) (by decide)).mono ?_
  rintro e w7 ⟨rfl, K7, O7⟩
  have X7 := HA K6 X6 O7
  rw [show (([120, 121] : List UInt8).length : Int) = 2 from rfl, ex6.1]
  rw [ex6.2] at K7
  clear K6 O7 X6
  obtain ⟨_, _, cd, hW, _⟩ := id K7
  have v0 : w7.cell? ⟨g.bW, 0, none⟩ = some (.pointer (some ⟨g.bT, 0, none⟩)) := hW.cell 0
  have vz := hW.lt
  clear hW
  go_wp2_with fail
  refine (tget_any B g.bT g.bM _ _ 2 _ K7.2.1).mono ?_
  rintro e w8 ⟨A8, c8, he, ok8, b8⟩
  rw [ex7.1, ex7.2] at he
  dsimp only [exF] at he
  rw [show bs [120, 121] = (⟨#[120, 121]⟩ : ByteArray) from rfl] at he
  subst he
  go_wp2_with fail
  go_ret
  exact Ret.mk rfl ((X7.trans b8).alloc _)
end Go.Proofs.Ytgkhhjgjepbjdaa

namespace Go.Proofs.Ytgkhhjgjepbjdaa

/-- Nothing but the node has changed, its bytes and its entries least of all. -/
def StepN (S : TreeD) (no : Int) (T : TreeD) : Prop :=
  T.devs = S.devs ∧ T.last = S.last ∧ (∀ k, isN T.nodes k = isN S.nodes k) ∧ (∀ k, k ≠ no → getN T.nodes k = getN S.nodes k) ∧ (getN T.nodes no).data = (getN S.nodes no).data ∧ (getN T.nodes no).ents = (getN S.nodes no).ents ∧ (NosUp S.nodes S.last → NosUp T.nodes T.last) ∧ T.nodes.length = S.nodes.length
theorem StepN.refl (S : TreeD) (no : Int) : StepN S no S := ⟨rfl, rfl, fun _ => rfl, fun _ _ => rfl, rfl, rfl, fun h => h, rfl⟩
theorem StepN.trans {S T U : TreeD} {no : Int} (h : StepN S no T) (k : StepN T no U) : StepN S no U :=
  ⟨k.1.trans h.1, k.2.1.trans h.2.1, fun i => (k.2.2.1 i).trans (h.2.2.1 i), fun i hi => (k.2.2.2.1 i hi).trans (h.2.2.2.1 i hi), k.2.2.2.2.1.trans h.2.2.2.2.1, k.2.2.2.2.2.1.trans h.2.2.2.2.2.1, fun hu => k.2.2.2.2.2.2.1 (h.2.2.2.2.2.2.1 hu), k.2.2.2.2.2.2.2.trans h.2.2.2.2.2.2.2⟩
theorem stepN_set {S : TreeD} {no : Int} {n : NodeD} (hi : isN S.nodes no = true) (hn : n.no = no) (hd : n.data = (getN S.nodes no).data) (he : n.ents = (getN S.nodes no).ents) : StepN S no (setT S n) ∧ getN (setT S n).nodes no = n := by
  have hg : getN (setT S n).nodes no = n := by subst hn; exact getN_set_eq S.nodes n hi
  refine ⟨⟨rfl, rfl, fun k => isN_set S.nodes n k, fun k hk => getN_set_ne S.nodes n (by rw [hn]; exact hk), ?_, ?_, fun hu => hu.set n, setN_len S.nodes n⟩, hg⟩
  · show (getN (setT S n).nodes no).data = _; rw [hg]; exact hd
  · show (getN (setT S n).nodes no).ents = _; rw [hg]; exact he
theorem own_of {S : TreeD} {cu no : Int} (h : ownE S cu no = 0) : isN S.nodes no = true ∧ (getN S.nodes no).no = no := ⟨(ownE_zero h).1, (isN_true (ownE_zero h).1).2.1⟩
theorem modeE_own {S : TreeD} {cu no m : Int} (h : modeE S cu no m = 0) : ownE S cu no = 0 := by
  unfold modeE at h
  split at h
  · rename_i h2; exact absurd h h2
  · rename_i h2; simpa using h2
theorem ownrE_own {S : TreeD} {cu no u g : Int} (h : ownrE S cu no u g = 0) : ownE S cu no = 0 := by
  unfold ownrE at h
  split at h
  · rename_i h2; exact absurd h h2
  · rename_i h2; simpa using h2
theorem timeE_own {S : TreeD} {cu no t : Int} (h : timeE S cu no t = 0) : ownE S cu no = 0 := by
  unfold timeE at h
  split at h
  · rename_i h2; exact absurd h h2
  · rename_i h2; simpa using h2
theorem modeT_step (S : TreeD) (cu now no m : Int) : StepN S no (modeT S cu now no m) ∧ (modeE S cu no m = 0 → getN (modeT S cu now no m).nodes no = { getN S.nodes no with mode := m, ctime := now }) ∧ (modeE S cu no m ≠ 0 → modeT S cu now no m = S) := by
  by_cases h : modeE S cu no m = 0
  · obtain ⟨h1, h2⟩ := own_of (modeE_own h)
    have := stepN_set (S := S) (no := no) (n := { getN S.nodes no with mode := m, ctime := now }) h1 h2 rfl rfl
    unfold modeT
    rw [if_pos h]
    exact ⟨this.1, fun _ => this.2, fun h3 => absurd h h3⟩
  · unfold modeT
    rw [if_neg h]
    exact ⟨StepN.refl _ _, fun h3 => absurd h3 h, fun _ => rfl⟩
theorem ownrT_step (S : TreeD) (cu now no u g : Int) : StepN S no (ownrT S cu now no u g) ∧ (ownrE S cu no u g = 0 → getN (ownrT S cu now no u g).nodes no = { getN S.nodes no with uid := u, gid := g, ctime := now }) ∧ (ownrE S cu no u g ≠ 0 → ownrT S cu now no u g = S) := by
  by_cases h : ownrE S cu no u g = 0
  · obtain ⟨h1, h2⟩ := own_of (ownrE_own h)
    have := stepN_set (S := S) (no := no) (n := { getN S.nodes no with uid := u, gid := g, ctime := now }) h1 h2 rfl rfl
    unfold ownrT
    rw [if_pos h]
    exact ⟨this.1, fun _ => this.2, fun h3 => absurd h h3⟩
  · unfold ownrT
    rw [if_neg h]
    exact ⟨StepN.refl _ _, fun h3 => absurd h3 h, fun _ => rfl⟩
theorem timeT_step (S : TreeD) (cu now no t : Int) : StepN S no (timeT S cu now no t) ∧ (timeE S cu no t = 0 → getN (timeT S cu now no t).nodes no = { getN S.nodes no with mtime := t, ctime := now }) ∧ (timeE S cu no t ≠ 0 → timeT S cu now no t = S) := by
  by_cases h : timeE S cu no t = 0
  · obtain ⟨h1, h2⟩ := own_of (timeE_own h)
    have := stepN_set (S := S) (no := no) (n := { getN S.nodes no with mtime := t, ctime := now }) h1 h2 rfl rfl
    unfold timeT
    rw [if_pos h]
    exact ⟨this.1, fun _ => this.2, fun h3 => absurd h h3⟩
  · unfold timeT
    rw [if_neg h]
    exact ⟨StepN.refl _ _, fun h3 => absurd h3 h, fun _ => rfl⟩
/-- What AttrOne asks of the three calls. -/
theorem attrOne_plain (S : TreeD) (cu no a u t : Int) (T1 T2 T3 : TreeD) (h1 : T1 = modeT S cu 3 no a) (h2 : T2 = ownrT T1 cu 3 no a u) (h3 : T3 = timeT T2 cu 3 no t) :
    StepN S no T3 ∧ (ownE S cu no ≠ 0 → modeE S cu no a ≠ 0 ∧ ownrE T1 cu no a u ≠ 0 ∧ timeE T2 cu no t ≠ 0 ∧ T3 = S) ∧
    (modeE S cu no a = 0 → (getN T3.nodes no).mode = a) ∧ (ownrE T1 cu no a u = 0 → (getN T3.nodes no).uid = a ∧ (getN T3.nodes no).gid = u) := by
  have s1 := modeT_step S cu 3 no a
  have s2 := ownrT_step T1 cu 3 no a u
  have s3 := timeT_step T2 cu 3 no t
  rw [← h1] at s1
  rw [← h2] at s2
  rw [← h3] at s3
  refine ⟨(s1.1.trans s2.1).trans s3.1, fun ho => ?_, fun he => ?_, fun he => ?_⟩
  · have e1 : modeE S cu no a ≠ 0 := fun h => ho (modeE_own h)
    have q1 := s1.2.2 e1
    have e2 : ownrE T1 cu no a u ≠ 0 := fun h => ho (by rw [q1] at h; exact ownrE_own h)
    have q2 := s2.2.2 e2
    have e3 : timeE T2 cu no t ≠ 0 := fun h => ho (by rw [q2, q1] at h; exact timeE_own h)
    exact ⟨e1, e2, e3, by rw [s3.2.2 e3, q2, q1]⟩
  · have m1 : (getN T1.nodes no).mode = a := by rw [s1.2.1 he]
    have m2 : (getN T2.nodes no).mode = a := by
      by_cases h : ownrE T1 cu no a u = 0
      · rw [s2.2.1 h]; exact m1
      · rw [s2.2.2 h]; exact m1
    by_cases h : timeE T2 cu no t = 0
    · rw [s3.2.1 h]; exact m2
    · rw [s3.2.2 h]; exact m2
  · have m2 : (getN T2.nodes no).uid = a ∧ (getN T2.nodes no).gid = u := by rw [s2.2.1 he]; exact ⟨rfl, rfl⟩
    by_cases h : timeE T2 cu no t = 0
    · rw [s3.2.1 h]; exact m2
    · rw [s3.2.2 h]; exact m2
theorem ownE_zero_iff (S : TreeD) (cu no : Int) : ownE S cu no = 0 ↔ (isN S.nodes no = true ∧ ownsB cu (getN S.nodes no).uid = true) := by
  constructor
  · intro h; exact ⟨(ownE_zero h).1, (ownE_zero h).2.1⟩
  · rintro ⟨h1, h2⟩
    unfold ownE
    rw [if_neg (by rw [h1]; decide), if_neg (by rw [h2]; decide)]
end Go.Proofs.Ytgkhhjgjepbjdaa

namespace Go.Proofs.Ytgkhhjgjepbjdaa
open Go.ChangeShapes Go.WideShapes Go.ChangeAt Go.RowKit

attribute [local irreducible] wpQuiet
set_option maxRecDepth 100000 in
set_option maxHeartbeats 16000000 in
theorem attrOne_any (A : Option Addr) (l : List ItemD) (cap : Nat) (x : ActD) (w : World) (hA : ItemsAt w A l) (hlen : l.length ≤ 9223372036854775807) :
    Calls Try.prog 5 #[.slice A l.length cap, .agg #[.int .i64 x.kind, .int .i64 x.uid, .int .i64 x.gid, .int .i64 x.dir, .int .i64 x.no, .int .i64 x.n, .string (bs x.name), .string (bs x.text), .int .i64 x.to_, .string (bs x.as_)]] w (Ret w (.bool true)) := by
  obtain ⟨W1, hW1⟩ : ∃ W1, W1 = w.alloc (.cells #[.int .i64 x.kind, .int .i64 x.uid, .int .i64 x.gid, .int .i64 x.dir, .int .i64 x.no, .int .i64 x.n, .string (bs x.name), .string (bs x.text), .int .i64 x.to_, .string (bs x.as_)] 65) := ⟨_, rfl⟩
  have E1 : Ext w W1 := by rw [hW1]; exact (Ext.refl _).alloc _
  have B1 : Has W1 w.heap.size (.cells #[.int .i64 x.kind, .int .i64 x.uid, .int .i64 x.gid, .int .i64 x.dir, .int .i64 x.no, .int .i64 x.n, .string (bs x.name), .string (bs x.text), .int .i64 x.to_, .string (bs x.as_)] 65) := by rw [hW1]; exact Has.new _ _
  have xc := fun i => B1.cell i
  have c0 := xc 0
  have c1 := xc 1
  have c2 := xc 2
  have c3 := xc 3
  have c4 := xc 4
  have c5 := xc 5
  have c6 := xc 6
  have c7 := xc 7
  have c8 := xc 8
  have c9 := xc 9
  simp only [List.getElem?_toArray, List.getElem?_cons_zero, List.getElem?_cons_succ] at c0 c1 c2 c3 c4 c5 c6 c7 c8 c9
  have xz := B1.lt
  obtain ⟨m, hm⟩ : ∃ m, m = l.length := ⟨_, rfl⟩
  have hlen' := hlen
  rw [← hm] at hlen' ⊢
  have HM := Lib.hid hm
  clear hm xc
  go_enter Try.func5, Try.ntmps5
  go_wp2_with fail
  rw [← hW1]
  rw [HM.out]
  clear hW1
  refine (few14_any A l cap W1 (hA.ext E1) hlen).mono ?_
  rintro e w2 ⟨rfl, ⟨hf, rfl⟩ | ⟨hf, rfl⟩⟩
  case inr =>
    clear hf c0 c1 c2 c3 c4 c5 c6 c7 c8 c9
    go_wp2_with fail
    refine (awake20 _).mono ?_
    rintro e w3 ⟨rfl, b3⟩
    go_wp2_with fail
    go_ret
    exact Ret.mk rfl (E1.trans b3)
  have HF := Lib.hid hf
  clear hf
  go_wp2_with fail
  have hX2 := Has.new W1 (.cells #[.int .i64 x.kind, .int .i64 x.uid, .int .i64 x.gid, .int .i64 x.dir, .int .i64 x.no, .int .i64 x.n, .string (bs x.name), .string (bs x.text), .int .i64 x.to_, .string (bs x.as_)] 65)
  obtain ⟨W2, hW2⟩ : ∃ W2, W2 = W1.alloc (.cells #[.int .i64 x.kind, .int .i64 x.uid, .int .i64 x.gid, .int .i64 x.dir, .int .i64 x.no, .int .i64 x.n, .string (bs x.name), .string (bs x.text), .int .i64 x.to_, .string (bs x.as_)] 65) := ⟨_, rfl⟩
  rw [← hW2] at hX2 ⊢
  have E2 : Ext W1 W2 := by rw [hW2]; exact (Ext.refl _).alloc _
  have B2 := B1.ext E2
  have EW2 : Ext w W2 := E1.trans E2
  have hacts : ActsAt W2 (some ⟨W1.heap.size, 0, none⟩) [x] := by
    refine .inr ⟨_, 0, rfl, hX2.lt, fun k hk => ?_⟩
    have : k = 0 := by simpa using hk
    subst this
    exact ⟨hX2.cell 0, hX2.cell 1, hX2.cell 2, hX2.cell 3, hX2.cell 4, hX2.cell 5, hX2.cell 6, hX2.cell 7, hX2.cell 8, hX2.cell 9⟩
  clear hW2 hX2 c0 c1 c2 c3 c4 c5 c6 c7 c8 c9 xz
  refine (fewA_any (some ⟨W1.heap.size, 0, none⟩) [x] 1 W2 hacts (by simp)).mono ?_
  rintro e w3 ⟨rfl, ⟨_, rfl⟩ | ⟨_, rfl⟩⟩
  case inr =>
    go_wp2_with fail
    refine (awake20 _).mono ?_
    rintro e w3 ⟨rfl, b3⟩
    go_wp2_with fail
    go_ret
    exact Ret.mk rfl (EW2.trans b3)
  clear hacts
  go_wp2_with fail
  refine (growAll_any 60 60 A l cap W2 (by decide) HF.out (hA.ext EW2)).mono ?_
  rintro e w3 ⟨g, f, rfl, ⟨K3, F3⟩, E3⟩
  have hga := good_all (good_first (b := 60) (n := 60) (by decide)) l
  have hl40 := HF.out.2
  obtain ⟨B, hB⟩ : ∃ B, B = W2.heap.size := ⟨_, rfl⟩
  rw [← hB] at K3 F3
  have hBw : w.heap.size < B := by rw [hB]; exact B2.lt
  obtain ⟨S, hS⟩ : ∃ S, S = growAll (firstT 60 60) l := ⟨_, rfl⟩
  rw [← hS] at K3 F3
  have hG : Good S := by rw [hS]; exact hga.1
  have hSl : S.last ≤ 41 := by
    have h2 := hga.2
    rw [hS]
    have h3 : (firstT 60 60).last = 1 := rfl
    rw [show growAll (rootT emptyT 0 60 60) l = growAll (firstT 60 60) l from rfl, show (rootT emptyT 0 60 60).last = 1 from rfl] at h2
    omega
  clear hS hga
  have hS1 := hG.last
  have hcnt := hG.count
  have X3 : Ext w w3 := EW2.trans E3
  have B3 := B2.ext E3
  have HG := Lib.hid hG
  clear hG
  have k4 : w3.cell? ⟨w.heap.size, 4, none⟩ = some (.int .i64 x.no) := B3.cell 4
  have xz3 := B3.lt
  go_wp2_with fail
  refine (near_any B f S x0 x.no _ F3 (by omega) (by omega)).mono ?_
  rintro e w4 ⟨rfl, b4⟩
  obtain ⟨no, hno⟩ : ∃ no, no = nearF S.last x.no := ⟨_, rfl⟩
  rw [← hno]
  have hno1 : 1 ≤ no := by
    rw [hno]; unfold nearF
    have : 0 ≤ x.no % 18446744073709551616 % (S.last + 1) := Int.emod_nonneg _ (by omega)
    omega
  clear hno k4 xz3
  go_wp2_with fail
  refine (rget_any B f S x0 no _ (F3.ext b4) (by omega) HG.out.nos).mono ?_
  rintro e w5 ⟨A5, c5, rfl, ok5, b5⟩
  obtain ⟨m0, hm0⟩ : ∃ m0, m0 = getN S.nodes no := ⟨_, rfl⟩
  rw [← hm0] at ok5 ⊢
  have HM0 := Lib.hid hm0
  clear hm0
  obtain ⟨W6, hW6⟩ : ∃ W6, W6 = w5.alloc (.cells #[.int .i64 m0.no, .int .i64 m0.dev, .int .i64 m0.kind, .int .i64 m0.mode, .int .i64 m0.uid, .int .i64 m0.gid, .int .i64 m0.mtime, .int .i64 m0.ctime, .int .i64 m0.links, .int .i64 m0.up, .string (bs m0.data), .slice A5 m0.ents.length c5] 71) := ⟨_, rfl⟩
  obtain ⟨b9, hb9⟩ : ∃ b9, b9 = w5.heap.size := ⟨_, rfl⟩
  have E56 : Ext w5 W6 := by rw [hW6]; exact (Ext.refl _).alloc _
  have M6 : Has W6 b9 (.cells #[.int .i64 m0.no, .int .i64 m0.dev, .int .i64 m0.kind, .int .i64 m0.mode, .int .i64 m0.uid, .int .i64 m0.gid, .int .i64 m0.mtime, .int .i64 m0.ctime, .int .i64 m0.links, .int .i64 m0.up, .string (bs m0.data), .slice A5 m0.ents.length c5] 71) := by rw [hW6, hb9]; exact Has.new _ _
  have E36 : Ext w3 W6 := (b4.trans b5).trans E56
  go_upto_region 8 with fail
  rw [← hW6]
  rw [← hb9]
  have hb9B : w3.heap.size ≤ b9 := by rw [hb9]; have := (b4.trans b5).size; omega
  have K6 := K3.ext E36
  have F6 := F3.ext E36
  have X6 := X3.trans E36
  have B6 := B3.ext E36
  have ok6 := ok5.ext E56
  clear hW6 hb9
  have u1 : W6.cell? ⟨w.heap.size, 1, none⟩ = some (.int .i64 x.uid) := B6.cell 1
  have u2 : W6.cell? ⟨w.heap.size, 2, none⟩ = some (.int .i64 x.gid) := B6.cell 2
  have u5 : W6.cell? ⟨w.heap.size, 5, none⟩ = some (.int .i64 x.n) := B6.cell 5
  have uz := B6.lt
  go_wp2_with fail
  refine (pmode_any B g S x.uid x.gid 3 no x.n _ K6 HG.out.devs HG.out.nos).mono ?_
  rintro e w7 ⟨rfl, K7, O7⟩
  obtain ⟨T1, hT1⟩ : ∃ T1, T1 = modeT S x.uid 3 no x.n := ⟨_, rfl⟩
  obtain ⟨e1, he1⟩ : ∃ e1, e1 = modeE S x.uid no x.n := ⟨_, rfl⟩
  rw [← hT1] at K7
  rw [← he1]
  have st1 := (modeT_step S x.uid 3 no x.n).1
  rw [← hT1] at st1
  have F7 := FAt.byW F6 K6 O7
  have hgB : ∀ b ∈ g.list, B ≤ b := fun b hb => (K6.apart b hb).1
  have hbw : w.heap.size ∉ g.list := fun hb => by have := hgB _ hb; omega
  have hb9n : b9 ∉ g.list := fun hb => by
    have hl3 := K3.lt
    simp only [GhW.list, List.mem_cons, List.not_mem_nil, or_false] at hb
    omega
  have B7 := O7.has B6 hbw
  have M7 := O7.has M6 hb9n
  have X7 : Ext w w7 := O7.after X6 (fun b hb => by have := hgB b hb; omega)
  have ok7 : NodeOk w7 B m0 A5 c5 := ok6.only O7 K6.apart
  have v1 : w7.cell? ⟨w.heap.size, 1, none⟩ = some (.int .i64 x.uid) := B7.cell 1
  have v2 : w7.cell? ⟨w.heap.size, 2, none⟩ = some (.int .i64 x.gid) := B7.cell 2
  have v5 : w7.cell? ⟨w.heap.size, 5, none⟩ = some (.int .i64 x.n) := B7.cell 5
  have v8 : w7.cell? ⟨w.heap.size, 8, none⟩ = some (.int .i64 x.to_) := B7.cell 8
  have vz := B7.lt
  have HT1 := Lib.hid hT1
  have HE1 := Lib.hid he1
  have HS1 := Lib.hid st1
  clear hT1 he1 st1 u1 u2 u5 uz
  have hd1 : 0 < T1.devs.length := by rw [HS1.out.1]; exact HG.out.devs
  have hn1 : NosUp T1.nodes T1.last := HS1.out.2.2.2.2.2.2.1 HG.out.nos
  have HN1 := Lib.hid hn1
  clear hn1
  go_wp2_with fail
  refine (powner_any B g T1 x.uid x.gid 3 no x.n x.to_ _ K7 hd1 HN1.out).mono ?_
  rintro e w8 ⟨rfl, K8, O8⟩
  obtain ⟨T2, hT2⟩ : ∃ T2, T2 = ownrT T1 x.uid 3 no x.n x.to_ := ⟨_, rfl⟩
  obtain ⟨e2, he2⟩ : ∃ e2, e2 = ownrE T1 x.uid no x.n x.to_ := ⟨_, rfl⟩
  rw [← hT2] at K8
  rw [← he2]
  have st2 := (ownrT_step T1 x.uid 3 no x.n x.to_).1
  rw [← hT2] at st2
  have F8 := FAt.byW F7 K7 O8
  have B8 := O8.has B7 hbw
  have M8 := O8.has M7 hb9n
  have X8 : Ext w w8 := O8.after X7 (fun b hb => by have := hgB b hb; omega)
  have ok8 : NodeOk w8 B m0 A5 c5 := ok7.only O8 K7.apart
  clear v1 v2 v5 v8 vz
  have v1 : w8.cell? ⟨w.heap.size, 1, none⟩ = some (.int .i64 x.uid) := B8.cell 1
  have v2 : w8.cell? ⟨w.heap.size, 2, none⟩ = some (.int .i64 x.gid) := B8.cell 2
  have v5 : w8.cell? ⟨w.heap.size, 5, none⟩ = some (.int .i64 x.n) := B8.cell 5
  have vz := B8.lt
  have HT2 := Lib.hid hT2
  have HE2 := Lib.hid he2
  have HS2 := Lib.hid st2
  have hn2 : NosUp T2.nodes T2.last := st2.2.2.2.2.2.2.1 HN1.out
  have hd2 : 0 < T2.devs.length := by rw [st2.1]; exact hd1
  have HN2 := Lib.hid hn2
  clear hT2 he2 st2 hn2
  go_wp2_with fail
  refine (ptime_any B g T2 x.uid x.gid 3 no x.n _ K8 hd2 HN2.out).mono ?_
  rintro e w9 ⟨rfl, K9, O9⟩
  obtain ⟨T3, hT3⟩ : ∃ T3, T3 = timeT T2 x.uid 3 no x.n := ⟨_, rfl⟩
  obtain ⟨e3, he3⟩ : ∃ e3, e3 = timeE T2 x.uid no x.n := ⟨_, rfl⟩
  rw [← hT3] at K9
  rw [← he3]
  have st3 := (timeT_step T2 x.uid 3 no x.n).1
  rw [← hT3] at st3
  have F9 := FAt.byW F8 K8 O9
  have B9 := O9.has B8 hbw
  have M9 := O9.has M8 hb9n
  have X9 : Ext w w9 := O9.after X8 (fun b hb => by have := hgB b hb; omega)
  have ok9 : NodeOk w9 B m0 A5 c5 := ok8.only O9 K8.apart
  have HT3 := Lib.hid hT3
  have HE3 := Lib.hid he3
  have hP := attrOne_plain S x.uid no x.n x.to_ x.n T1 T2 T3 HT1.out HT2.out HT3.out
  have HP := Lib.hid hP
  have hn3 : NosUp T3.nodes T3.last := st3.2.2.2.2.2.2.1 HN2.out
  have HN3 := Lib.hid hn3
  clear hT3 he3 st3 hn3 hP v1 v2 v5 vz
  have s2 : w9.cell? ⟨f.bF, 2, none⟩ = some (.int .i64 S.last) := by obtain ⟨_, cn, ce, k, _⟩ := F9; exact k.cell 2
  have s2z := F9.lt.1
  obtain ⟨La, hLa⟩ : ∃ La, La = S.last := ⟨_, rfl⟩
  rw [← hLa] at s2
  have HLA := Lib.hid hLa
  have La1 : 1 ≤ La := by omega
  have La2 : La ≤ 41 := by omega
  clear hLa
  go_wp2_with fail
  go_loopw [13] (fun i wr => ∃ k : Int, i = .int .i64 k ∧ 1 ≤ k ∧ k ≤ La + 1 ∧ Ext w9 wr) (fun i _ => (La + 1 - intOf i).toNat)
  case atStart => exact ⟨1, rfl, by omega, by omega, Ext.refl _⟩
  case round =>
    obtain ⟨k, rfl, hk1, hk2, hE⟩ := hrel
    have Fr := F9.ext hE
    have Kr := K9.ext hE
    have q2 : wr.cell? ⟨f.bF, 2, none⟩ = some (.int .i64 La) := (hE.cell s2z).trans s2
    have q2z := Fr.lt.1
    clear s2 s2z
    by_cases hlt : k ≤ La
    · obtain ⟨_, _, cdr, hWr, _⟩ := id Kr
      have v0 : wr.cell? ⟨g.bW, 0, none⟩ = some (.pointer (some ⟨g.bT, 0, none⟩)) := hWr.cell 0
      have vz := hWr.lt
      clear hWr
      go_wp2_with fail
      refine (tget_any B g.bT g.bM T3.nodes T3.last k _ Kr.2.1).mono ?_
      rintro e wa ⟨Aa, ca, rfl, oka, ba⟩
      obtain ⟨na, hna⟩ : ∃ na, na = getN T3.nodes k := ⟨_, rfl⟩
      obtain ⟨ia, hia⟩ : ∃ ia, ia = isN T3.nodes k := ⟨_, rfl⟩
      rw [← hna] at oka
      rw [← hna, ← hia]
      have HNA := Lib.hid hna
      clear hna hia v0 vz q2 q2z
      obtain ⟨Wb, hWb⟩ : ∃ Wb, Wb = wa.alloc (.cells #[.int .i64 na.no, .int .i64 na.dev, .int .i64 na.kind, .int .i64 na.mode, .int .i64 na.uid, .int .i64 na.gid, .int .i64 na.mtime, .int .i64 na.ctime, .int .i64 na.links, .int .i64 na.up, .string (bs na.data), .slice Aa na.ents.length ca] 71) := ⟨_, rfl⟩
      have Eab : Ext wa Wb := by rw [hWb]; exact (Ext.refl _).alloc _
      obtain ⟨b14, hb14⟩ : ∃ b14, b14 = wa.heap.size := ⟨_, rfl⟩
      have Nb : Has Wb b14 (.cells #[.int .i64 na.no, .int .i64 na.dev, .int .i64 na.kind, .int .i64 na.mode, .int .i64 na.uid, .int .i64 na.gid, .int .i64 na.mtime, .int .i64 na.ctime, .int .i64 na.links, .int .i64 na.up, .string (bs na.data), .slice Aa na.ents.length ca] 71) := by rw [hWb, hb14]; exact Has.new _ _
      have okb := oka.ext Eab
      have Erb : Ext wr Wb := ba.trans Eab
      go_upto_region 15 with fail
      rw [← hWb]
      rw [← hb14]
      obtain ⟨A15, c15, ok15, C15⟩ := rget_fix B f S x0 k Wb (Fr.ext Erb) (by omega) HG.out.nos
      have zb := Nb.lt
      obtain ⟨x0', x1', x2', x3', x4', x5', x6', x7', x8', x9', x10', x11'⟩ := Nb.node12
      have y0 := Gr.cell zb x0'
      have y1 := Gr.cell zb x1'
      have y2 := Gr.cell zb x2'
      have y3 := Gr.cell zb x3'
      have y4 := Gr.cell zb x4'
      have y5 := Gr.cell zb x5'
      have y6 := Gr.cell zb x6'
      have y7 := Gr.cell zb x7'
      have y8 := Gr.cell zb x8'
      have y9 := Gr.cell zb x9'
      have y10 := Gr.cell zb x10'
      have y11 := Gr.cell zb x11'
      have HC15 := Lib.hid C15
      clear hWb hb14 x0' x1' x2' x3' x4' x5' x6' x7' x8' x9' x10' x11' C15
      by_cases hkn : k = no
      · have tk : (k == no) = true := by simpa using hkn
        have tkb : (k != no) = false := by simpa using hkn
        clear hkn
        refine wp_region_grow Wb (by kernel_rfl) (by kernel_rfl) (Ext.refl _).drew ?_
        repeat (quiet_step (fail))
        refine wpQuiet_nil ?_
        rintro w5 ⟨⟨w5', b5'⟩, h5⟩
        dsimp only at h5
        subst h5
        clear y0 y1 y2 y3 y4 y5 y6 y7 y8 y9 y10 y11
        go_wp2_with fail
        go_roundw
        case rel => exact ⟨k + 1, by go_num, by omega, by omega, (hE.trans Erb).trans b5'⟩
        case measure => simp [intOf]; omega
      · have tk : (k == no) = false := by simpa using hkn
        have tkb : (k != no) = true := by simpa using hkn
        have hsame : na = getN S.nodes k := by rw [HNA.out]; exact HP.out.1.2.2.2.1 k hkn
        rw [← hsame] at ok15 HC15
        have hne41 : na.ents.length ≤ 1000000 := by rw [hsame]; have := (good_getN HG.out k).2; omega
        have KS : Hid (∀ u : Gr Wb, Calls Try.prog 39 #[.agg #[.int .i64 na.no, .int .i64 na.dev, .int .i64 na.kind, .int .i64 na.mode, .int .i64 na.uid, .int .i64 na.gid, .int .i64 na.mtime, .int .i64 na.ctime, .int .i64 na.links, .int .i64 na.up, .string (bs na.data), .slice Aa na.ents.length ca], .agg #[.int .i64 na.no, .int .i64 na.dev, .int .i64 na.kind, .int .i64 na.mode, .int .i64 na.uid, .int .i64 na.gid, .int .i64 na.mtime, .int .i64 na.ctime, .int .i64 na.links, .int .i64 na.up, .string (bs na.data), .slice A15 na.ents.length c15]] u.w (Ret u.w (.bool true))) := by
          show ∀ u : Gr Wb, _
          intro u
          exact same_node na Aa A15 ca c15 u.w (okb.ext u.h).ents.ents (ok15.ext u.h).ents.ents hne41
        clear hkn hsame hne41
        refine wp_region_grow Wb (by kernel_rfl) (by kernel_rfl) (Ext.refl _).drew ?_
        repeat (quiet_step (first
          | ((with_reducible refine (HC15.out _ (Gr.h _)).mono ?_); rintro e w'' ⟨rfl, hEx⟩; exact ⟨rfl, ⟨w'', Ext.trans (Gr.h _) hEx⟩, rfl⟩)
          | ((with_reducible refine (KS.out _).mono ?_); rintro e w'' ⟨rfl, hEx⟩; exact ⟨rfl, ⟨w'', Ext.trans (Gr.h _) hEx⟩, rfl⟩)))
        refine wpQuiet_nil ?_
        rintro w5 ⟨⟨w5', b5'⟩, h5⟩
        dsimp only at h5
        subst h5
        clear y0 y1 y2 y3 y4 y5 y6 y7 y8 y9 y10 y11
        go_wp2_with fail
        go_roundw
        case rel => exact ⟨k + 1, by go_num, by omega, by omega, (hE.trans Erb).trans b5'⟩
        case measure => simp [intOf]; omega
    · obtain ⟨_, _, cdr, hWr, _⟩ := id Kr
      have v0 : wr.cell? ⟨g.bW, 0, none⟩ = some (.pointer (some ⟨g.bT, 0, none⟩)) := hWr.cell 0
      have vz := hWr.lt
      clear hWr
      go_wp2_with fail
      refine (tget_any B g.bT g.bM T3.nodes T3.last no _ Kr.2.1).mono ?_
      rintro e wa ⟨Aa, ca, rfl, oka, ba⟩
      obtain ⟨na, hna⟩ : ∃ na, na = getN T3.nodes no := ⟨_, rfl⟩
      obtain ⟨ia, hia⟩ : ∃ ia, ia = isN T3.nodes no := ⟨_, rfl⟩
      rw [← hna] at oka
      rw [← hna, ← hia]
      have HNA := Lib.hid hna
      clear hna hia v0 vz q2 q2z
      obtain ⟨Wb, hWb⟩ : ∃ Wb, Wb = wa.alloc (.cells #[.int .i64 na.no, .int .i64 na.dev, .int .i64 na.kind, .int .i64 na.mode, .int .i64 na.uid, .int .i64 na.gid, .int .i64 na.mtime, .int .i64 na.ctime, .int .i64 na.links, .int .i64 na.up, .string (bs na.data), .slice Aa na.ents.length ca] 71) := ⟨_, rfl⟩
      have Eab : Ext wa Wb := by rw [hWb]; exact (Ext.refl _).alloc _
      obtain ⟨b16, hb16⟩ : ∃ b16, b16 = wa.heap.size := ⟨_, rfl⟩
      have Nb : Has Wb b16 (.cells #[.int .i64 na.no, .int .i64 na.dev, .int .i64 na.kind, .int .i64 na.mode, .int .i64 na.uid, .int .i64 na.gid, .int .i64 na.mtime, .int .i64 na.ctime, .int .i64 na.links, .int .i64 na.up, .string (bs na.data), .slice Aa na.ents.length ca] 71) := by rw [hWb, hb16]; exact Has.new _ _
      have okb := oka.ext Eab
      have Erb : Ext w9 Wb := hE.trans (ba.trans Eab)
      go_upto_region 18 with fail
      rw [← hWb]
      rw [← hb16]
      clear hWb hb16
      have Xb : Ext w Wb := X9.trans Erb
      have Bb := B9.ext Erb
      have Mb := M9.ext Erb
      have okm := ok9.ext Erb
      have u1 : Wb.cell? ⟨w.heap.size, 1, none⟩ = some (.int .i64 x.uid) := Bb.cell 1
      have u5 : Wb.cell? ⟨w.heap.size, 5, none⟩ = some (.int .i64 x.n) := Bb.cell 5
      have u8 : Wb.cell? ⟨w.heap.size, 8, none⟩ = some (.int .i64 x.to_) := Bb.cell 8
      have uz := Bb.lt
      have mz := Mb.lt
      have nz := Nb.lt
      obtain ⟨m0', m1', m2', m3', m4', m5', m6', m7', m8', m9', m10', m11'⟩ := Mb.node12
      obtain ⟨n0', n1', n2', n3', n4', n5', n6', n7', n8', n9', n10', n11'⟩ := Nb.node12
      by_cases hz : ownE S x.uid no = 0
      · obtain ⟨z1, z2⟩ := (ownE_zero_iff S x.uid no).1 hz
        have hmno : (m0.no == 0) = false := by rw [HM0.out, (isN_true z1).2.1]; simpa using (show ¬ no = 0 by omega)
        rw [← HM0.out] at z2
        have hdat : na.data = m0.data := by rw [HNA.out, HM0.out]; exact HP.out.1.2.2.2.2.1
        have hmo : e1 = 0 → na.mode = x.n := fun h => by rw [HNA.out]; exact HP.out.2.2.1 (by rw [← HE1.out]; exact h)
        have how : e2 = 0 → na.uid = x.n ∧ na.gid = x.to_ := fun h => by rw [HNA.out]; exact HP.out.2.2.2 (by rw [← HE2.out]; exact h)
        rw [hdat] at n10'
        have q1 : ((e1 == 0) = false ∧ (e1 != 0) = true) ∨ ((e1 == 0) = true ∧ (e1 != 0) = false ∧ (na.mode == x.n) = true) := by
          by_cases h : e1 = 0
          · right; exact ⟨by simpa using h, by simpa using h, by simpa using hmo h⟩
          · left; exact ⟨by simpa using h, by simpa using h⟩
        have q2 : ((e2 == 0) = false ∧ (e2 != 0) = true) ∨ ((e2 == 0) = true ∧ (e2 != 0) = false ∧ (na.uid == x.n) = true ∧ (na.gid == x.to_) = true) := by
          by_cases h : e2 = 0
          · right; exact ⟨by simpa using h, by simpa using h, by simpa using (how h).1, by simpa using (how h).2⟩
          · left; exact ⟨by simpa using h, by simpa using h⟩
        have q3 : (x.uid == 0) = true ∨ ((x.uid == 0) = false ∧ (x.uid == m0.uid) = true) := by
          unfold ownsB at z2
          rcases hh : (x.uid == 0) with _ | _
          · right; rw [hh] at z2; exact ⟨rfl, by simpa using z2⟩
          · left; rfl
        clear hz z1 z2 hdat hmo how
        rcases q3 with t3 | ⟨t3, t3b⟩ <;> rcases q1 with ⟨t1, t1b⟩ | ⟨t1, t1b, t1c⟩ <;> rcases q2 with ⟨t2, t2b⟩ | ⟨t2, t2b, t2c, t2d⟩
        all_goals
          go_wp2_with fail
          refine (awake20 _).mono ?_
          rintro e wz ⟨rfl, bz⟩
          go_wp2_with fail
          go_ret
          exact Ret.mk rfl (Xb.trans bz)
      · obtain ⟨p1, p2, p3, p4⟩ := HP.out.2.1 hz
        rw [← HE1.out] at p1
        rw [← HE2.out] at p2
        rw [← HE3.out] at p3
        have hnm : na = m0 := by rw [HNA.out, HM0.out, p4]
        have t1 : (e1 == 0) = false := by simpa using p1
        have t1b : (e1 != 0) = true := by simpa using p1
        have t2 : (e2 == 0) = false := by simpa using p2
        have t2b : (e2 != 0) = true := by simpa using p2
        have t3 : (e3 == 0) = false := by simpa using p3
        have t3b : (e3 != 0) = true := by simpa using p3
        have q4 : (m0.no == 0) = true ∨ ((m0.no == 0) = false ∧ (x.uid == 0) = false ∧ (x.uid == m0.uid) = false) := by
          cases hi : isN S.nodes no
          · left; rw [HM0.out, (isN_false hi).1]; rfl
          · right
            have : ownsB x.uid (getN S.nodes no).uid = false := by
              cases ho : ownsB x.uid (getN S.nodes no).uid
              · rfl
              · exact absurd ((ownE_zero_iff S x.uid no).2 ⟨hi, ho⟩) hz
            rw [← HM0.out] at this
            unfold ownsB at this
            rw [Bool.or_eq_false_iff] at this
            exact ⟨by rw [HM0.out, (isN_true hi).2.1]; simpa using (show ¬ no = 0 by omega), this.1, this.2⟩
        have hm41 : m0.ents.length ≤ 1000000 := by rw [HM0.out]; have := (good_getN HG.out no).2; omega
        rw [hnm] at n0' n1' n2' n3' n4' n5' n6' n7' n8' n9' n10' n11' okb
        clear hz p1 p2 p3 p4 hnm
        rcases q4 with t4 | ⟨t4, t5, t6⟩
        · cases t7 : (x.uid == 0) <;> cases t8 : (x.uid == m0.uid)
          all_goals
            go_wp2_with fail
            refine (same_node m0 Aa A5 ca c5 _ okb.ents.ents okm.ents.ents hm41).mono ?_
            rintro e wy ⟨rfl, by_⟩
            go_wp2_with fail
            refine (awake20 _).mono ?_
            rintro e wz ⟨rfl, bz⟩
            go_wp2_with fail
            go_ret
            exact Ret.mk rfl ((Xb.trans by_).trans bz)
        · go_wp2_with fail
          refine (same_node m0 Aa A5 ca c5 _ okb.ents.ents okm.ents.ents hm41).mono ?_
          rintro e wy ⟨rfl, by_⟩
          go_wp2_with fail
          refine (awake20 _).mono ?_
          rintro e wz ⟨rfl, bz⟩
          go_wp2_with fail
          go_ret
          exact Ret.mk rfl ((Xb.trans by_).trans bz)
set_option maxRecDepth 100000 in
theorem attrOne_walk {H : Type} {enc : TypeId × Value → H} (W : World) (base : Nat) (v0 v1 : Value) (d0 d1 : DataW H) (p0 p1 : List MemPlace)
    (k0 : Value.okWide Try.prog W .any base 22 v0) (h0 : DataW.Trod enc Try.prog W 0 (fun _ => true) true 22 v0 d0 p0)
    (k1 : Value.okWide Try.prog W .any base 65 v1) (h1 : DataW.Trod enc Try.prog W 0 (fun _ => true) true 65 v1 d1 p1)
    : Calls Try.prog 5 #[v0, v1] W (Ret W (.bool true)) := by
  obtain ⟨A, l, cap, rfl, hA, _, hl, hc⟩ := open_Items k0 h0
  obtain ⟨x, rfl⟩ := open_Act k1 h1
  exact attrOne_any A l cap x W hA (by unfold maxLen at hc; omega)
end Go.Proofs.Ytgkhhjgjepbjdaa
