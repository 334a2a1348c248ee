/- Layer 16: a node of a kind that is opened, of both. (Printed by gen_peka.py.) | Layer 16: Look, Read, Target of both. (Printed by gen_pekb.py.) | Layer 16: Stat of both. (Printed by gen_pekc.py.) | Layer 16: the program's List. | Layer 16: the reference's List; the law's Same of two equal lists. | Layer 16: the chapter's example. -/
import Derived.Test.YtebghednhjaniaaBunI
import Derived.Test.YtebghednhjaniaaBunE
import Derived.Test.YtebghednhjaniaaBunC
import Derived.Test.YtebghednhjaniaaBunA
import Derived.Test.YtebghednhjaniaaBunH
import Derived.Test.YtebghednhjaniaaBunD
import Derived.Test.YtebghednhjaniaaBunG
import Derived.RegionIn
import Derived.OwnWalkIn
import Derived.Deep.RegionHeld3
namespace Go.Proofs.Ytebghednhjaniaa
open Go.ChangeShapes Go.WideShapes Go.ChangeAt Go.RowKit

def openE (S : TreeD) (cu cg no kind want : Int) : Int :=
  if isN S.nodes no = false then 5
  else if (getN S.nodes no).kind = kind then (if mayB cu cg (getN S.nodes no).uid (getN S.nodes no).gid (getN S.nodes no).mode want = false then 6 else 0)
  else if kind = 1 then 9 else if (getN S.nodes no).kind = 1 then 8 else 1
def openN (S : TreeD) (cu cg no kind want : Int) : NodeD := if openE S cu cg no kind want = 0 then getN S.nodes no else nodeZ
def OpenQ (w : World) (B : Nat) (S : TreeD) (cu cg no kind want : Int) (e : Ending) (w' : World) : Prop :=
  ∃ A c, e = .returned (.tuple #[.agg #[.int .i64 (openN S cu cg no kind want).no, .int .i64 (openN S cu cg no kind want).dev, .int .i64 (openN S cu cg no kind want).kind, .int .i64 (openN S cu cg no kind want).mode, .int .i64 (openN S cu cg no kind want).uid, .int .i64 (openN S cu cg no kind want).gid, .int .i64 (openN S cu cg no kind want).mtime, .int .i64 (openN S cu cg no kind want).ctime, .int .i64 (openN S cu cg no kind want).links, .int .i64 (openN S cu cg no kind want).up, .string (bs (openN S cu cg no kind want).data), .slice A (openN S cu cg no kind want).ents.length c], .int .i64 (openE S cu cg no kind want)]) ∧ NodeOk w' B (openN S cu cg no kind want) A c ∧ Ext w w'
set_option maxRecDepth 100000 in
set_option maxHeartbeats 8000000 in
theorem popen_any (B : Nat) (g : GhW) (S : TreeD) (cu cg no kind want : Int) (w : World) (h : WAt w B g S) (hd : 0 < S.devs.length) :
    Calls Try.prog 113 #[.pointer (some ⟨g.bW, 0, none⟩), .agg #[.int .i64 cu, .int .i64 cg], .int .i64 no, .int .i64 kind, .int .i64 want] w (OpenQ w B S cu cg no kind want) := by
  have h0 := h
  obtain ⟨h1, h2, cd, h3, h4⟩ := h
  have hl0 : ((S.devs.length : Int) == 0) = false := by simpa using (show ¬ (S.devs.length : Int) = 0 by omega)
  have E0 : Ext w ((w.alloc (.cells #[.int .i64 cu, .int .i64 cg] 62)).alloc (.cells #[.int .i64 0, .int .i64 0, .int .i64 0, .int .i64 0, .int .i64 0, .int .i64 0, .int .i64 0, .int .i64 0, .int .i64 0, .int .i64 0, .string ⟨#[]⟩, .slice none 0 0] 100)) := ((Ext.refl _).alloc _).alloc _
  go_enter Try.func113, Try.ntmps113
  go_wp2_with fail
  refine (pdevs_any B g S _ (h0.ext E0) hd).mono ?_
  rintro e w1 ⟨rfl, b1⟩
  have E1 := E0.trans b1
  have R0 := Has.new (w.alloc (.cells #[.int .i64 cu, .int .i64 cg] 62)) (.cells #[.int .i64 nodeZ.no, .int .i64 nodeZ.dev, .int .i64 nodeZ.kind, .int .i64 nodeZ.mode, .int .i64 nodeZ.uid, .int .i64 nodeZ.gid, .int .i64 nodeZ.mtime, .int .i64 nodeZ.ctime, .int .i64 nodeZ.links, .int .i64 nodeZ.up, .string (bs nodeZ.data), .slice none nodeZ.ents.length 0] 100)
  rw [World.size_alloc] at R0
  have R1 := R0.ext b1
  have C1 := ((Has.new w (.cells #[.int .i64 cu, .int .i64 cg] 62)).alloc (.cells #[.int .i64 0, .int .i64 0, .int .i64 0, .int .i64 0, .int .i64 0, .int .i64 0, .int .i64 0, .int .i64 0, .int .i64 0, .int .i64 0, .string ⟨#[]⟩, .slice none 0 0] 100)).ext b1
  have v0 : w1.cell? ⟨g.bW, 0, none⟩ = some (.pointer (some ⟨g.bT, 0, none⟩)) := (h3.ext E1).cell 0
  have z1 := (h3.ext E1).lt
  go_wp2_with fail
  refine (tget_any B g.bT g.bM S.nodes S.last no _ (h2.ext E1)).mono ?_
  rintro e w2 ⟨A2, k2, rfl, ok2, b2⟩
  have R2 := R1.ext b2
  have C2 := C1.ext b2
  have hm : Hid (openE S cu cg no kind want = if isN S.nodes no = false then 5
    else if (getN S.nodes no).kind = kind then (if mayB cu cg (getN S.nodes no).uid (getN S.nodes no).gid (getN S.nodes no).mode want = false then 6 else 0)
    else if kind = 1 then 9 else if (getN S.nodes no).kind = 1 then 8 else 1) := by show _ = _; rfl
  have hm2 : Hid (openN S cu cg no kind want = if openE S cu cg no kind want = 0 then getN S.nodes no else nodeZ) := by show _ = _; rfl
  obtain ⟨m, hmm⟩ : ∃ m, m = getN S.nodes no := ⟨_, rfl⟩
  rw [← hmm] at ok2 hm hm2 ⊢
  obtain ⟨W3, hW3⟩ : ∃ W3, W3 = w2.alloc (.cells #[.int .i64 m.no, .int .i64 m.dev, .int .i64 m.kind, .int .i64 m.mode, .int .i64 m.uid, .int .i64 m.gid, .int .i64 m.mtime, .int .i64 m.ctime, .int .i64 m.links, .int .i64 m.up, .string (bs m.data), .slice A2 m.ents.length k2] 100) := ⟨_, rfl⟩
  have E23 : Ext w2 W3 := by rw [hW3]; exact (Ext.refl _).alloc _
  have N3 : Has W3 w2.heap.size (.cells #[.int .i64 m.no, .int .i64 m.dev, .int .i64 m.kind, .int .i64 m.mode, .int .i64 m.uid, .int .i64 m.gid, .int .i64 m.mtime, .int .i64 m.ctime, .int .i64 m.links, .int .i64 m.up, .string (bs m.data), .slice A2 m.ents.length k2] 100) := by rw [hW3]; exact Has.new _ _
  have R3 := R2.ext E23
  have C3 := C2.ext E23
  have E3 : Ext w W3 := (E1.trans b2).trans E23
  obtain ⟨b8, hb8⟩ : ∃ b8, b8 = w2.heap.size := ⟨_, rfl⟩
  obtain ⟨i, hi⟩ : ∃ i, i = isN S.nodes no := ⟨_, rfl⟩
  rw [← hi] at hm ⊢
  clear hmm hi R1 C1 R2 C2 v0
  go_upto_region 4 with fail
  rw [← hW3]
  rw [← hb8] at N3 ⊢
  have ok3 := ok2.ext E23
  clear hW3 hb8 E23
  have HS : Hid (∀ (w5 w6 : World) (x : Int), Ext w w5 → Only [w.heap.size + 1] w5 w6 → openE S cu cg no kind want = x → x ≠ 0 → OpenQ w B S cu cg no kind want (.returned (.tuple #[.agg #[.int .i64 nodeZ.no, .int .i64 nodeZ.dev, .int .i64 nodeZ.kind, .int .i64 nodeZ.mode, .int .i64 nodeZ.uid, .int .i64 nodeZ.gid, .int .i64 nodeZ.mtime, .int .i64 nodeZ.ctime, .int .i64 nodeZ.links, .int .i64 nodeZ.up, .string (bs nodeZ.data), .slice none nodeZ.ents.length 0], .int .i64 x])) w6) := by
    show ∀ (w5 w6 : World) (x : Int), _
    intro w5 w6 x hE hO hx hx0
    have hN : openN S cu cg no kind want = nodeZ := by rw [hm2.out, if_neg (by rw [hx]; exact hx0)]
    exact ⟨none, 0, by rw [hx, hN], by rw [hN]; exact NodeOk.zero _ _, hO.after hE (by simp)⟩
  have k2' : W3.cell? ⟨b8, 2, none⟩ = some (.int .i64 m.kind) := N3.cell 2
  have kz := N3.lt
  cases i
  · have hE : Hid (openE S cu cg no kind want = 5) := by show _ = _; rw [hm.out]; rfl
    clear hm
    go_wp2_with (refine wpList_store_node rfl _ _ rfl (w.heap.size + 1) nodeZ none 0 rfl rfl R3 ?_; intro w9 R9 O9)
    refine bodyPost_ret (v := .tuple #[.agg #[.int .i64 nodeZ.no, .int .i64 nodeZ.dev, .int .i64 nodeZ.kind, .int .i64 nodeZ.mode, .int .i64 nodeZ.uid, .int .i64 nodeZ.gid, .int .i64 nodeZ.mtime, .int .i64 nodeZ.ctime, .int .i64 nodeZ.links, .int .i64 nodeZ.up, .string (bs nodeZ.data), .slice none nodeZ.ents.length 0], .int .i64 5]) (res_node Try.results113 _ _ (w.heap.size + 1) nodeZ none 0 _ rfl rfl R9) rfl ?_
    exact HS.out _ _ _ E3 O9 hE.out (by decide)
  · by_cases c1 : m.kind = kind
    · have t1 : (m.kind == kind) = true := by simpa using c1
      have t1b : (m.kind != kind) = false := by simpa using c1
      obtain ⟨u, hu'⟩ : ∃ u, u = mayB cu cg m.uid m.gid m.mode want := ⟨_, rfl⟩
      have hm3 : Hid (openE S cu cg no kind want = if u = false then 6 else 0) := by show _ = _; rw [hm.out, if_neg (by decide), if_pos c1, hu']
      have HU := Lib.hid hu'
      have x0 : W3.cell? ⟨w.heap.size, 0, none⟩ = some (.int .i64 cu) := C3.cell 0
      have x1 : W3.cell? ⟨w.heap.size, 1, none⟩ = some (.int .i64 cg) := C3.cell 1
      have xz := C3.lt
      clear hm hu' c1
      obtain ⟨n0, n1, n2, n3, n4, n5, n6, n7, n8, n9, n10, n11⟩ := N3.node12
      go_wp2_with fail
      refine (pnode_any cu cg _ _ _ m.mode m.uid m.gid _ _ _ _ _ _ want _).mono ?_
      rw [← HU.out]
      rintro e w5 ⟨rfl, b5⟩
      have R5 := R3.ext b5
      have N5 := N3.ext b5
      have E5 := E3.trans b5
      have k2'' : w5.cell? ⟨b8, 2, none⟩ = some (.int .i64 m.kind) := N5.cell 2
      have kz'' := N5.lt
      clear x0 x1 xz k2' kz R3 N3 n0 n1 n2 n3 n4 n5 n6 n7 n8 n9 n10 n11
      cases u
      · have hE : Hid (openE S cu cg no kind want = 6) := by show _ = _; rw [hm3.out]; rfl
        clear hm3
        go_wp2_with (refine wpList_store_node rfl _ _ rfl (w.heap.size + 1) nodeZ none 0 rfl rfl R5 ?_; intro w9 R9 O9)
        refine bodyPost_ret (v := .tuple #[.agg #[.int .i64 nodeZ.no, .int .i64 nodeZ.dev, .int .i64 nodeZ.kind, .int .i64 nodeZ.mode, .int .i64 nodeZ.uid, .int .i64 nodeZ.gid, .int .i64 nodeZ.mtime, .int .i64 nodeZ.ctime, .int .i64 nodeZ.links, .int .i64 nodeZ.up, .string (bs nodeZ.data), .slice none nodeZ.ents.length 0], .int .i64 6]) (res_node Try.results113 _ _ (w.heap.size + 1) nodeZ none 0 _ rfl rfl R9) rfl ?_
        exact HS.out _ _ _ E5 O9 hE.out (by decide)
      · have hE : Hid (openE S cu cg no kind want = 0) := by show _ = _; rw [hm3.out]; rfl
        have hN : Hid (openN S cu cg no kind want = m) := by show _ = _; rw [hm2.out, hE.out]; rfl
        clear hm3
        go_wp2_with (first | (refine wpList_load_node rfl _ rfl b8 m A2 k2 rfl N5 ?_) | (refine wpList_store_node rfl _ _ rfl (w.heap.size + 1) m A2 k2 rfl rfl R5 ?_; intro w6 R6 O6))
        refine bodyPost_ret (v := .tuple #[.agg #[.int .i64 m.no, .int .i64 m.dev, .int .i64 m.kind, .int .i64 m.mode, .int .i64 m.uid, .int .i64 m.gid, .int .i64 m.mtime, .int .i64 m.ctime, .int .i64 m.links, .int .i64 m.up, .string (bs m.data), .slice A2 m.ents.length k2], .int .i64 0]) (res_node Try.results113 _ _ (w.heap.size + 1) m A2 k2 _ rfl rfl R6) rfl ?_
        have ok6 : NodeOk w6 B m A2 k2 := ((ok3.ext b5).only O6 (by
          intro b hb
          rw [List.mem_singleton] at hb
          subst hb
          exact ⟨by have := h0.1; have := h0.lt.1; omega, R5.noTag (by decide)⟩))
        exact ⟨A2, k2, by rw [hE.out, hN.out], by rw [hN.out]; exact ok6, O6.after E5 (by simp)⟩
    · have t1 : (m.kind == kind) = false := by simpa using c1
      have t1b : (m.kind != kind) = true := by simpa using c1
      by_cases c2 : kind = 1
      · have t2 : (kind == 1) = true := by simpa using c2
        have hE : Hid (openE S cu cg no kind want = 9) := by show _ = _; rw [hm.out, if_neg (by decide), if_neg c1, if_pos c2]
        clear hm c1 c2
        go_wp2_with (refine wpList_store_node rfl _ _ rfl (w.heap.size + 1) nodeZ none 0 rfl rfl R3 ?_; intro w9 R9 O9)
        refine bodyPost_ret (v := .tuple #[.agg #[.int .i64 nodeZ.no, .int .i64 nodeZ.dev, .int .i64 nodeZ.kind, .int .i64 nodeZ.mode, .int .i64 nodeZ.uid, .int .i64 nodeZ.gid, .int .i64 nodeZ.mtime, .int .i64 nodeZ.ctime, .int .i64 nodeZ.links, .int .i64 nodeZ.up, .string (bs nodeZ.data), .slice none nodeZ.ents.length 0], .int .i64 9]) (res_node Try.results113 _ _ (w.heap.size + 1) nodeZ none 0 _ rfl rfl R9) rfl ?_
        exact HS.out _ _ _ E3 O9 hE.out (by decide)
      · have t2 : (kind == 1) = false := by simpa using c2
        by_cases c3 : m.kind = 1
        · have t3 : (m.kind == 1) = true := by simpa using c3
          have hE : Hid (openE S cu cg no kind want = 8) := by show _ = _; rw [hm.out, if_neg (by decide), if_neg c1, if_neg c2, if_pos c3]
          clear hm c1 c2 c3
          go_wp2_with (refine wpList_store_node rfl _ _ rfl (w.heap.size + 1) nodeZ none 0 rfl rfl R3 ?_; intro w9 R9 O9)
          refine bodyPost_ret (v := .tuple #[.agg #[.int .i64 nodeZ.no, .int .i64 nodeZ.dev, .int .i64 nodeZ.kind, .int .i64 nodeZ.mode, .int .i64 nodeZ.uid, .int .i64 nodeZ.gid, .int .i64 nodeZ.mtime, .int .i64 nodeZ.ctime, .int .i64 nodeZ.links, .int .i64 nodeZ.up, .string (bs nodeZ.data), .slice none nodeZ.ents.length 0], .int .i64 8]) (res_node Try.results113 _ _ (w.heap.size + 1) nodeZ none 0 _ rfl rfl R9) rfl ?_
          exact HS.out _ _ _ E3 O9 hE.out (by decide)
        · have t3 : (m.kind == 1) = false := by simpa using c3
          have hE : Hid (openE S cu cg no kind want = 1) := by show _ = _; rw [hm.out, if_neg (by decide), if_neg c1, if_neg c2, if_neg c3]
          clear hm c1 c2 c3
          go_wp2_with (refine wpList_store_node rfl _ _ rfl (w.heap.size + 1) nodeZ none 0 rfl rfl R3 ?_; intro w9 R9 O9)
          refine bodyPost_ret (v := .tuple #[.agg #[.int .i64 nodeZ.no, .int .i64 nodeZ.dev, .int .i64 nodeZ.kind, .int .i64 nodeZ.mode, .int .i64 nodeZ.uid, .int .i64 nodeZ.gid, .int .i64 nodeZ.mtime, .int .i64 nodeZ.ctime, .int .i64 nodeZ.links, .int .i64 nodeZ.up, .string (bs nodeZ.data), .slice none nodeZ.ents.length 0], .int .i64 1]) (res_node Try.results113 _ _ (w.heap.size + 1) nodeZ none 0 _ rfl rfl R9) rfl ?_
          exact HS.out _ _ _ E3 O9 hE.out (by decide)
set_option maxRecDepth 100000 in
set_option maxHeartbeats 8000000 in
theorem ropen_any (B : Nat) (g : GhF) (S : TreeD) (X : Xtra) (cu cg no kind want : Int) (w : World) (h : FAt w B g S X) (hl : S.nodes.length ≤ 1000000) (hu : NosUp S.nodes S.last) :
    Calls Try.prog 116 #[.pointer (some ⟨g.bF, 0, none⟩), .agg #[.int .i64 cu, .int .i64 cg], .int .i64 no, .int .i64 kind, .int .i64 want] w (OpenQ w B S cu cg no kind want) := by
  have h0 := h
  have E0 : Ext w ((w.alloc (.cells #[.int .i64 cu, .int .i64 cg] 62)).alloc (.cells #[.int .i64 0, .int .i64 0, .int .i64 0, .int .i64 0, .int .i64 0, .int .i64 0, .int .i64 0, .int .i64 0, .int .i64 0, .int .i64 0, .string ⟨#[]⟩, .slice none 0 0] 100)) := ((Ext.refl _).alloc _).alloc _
  go_enter Try.func116, Try.ntmps116
  go_wp2_with fail
  have b1 := Ext.refl ((w.alloc (.cells #[.int .i64 cu, .int .i64 cg] 62)).alloc (.cells #[.int .i64 0, .int .i64 0, .int .i64 0, .int .i64 0, .int .i64 0, .int .i64 0, .int .i64 0, .int .i64 0, .int .i64 0, .int .i64 0, .string ⟨#[]⟩, .slice none 0 0] 100))
  have E1 := E0
  have R0 := Has.new (w.alloc (.cells #[.int .i64 cu, .int .i64 cg] 62)) (.cells #[.int .i64 nodeZ.no, .int .i64 nodeZ.dev, .int .i64 nodeZ.kind, .int .i64 nodeZ.mode, .int .i64 nodeZ.uid, .int .i64 nodeZ.gid, .int .i64 nodeZ.mtime, .int .i64 nodeZ.ctime, .int .i64 nodeZ.links, .int .i64 nodeZ.up, .string (bs nodeZ.data), .slice none nodeZ.ents.length 0] 100)
  rw [World.size_alloc] at R0
  have R1 := R0.ext b1
  have C1 := ((Has.new w (.cells #[.int .i64 cu, .int .i64 cg] 62)).alloc (.cells #[.int .i64 0, .int .i64 0, .int .i64 0, .int .i64 0, .int .i64 0, .int .i64 0, .int .i64 0, .int .i64 0, .int .i64 0, .int .i64 0, .string ⟨#[]⟩, .slice none 0 0] 100)).ext b1
  refine (rget_any B g S X no _ (h.ext E1) hl hu).mono ?_
  rintro e w2 ⟨A2, k2, rfl, ok2, b2⟩
  have R2 := R1.ext b2
  have C2 := C1.ext b2
  have hm : Hid (openE S cu cg no kind want = if isN S.nodes no = false then 5
    else if (getN S.nodes no).kind = kind then (if mayB cu cg (getN S.nodes no).uid (getN S.nodes no).gid (getN S.nodes no).mode want = false then 6 else 0)
    else if kind = 1 then 9 else if (getN S.nodes no).kind = 1 then 8 else 1) := by show _ = _; rfl
  have hm2 : Hid (openN S cu cg no kind want = if openE S cu cg no kind want = 0 then getN S.nodes no else nodeZ) := by show _ = _; rfl
  have hnz : Hid (((getN S.nodes no).no == 0) = !isN S.nodes no) := by
    refine Lib.hid ?_
    cases hi : isN S.nodes no
    · rw [(isN_false hi).1]; rfl
    · have h1 := (hu.2 _ (isN_true hi).2.2).1
      simp; omega
  obtain ⟨m, hmm⟩ : ∃ m, m = getN S.nodes no := ⟨_, rfl⟩
  rw [← hmm] at ok2 hm hm2 hnz ⊢
  obtain ⟨W3, hW3⟩ : ∃ W3, W3 = w2.alloc (.cells #[.int .i64 m.no, .int .i64 m.dev, .int .i64 m.kind, .int .i64 m.mode, .int .i64 m.uid, .int .i64 m.gid, .int .i64 m.mtime, .int .i64 m.ctime, .int .i64 m.links, .int .i64 m.up, .string (bs m.data), .slice A2 m.ents.length k2] 100) := ⟨_, rfl⟩
  have E23 : Ext w2 W3 := by rw [hW3]; exact (Ext.refl _).alloc _
  have N3 : Has W3 w2.heap.size (.cells #[.int .i64 m.no, .int .i64 m.dev, .int .i64 m.kind, .int .i64 m.mode, .int .i64 m.uid, .int .i64 m.gid, .int .i64 m.mtime, .int .i64 m.ctime, .int .i64 m.links, .int .i64 m.up, .string (bs m.data), .slice A2 m.ents.length k2] 100) := by rw [hW3]; exact Has.new _ _
  have R3 := R2.ext E23
  have C3 := C2.ext E23
  have E3 : Ext w W3 := (E1.trans b2).trans E23
  obtain ⟨b8, hb8⟩ : ∃ b8, b8 = w2.heap.size := ⟨_, rfl⟩
  obtain ⟨i, hi⟩ : ∃ i, i = isN S.nodes no := ⟨_, rfl⟩
  rw [← hi] at hm hnz
  clear hmm hi R1 C1 R2 C2
  go_upto_region 2 with fail
  rw [← hW3]
  rw [← hb8] at N3 ⊢
  have ok3 := ok2.ext E23
  clear hW3 hb8 E23
  have HS : Hid (∀ (w5 w6 : World) (x : Int), Ext w w5 → Only [w.heap.size + 1] w5 w6 → openE S cu cg no kind want = x → x ≠ 0 → OpenQ w B S cu cg no kind want (.returned (.tuple #[.agg #[.int .i64 nodeZ.no, .int .i64 nodeZ.dev, .int .i64 nodeZ.kind, .int .i64 nodeZ.mode, .int .i64 nodeZ.uid, .int .i64 nodeZ.gid, .int .i64 nodeZ.mtime, .int .i64 nodeZ.ctime, .int .i64 nodeZ.links, .int .i64 nodeZ.up, .string (bs nodeZ.data), .slice none nodeZ.ents.length 0], .int .i64 x])) w6) := by
    show ∀ (w5 w6 : World) (x : Int), _
    intro w5 w6 x hE hO hx hx0
    have hN : openN S cu cg no kind want = nodeZ := by rw [hm2.out, if_neg (by rw [hx]; exact hx0)]
    exact ⟨none, 0, by rw [hx, hN], by rw [hN]; exact NodeOk.zero _ _, hO.after hE (by simp)⟩
  have k0' : W3.cell? ⟨b8, 0, none⟩ = some (.int .i64 m.no) := N3.cell 0
  have k2' : W3.cell? ⟨b8, 2, none⟩ = some (.int .i64 m.kind) := N3.cell 2
  have kz := N3.lt
  cases i
  · have hE : Hid (openE S cu cg no kind want = 5) := by show _ = _; rw [hm.out]; rfl
    have tn : (m.no == 0) = true := hnz.out
    clear hm
    go_wp2_with (refine wpList_store_node rfl _ _ rfl (w.heap.size + 1) nodeZ none 0 rfl rfl R3 ?_; intro w9 R9 O9)
    refine bodyPost_ret (v := .tuple #[.agg #[.int .i64 nodeZ.no, .int .i64 nodeZ.dev, .int .i64 nodeZ.kind, .int .i64 nodeZ.mode, .int .i64 nodeZ.uid, .int .i64 nodeZ.gid, .int .i64 nodeZ.mtime, .int .i64 nodeZ.ctime, .int .i64 nodeZ.links, .int .i64 nodeZ.up, .string (bs nodeZ.data), .slice none nodeZ.ents.length 0], .int .i64 5]) (res_node Try.results116 _ _ (w.heap.size + 1) nodeZ none 0 _ rfl rfl R9) rfl ?_
    exact HS.out _ _ _ E3 O9 hE.out (by decide)
  · have tn : (m.no == 0) = false := hnz.out
    by_cases c1 : m.kind = kind
    · have t1 : (m.kind == kind) = true := by simpa using c1
      have t1b : (m.kind != kind) = false := by simpa using c1
      obtain ⟨u, hu'⟩ : ∃ u, u = mayB cu cg m.uid m.gid m.mode want := ⟨_, rfl⟩
      have hm3 : Hid (openE S cu cg no kind want = if u = false then 6 else 0) := by show _ = _; rw [hm.out, if_neg (by decide), if_pos c1, hu']
      have HU := Lib.hid hu'
      have x0 : W3.cell? ⟨w.heap.size, 0, none⟩ = some (.int .i64 cu) := C3.cell 0
      have x1 : W3.cell? ⟨w.heap.size, 1, none⟩ = some (.int .i64 cg) := C3.cell 1
      have xz := C3.lt
      clear hm hu' c1
      go_wp2_with (refine wpList_load_node rfl _ rfl b8 m A2 k2 rfl N3 ?_)
      refine (rnode_any cu cg _ _ _ m.mode m.uid m.gid _ _ _ _ _ _ want _).mono ?_
      rw [← HU.out]
      rintro e w5 ⟨rfl, b5⟩
      have R5 := R3.ext b5
      have N5 := N3.ext b5
      have E5 := E3.trans b5
      have k2'' : w5.cell? ⟨b8, 2, none⟩ = some (.int .i64 m.kind) := N5.cell 2
      have kz'' := N5.lt
      clear x0 x1 xz k2' kz R3 N3
      cases u
      · have hE : Hid (openE S cu cg no kind want = 6) := by show _ = _; rw [hm3.out]; rfl
        clear hm3
        go_wp2_with (refine wpList_store_node rfl _ _ rfl (w.heap.size + 1) nodeZ none 0 rfl rfl R5 ?_; intro w9 R9 O9)
        refine bodyPost_ret (v := .tuple #[.agg #[.int .i64 nodeZ.no, .int .i64 nodeZ.dev, .int .i64 nodeZ.kind, .int .i64 nodeZ.mode, .int .i64 nodeZ.uid, .int .i64 nodeZ.gid, .int .i64 nodeZ.mtime, .int .i64 nodeZ.ctime, .int .i64 nodeZ.links, .int .i64 nodeZ.up, .string (bs nodeZ.data), .slice none nodeZ.ents.length 0], .int .i64 6]) (res_node Try.results116 _ _ (w.heap.size + 1) nodeZ none 0 _ rfl rfl R9) rfl ?_
        exact HS.out _ _ _ E5 O9 hE.out (by decide)
      · have hE : Hid (openE S cu cg no kind want = 0) := by show _ = _; rw [hm3.out]; rfl
        have hN : Hid (openN S cu cg no kind want = m) := by show _ = _; rw [hm2.out, hE.out]; rfl
        clear hm3
        go_wp2_with (first | (refine wpList_load_node rfl _ rfl b8 m A2 k2 rfl N5 ?_) | (refine wpList_store_node rfl _ _ rfl (w.heap.size + 1) m A2 k2 rfl rfl R5 ?_; intro w6 R6 O6))
        refine bodyPost_ret (v := .tuple #[.agg #[.int .i64 m.no, .int .i64 m.dev, .int .i64 m.kind, .int .i64 m.mode, .int .i64 m.uid, .int .i64 m.gid, .int .i64 m.mtime, .int .i64 m.ctime, .int .i64 m.links, .int .i64 m.up, .string (bs m.data), .slice A2 m.ents.length k2], .int .i64 0]) (res_node Try.results116 _ _ (w.heap.size + 1) m A2 k2 _ rfl rfl R6) rfl ?_
        have ok6 : NodeOk w6 B m A2 k2 := ((ok3.ext b5).only O6 (by
          intro b hb
          rw [List.mem_singleton] at hb
          subst hb
          exact ⟨by have := h0.1; have := h0.lt.1; omega, R5.noTag (by decide)⟩))
        exact ⟨A2, k2, by rw [hE.out, hN.out], by rw [hN.out]; exact ok6, O6.after E5 (by simp)⟩
    · have t1 : (m.kind == kind) = false := by simpa using c1
      have t1b : (m.kind != kind) = true := by simpa using c1
      by_cases c2 : kind = 1
      · have t2 : (kind == 1) = true := by simpa using c2
        have hE : Hid (openE S cu cg no kind want = 9) := by show _ = _; rw [hm.out, if_neg (by decide), if_neg c1, if_pos c2]
        clear hm c1 c2
        go_wp2_with (refine wpList_store_node rfl _ _ rfl (w.heap.size + 1) nodeZ none 0 rfl rfl R3 ?_; intro w9 R9 O9)
        refine bodyPost_ret (v := .tuple #[.agg #[.int .i64 nodeZ.no, .int .i64 nodeZ.dev, .int .i64 nodeZ.kind, .int .i64 nodeZ.mode, .int .i64 nodeZ.uid, .int .i64 nodeZ.gid, .int .i64 nodeZ.mtime, .int .i64 nodeZ.ctime, .int .i64 nodeZ.links, .int .i64 nodeZ.up, .string (bs nodeZ.data), .slice none nodeZ.ents.length 0], .int .i64 9]) (res_node Try.results116 _ _ (w.heap.size + 1) nodeZ none 0 _ rfl rfl R9) rfl ?_
        exact HS.out _ _ _ E3 O9 hE.out (by decide)
      · have t2 : (kind == 1) = false := by simpa using c2
        by_cases c3 : m.kind = 1
        · have t3 : (m.kind == 1) = true := by simpa using c3
          have hE : Hid (openE S cu cg no kind want = 8) := by show _ = _; rw [hm.out, if_neg (by decide), if_neg c1, if_neg c2, if_pos c3]
          clear hm c1 c2 c3
          go_wp2_with (refine wpList_store_node rfl _ _ rfl (w.heap.size + 1) nodeZ none 0 rfl rfl R3 ?_; intro w9 R9 O9)
          refine bodyPost_ret (v := .tuple #[.agg #[.int .i64 nodeZ.no, .int .i64 nodeZ.dev, .int .i64 nodeZ.kind, .int .i64 nodeZ.mode, .int .i64 nodeZ.uid, .int .i64 nodeZ.gid, .int .i64 nodeZ.mtime, .int .i64 nodeZ.ctime, .int .i64 nodeZ.links, .int .i64 nodeZ.up, .string (bs nodeZ.data), .slice none nodeZ.ents.length 0], .int .i64 8]) (res_node Try.results116 _ _ (w.heap.size + 1) nodeZ none 0 _ rfl rfl R9) rfl ?_
          exact HS.out _ _ _ E3 O9 hE.out (by decide)
        · have t3 : (m.kind == 1) = false := by simpa using c3
          have hE : Hid (openE S cu cg no kind want = 1) := by show _ = _; rw [hm.out, if_neg (by decide), if_neg c1, if_neg c2, if_neg c3]
          clear hm c1 c2 c3
          go_wp2_with (refine wpList_store_node rfl _ _ rfl (w.heap.size + 1) nodeZ none 0 rfl rfl R3 ?_; intro w9 R9 O9)
          refine bodyPost_ret (v := .tuple #[.agg #[.int .i64 nodeZ.no, .int .i64 nodeZ.dev, .int .i64 nodeZ.kind, .int .i64 nodeZ.mode, .int .i64 nodeZ.uid, .int .i64 nodeZ.gid, .int .i64 nodeZ.mtime, .int .i64 nodeZ.ctime, .int .i64 nodeZ.links, .int .i64 nodeZ.up, .string (bs nodeZ.data), .slice none nodeZ.ents.length 0], .int .i64 1]) (res_node Try.results116 _ _ (w.heap.size + 1) nodeZ none 0 _ rfl rfl R9) rfl ?_
          exact HS.out _ _ _ E3 O9 hE.out (by decide)
end Go.Proofs.Ytebghednhjaniaa

namespace Go.Proofs.Ytebghednhjaniaa
open Go.ChangeShapes Go.WideShapes Go.ChangeAt Go.RowKit

def lookE (S : TreeD) (cu cg dir : Int) (nm : List UInt8) : Int :=
  if openE S cu cg dir 1 1 = 0 then (if findF (openN S cu cg dir 1 1).ents nm = 0 then 5 else 0) else openE S cu cg dir 1 1
def lookN (S : TreeD) (cu cg dir : Int) (nm : List UInt8) : Int := if lookE S cu cg dir nm = 0 then overF S.devs (findF (openN S cu cg dir 1 1).ents nm) else 0
theorem Tre.openN {c : Nat} {S : TreeD} (h : Tre c S) (cu cg no kind want : Int) : Rise (openN S cu cg no kind want).ents ∧ (Proofs.Ytebghednhjaniaa.openN S cu cg no kind want).ents.length ≤ c := by
  unfold Proofs.Ytebghednhjaniaa.openN
  split
  · exact h.getN no
  · exact ⟨List.Pairwise.nil, Nat.zero_le _⟩
set_option maxRecDepth 100000 in
set_option maxHeartbeats 8000000 in
theorem plook_any {c : Nat} (B : Nat) (g : GhW) (S : TreeD) (cu cg dir : Int) (nm : List UInt8) (w : World) (h : WAt w B g S) (T : Tre c S) (hc : c ≤ 1000000) (_hl : S.last ≤ 100000) :
    Calls Try.prog 36 #[.pointer (some ⟨g.bW, 0, none⟩), .agg #[.int .i64 cu, .int .i64 cg], .int .i64 dir, .string (bs nm)] w (Ret w (.tuple #[.int .i64 (lookN S cu cg dir nm), .int .i64 (lookE S cu cg dir nm)])) := by
  have E0 : Ext w (w.alloc (.cells #[.int .i64 cu, .int .i64 cg] 62)) := (Ext.refl _).alloc _
  go_enter Try.func36, Try.ntmps36
  go_wp2_with fail
  refine (popen_any B g S cu cg dir 1 1 _ (h.ext E0) T.devs).mono ?_
  rintro e w1 ⟨A, k, rfl, ok1, b1⟩
  have HRR := T.openN cu cg dir 1 1
  have hE : Hid (lookE S cu cg dir nm = if openE S cu cg dir 1 1 = 0 then (if findF (openN S cu cg dir 1 1).ents nm = 0 then 5 else 0) else openE S cu cg dir 1 1) := by show _ = _; rfl
  have hN : Hid (lookN S cu cg dir nm = if lookE S cu cg dir nm = 0 then overF S.devs (findF (openN S cu cg dir 1 1).ents nm) else 0) := by show _ = _; rfl
  obtain ⟨m, hm⟩ : ∃ m, m = openN S cu cg dir 1 1 := ⟨_, rfl⟩
  obtain ⟨x, hx⟩ : ∃ x, x = openE S cu cg dir 1 1 := ⟨_, rfl⟩
  rw [← hm] at ok1 HRR hE hN ⊢
  rw [← hx] at hE ⊢
  have HR := Lib.hid HRR
  obtain ⟨W2, hW2⟩ : ∃ W, W = w1.alloc (.cells #[.int .i64 m.no, .int .i64 m.dev, .int .i64 m.kind, .int .i64 m.mode, .int .i64 m.uid, .int .i64 m.gid, .int .i64 m.mtime, .int .i64 m.ctime, .int .i64 m.links, .int .i64 m.up, .string (bs m.data), .slice A m.ents.length k] 100) := ⟨_, rfl⟩
  obtain ⟨b8, hb8⟩ : ∃ b, b = w1.heap.size := ⟨_, rfl⟩
  have N2 : Has W2 b8 (.cells #[.int .i64 m.no, .int .i64 m.dev, .int .i64 m.kind, .int .i64 m.mode, .int .i64 m.uid, .int .i64 m.gid, .int .i64 m.mtime, .int .i64 m.ctime, .int .i64 m.links, .int .i64 m.up, .string (bs m.data), .slice A m.ents.length k] 100) := by rw [hW2, hb8]; exact Has.new _ _
  have E12 : Ext w1 W2 := by rw [hW2]; exact (Ext.refl _).alloc _
  have HX := Lib.hid ((E0.trans b1).trans E12)
  have ok2 := ok1.ext E12
  clear hm hx HRR ok1 E12
  go_upto_region 2 with fail
  rw [← hW2, ← hb8]
  clear hW2 hb8
  by_cases c0 : x = 0
  case neg =>
    have t0 : (x == 0) = false := by simpa using c0
    have t0b : (x != 0) = true := by simpa using c0
    have e1 : Hid (lookE S cu cg dir nm = x ∧ lookN S cu cg dir nm = 0) := by
      have h1 : lookE S cu cg dir nm = x := by rw [hE.out, if_neg c0]
      exact Lib.hid ⟨h1, by rw [hN.out, h1, if_neg c0]⟩
    clear c0
    go_wp2_with fail
    go_ret2
    exact Ret.mk (by rw [e1.out.1, e1.out.2]; rfl) HX.out
  have t0 : (x == 0) = true := by simpa using c0
  have t0b : (x != 0) = false := by simpa using c0
  have y11 : W2.cell? ⟨b8, 11, none⟩ = some (.slice A m.ents.length k) := N2.cell 11
  have yz := N2.lt
  have C0 := Lib.hid c0
  clear c0
  go_wp2_with fail
  refine (find_any A m.ents k nm _ ok2.ents.ents HR.out.1 (by have := HR.out.2; omega)).mono ?_
  rw [numOf_findF HR.out.1]
  rintro e w3 ⟨rfl, b3⟩
  obtain ⟨no, hno⟩ : ∃ no, no = findF m.ents nm := ⟨_, rfl⟩
  rw [← hno] at hE hN ⊢
  clear hno y11 yz
  by_cases c1 : no = 0
  · have t1 : (no == 0) = true := by simpa using c1
    have e1 : Hid (lookE S cu cg dir nm = 5 ∧ lookN S cu cg dir nm = 0) := by
      have h1 : lookE S cu cg dir nm = 5 := by rw [hE.out, if_pos C0.out, if_pos c1]
      exact Lib.hid ⟨h1, by rw [hN.out, h1, if_neg (by decide)]⟩
    clear c1
    go_wp2_with fail
    go_ret2
    exact Ret.mk (by rw [e1.out.1, e1.out.2]; rfl) (HX.out.trans b3)
  · have t1 : (no == 0) = false := by simpa using c1
    have e1 : Hid (lookE S cu cg dir nm = 0 ∧ lookN S cu cg dir nm = overF S.devs no) := by
      have h1 : lookE S cu cg dir nm = 0 := by rw [hE.out, if_pos C0.out, if_neg c1]
      exact Lib.hid ⟨h1, by rw [hN.out, h1, if_pos rfl]⟩
    clear c1
    go_wp2_with fail
    refine (pover_any B g S _ _ (h.ext (HX.out.trans b3)) (by have := T.devs; omega) (by have := T.eight; omega)).mono ?_
    rintro e w4 ⟨rfl, b4⟩
    go_wp2_with fail
    go_ret2
    exact Ret.mk (by rw [e1.out.1, e1.out.2]; rfl) ((HX.out.trans b3).trans b4)
set_option maxRecDepth 100000 in
set_option maxHeartbeats 8000000 in
theorem rlook_any {c : Nat} (B : Nat) (g : GhF) (S : TreeD) (X : Xtra) (cu cg dir : Int) (nm : List UInt8) (w : World) (h : FAt w B g S X) (T : Tre c S) (hc : c ≤ 1000000) (hl : S.last ≤ 100000) :
    Calls Try.prog 45 #[.pointer (some ⟨g.bF, 0, none⟩), .agg #[.int .i64 cu, .int .i64 cg], .int .i64 dir, .string (bs nm)] w (Ret w (.tuple #[.int .i64 (lookN S cu cg dir nm), .int .i64 (lookE S cu cg dir nm)])) := by
  have E0 : Ext w (w.alloc (.cells #[.int .i64 cu, .int .i64 cg] 62)) := (Ext.refl _).alloc _
  go_enter Try.func45, Try.ntmps45
  go_wp2_with fail
  refine (ropen_any B g S X cu cg dir 1 1 _ (h.ext E0) (by have := T.count; omega) T.nos).mono ?_
  rintro e w1 ⟨A, k, rfl, ok1, b1⟩
  have HRR := T.openN cu cg dir 1 1
  have hE : Hid (lookE S cu cg dir nm = if openE S cu cg dir 1 1 = 0 then (if findF (openN S cu cg dir 1 1).ents nm = 0 then 5 else 0) else openE S cu cg dir 1 1) := by show _ = _; rfl
  have hN : Hid (lookN S cu cg dir nm = if lookE S cu cg dir nm = 0 then overF S.devs (findF (openN S cu cg dir 1 1).ents nm) else 0) := by show _ = _; rfl
  obtain ⟨m, hm⟩ : ∃ m, m = openN S cu cg dir 1 1 := ⟨_, rfl⟩
  obtain ⟨x, hx⟩ : ∃ x, x = openE S cu cg dir 1 1 := ⟨_, rfl⟩
  rw [← hm] at ok1 HRR hE hN ⊢
  rw [← hx] at hE ⊢
  have HR := Lib.hid HRR
  obtain ⟨W2, hW2⟩ : ∃ W, W = w1.alloc (.cells #[.int .i64 m.no, .int .i64 m.dev, .int .i64 m.kind, .int .i64 m.mode, .int .i64 m.uid, .int .i64 m.gid, .int .i64 m.mtime, .int .i64 m.ctime, .int .i64 m.links, .int .i64 m.up, .string (bs m.data), .slice A m.ents.length k] 100) := ⟨_, rfl⟩
  obtain ⟨b8, hb8⟩ : ∃ b, b = w1.heap.size := ⟨_, rfl⟩
  have N2 : Has W2 b8 (.cells #[.int .i64 m.no, .int .i64 m.dev, .int .i64 m.kind, .int .i64 m.mode, .int .i64 m.uid, .int .i64 m.gid, .int .i64 m.mtime, .int .i64 m.ctime, .int .i64 m.links, .int .i64 m.up, .string (bs m.data), .slice A m.ents.length k] 100) := by rw [hW2, hb8]; exact Has.new _ _
  have E12 : Ext w1 W2 := by rw [hW2]; exact (Ext.refl _).alloc _
  have HX := Lib.hid ((E0.trans b1).trans E12)
  have ok2 := ok1.ext E12
  clear hm hx HRR ok1 E12
  go_upto_region 2 with fail
  rw [← hW2, ← hb8]
  clear hW2 hb8
  by_cases c0 : x = 0
  case neg =>
    have t0 : (x == 0) = false := by simpa using c0
    have t0b : (x != 0) = true := by simpa using c0
    have e1 : Hid (lookE S cu cg dir nm = x ∧ lookN S cu cg dir nm = 0) := by
      have h1 : lookE S cu cg dir nm = x := by rw [hE.out, if_neg c0]
      exact Lib.hid ⟨h1, by rw [hN.out, h1, if_neg c0]⟩
    clear c0
    go_wp2_with fail
    go_ret2
    exact Ret.mk (by rw [e1.out.1, e1.out.2]; rfl) HX.out
  have t0 : (x == 0) = true := by simpa using c0
  have t0b : (x != 0) = false := by simpa using c0
  have y11 : W2.cell? ⟨b8, 11, none⟩ = some (.slice A m.ents.length k) := N2.cell 11
  have yz := N2.lt
  have C0 := Lib.hid c0
  clear c0
  go_wp2_with fail
  refine (rfind_any A m.ents k nm _ ok2.ents.ents (by have := HR.out.2; omega)).mono ?_
  skip
  rintro e w3 ⟨rfl, b3⟩
  obtain ⟨no, hno⟩ : ∃ no, no = findF m.ents nm := ⟨_, rfl⟩
  rw [← hno] at hE hN ⊢
  clear hno y11 yz
  by_cases c1 : no = 0
  · have t1 : (no == 0) = true := by simpa using c1
    have e1 : Hid (lookE S cu cg dir nm = 5 ∧ lookN S cu cg dir nm = 0) := by
      have h1 : lookE S cu cg dir nm = 5 := by rw [hE.out, if_pos C0.out, if_pos c1]
      exact Lib.hid ⟨h1, by rw [hN.out, h1, if_neg (by decide)]⟩
    clear c1
    go_wp2_with fail
    go_ret2
    exact Ret.mk (by rw [e1.out.1, e1.out.2]; rfl) (HX.out.trans b3)
  · have t1 : (no == 0) = false := by simpa using c1
    have e1 : Hid (lookE S cu cg dir nm = 0 ∧ lookN S cu cg dir nm = overF S.devs no) := by
      have h1 : lookE S cu cg dir nm = 0 := by rw [hE.out, if_pos C0.out, if_neg c1]
      exact Lib.hid ⟨h1, by rw [hN.out, h1, if_pos rfl]⟩
    clear c1
    go_wp2_with fail
    refine (rover_any B g S X _ _ (h.ext (HX.out.trans b3)) (by have := T.eight; omega)).mono ?_
    rintro e w4 ⟨rfl, b4⟩
    go_wp2_with fail
    go_ret2
    exact Ret.mk (by rw [e1.out.1, e1.out.2]; rfl) ((HX.out.trans b3).trans b4)
set_option maxRecDepth 100000 in
set_option maxHeartbeats 8000000 in
theorem ptarget_any {c : Nat} (B : Nat) (g : GhW) (S : TreeD) (no : Int) (w : World) (h : WAt w B g S) (T : Tre c S) (_hl : S.last ≤ 100000) :
    Calls Try.prog 43 #[.pointer (some ⟨g.bW, 0, none⟩), .int .i64 no] w (Ret w (.tuple #[.string (bs (openN S 0 0 no 3 0).data), .int .i64 (openE S 0 0 no 3 0)])) := by
  have E0 : Ext w w := Ext.refl _
  go_enter Try.func43, Try.ntmps43
  go_wp2_with fail
  refine (popen_any B g S 0 0 no 3 0 _ (h.ext E0) T.devs).mono ?_
  rintro e w1 ⟨A, k, rfl, ok1, b1⟩
  obtain ⟨m, hm⟩ : ∃ m, m = openN S 0 0 no 3 0 := ⟨_, rfl⟩
  obtain ⟨x, hx⟩ : ∃ x, x = openE S 0 0 no 3 0 := ⟨_, rfl⟩
  rw [← hm, ← hx]
  obtain ⟨W2, hW2⟩ : ∃ W, W = w1.alloc (.cells #[.int .i64 m.no, .int .i64 m.dev, .int .i64 m.kind, .int .i64 m.mode, .int .i64 m.uid, .int .i64 m.gid, .int .i64 m.mtime, .int .i64 m.ctime, .int .i64 m.links, .int .i64 m.up, .string (bs m.data), .slice A m.ents.length k] 100) := ⟨_, rfl⟩
  obtain ⟨b8, hb8⟩ : ∃ b, b = w1.heap.size := ⟨_, rfl⟩
  have N2 : Has W2 b8 (.cells #[.int .i64 m.no, .int .i64 m.dev, .int .i64 m.kind, .int .i64 m.mode, .int .i64 m.uid, .int .i64 m.gid, .int .i64 m.mtime, .int .i64 m.ctime, .int .i64 m.links, .int .i64 m.up, .string (bs m.data), .slice A m.ents.length k] 100) := by rw [hW2, hb8]; exact Has.new _ _
  have E12 : Ext w1 W2 := by rw [hW2]; exact (Ext.refl _).alloc _
  have HX := Lib.hid ((E0.trans b1).trans E12)
  have HMM := Lib.hid hm
  have HXX := Lib.hid hx
  clear hm hx ok1 E12
  go_upto_region 2 with fail
  rw [← hW2, ← hb8]
  clear hW2 hb8
  have y10 : W2.cell? ⟨b8, 10, none⟩ = some (.string (bs m.data)) := N2.cell 10
  have yz := N2.lt
  go_wp2_with fail
  go_ret2
  exact Ret.mk (by rw [← HMM.out, ← HXX.out]; rfl) HX.out
set_option maxRecDepth 100000 in
set_option maxHeartbeats 8000000 in
theorem pread_any {c : Nat} (B : Nat) (g : GhW) (S : TreeD) (cu cg no : Int) (w : World) (h : WAt w B g S) (T : Tre c S) (_hl : S.last ≤ 100000) :
    Calls Try.prog 40 #[.pointer (some ⟨g.bW, 0, none⟩), .agg #[.int .i64 cu, .int .i64 cg], .int .i64 no] w (Ret w (.tuple #[.string (bs (openN S cu cg no 2 4).data), .int .i64 (openE S cu cg no 2 4)])) := by
  have E0 : Ext w (w.alloc (.cells #[.int .i64 cu, .int .i64 cg] 62)) := (Ext.refl _).alloc _
  go_enter Try.func40, Try.ntmps40
  go_wp2_with fail
  refine (popen_any B g S cu cg no 2 4 _ (h.ext E0) T.devs).mono ?_
  rintro e w1 ⟨A, k, rfl, ok1, b1⟩
  obtain ⟨m, hm⟩ : ∃ m, m = openN S cu cg no 2 4 := ⟨_, rfl⟩
  obtain ⟨x, hx⟩ : ∃ x, x = openE S cu cg no 2 4 := ⟨_, rfl⟩
  rw [← hm, ← hx]
  obtain ⟨W2, hW2⟩ : ∃ W, W = w1.alloc (.cells #[.int .i64 m.no, .int .i64 m.dev, .int .i64 m.kind, .int .i64 m.mode, .int .i64 m.uid, .int .i64 m.gid, .int .i64 m.mtime, .int .i64 m.ctime, .int .i64 m.links, .int .i64 m.up, .string (bs m.data), .slice A m.ents.length k] 100) := ⟨_, rfl⟩
  obtain ⟨b8, hb8⟩ : ∃ b, b = w1.heap.size := ⟨_, rfl⟩
  have N2 : Has W2 b8 (.cells #[.int .i64 m.no, .int .i64 m.dev, .int .i64 m.kind, .int .i64 m.mode, .int .i64 m.uid, .int .i64 m.gid, .int .i64 m.mtime, .int .i64 m.ctime, .int .i64 m.links, .int .i64 m.up, .string (bs m.data), .slice A m.ents.length k] 100) := by rw [hW2, hb8]; exact Has.new _ _
  have E12 : Ext w1 W2 := by rw [hW2]; exact (Ext.refl _).alloc _
  have HX := Lib.hid ((E0.trans b1).trans E12)
  have HMM := Lib.hid hm
  have HXX := Lib.hid hx
  clear hm hx ok1 E12
  go_upto_region 2 with fail
  rw [← hW2, ← hb8]
  clear hW2 hb8
  have y10 : W2.cell? ⟨b8, 10, none⟩ = some (.string (bs m.data)) := N2.cell 10
  have yz := N2.lt
  go_wp2_with fail
  go_ret2
  exact Ret.mk (by rw [← HMM.out, ← HXX.out]; rfl) HX.out
set_option maxRecDepth 100000 in
set_option maxHeartbeats 8000000 in
theorem rtarget_any {c : Nat} (B : Nat) (g : GhF) (S : TreeD) (X : Xtra) (no : Int) (w : World) (h : FAt w B g S X) (T : Tre c S) (hl : S.last ≤ 100000) :
    Calls Try.prog 44 #[.pointer (some ⟨g.bF, 0, none⟩), .int .i64 no] w (Ret w (.tuple #[.string (bs (openN S 0 0 no 3 0).data), .int .i64 (openE S 0 0 no 3 0)])) := by
  have E0 : Ext w w := Ext.refl _
  go_enter Try.func44, Try.ntmps44
  go_wp2_with fail
  refine (ropen_any B g S X 0 0 no 3 0 _ (h.ext E0) (by have := T.count; omega) T.nos).mono ?_
  rintro e w1 ⟨A, k, rfl, ok1, b1⟩
  obtain ⟨m, hm⟩ : ∃ m, m = openN S 0 0 no 3 0 := ⟨_, rfl⟩
  obtain ⟨x, hx⟩ : ∃ x, x = openE S 0 0 no 3 0 := ⟨_, rfl⟩
  rw [← hm, ← hx]
  obtain ⟨W2, hW2⟩ : ∃ W, W = w1.alloc (.cells #[.int .i64 m.no, .int .i64 m.dev, .int .i64 m.kind, .int .i64 m.mode, .int .i64 m.uid, .int .i64 m.gid, .int .i64 m.mtime, .int .i64 m.ctime, .int .i64 m.links, .int .i64 m.up, .string (bs m.data), .slice A m.ents.length k] 100) := ⟨_, rfl⟩
  obtain ⟨b8, hb8⟩ : ∃ b, b = w1.heap.size := ⟨_, rfl⟩
  have N2 : Has W2 b8 (.cells #[.int .i64 m.no, .int .i64 m.dev, .int .i64 m.kind, .int .i64 m.mode, .int .i64 m.uid, .int .i64 m.gid, .int .i64 m.mtime, .int .i64 m.ctime, .int .i64 m.links, .int .i64 m.up, .string (bs m.data), .slice A m.ents.length k] 100) := by rw [hW2, hb8]; exact Has.new _ _
  have E12 : Ext w1 W2 := by rw [hW2]; exact (Ext.refl _).alloc _
  have HX := Lib.hid ((E0.trans b1).trans E12)
  have HMM := Lib.hid hm
  have HXX := Lib.hid hx
  clear hm hx ok1 E12
  go_upto_region 2 with fail
  rw [← hW2, ← hb8]
  clear hW2 hb8
  have y10 : W2.cell? ⟨b8, 10, none⟩ = some (.string (bs m.data)) := N2.cell 10
  have yz := N2.lt
  go_wp2_with fail
  go_ret2
  exact Ret.mk (by rw [← HMM.out, ← HXX.out]; rfl) HX.out
set_option maxRecDepth 100000 in
set_option maxHeartbeats 8000000 in
theorem rread_any {c : Nat} (B : Nat) (g : GhF) (S : TreeD) (X : Xtra) (cu cg no : Int) (w : World) (h : FAt w B g S X) (T : Tre c S) (hl : S.last ≤ 100000) :
    Calls Try.prog 41 #[.pointer (some ⟨g.bF, 0, none⟩), .agg #[.int .i64 cu, .int .i64 cg], .int .i64 no] w (Ret w (.tuple #[.string (bs (openN S cu cg no 2 4).data), .int .i64 (openE S cu cg no 2 4)])) := by
  have E0 : Ext w (w.alloc (.cells #[.int .i64 cu, .int .i64 cg] 62)) := (Ext.refl _).alloc _
  go_enter Try.func41, Try.ntmps41
  go_wp2_with fail
  refine (ropen_any B g S X cu cg no 2 4 _ (h.ext E0) (by have := T.count; omega) T.nos).mono ?_
  rintro e w1 ⟨A, k, rfl, ok1, b1⟩
  obtain ⟨m, hm⟩ : ∃ m, m = openN S cu cg no 2 4 := ⟨_, rfl⟩
  obtain ⟨x, hx⟩ : ∃ x, x = openE S cu cg no 2 4 := ⟨_, rfl⟩
  rw [← hm, ← hx]
  obtain ⟨W2, hW2⟩ : ∃ W, W = w1.alloc (.cells #[.int .i64 m.no, .int .i64 m.dev, .int .i64 m.kind, .int .i64 m.mode, .int .i64 m.uid, .int .i64 m.gid, .int .i64 m.mtime, .int .i64 m.ctime, .int .i64 m.links, .int .i64 m.up, .string (bs m.data), .slice A m.ents.length k] 100) := ⟨_, rfl⟩
  obtain ⟨b8, hb8⟩ : ∃ b, b = w1.heap.size := ⟨_, rfl⟩
  have N2 : Has W2 b8 (.cells #[.int .i64 m.no, .int .i64 m.dev, .int .i64 m.kind, .int .i64 m.mode, .int .i64 m.uid, .int .i64 m.gid, .int .i64 m.mtime, .int .i64 m.ctime, .int .i64 m.links, .int .i64 m.up, .string (bs m.data), .slice A m.ents.length k] 100) := by rw [hW2, hb8]; exact Has.new _ _
  have E12 : Ext w1 W2 := by rw [hW2]; exact (Ext.refl _).alloc _
  have HX := Lib.hid ((E0.trans b1).trans E12)
  have HMM := Lib.hid hm
  have HXX := Lib.hid hx
  clear hm hx ok1 E12
  go_upto_region 2 with fail
  rw [← hW2, ← hb8]
  clear hW2 hb8
  have y10 : W2.cell? ⟨b8, 10, none⟩ = some (.string (bs m.data)) := N2.cell 10
  have yz := N2.lt
  go_wp2_with fail
  go_ret2
  exact Ret.mk (by rw [← HMM.out, ← HXX.out]; rfl) HX.out
end Go.Proofs.Ytebghednhjaniaa

namespace Go.Proofs.Ytebghednhjaniaa
open Go.ChangeShapes Go.WideShapes Go.ChangeAt Go.RowKit

def statL (n : NodeD) : List Value := [.int .i64 n.no, .int .i64 n.dev, .int .i64 n.kind, .int .i64 n.mode, .int .i64 n.uid, .int .i64 n.gid, .int .i64 n.links, .int .i64 n.data.length, .int .i64 n.mtime, .int .i64 n.ctime]
def statV (n : NodeD) : Value := .agg #[.int .i64 n.no, .int .i64 n.dev, .int .i64 n.kind, .int .i64 n.mode, .int .i64 n.uid, .int .i64 n.gid, .int .i64 n.links, .int .i64 n.data.length, .int .i64 n.mtime, .int .i64 n.ctime]
def statE (S : TreeD) (no : Int) : Int := if isN S.nodes no = true then 0 else 5
theorem infoStat10 : (Try.prog.info? 75).map (·.size) = some 10 := by kernel_rfl
/-- Ten stores into a box. -/
theorem Has.setStat {w : World} {b : Nat} {a0 a1 a2 a3 a4 a5 a6 a7 a8 a9 : Value} {t : TypeId} (h : Has w b (.cells #[a0, a1, a2, a3, a4, a5, a6, a7, a8, a9] t)) (n : NodeD) : Has (w.setCells b 0 (statL n)) b (.cells #[.int .i64 n.no, .int .i64 n.dev, .int .i64 n.kind, .int .i64 n.mode, .int .i64 n.uid, .int .i64 n.gid, .int .i64 n.links, .int .i64 n.data.length, .int .i64 n.mtime, .int .i64 n.ctime] t) := by
  have h0 : Has (w.setCell ⟨b, 0, none⟩ (.int .i64 n.no)) b (.cells #[.int .i64 n.no, a1, a2, a3, a4, a5, a6, a7, a8, a9] t) := by have := Has.setCell h 0 (.int .i64 n.no); simpa using this
  have h1 : Has ((w.setCell ⟨b, 0, none⟩ (.int .i64 n.no)).setCell ⟨b, 1, none⟩ (.int .i64 n.dev)) b (.cells #[.int .i64 n.no, .int .i64 n.dev, a2, a3, a4, a5, a6, a7, a8, a9] t) := by have := Has.setCell h0 1 (.int .i64 n.dev); simpa using this
  have h2 : Has (((w.setCell ⟨b, 0, none⟩ (.int .i64 n.no)).setCell ⟨b, 1, none⟩ (.int .i64 n.dev)).setCell ⟨b, 2, none⟩ (.int .i64 n.kind)) b (.cells #[.int .i64 n.no, .int .i64 n.dev, .int .i64 n.kind, a3, a4, a5, a6, a7, a8, a9] t) := by have := Has.setCell h1 2 (.int .i64 n.kind); simpa using this
  have h3 : Has ((((w.setCell ⟨b, 0, none⟩ (.int .i64 n.no)).setCell ⟨b, 1, none⟩ (.int .i64 n.dev)).setCell ⟨b, 2, none⟩ (.int .i64 n.kind)).setCell ⟨b, 3, none⟩ (.int .i64 n.mode)) b (.cells #[.int .i64 n.no, .int .i64 n.dev, .int .i64 n.kind, .int .i64 n.mode, a4, a5, a6, a7, a8, a9] t) := by have := Has.setCell h2 3 (.int .i64 n.mode); simpa using this
  have h4 : Has (((((w.setCell ⟨b, 0, none⟩ (.int .i64 n.no)).setCell ⟨b, 1, none⟩ (.int .i64 n.dev)).setCell ⟨b, 2, none⟩ (.int .i64 n.kind)).setCell ⟨b, 3, none⟩ (.int .i64 n.mode)).setCell ⟨b, 4, none⟩ (.int .i64 n.uid)) b (.cells #[.int .i64 n.no, .int .i64 n.dev, .int .i64 n.kind, .int .i64 n.mode, .int .i64 n.uid, a5, a6, a7, a8, a9] t) := by have := Has.setCell h3 4 (.int .i64 n.uid); simpa using this
  have h5 : Has ((((((w.setCell ⟨b, 0, none⟩ (.int .i64 n.no)).setCell ⟨b, 1, none⟩ (.int .i64 n.dev)).setCell ⟨b, 2, none⟩ (.int .i64 n.kind)).setCell ⟨b, 3, none⟩ (.int .i64 n.mode)).setCell ⟨b, 4, none⟩ (.int .i64 n.uid)).setCell ⟨b, 5, none⟩ (.int .i64 n.gid)) b (.cells #[.int .i64 n.no, .int .i64 n.dev, .int .i64 n.kind, .int .i64 n.mode, .int .i64 n.uid, .int .i64 n.gid, a6, a7, a8, a9] t) := by have := Has.setCell h4 5 (.int .i64 n.gid); simpa using this
  have h6 : Has (((((((w.setCell ⟨b, 0, none⟩ (.int .i64 n.no)).setCell ⟨b, 1, none⟩ (.int .i64 n.dev)).setCell ⟨b, 2, none⟩ (.int .i64 n.kind)).setCell ⟨b, 3, none⟩ (.int .i64 n.mode)).setCell ⟨b, 4, none⟩ (.int .i64 n.uid)).setCell ⟨b, 5, none⟩ (.int .i64 n.gid)).setCell ⟨b, 6, none⟩ (.int .i64 n.links)) b (.cells #[.int .i64 n.no, .int .i64 n.dev, .int .i64 n.kind, .int .i64 n.mode, .int .i64 n.uid, .int .i64 n.gid, .int .i64 n.links, a7, a8, a9] t) := by have := Has.setCell h5 6 (.int .i64 n.links); simpa using this
  have h7 : Has ((((((((w.setCell ⟨b, 0, none⟩ (.int .i64 n.no)).setCell ⟨b, 1, none⟩ (.int .i64 n.dev)).setCell ⟨b, 2, none⟩ (.int .i64 n.kind)).setCell ⟨b, 3, none⟩ (.int .i64 n.mode)).setCell ⟨b, 4, none⟩ (.int .i64 n.uid)).setCell ⟨b, 5, none⟩ (.int .i64 n.gid)).setCell ⟨b, 6, none⟩ (.int .i64 n.links)).setCell ⟨b, 7, none⟩ (.int .i64 n.data.length)) b (.cells #[.int .i64 n.no, .int .i64 n.dev, .int .i64 n.kind, .int .i64 n.mode, .int .i64 n.uid, .int .i64 n.gid, .int .i64 n.links, .int .i64 n.data.length, a8, a9] t) := by have := Has.setCell h6 7 (.int .i64 n.data.length); simpa using this
  have h8 : Has (((((((((w.setCell ⟨b, 0, none⟩ (.int .i64 n.no)).setCell ⟨b, 1, none⟩ (.int .i64 n.dev)).setCell ⟨b, 2, none⟩ (.int .i64 n.kind)).setCell ⟨b, 3, none⟩ (.int .i64 n.mode)).setCell ⟨b, 4, none⟩ (.int .i64 n.uid)).setCell ⟨b, 5, none⟩ (.int .i64 n.gid)).setCell ⟨b, 6, none⟩ (.int .i64 n.links)).setCell ⟨b, 7, none⟩ (.int .i64 n.data.length)).setCell ⟨b, 8, none⟩ (.int .i64 n.mtime)) b (.cells #[.int .i64 n.no, .int .i64 n.dev, .int .i64 n.kind, .int .i64 n.mode, .int .i64 n.uid, .int .i64 n.gid, .int .i64 n.links, .int .i64 n.data.length, .int .i64 n.mtime, a9] t) := by have := Has.setCell h7 8 (.int .i64 n.mtime); simpa using this
  have h9 : Has ((((((((((w.setCell ⟨b, 0, none⟩ (.int .i64 n.no)).setCell ⟨b, 1, none⟩ (.int .i64 n.dev)).setCell ⟨b, 2, none⟩ (.int .i64 n.kind)).setCell ⟨b, 3, none⟩ (.int .i64 n.mode)).setCell ⟨b, 4, none⟩ (.int .i64 n.uid)).setCell ⟨b, 5, none⟩ (.int .i64 n.gid)).setCell ⟨b, 6, none⟩ (.int .i64 n.links)).setCell ⟨b, 7, none⟩ (.int .i64 n.data.length)).setCell ⟨b, 8, none⟩ (.int .i64 n.mtime)).setCell ⟨b, 9, none⟩ (.int .i64 n.ctime)) b (.cells #[.int .i64 n.no, .int .i64 n.dev, .int .i64 n.kind, .int .i64 n.mode, .int .i64 n.uid, .int .i64 n.gid, .int .i64 n.links, .int .i64 n.data.length, .int .i64 n.mtime, .int .i64 n.ctime] t) := by have := Has.setCell h8 9 (.int .i64 n.ctime); simpa using this
  exact h9
theorem stat_all (n : NodeD) : (#[.int .i64 n.no, .int .i64 n.dev, .int .i64 n.kind, .int .i64 n.mode, .int .i64 n.uid, .int .i64 n.gid, .int .i64 n.links, .int .i64 n.data.length, .int .i64 n.mtime, .int .i64 n.ctime] : Array Value).all (·.oneCell') = true := all_oneCell_toArray (cs := statL n) fun u hu => by
  simp only [statL, List.mem_cons, List.not_mem_nil, or_false] at hu
  rcases hu with rfl | rfl | rfl | rfl | rfl | rfl | rfl | rfl | rfl | rfl <;> rfl
theorem wpList_store_stat {ops : Array Oper} {rest : List Oper} {op : Oper} {a : Act} {w : World} {Q : Exit → Act → World → Prop} (hgd : op.guard = none) (x y : Operand) (ho : op.op = .store 75 x y)
    (b : Nat) (n : NodeD) (hx : a.eval x = .pointer (some ⟨b, 0, none⟩)) (hy : a.eval y = .agg #[.int .i64 n.no, .int .i64 n.dev, .int .i64 n.kind, .int .i64 n.mode, .int .i64 n.uid, .int .i64 n.gid, .int .i64 n.links, .int .i64 n.data.length, .int .i64 n.mtime, .int .i64 n.ctime]) {m : NodeD} (hb : Has w b (.cells #[.int .i64 m.no, .int .i64 m.dev, .int .i64 m.kind, .int .i64 m.mode, .int .i64 m.uid, .int .i64 m.gid, .int .i64 m.links, .int .i64 m.data.length, .int .i64 m.mtime, .int .i64 m.ctime] 75))
    (h : ∀ w', Has w' b (.cells #[.int .i64 n.no, .int .i64 n.dev, .int .i64 n.kind, .int .i64 n.mode, .int .i64 n.uid, .int .i64 n.gid, .int .i64 n.links, .int .i64 n.data.length, .int .i64 n.mtime, .int .i64 n.ctime] 75) → Only [b] w w' → wpList Try.prog ops Q rest (a.put op.dst undef) w') : wpList Try.prog ops Q (op :: rest) a w := by
  refine wpList_store_mid hgd 75 x y ho b 0 #[.int .i64 n.no, .int .i64 n.dev, .int .i64 n.kind, .int .i64 n.mode, .int .i64 n.uid, .int .i64 n.gid, .int .i64 n.links, .int .i64 n.data.length, .int .i64 n.mtime, .int .i64 n.ctime] hx hy hb.there infoStat10 (stat_all n) ?_
  exact h _ (hb.setStat n) (only_setCells (statL n) 0 w)
theorem wpList_load_stat {ops : Array Oper} {rest : List Oper} {op : Oper} {a : Act} {w : World} {Q : Exit → Act → World → Prop} (hgd : op.guard = none) (x : Operand) (ho : op.op = .load 75 x)
    (b : Nat) (n : NodeD) (hx : a.eval x = .pointer (some ⟨b, 0, none⟩)) (hb : Has w b (.cells #[.int .i64 n.no, .int .i64 n.dev, .int .i64 n.kind, .int .i64 n.mode, .int .i64 n.uid, .int .i64 n.gid, .int .i64 n.links, .int .i64 n.data.length, .int .i64 n.mtime, .int .i64 n.ctime] 75))
    (h : wpList Try.prog ops Q rest (a.put op.dst (.agg #[.int .i64 n.no, .int .i64 n.dev, .int .i64 n.kind, .int .i64 n.mode, .int .i64 n.uid, .int .i64 n.gid, .int .i64 n.links, .int .i64 n.data.length, .int .i64 n.mtime, .int .i64 n.ctime])) w) : wpList Try.prog ops Q (op :: rest) a w :=
  wpList_load_mid hgd 75 x ho b 0 hx [.int .i64 n.no, .int .i64 n.dev, .int .i64 n.kind, .int .i64 n.mode, .int .i64 n.uid, .int .i64 n.gid, .int .i64 n.links, .int .i64 n.data.length, .int .i64 n.mtime, .int .i64 n.ctime] _ hb.range Try.underlying75 rfl infoStat10 h
theorem res_stat {fn : Func} {p t : Tmp} (h : fn.results = #[.cell p 75, .tmp t]) (tmps : Array Value) (w : World) (g : Nat) (n : NodeD) (v : Value)
    (hp : tmps.getD p undef = .pointer (some ⟨g, 0, none⟩)) (hv : tmps.getD t undef = v) (hg : Has w g (.cells #[.int .i64 n.no, .int .i64 n.dev, .int .i64 n.kind, .int .i64 n.mode, .int .i64 n.uid, .int .i64 n.gid, .int .i64 n.links, .int .i64 n.data.length, .int .i64 n.mtime, .int .i64 n.ctime] 75)) :
    (results fn tmps).run Try.prog w = .ok (.tuple #[.agg #[.int .i64 n.no, .int .i64 n.dev, .int .i64 n.kind, .int .i64 n.mode, .int .i64 n.uid, .int .i64 n.gid, .int .i64 n.links, .int .i64 n.data.length, .int .i64 n.mtime, .int .i64 n.ctime], v]) w :=
  res_cell_tmp h tmps w g 75 _ _ v hp hv hg Try.underlying75 rfl infoStat10
set_option maxRecDepth 100000 in
set_option maxHeartbeats 8000000 in
theorem pstat_any (B : Nat) (g : GhW) (S : TreeD) (no : Int) (w : World) (h : WAt w B g S) (hd : 0 < S.devs.length) :
    Calls Try.prog 37 #[.pointer (some ⟨g.bW, 0, none⟩), .int .i64 no] w (Ret w (.tuple #[statV (getN S.nodes no), .int .i64 (statE S no)])) := by
  obtain ⟨W0, hW0⟩ : ∃ W, W = w.alloc (.cells #[.int .i64 0, .int .i64 0, .int .i64 0, .int .i64 0, .int .i64 0, .int .i64 0, .int .i64 0, .int .i64 0, .int .i64 0, .int .i64 0] 75) := ⟨_, rfl⟩
  obtain ⟨b0, hb0⟩ : ∃ b, b = w.heap.size := ⟨_, rfl⟩
  have E0 : Ext w W0 := by rw [hW0]; exact (Ext.refl _).alloc _
  have R0 : Has W0 b0 (.cells #[.int .i64 nodeZ.no, .int .i64 nodeZ.dev, .int .i64 nodeZ.kind, .int .i64 nodeZ.mode, .int .i64 nodeZ.uid, .int .i64 nodeZ.gid, .int .i64 nodeZ.links, .int .i64 nodeZ.data.length, .int .i64 nodeZ.mtime, .int .i64 nodeZ.ctime] 75) := by rw [hW0, hb0]; exact Has.new _ _
  have hbw : w.heap.size ≤ b0 := by omega
  have h0 := h.ext E0
  go_enter Try.func37, Try.ntmps37
  go_upto_region 1 with fail
  rw [show w.alloc _ = W0 from hW0.symm, ← hb0]
  clear hW0 hb0
  go_wp2_with fail
  refine (pdevs_any B g S _ h0 hd).mono ?_
  rintro e w1 ⟨rfl, b1⟩
  have R1 := R0.ext b1
  have E1 := E0.trans b1
  have h1 := h0.ext b1
  have td : ((S.devs.length : Int) == 0) = false := by simp; intro e; rw [e] at hd; exact absurd hd (by simp)
  obtain ⟨_, _, cd, hWr, _⟩ := id h1
  have v0 : w1.cell? ⟨g.bW, 0, none⟩ = some (.pointer (some ⟨g.bT, 0, none⟩)) := hWr.cell 0
  have vz := hWr.lt
  clear hWr
  go_wp2_with fail
  refine (tget_any B g.bT g.bM S.nodes S.last no _ h1.2.1).mono ?_
  rintro e w2 ⟨A2, k2, rfl, ok2, b2⟩
  have R2 := R1.ext b2
  have E2 := E1.trans b2
  obtain ⟨m, hm⟩ : ∃ m, m = getN S.nodes no := ⟨_, rfl⟩
  obtain ⟨i, hi⟩ : ∃ i, i = isN S.nodes no := ⟨_, rfl⟩
  have hE : statE S no = if i = true then 0 else 5 := by rw [hi]; rfl
  have hZ : i = false → m = nodeZ := fun e => by rw [hm]; exact (isN_false (hi.symm.trans e)).1
  rw [← hm, ← hi]
  clear ok2
  obtain ⟨W3, hW3⟩ : ∃ W3, W3 = w2.alloc (.cells #[.int .i64 m.no, .int .i64 m.dev, .int .i64 m.kind, .int .i64 m.mode, .int .i64 m.uid, .int .i64 m.gid, .int .i64 m.mtime, .int .i64 m.ctime, .int .i64 m.links, .int .i64 m.up, .string (bs m.data), .slice A2 m.ents.length k2] 100) := ⟨_, rfl⟩
  obtain ⟨b8, hb8⟩ : ∃ b8, b8 = w2.heap.size := ⟨_, rfl⟩
  have E23 : Ext w2 W3 := by rw [hW3]; exact (Ext.refl _).alloc _
  have N3 : Has W3 b8 (.cells #[.int .i64 m.no, .int .i64 m.dev, .int .i64 m.kind, .int .i64 m.mode, .int .i64 m.uid, .int .i64 m.gid, .int .i64 m.mtime, .int .i64 m.ctime, .int .i64 m.links, .int .i64 m.up, .string (bs m.data), .slice A2 m.ents.length k2] 100) := by rw [hW3, hb8]; exact Has.new _ _
  have R3 := R2.ext E23
  have E3 := E2.trans E23
  obtain ⟨e0, he0⟩ : ∃ e0, e0 = statE S no := ⟨_, rfl⟩
  rw [← he0]
  rw [← he0] at hE
  have HE := Lib.hid hE
  have HZ := Lib.hid hZ
  have HMM := Lib.hid hm
  have HEE := Lib.hid he0
  clear hm hi hE hZ he0 v0 vz
  go_upto_region 4 with fail
  rw [← hW3, ← hb8]
  clear hW3 hb8 E23 R1 R2 E1 E2
  unfold statV
  cases i
  · have e1 : Hid (e0 = 5) := Lib.hid (HE.out.trans rfl)
    have e2 : Hid (m = nodeZ) := Lib.hid (HZ.out rfl)
    go_wp2_with (refine wpList_store_stat rfl _ _ rfl b0 nodeZ rfl rfl R3 ?_; intro w9 R9 O9)
    refine bodyPost_ret (v := .tuple #[.agg #[.int .i64 nodeZ.no, .int .i64 nodeZ.dev, .int .i64 nodeZ.kind, .int .i64 nodeZ.mode, .int .i64 nodeZ.uid, .int .i64 nodeZ.gid, .int .i64 nodeZ.links, .int .i64 nodeZ.data.length, .int .i64 nodeZ.mtime, .int .i64 nodeZ.ctime], .int .i64 5]) (res_stat Try.results37 _ _ b0 nodeZ _ rfl rfl R9) rfl ?_
    refine ⟨by (try rw [← HMM.out]); (try rw [← HEE.out]); rw [e1.out, e2.out]; rfl, O9.after E3 (by simpa using hbw)⟩
  · have e1 : Hid (e0 = 0) := Lib.hid (HE.out.trans rfl)
    obtain ⟨x0, x1, x2, x3, x4, x5, x6, x7, x8, x9, x10, x11⟩ := N3.node12
    have xz := N3.lt
    go_wp2_with (refine wpList_store_stat rfl _ _ rfl b0 m rfl rfl R3 ?_; intro w9 R9 O9)
    refine bodyPost_ret (v := .tuple #[.agg #[.int .i64 m.no, .int .i64 m.dev, .int .i64 m.kind, .int .i64 m.mode, .int .i64 m.uid, .int .i64 m.gid, .int .i64 m.links, .int .i64 m.data.length, .int .i64 m.mtime, .int .i64 m.ctime], .int .i64 0]) (res_stat Try.results37 _ _ b0 m _ rfl rfl R9) rfl ?_
    refine ⟨by (try rw [← HMM.out]); (try rw [← HEE.out]); rw [e1.out]; rfl, O9.after E3 (by simpa using hbw)⟩
set_option maxRecDepth 100000 in
set_option maxHeartbeats 8000000 in
theorem rstat_any (B : Nat) (g : GhF) (S : TreeD) (X : Xtra) (no : Int) (w : World) (h : FAt w B g S X) (hl : S.nodes.length ≤ 1000000) (hu : NosUp S.nodes S.last) :
    Calls Try.prog 38 #[.pointer (some ⟨g.bF, 0, none⟩), .int .i64 no] w (Ret w (.tuple #[statV (getN S.nodes no), .int .i64 (statE S no)])) := by
  obtain ⟨W0, hW0⟩ : ∃ W, W = w.alloc (.cells #[.int .i64 0, .int .i64 0, .int .i64 0, .int .i64 0, .int .i64 0, .int .i64 0, .int .i64 0, .int .i64 0, .int .i64 0, .int .i64 0] 75) := ⟨_, rfl⟩
  obtain ⟨b0, hb0⟩ : ∃ b, b = w.heap.size := ⟨_, rfl⟩
  have E0 : Ext w W0 := by rw [hW0]; exact (Ext.refl _).alloc _
  have R0 : Has W0 b0 (.cells #[.int .i64 nodeZ.no, .int .i64 nodeZ.dev, .int .i64 nodeZ.kind, .int .i64 nodeZ.mode, .int .i64 nodeZ.uid, .int .i64 nodeZ.gid, .int .i64 nodeZ.links, .int .i64 nodeZ.data.length, .int .i64 nodeZ.mtime, .int .i64 nodeZ.ctime] 75) := by rw [hW0, hb0]; exact Has.new _ _
  have hbw : w.heap.size ≤ b0 := by omega
  have h0 := h.ext E0
  go_enter Try.func38, Try.ntmps38
  go_upto_region 1 with fail
  rw [show w.alloc _ = W0 from hW0.symm, ← hb0]
  clear hW0 hb0
  have R1 := R0
  have E1 := E0
  go_wp2_with fail
  refine (rget_any B g S X no _ h0 hl hu).mono ?_
  rintro e w2 ⟨A2, k2, rfl, ok2, b2⟩
  have R2 := R1.ext b2
  have E2 := E1.trans b2
  obtain ⟨m, hm⟩ : ∃ m, m = getN S.nodes no := ⟨_, rfl⟩
  have hnz : ((getN S.nodes no).no == 0) = !isN S.nodes no := by
    cases hi : isN S.nodes no
    · rw [(isN_false hi).1]; rfl
    · have h1 := (hu.2 _ (isN_true hi).2.2).1
      simp; omega
  rw [← hm] at hnz
  obtain ⟨i, hi⟩ : ∃ i, i = isN S.nodes no := ⟨_, rfl⟩
  have hE : statE S no = if i = true then 0 else 5 := by rw [hi]; rfl
  have hZ : i = false → m = nodeZ := fun e => by rw [hm]; exact (isN_false (hi.symm.trans e)).1
  rw [← hm]
  rw [← hi] at hnz
  clear ok2
  obtain ⟨W3, hW3⟩ : ∃ W3, W3 = w2.alloc (.cells #[.int .i64 m.no, .int .i64 m.dev, .int .i64 m.kind, .int .i64 m.mode, .int .i64 m.uid, .int .i64 m.gid, .int .i64 m.mtime, .int .i64 m.ctime, .int .i64 m.links, .int .i64 m.up, .string (bs m.data), .slice A2 m.ents.length k2] 100) := ⟨_, rfl⟩
  obtain ⟨b8, hb8⟩ : ∃ b8, b8 = w2.heap.size := ⟨_, rfl⟩
  have E23 : Ext w2 W3 := by rw [hW3]; exact (Ext.refl _).alloc _
  have N3 : Has W3 b8 (.cells #[.int .i64 m.no, .int .i64 m.dev, .int .i64 m.kind, .int .i64 m.mode, .int .i64 m.uid, .int .i64 m.gid, .int .i64 m.mtime, .int .i64 m.ctime, .int .i64 m.links, .int .i64 m.up, .string (bs m.data), .slice A2 m.ents.length k2] 100) := by rw [hW3, hb8]; exact Has.new _ _
  have R3 := R2.ext E23
  have E3 := E2.trans E23
  obtain ⟨e0, he0⟩ : ∃ e0, e0 = statE S no := ⟨_, rfl⟩
  rw [← he0]
  rw [← he0] at hE
  have HE := Lib.hid hE
  have HZ := Lib.hid hZ
  have HMM := Lib.hid hm
  have HEE := Lib.hid he0
  have HNZ := Lib.hid hnz
  clear hm hi hE hZ he0 hnz
  go_upto_region 2 with fail
  rw [← hW3, ← hb8]
  clear hW3 hb8 E23 R1 R2 E1 E2
  unfold statV
  cases i
  · have e1 : Hid (e0 = 5) := Lib.hid (HE.out.trans rfl)
    have e2 : Hid (m = nodeZ) := Lib.hid (HZ.out rfl)
    have tn : (m.no == 0) = true := HNZ.out
    have k0 : W3.cell? ⟨b8, 0, none⟩ = some (.int .i64 m.no) := N3.cell 0
    have kz := N3.lt
    go_wp2_with (refine wpList_store_stat rfl _ _ rfl b0 nodeZ rfl rfl R3 ?_; intro w9 R9 O9)
    refine bodyPost_ret (v := .tuple #[.agg #[.int .i64 nodeZ.no, .int .i64 nodeZ.dev, .int .i64 nodeZ.kind, .int .i64 nodeZ.mode, .int .i64 nodeZ.uid, .int .i64 nodeZ.gid, .int .i64 nodeZ.links, .int .i64 nodeZ.data.length, .int .i64 nodeZ.mtime, .int .i64 nodeZ.ctime], .int .i64 5]) (res_stat Try.results38 _ _ b0 nodeZ _ rfl rfl R9) rfl ?_
    refine ⟨by (try rw [← HMM.out]); (try rw [← HEE.out]); rw [e1.out, e2.out]; rfl, O9.after E3 (by simpa using hbw)⟩
  · have e1 : Hid (e0 = 0) := Lib.hid (HE.out.trans rfl)
    have tn : (m.no == 0) = false := HNZ.out
    obtain ⟨x0, x1, x2, x3, x4, x5, x6, x7, x8, x9, x10, x11⟩ := N3.node12
    have xz := N3.lt
    go_wp2_with (refine wpList_store_stat rfl _ _ rfl b0 m rfl rfl R3 ?_; intro w9 R9 O9)
    refine bodyPost_ret (v := .tuple #[.agg #[.int .i64 m.no, .int .i64 m.dev, .int .i64 m.kind, .int .i64 m.mode, .int .i64 m.uid, .int .i64 m.gid, .int .i64 m.links, .int .i64 m.data.length, .int .i64 m.mtime, .int .i64 m.ctime], .int .i64 0]) (res_stat Try.results38 _ _ b0 m _ rfl rfl R9) rfl ?_
    refine ⟨by (try rw [← HMM.out]); (try rw [← HEE.out]); rw [e1.out]; rfl, O9.after E3 (by simpa using hbw)⟩
end Go.Proofs.Ytebghednhjaniaa

namespace Go.Proofs.Ytebghednhjaniaa
open Go.ChangeShapes Go.WideShapes Go.ChangeAt Go.RowKit Go.Shelf
attribute [local go_sem] Oper.semAt_some

section
variable {F : Fence} {n : Nat} {P : Program} {ops : Array Oper} {md : Region.Mode} {Q : Exit → Act → World → Prop}
/-- Where no operation defers, a round makes no difference. -/
theorem wpOpIn_plain {i : Nat} {K : Act → World → Prop} {a : Act} {w : World} (hd : ∀ o, ops[i]? = some o → ∀ c, o.op ≠ .defer c) (h : wpOpIn F.plain n P ops Q i K a w) : wpOpIn F n P ops Q i K a w := by
  unfold wpOpIn at h ⊢
  split
  · rename_i ho; simp only [ho] at h; exact h
  · rename_i o ho
    simp only [ho] at h
    split
    · rename_i hw
      simp only [hw, if_true] at h
      unfold Oper.wpIn at h ⊢
      refine ⟨h.1, ?_⟩
      have h2 := h.2
      rw [Oper.semAt_eq _ _ _ (hd o ho)] at h2 ⊢
      exact h2
    · rename_i hw; simp only [hw] at h; exact h
theorem wpAnyIn_plain (hd : ∀ (i : Nat) (o : Oper), ops[i]? = some o → ∀ c, o.op ≠ .defer c) : ∀ (fuel : Nat) (listed : Array Bool) (a : Act) (w : World), wpAnyIn F.plain n P md ops Q fuel listed a w → wpAnyIn F n P md ops Q fuel listed a w
  | 0, _, _, _, h => h
  | fuel + 1, _, _, _, h => ⟨h.1, fun i hi => wpOpIn_plain (hd i) (wpOpIn_mono (fun a w => wpAnyIn_plain hd fuel _ a w) (h.2 i hi))⟩
theorem wpIn_region_any_r {id : Nat} {a : Act} {w : World} {l : List Oper} (hd : l.all noDefer = true) (hm : P.follows .mixedOrders = true)
    (h : wpAnyIn F.plain n P .any l.toArray Q l.toArray.size (Array.replicate l.toArray.size false) a w.drew) : (Code.region id l.toArray true).wpIn F n P Q a w :=
  wpIn_region_any hm (wpAnyIn_plain (fun i o ho => noDefer_spec (List.all_eq_true.1 hd o (List.mem_of_getElem? (by simpa using ho)))) _ _ _ _ h)
end
def listF (S : TreeD) (l : List EntD) : List EntD := l.map fun x => (x.1, overF S.devs x.2)
theorem listF_snoc (S : TreeD) (l : List EntD) (x : EntD) : listF S (l ++ [x]) = listF S l ++ [(x.1, overF S.devs x.2)] := by unfold listF; rw [List.map_append]; rfl
theorem listF_len (S : TreeD) (l : List EntD) : (listF S l).length = l.length := by unfold listF; rw [List.length_map]
/-- A list of entries, and an error. -/
def ListQ (w : World) (L : List EntD) (x : Int) (e : Ending) (w' : World) : Prop := ∃ A cap, e = .returned (.tuple #[.slice A L.length cap, .int .i64 x]) ∧ EntsAt w' A L ∧ Ext w w'
/-- append(v, x): one fresh entry. -/
theorem app_ent {base : Nat} {v : Value} {L : List EntD} (x : EntD) (wr : World) (h : OwnE wr base v L) (hb : base ≤ wr.heap.size) (hl : L.length ≤ 2000000) :
    ∃ v' w2, (Builtin.append_ #[67, 67] 67 #[v, .slice (some ⟨wr.heap.size, 0, none⟩) 1 1]).run Try.prog (wr.alloc (.cells #[.string (bs x.1), .int .i64 x.2] 72)) = .ok v' w2 ∧ (w2.ownsRow base 72 2 v' (L ++ [x]).length (entCells (L ++ [x]))) ∧ (wr.alloc (.cells #[.string (bs x.1), .int .i64 x.2] 72)).grownBy w2 v.ownBlock := by
  obtain ⟨i0, hi, hz0, hz1, hz2⟩ := info_parts infoEnt
  obtain ⟨v', w2, hr, h2, h3, _⟩ := run_append_own (P := Try.prog) (wr.alloc (.cells #[.string (bs x.1), .int .i64 x.2] 72)) base 67 67 72 i0 (.agg #[.string ⟨#[]⟩, .int .i64 0]) 2 24 Try.underlying67 hi hz0 hz1 hz2 rfl (by decide) v L.length _ (World.ownsRow.alloc h _) ⟨wr.heap.size, 0, none⟩ 1 1 (entCells [x]) rfl (news_one wr x) (entCells_one [x]) (by unfold maxLen; omega) (by omega) (by simp; omega)
  refine ⟨v', w2, hr, ?_, h3⟩
  rw [entCells_append, List.length_append]
  exact h2
theorem wpIn_append_run {F : Fence} {n : Nat} {P : Program} (w : World) {o : Oper} {a : Act} {K : Act → World → Prop} {Q : Exit → Act → World → Prop} (s x : Operand) (t tn : TypeId)
    (ho : o.op = .call { callee := .builtin .append, args := #[s, x], argTypes := #[t, tn] }) (vs vx : Value) (hs : a.eval s = vs) (hx : a.eval x = vx)
    (v' : Value) (w' : World) (hr : (Builtin.append_ #[t, tn] o.type #[vs, vx]).run P w = .ok v' w') (h : K (a.put o.dst v') w') : o.wpIn F n P a w K Q := by
  unfold Oper.wpIn
  refine ⟨?_, ?_⟩
  · simp [Oper.about, ho, resolve, Target.leads, Sem.run_pure]
  · rw [Oper.semAt_plain F _ _ (by rw [ho]; intro c hc'; cases hc')]
    simp [execOp, ho, resolve, invoke, builtin, hs, hx, hr, Result.andThen]
    exact h
set_option maxRecDepth 100000 in
set_option maxHeartbeats 8000000 in
theorem plist_any {c : Nat} (B : Nat) (g : GhW) (S : TreeD) (cu cg no : Int) (w : World) (h : WAt w B g S) (T : Tre c S) (hc : c ≤ 1000000) :
    Calls Try.prog 35 #[.pointer (some ⟨g.bW, 0, none⟩), .agg #[.int .i64 cu, .int .i64 cg], .int .i64 no] w (ListQ w (listF S (openN S cu cg no 1 4).ents) (openE S cu cg no 1 4)) := by
  refine (callsIn_wide (n := 4)).1 ?_
  obtain ⟨F, hF⟩ : ∃ F, F = Fence.wide := ⟨_, rfl⟩
  have hro : F.round = none := by rw [hF]; rfl
  have h35 : F.fn 35 := by rw [hF]; trivial
  have hop : F.fn 113 := by rw [hF]; trivial
  have hov : F.fn 52 := by rw [hF]; trivial
  have h42 : F.fn 114 := by rw [hF]; trivial
  have h50 : F.fn 165 := by rw [hF]; trivial
  have hor := T.openN cu cg no 1 4
  obtain ⟨m, hm⟩ : ∃ m, m = openN S cu cg no 1 4 := ⟨_, rfl⟩
  obtain ⟨x, hx⟩ : ∃ x, x = openE S cu cg no 1 4 := ⟨_, rfl⟩
  have hOP : ∀ (k : Nat) (w' : World), Ext w w' → CallsIn F k Try.prog 113 #[.pointer (some ⟨g.bW, 0, none⟩), .agg #[.int .i64 cu, .int .i64 cg], .int .i64 no, .int .i64 1, .int .i64 4] w' (fun e w2 => ∃ A c, e = .returned (.tuple #[.agg #[.int .i64 m.no, .int .i64 m.dev, .int .i64 m.kind, .int .i64 m.mode, .int .i64 m.uid, .int .i64 m.gid, .int .i64 m.mtime, .int .i64 m.ctime, .int .i64 m.links, .int .i64 m.up, .string (bs m.data), .slice A m.ents.length c], .int .i64 x]) ∧ NodeOk w2 B m A c ∧ Ext w' w2) := by
    rw [hF, hm, hx]
    exact fun k w' h' => callsIn_wide.2 (popen_any B g S cu cg no 1 4 w' (h.ext h') T.devs)
  have hOV : ∀ (l k : Nat) (q : Int) (w' : World), Ext w w' → CallsIn (F.inRound l).plain k Try.prog 52 #[.pointer (some ⟨g.bW, 0, none⟩), .int .i64 q] w' (Ret w' (.int .i64 (overF S.devs q))) := by
    rw [hF]
    exact fun l k q w' h' => callsIn_wide.2 (pover_any B g S q w' (h.ext h') T.devs (by have := T.eight; omega))
  have hz : ¬ x = 0 → m = nodeZ := fun h0 => by rw [hm]; unfold openN; rw [if_neg (by rw [← hx]; exact h0)]
  rw [← hm] at hor
  rw [← hF, ← hm, ← hx]
  have hml : m.ents.length ≤ 1000000 := by have := hor.2; omega
  have E0 : Ext w ((w.alloc (.cells #[.pointer (some ⟨g.bW, 0, none⟩)] 28)).alloc (.cells #[.int .i64 cu, .int .i64 cg] 62)) := ((Ext.refl _).alloc _).alloc _
  clear hF hm hx hor
  refine callsIn_of_wp_marks Try.func35 rfl h35 ?_ hro
  simp only [Try.ntmps35, List.size_toArray, List.length_cons, List.length_nil, Nat.reduceAdd, Nat.reduceSub, Array.replicate_succ, Array.replicate_zero, List.push_toArray, List.append_toArray, List.nil_append, List.cons_append]
  by_cases hx0 : x = 0
  case neg =>
    have t0 : (x == 0) = false := by simpa using hx0
    have t0b : (x != 0) = true := by simpa using hx0
    have hmz := hz hx0
    have HMZ := Lib.hid hmz
    clear hz hx0 hmz
    gi_wp2_with (gi_at_call 113; refine (hOP _ _ E0).mono ?_; rintro e w1 ⟨A1, c1, rfl, ok1, b1⟩)
    refine ⟨.tuple #[.slice none 0 0, .int .i64 x], by simp [results, Try.results35, go_sem], none, 0, ?_, .inl ?_, (E0.trans b1).alloc _⟩
    · rw [HMZ.out]; rfl
    · rw [HMZ.out]; rfl
  have hxe := Lib.hid hx0
  subst hx0
  have hinfo := infoEnt
  obtain ⟨i0, hi, hz0, hz1, hz2⟩ := info_parts infoEnt
  have HI := Lib.hid hi
  have HZ0 := Lib.hid hz0
  have HZ1 := Lib.hid hz1
  have HZ2 := Lib.hid hz2
  clear hz hinfo hi hz0 hz1 hz2
  gi_wp2_with first | (gi_at_call 113; refine (hOP _ _ E0).mono ?_; rintro e w1 ⟨A1, c1, rfl, ok1, b1⟩; have F0 := E0.trans b1; have hee := ok1.ents; have hN := Has.new w1 (.cells #[.int .i64 m.no, .int .i64 m.dev, .int .i64 m.kind, .int .i64 m.mode, .int .i64 m.uid, .int .i64 m.gid, .int .i64 m.mtime, .int .i64 m.ctime, .int .i64 m.links, .int .i64 m.up, .string (bs m.data), .slice A1 m.ents.length c1] 100); obtain ⟨x0, x1, x2, x3, x4, x5, x6, x7, x8, x9, x10, x11⟩ := hN.node12) | (gi_at_make; refine wpListIn_make_own _ rfl _ _ 67 rfl (w1.heap.size + 1) 72 i0 (.agg #[.string ⟨#[]⟩, .int .i64 0]) 2 Try.underlying67 HI.out HZ0.out HZ1.out .i64 .i64 m.ents.length m.ents.length rfl rfl rfl (by rw [HZ2.out]; omega) (by unfold maxLen; omega) (by simp) ?_; intro wa hrow hga; have hNa : Has wa w1.heap.size (.cells #[.int .i64 m.no, .int .i64 m.dev, .int .i64 m.kind, .int .i64 m.mode, .int .i64 m.uid, .int .i64 m.gid, .int .i64 m.mtime, .int .i64 m.ctime, .int .i64 m.links, .int .i64 m.up, .string (bs m.data), .slice A1 m.ents.length c1] 100) := (hga.block w1.heap.size hN.lt (by simp)).trans hN; obtain ⟨y0, y1, y2, y3, y4, y5, y6, y7, y8, y9, y10, y11⟩ := hNa.node12; have ya := hNa.lt) | (gi_at_call 114; refine (all_in F _ h42 hro _ _ _ _).mono ?_; rintro e w' ⟨rfl, rfl⟩)
  have HMZ := Lib.hid hml
  obtain ⟨n₀, hn0⟩ : ∃ n₀, n₀ = w1.heap.size + 1 := ⟨_, rfl⟩
  obtain ⟨W2, hW2⟩ : ∃ W2, W2 = w1.alloc (.cells #[.int .i64 m.no, .int .i64 m.dev, .int .i64 m.kind, .int .i64 m.mode, .int .i64 m.uid, .int .i64 m.gid, .int .i64 m.mtime, .int .i64 m.ctime, .int .i64 m.links, .int .i64 m.up, .string (bs m.data), .slice A1 m.ents.length c1] 100) := ⟨_, rfl⟩
  have hz2' : W2.heap.size = n₀ := by rw [hW2, hn0]; simp
  have G2 : Ext w W2 := by rw [hW2]; exact F0.alloc _
  have hsw : w.heap.size < w1.heap.size := by have := b1.size; simp at this; omega
  have cw2 : W2.cell? ⟨w.heap.size, 0, none⟩ = some (.pointer (some ⟨g.bW, 0, none⟩)) := by
    have h1 : Has (w.alloc (.cells #[.pointer (some ⟨g.bW, 0, none⟩)] 28)) w.heap.size (.cells #[.pointer (some ⟨g.bW, 0, none⟩)] 28) := Has.new _ _
    rw [hW2]
    exact (((h1.alloc _).ext b1).alloc _).cell 0
  have eb2 : EntsB n₀ W2 A1 m.ents := by
    rcases hee.ents with h0 | ⟨b, o, hA, hb, hc⟩
    · exact .inl h0
    · refine .inr ⟨b, o, hA, by omega, fun k hk => ?_⟩
      rw [hW2]
      exact ⟨(((Ext.refl _).alloc _).cell hb).trans (hc k hk).1, (((Ext.refl _).alloc _).cell hb).trans (hc k hk).2⟩
  rw [← hW2] at hga
  obtain ⟨W0, hW0⟩ : ∃ W0, W0 = (wa.alloc (.cells #[.slice (some ⟨w1.heap.size + 1, 0, none⟩) 0 m.ents.length] 67)).alloc (.cells #[.slice A1 m.ents.length c1] 67) := ⟨_, rfl⟩
  have hza : n₀ ≤ wa.heap.size := by omega
  have B0 : Below n₀ W2 W0 := by
    rw [hW0]
    exact (((Below.refl n₀ W2).grown hga (by omega) (fun j e => by cases e)).alloc (by omega) _).alloc (by simp; omega) _
  have bO : Boxed W0 wa.heap.size 67 (.slice (some ⟨w1.heap.size + 1, 0, none⟩) 0 m.ents.length) := by rw [hW0]; exact (Boxed.new wa _ _).alloc _
  have bS : Has W0 (wa.heap.size + 1) (.cells #[.slice A1 m.ents.length c1] 67) := by rw [hW0]; have := Has.new (wa.alloc (.cells #[.slice (some ⟨w1.heap.size + 1, 0, none⟩) 0 m.ents.length] 67)) (.cells #[.slice A1 m.ents.length c1] 67); rw [World.size_alloc] at this; exact this
  have r0 : W0.ownsRow (w1.heap.size + 1) 72 2 (.slice (some ⟨w1.heap.size + 1, 0, none⟩) 0 m.ents.length) 0 [] := by
    rw [hW0]
    have e : (w1.alloc (.cells #[.int .i64 m.no, .int .i64 m.dev, .int .i64 m.kind, .int .i64 m.mode, .int .i64 m.uid, .int .i64 m.gid, .int .i64 m.mtime, .int .i64 m.ctime, .int .i64 m.links, .int .i64 m.up, .string (bs m.data), .slice A1 m.ents.length c1] 100)).heap.size = w1.heap.size + 1 := by simp
    rw [e] at hrow
    exact (hrow.alloc _).alloc _
  have hz0' : W0.heap.size = wa.heap.size + 2 := by rw [hW0]; simp
  have r0 : W0.ownsRow n₀ 72 2 (.slice (some ⟨w1.heap.size + 1, 0, none⟩) 0 m.ents.length) 0 [] := by rw [hn0]; exact r0
  have hnw : w.heap.size ≤ n₀ := by omega
  have hln : w1.heap.size < n₀ := by omega
  rw [← hW0]
  clear hW0 y0 y1 y2 y3 y4 y5 y6 y7 y8 y9 y10 y11 x0 x1 x2 x3 x4 x5 x6 x7 x8 x9 x10 x11 hrow hga hNa ok1 hee hN
  refine wpIn_rangeFunc_ownG (w0 := W0) hro (by omega) (gf := 165) (lb := #[.pointer (some ⟨wa.heap.size + 1, 0, none⟩)]) rfl h50 (enters_of Try.func165 (by kernel_rfl) rfl)
    (all_stops F (4 - 1) h50 hro (by omega) (wa.heap.size + 1) n₀ c1 A1 m.ents hml W0 (by omega) (by omega) (bS.cell 0) (eb2.below B0)) belowK_t (belowK_b (by omega)) (Below.refl _ _) (fun _ => rfl)
    (fun pre W => (∃ v, Boxed W wa.heap.size 67 v ∧ W.ownsRow n₀ 72 2 v (listF S pre).length (entCells (listF S pre)) ∧ True) ∧ Below n₀ W2 W)
    (fun _ _ _ => False)
    (OwnFrom.and (Own.from (holdsRow_own n₀ wa.heap.size 67 72 2 (fun pre => (listF S pre).length) (fun pre => entCells (listF S pre)) (fun _ _ => True)) _) (ownFrom_below (by omega) (by omega)))
    (fun _ _ _ _ _ hs _ _ => hs)
    ⟨⟨_, bO, r0, trivial⟩, B0⟩
    (fun x => { tmps := #[.pointer (some ⟨g.bW, 0, none⟩), .agg #[.int .i64 cu, .int .i64 cg], .int .i64 no, .pointer (some ⟨w.heap.size, 0, none⟩), .pointer (some ⟨w.heap.size + 1, 0, none⟩), undef, .slice none 0 0, .int .i64 0, .pointer (some ⟨w1.heap.size, 0, none⟩), .int .i64 0, .pointer (some ⟨wa.heap.size, 0, none⟩), .string (bs x.1), .int .i64 x.2, .tuple #[.agg #[.int .i64 m.no, .int .i64 m.dev, .int .i64 m.kind, .int .i64 m.mode, .int .i64 m.uid, .int .i64 m.gid, .int .i64 m.mtime, .int .i64 m.ctime, .int .i64 m.links, .int .i64 m.up, .string (bs m.data), .slice A1 m.ents.length c1], .int .i64 0], .pointer (some ⟨g.bW, 0, none⟩), .agg #[.int .i64 cu, .int .i64 cg], .int .i64 no, .tuple #[.agg #[.int .i64 m.no, .int .i64 m.dev, .int .i64 m.kind, .int .i64 m.mode, .int .i64 m.uid, .int .i64 m.gid, .int .i64 m.mtime, .int .i64 m.ctime, .int .i64 m.links, .int .i64 m.up, .string (bs m.data), .slice A1 m.ents.length c1], .int .i64 0], .agg #[.int .i64 m.no, .int .i64 m.dev, .int .i64 m.kind, .int .i64 m.mode, .int .i64 m.uid, .int .i64 m.gid, .int .i64 m.mtime, .int .i64 m.ctime, .int .i64 m.links, .int .i64 m.up, .string (bs m.data), .slice A1 m.ents.length c1], .int .i64 0, .int .i64 0, .bool false, undef, .pointer (some ⟨w1.heap.size, 11, none⟩), .slice A1 m.ents.length c1, .int .i64 m.ents.length, .slice (some ⟨w1.heap.size + 1, 0, none⟩) 0 m.ents.length, .pointer (some ⟨w1.heap.size, 11, none⟩), .slice A1 m.ents.length c1, .func (.func 165) #[] #[.pointer (some ⟨wa.heap.size + 1, 0, none⟩)], .string (bs x.1), .int .i64 x.2, undef, undef, undef, undef, undef, undef, undef, undef, undef], defers := [] }) ?assign ?body ?done ?stop
  case assign =>
    intro l x W K hK
    gi_wp2
    exact hK
  case body =>
    rintro l pre x W ⟨⟨v, hv, hrow, -⟩, hB⟩ hpl
    have hc := hv.cell
    have hf := hv.frozen
    have cw := (hB.cell (p := ⟨w.heap.size, 0, none⟩) (by show w.heap.size < n₀; omega)).trans cw2
    have hzW := hB.size
    have hEd : Ext w W.drew := Ext.drew (show Ext w W from Below.trans (show Below w.heap.size w W2 from G2) (hB.mono hnw))
    have hrowd : W.drew.ownsRow n₀ 72 2 v (listF S pre).length (entCells (listF S pre)) := hrow
    have hvd : Boxed W.drew wa.heap.size 67 v := hv
    have bN : ∀ {u : World}, Ext W.drew u → Below n₀ W u := fun {u} h => (show Below n₀ W W.drew from ⟨rfl, rfl, rfl, Nat.le_refl _, fun _ _ => rfl⟩).trans (h.mono (by show n₀ ≤ W.heap.size; omega))
    have bK : ∀ {u : World}, Ext W.drew u → KeepsOthers W u := fun {u} h => (show KeepsOthers W W.drew from ⟨Nat.le_refl _, fun _ _ h _ => h⟩).trans (KeepsOthers.of_grownBy h.grownBy fun j o e _ => by cases e)
    clear G2 cw2 hOP h T B0 bO bS r0
    gi_wp2
    refine wpIn_region_any_r (by kernel_rfl) (by kernel_rfl) ?_
    refine wpAnyIn_take (i := 1) (v := ?_) rfl rfl (by kernel_rfl) (by kernel_rfl) (by kernel_rfl) (fun _ _ _ h => h) ⟨Or.inl ⟨by rfl, ?_⟩, fun _ => rfl⟩ ?_
    case refine_2 => intro w; go_simp; rfl
    refine wpAnyIn_take (i := 3) (v := ?_) rfl rfl (by kernel_rfl) (by kernel_rfl) (by kernel_rfl) (fun _ _ _ h => h) ⟨Or.inl ⟨by rfl, ?_⟩, fun _ => rfl⟩ ?_
    case refine_2 => intro w; go_simp; rfl
    refine wpAnyIn_ready (rs := [0, 2]) (by kernel_rfl) (by simp) ?_
    refine AllReadyIn.cons rfl (fun K hK => ?_) ?_
    · skip
      go_simp
      refine hK _ _ ?_
      clear hK K
      refine wpAnyIn_ready (rs := [2]) (by kernel_rfl) (by simp) ?_
      refine AllReadyIn.cons rfl (fun K hK => ?_) ?_
      · skip
        go_simp
        refine hK _ _ ?_
        clear hK K
        refine wpAnyIn_ready (rs := [4]) (by kernel_rfl) (by simp) ?_
        refine AllReadyIn.cons rfl (fun K hK => ?_) ?_
        · skip
          go_simp
          gi_wp2_with (gi_at_call 52; refine (hOV l _ _ _ hEd).mono ?_; rintro e wd ⟨rfl, bd⟩)
          obtain ⟨v', w2, hr, hrow', hg2⟩ := app_ent (base := n₀) (x.1, overF S.devs x.2) wd (World.ownsRow.kept hrowd bd.grownBy (by cases v.ownBlock <;> simp)) (by have := bd.size; simp at this; omega) (by rw [listF_len]; omega)
          rw [← listF_snoc] at hrow'
          have hvw : Boxed wd wa.heap.size 67 v := Has.ext hvd bd
          obtain ⟨hv1, hv2, hr3, hk2, hb2⟩ := hvw.appended (n₀ := n₀) (by decide) (World.ownsRow.kept hrowd bd.grownBy (by cases v.ownBlock <;> simp)) (by have := bd.size; simp at this; omega) (by omega) hrow' hg2
          obtain ⟨g', cap', hv'⟩ := ownsRow_succ (k := (listF S pre).length) (by rw [show (listF S pre).length + 1 = (listF S (pre ++ [x])).length by rw [listF_snoc]; simp]; exact hrow')
          subst hv'
          have hcd := hvw.cell
          have hld := hvw.lt
          have hc1 := hv1.cell
          have hf1 := hv1.frozen
          refine wpAnyIn_take (i := 5) (v := ?_) rfl rfl (by kernel_rfl) (by kernel_rfl) (by kernel_rfl) (fun _ _ _ h => h) ⟨Or.inl ⟨by rfl, ?_⟩, fun _ => rfl⟩ ?_
          case refine_2 => intro w; go_simp; rfl
          refine wpAnyIn_ready (rs := [6]) (by kernel_rfl) (by simp) ?_
          refine AllReadyIn.cons rfl (fun K hK => ?_) ?_
          · skip
            go_simp
            refine hK _ _ ?_
            clear hK K
            refine wpAnyIn_ready (rs := [7]) (by kernel_rfl) (by simp) ?_
            refine AllReadyIn.cons rfl (fun K hK => ?_) ?_
            · skip
              rw [if_pos (by rfl)]
              refine wpIn_append_run _ _ _ 67 67 rfl _ _ rfl rfl _ _ hr ?_
              refine hK _ _ ?_
              clear hK K
              refine wpAnyIn_ready (rs := [8]) (by kernel_rfl) (by simp) ?_
              refine AllReadyIn.cons rfl (fun K hK => ?_) ?_
              · skip
                go_simp
                refine hK _ _ ?_
                clear hK K
                refine wpAnyIn_done (by kernel_rfl) ?_ _
                exact ⟨((bK bd).trans hk2).from _, (bN bd).trans hb2, ⟨_, hv2, hr3, trivial⟩, hB.trans ((bN bd).trans hb2)⟩
              exact AllReadyIn.nil
            exact AllReadyIn.nil
          exact AllReadyIn.nil
        exact AllReadyIn.nil
      exact AllReadyIn.nil
    refine AllReadyIn.cons rfl (fun K hK => ?_) ?_
    · skip
      go_simp
      refine hK _ _ ?_
      clear hK K
      refine wpAnyIn_ready (rs := [0, 4]) (by kernel_rfl) (by simp) ?_
      refine AllReadyIn.cons rfl (fun K hK => ?_) ?_
      · skip
        go_simp
        refine hK _ _ ?_
        clear hK K
        refine wpAnyIn_ready (rs := [4]) (by kernel_rfl) (by simp) ?_
        refine AllReadyIn.cons rfl (fun K hK => ?_) ?_
        · skip
          go_simp
          gi_wp2_with (gi_at_call 52; refine (hOV l _ _ _ hEd).mono ?_; rintro e wd ⟨rfl, bd⟩)
          obtain ⟨v', w2, hr, hrow', hg2⟩ := app_ent (base := n₀) (x.1, overF S.devs x.2) wd (World.ownsRow.kept hrowd bd.grownBy (by cases v.ownBlock <;> simp)) (by have := bd.size; simp at this; omega) (by rw [listF_len]; omega)
          rw [← listF_snoc] at hrow'
          have hvw : Boxed wd wa.heap.size 67 v := Has.ext hvd bd
          obtain ⟨hv1, hv2, hr3, hk2, hb2⟩ := hvw.appended (n₀ := n₀) (by decide) (World.ownsRow.kept hrowd bd.grownBy (by cases v.ownBlock <;> simp)) (by have := bd.size; simp at this; omega) (by omega) hrow' hg2
          obtain ⟨g', cap', hv'⟩ := ownsRow_succ (k := (listF S pre).length) (by rw [show (listF S pre).length + 1 = (listF S (pre ++ [x])).length by rw [listF_snoc]; simp]; exact hrow')
          subst hv'
          have hcd := hvw.cell
          have hld := hvw.lt
          have hc1 := hv1.cell
          have hf1 := hv1.frozen
          refine wpAnyIn_take (i := 5) (v := ?_) rfl rfl (by kernel_rfl) (by kernel_rfl) (by kernel_rfl) (fun _ _ _ h => h) ⟨Or.inl ⟨by rfl, ?_⟩, fun _ => rfl⟩ ?_
          case refine_2 => intro w; go_simp; rfl
          refine wpAnyIn_ready (rs := [6]) (by kernel_rfl) (by simp) ?_
          refine AllReadyIn.cons rfl (fun K hK => ?_) ?_
          · skip
            go_simp
            refine hK _ _ ?_
            clear hK K
            refine wpAnyIn_ready (rs := [7]) (by kernel_rfl) (by simp) ?_
            refine AllReadyIn.cons rfl (fun K hK => ?_) ?_
            · skip
              rw [if_pos (by rfl)]
              refine wpIn_append_run _ _ _ 67 67 rfl _ _ rfl rfl _ _ hr ?_
              refine hK _ _ ?_
              clear hK K
              refine wpAnyIn_ready (rs := [8]) (by kernel_rfl) (by simp) ?_
              refine AllReadyIn.cons rfl (fun K hK => ?_) ?_
              · skip
                go_simp
                refine hK _ _ ?_
                clear hK K
                refine wpAnyIn_done (by kernel_rfl) ?_ _
                exact ⟨((bK bd).trans hk2).from _, (bN bd).trans hb2, ⟨_, hv2, hr3, trivial⟩, hB.trans ((bN bd).trans hb2)⟩
              exact AllReadyIn.nil
            exact AllReadyIn.nil
          exact AllReadyIn.nil
        exact AllReadyIn.nil
      refine AllReadyIn.cons rfl (fun K hK => ?_) ?_
      · skip
        go_simp
        gi_wp2_with (gi_at_call 52; refine (hOV l _ _ _ hEd).mono ?_; rintro e wd ⟨rfl, bd⟩)
        obtain ⟨v', w2, hr, hrow', hg2⟩ := app_ent (base := n₀) (x.1, overF S.devs x.2) wd (World.ownsRow.kept hrowd bd.grownBy (by cases v.ownBlock <;> simp)) (by have := bd.size; simp at this; omega) (by rw [listF_len]; omega)
        rw [← listF_snoc] at hrow'
        have hvw : Boxed wd wa.heap.size 67 v := Has.ext hvd bd
        obtain ⟨hv1, hv2, hr3, hk2, hb2⟩ := hvw.appended (n₀ := n₀) (by decide) (World.ownsRow.kept hrowd bd.grownBy (by cases v.ownBlock <;> simp)) (by have := bd.size; simp at this; omega) (by omega) hrow' hg2
        obtain ⟨g', cap', hv'⟩ := ownsRow_succ (k := (listF S pre).length) (by rw [show (listF S pre).length + 1 = (listF S (pre ++ [x])).length by rw [listF_snoc]; simp]; exact hrow')
        subst hv'
        have hcd := hvw.cell
        have hld := hvw.lt
        have hc1 := hv1.cell
        have hf1 := hv1.frozen
        refine wpAnyIn_take (i := 5) (v := ?_) rfl rfl (by kernel_rfl) (by kernel_rfl) (by kernel_rfl) (fun _ _ _ h => h) ⟨Or.inl ⟨by rfl, ?_⟩, fun _ => rfl⟩ ?_
        case refine_2 => intro w; go_simp; rfl
        refine wpAnyIn_ready (rs := [0, 6]) (by kernel_rfl) (by simp) ?_
        refine AllReadyIn.cons rfl (fun K hK => ?_) ?_
        · skip
          go_simp
          refine hK _ _ ?_
          clear hK K
          refine wpAnyIn_ready (rs := [6]) (by kernel_rfl) (by simp) ?_
          refine AllReadyIn.cons rfl (fun K hK => ?_) ?_
          · skip
            go_simp
            refine hK _ _ ?_
            clear hK K
            refine wpAnyIn_ready (rs := [7]) (by kernel_rfl) (by simp) ?_
            refine AllReadyIn.cons rfl (fun K hK => ?_) ?_
            · skip
              rw [if_pos (by rfl)]
              refine wpIn_append_run _ _ _ 67 67 rfl _ _ rfl rfl _ _ hr ?_
              refine hK _ _ ?_
              clear hK K
              refine wpAnyIn_ready (rs := [8]) (by kernel_rfl) (by simp) ?_
              refine AllReadyIn.cons rfl (fun K hK => ?_) ?_
              · skip
                go_simp
                refine hK _ _ ?_
                clear hK K
                refine wpAnyIn_done (by kernel_rfl) ?_ _
                exact ⟨((bK bd).trans hk2).from _, (bN bd).trans hb2, ⟨_, hv2, hr3, trivial⟩, hB.trans ((bN bd).trans hb2)⟩
              exact AllReadyIn.nil
            exact AllReadyIn.nil
          exact AllReadyIn.nil
        refine AllReadyIn.cons rfl (fun K hK => ?_) ?_
        · skip
          go_simp
          refine hK _ _ ?_
          clear hK K
          refine wpAnyIn_ready (rs := [0]) (by kernel_rfl) (by simp) ?_
          refine AllReadyIn.cons rfl (fun K hK => ?_) ?_
          · skip
            go_simp
            refine hK _ _ ?_
            clear hK K
            refine wpAnyIn_ready (rs := [7]) (by kernel_rfl) (by simp) ?_
            refine AllReadyIn.cons rfl (fun K hK => ?_) ?_
            · skip
              rw [if_pos (by rfl)]
              refine wpIn_append_run _ _ _ 67 67 rfl _ _ rfl rfl _ _ hr ?_
              refine hK _ _ ?_
              clear hK K
              refine wpAnyIn_ready (rs := [8]) (by kernel_rfl) (by simp) ?_
              refine AllReadyIn.cons rfl (fun K hK => ?_) ?_
              · skip
                go_simp
                refine hK _ _ ?_
                clear hK K
                refine wpAnyIn_done (by kernel_rfl) ?_ _
                exact ⟨((bK bd).trans hk2).from _, (bN bd).trans hb2, ⟨_, hv2, hr3, trivial⟩, hB.trans ((bN bd).trans hb2)⟩
              exact AllReadyIn.nil
            exact AllReadyIn.nil
          exact AllReadyIn.nil
        exact AllReadyIn.nil
      exact AllReadyIn.nil
    exact AllReadyIn.nil
  case done =>
    rintro D ys W hD rfl ⟨⟨v, hv, hrow, -⟩, hB⟩ hK
    obtain ⟨A9, cap9, rfl, _, _, hat⟩ := OwnE.at_ hrow
    have hc := hv.cell
    gi_wp2
    refine ⟨by simp, .inl ⟨_, _, rfl, run_takeDeferred hK, ?_⟩⟩
    have hB2 := belowK_b (n₀ := n₀) (w := W0) (by omega) W D _ (.deferred none) (by omega) hK rfl rfl
    have hE : Ext w (W.putObj D (.deferred none)) := Below.trans (show Below w.heap.size w W2 from G2) ((hB.trans hB2).mono hnw)
    refine ⟨.tuple #[.slice A9 (listF S m.ents).length cap9, .int .i64 0], by simp [results, Try.results35, go_sem], A9, cap9, rfl, ?_, hE⟩
    have hrow2 := World.ownsRow.kept hrow (grownBy_putObj' W D (.deferred none)) (by
      rcases hrow.2 with ⟨h1, _⟩ | ⟨g9, c9, cur, h1, _, hgb, _⟩
      · exact .inl (by rw [h1]; rfl)
      · refine .inr fun e' => ?_
        rw [h1] at e'
        obtain rfl : g9 = D := by simpa [Value.ownBlock] using e'
        rw [hgb] at hK; cases hK)
    obtain ⟨A8, cap8, e8, _, _, hat8⟩ := OwnE.at_ hrow2
    injection e8 with e8
    rw [e8]
    exact hat8
  case stop =>
    rintro D c pre W hD hp hx hK
    exact hx.elim
end Go.Proofs.Ytebghednhjaniaa

namespace Go.Proofs.Ytebghednhjaniaa
open Go.ChangeShapes Go.WideShapes Go.ChangeAt Go.RowKit

theorem listF_take {S : TreeD} {l : List EntD} {k : Nat} (h : k < l.length) : listF S (l.take (k + 1)) = listF S (l.take k) ++ [(l[k].1, overF S.devs l[k].2)] := by
  rw [List.take_succ_eq_append_getElem h, listF_snoc]
theorem EntsAt.lt0 {w : World} {A : Option Addr} {l : List EntD} (h : EntsAt w A l) {k : Nat} (hk : k < l.length) : ∃ b o, A = some ⟨b, o, none⟩ ∧ b < w.heap.size ∧ w.cell? ⟨b, o + k * 2, none⟩ = some (.string (bs l[k].1)) ∧ w.cell? ⟨b, o + k * 2 + 1, none⟩ = some (.int .i64 l[k].2) := by
  rcases h with h | ⟨b, o, hA, hb, hc⟩
  · rw [h] at hk; cases hk
  · exact ⟨b, o, hA, hb, hc k hk⟩
theorem step_append_ent {P : Program} {ops : Array Oper} {o : Oper} {a : Act} {K : Act → World → Prop} {Q : Exit → Act → World → Prop} {E : Prop} (w : World) (hgd : o.guard = none) (s x : Operand) (t : TypeId)
    (ho : o.op = .call { callee := .builtin .append, args := #[s, x], argTypes := #[t, t] }) (vs vx : Value) (hs : a.eval s = vs) (hx : a.eval x = vx) {R : Value → World → Prop}
    (hr : ∃ v' w', (Builtin.append_ #[t, t] o.type #[vs, vx]).run P w = .ok v' w' ∧ R v' w') (h : ∀ v' w', R v' w' → K (a.put o.dst v') w') :
    if Region.wanted o (yielded ops a.tmps) = true then Oper.wp P o a w K Q else E := by
  have hw : Region.wanted o (yielded ops a.tmps) = true := by simp [Region.wanted, hgd]
  rw [if_pos hw]
  obtain ⟨v', w', h1, h2⟩ := hr
  unfold Oper.wp execOp
  simp only [ho, resolve, invoke, builtin, Sem.run_bind, Sem.run_pure, Result.andThen_ok, List.map_toArray, List.map_cons, List.map_nil, hs, hx, h1]
  exact h v' w' h2
theorem OwnE.ext2 {w w' : World} {b : Nat} {v : Value} {k : Nat} {xs : List Value} (h : w.ownsRow b 72 2 v k xs) (hE : Ext w w') : w'.ownsRow b 72 2 v k xs :=
  World.ownsRow.kept h hE.grownBy (by cases v.ownBlock <;> simp)
set_option maxRecDepth 100000 in
set_option maxHeartbeats 8000000 in
theorem rlist_any (B : Nat) (g : GhF) (S : TreeD) (X : Xtra) (cu cg no : Int) (w : World) (h : FAt w B g S X) (hl : S.nodes.length ≤ 1000000) (hu : NosUp S.nodes S.last) (hd : S.devs.length ≤ 1000) (hml : (openN S cu cg no 1 4).ents.length ≤ 1000000) :
    Calls Try.prog 39 #[.pointer (some ⟨g.bF, 0, none⟩), .agg #[.int .i64 cu, .int .i64 cg], .int .i64 no] w (ListQ w (listF S (openN S cu cg no 1 4).ents) (openE S cu cg no 1 4)) := by
  have E0 : Ext w (w.alloc (.cells #[.int .i64 cu, .int .i64 cg] 62)) := (Ext.refl _).alloc _
  go_enter Try.func39, Try.ntmps39
  go_wp2_with fail
  refine (ropen_any B g S X cu cg no 1 4 _ (h.ext E0) hl hu).mono ?_
  rintro e w1 ⟨A1, c1, rfl, ok1, b1⟩
  obtain ⟨m, hm⟩ : ∃ m, m = openN S cu cg no 1 4 := ⟨_, rfl⟩
  obtain ⟨x, hx⟩ : ∃ x, x = openE S cu cg no 1 4 := ⟨_, rfl⟩
  rw [← hm] at hml ok1
  rw [← hm, ← hx]
  have hee := ok1.ents
  have F1 := E0.trans b1
  obtain ⟨W2, hW2⟩ : ∃ W, W = w1.alloc (.cells #[.int .i64 m.no, .int .i64 m.dev, .int .i64 m.kind, .int .i64 m.mode, .int .i64 m.uid, .int .i64 m.gid, .int .i64 m.mtime, .int .i64 m.ctime, .int .i64 m.links, .int .i64 m.up, .string (bs m.data), .slice A1 m.ents.length c1] 100) := ⟨_, rfl⟩
  obtain ⟨b8, hb8⟩ : ∃ b, b = w1.heap.size := ⟨_, rfl⟩
  have N2 : Has W2 b8 (.cells #[.int .i64 m.no, .int .i64 m.dev, .int .i64 m.kind, .int .i64 m.mode, .int .i64 m.uid, .int .i64 m.gid, .int .i64 m.mtime, .int .i64 m.ctime, .int .i64 m.links, .int .i64 m.up, .string (bs m.data), .slice A1 m.ents.length c1] 100) := by rw [hW2, hb8]; exact Has.new _ _
  have F2 : Ext w W2 := by rw [hW2]; exact F1.alloc _
  have he2 : EntsAt W2 A1 m.ents := hee.ents.ext (by rw [hW2]; exact (Ext.refl _).alloc _)
  have HMM := Lib.hid hm
  have HXX := Lib.hid hx
  clear hm hx
  obtain ⟨es, hes⟩ : ∃ es, es = m.ents := ⟨_, rfl⟩
  rw [← hes] at hml he2
  obtain ⟨n, hn⟩ : ∃ n, n = es.length := ⟨_, rfl⟩
  rw [← hn] at hml
  have HN := Lib.hid hn
  have c11 : W2.cell? ⟨b8, 11, none⟩ = some (.slice A1 n c1) := by rw [hn, hes]; exact N2.node12.2.2.2.2.2.2.2.2.2.2.2
  have z8 := N2.lt
  have HES := Lib.hid hes
  clear hee ok1 hes hn N2 E0 b1
  go_upto_region 2 with fail
  rw [← hW2, ← hb8]
  rw [← HES.out]
  clear hW2 hb8 F1
  go_wp2_with fail
  have HM := Lib.hid hml
  obtain ⟨i0, hi, hz0, hz1, hz2⟩ := info_parts infoEnt
  clear hi hz0 hz1 hz2
  go_loopw [10, 11] (fun u i wr => ∃ k : Nat, k ≤ n ∧ i = .int .i64 k ∧ wr.ownsRow W2.heap.size 72 2 u (listF S (es.take k)).length (entCells (listF S (es.take k))) ∧ Ext W2 wr) (fun _ i _ => n - (intOf i).toNat)
  case atStart => exact ⟨0, Nat.zero_le _, rfl, World.ownsRow_nil _ _ _ _, Ext.refl _⟩
  case round =>
    obtain ⟨k, hk, rfl, hown, hE⟩ := hrel
    have q11 : wr.cell? ⟨b8, 11, none⟩ = some (.slice A1 n c1) := (hE.cell z8).trans c11
    have hll : (listF S (es.take k)).length ≤ 2000000 := by rw [listF_len, List.length_take]; omega
    by_cases hlt : (k : Int) < n
    · have hkl : k < es.length := by have := HN.out; omega
      obtain ⟨b, o, rfl, hb, e0, e1⟩ := he2.lt0 hkl
      have y1 : (0 : Int) ≤ (k : Int) := Int.natCast_nonneg _
      have hs := listF_take (S := S) hkl
      generalize es[k] = z at e0 e1 hs
      obtain ⟨L, hL⟩ : ∃ L, L = listF S (es.take k) := ⟨_, rfl⟩
      rw [← hL] at hown hs hll
      have HS := Lib.hid hs
      have HOW := Lib.hid hown
      have KS : Hid (∀ w', Ext W2 w' → (Ext W2 w' ∧ w'.cell? ⟨b8, 11, none⟩ = some (.slice (some ⟨b, o, none⟩) n c1) ∧ w'.cell? ⟨b, o + k * 2, none⟩ = some (.string (bs z.1)) ∧ w'.cell? ⟨b, o + k * 2 + 1, none⟩ = some (.int .i64 z.2))) := fun w' h' => ⟨h', (h'.cell z8).trans c11, (h'.cell hb).trans e0, (h'.cell hb).trans e1⟩
      have hW1 : Ext W2 wr.drew := hE.drew
      have hFw : ∀ w', Ext W2 w' → FAt w' B g S X := fun w' h' => h.ext (F2.trans h')
      have HFW := Lib.hid hFw
      clear hs hL hown hFw
      have w1w : IntKind.i64.wrap ((k : Int) + 1) = (k : Int) + 1 := IntWalk.i64_in _ (by omega)
      have HWR : Hid (Ext wr wr.drew) := Lib.hid ((Ext.refl wr).drew)
      go_wp2_with fail
      go_region_held3 (fun w' => Ext W2 w' ∧ w'.cell? ⟨b8, 11, none⟩ = some (.slice (some ⟨b, o, none⟩) n c1) ∧ w'.cell? ⟨b, o + k * 2, none⟩ = some (.string (bs z.1)) ∧ w'.cell? ⟨b, o + k * 2 + 1, none⟩ = some (.int .i64 z.2))
        ((first | exact KS.out _ hW1 | exact KS.out _ (hW1.trans hbd) | exact KS.out _ ((hW1.trans hbd).alloc _) | exact KS.out _ hE9))
        ((first | (go_at_call 102; refine (rover_any B g S X _ _ (HFW.out _ hW1) hd).mono ?_; rintro e wd ⟨rfl, hbd⟩) | (refine step_append_ent _ (by rfl) _ _ 67 (by rfl) _ _ (by rfl) (by rfl) (app_ent (z.1, overF S.devs z.2) wd (OwnE.ext2 HOW.out (HWR.out.trans hbd)) (hW1.trans hbd).size hll) ?_; rintro v9 w9 ⟨hO9, hg9⟩; have hE9 : Ext W2 w9 := ((hW1.trans hbd).alloc _).grown hg9 (fun g hv => (World.ownsRow.lt (OwnE.ext2 HOW.out (HWR.out.trans hbd)) g hv).1))))
      rw [← HS.out] at hO9
      have HO9 := Lib.hid hO9
      clear hO9 hg9
      go_wp2_with fail
      go_roundw
      case rel => exact ⟨k + 1, by omega, by go_num, HO9.out, hE9⟩
      case measure => simp [intOf]; omega
    · have hkn : k = n := by omega
      have hf : Hid (listF S (es.take k) = listF S es) := by show _ = _; rw [hkn, HN.out, List.take_length]
      obtain ⟨A9, cap9, rfl, _, _, hat⟩ := OwnE.at_ hown
      have HAT := Lib.hid hat
      have HE := Lib.hid (F2.trans hE)
      clear hown hat hE hkn
      go_wp2_with fail
      go_ret2
      refine ⟨A9, cap9, ?_, ?_, HE.out⟩
      · rw [← HXX.out, ← HMM.out, ← HES.out, ← hf.out]; rfl
      · rw [← HMM.out, ← HES.out, ← hf.out]; exact HAT.out
set_option maxRecDepth 100000 in
set_option maxHeartbeats 8000000 in
theorem same16_any (A A' : Option Addr) (cap cap' : Nat) (es : List EntD) (w : World) (ha : EntsAt w A es) (hb : EntsAt w A' es) (hlen : es.length ≤ 1000000) : Calls Try.prog 42 #[.slice A es.length cap, .slice A' es.length cap'] w (Ret w (.bool true)) := by
  obtain ⟨n, hn⟩ : ∃ n, n = es.length := ⟨_, rfl⟩
  rw [← hn] at hlen ⊢
  have HN := Lib.hid hn
  have HA := Lib.hid ha
  have HB := Lib.hid hb
  clear hn ha hb
  go_enter Try.func42, Try.ntmps42
  go_wp2_with fail
  go_loopw [5] (fun i wr => ∃ k : Nat, k ≤ n ∧ i = .int .i64 k ∧ Ext w wr) (fun i _ => n - (intOf i).toNat)
  case atStart => exact ⟨0, Nat.zero_le _, rfl, Ext.refl _⟩
  case round =>
    obtain ⟨k, hk, rfl, hE⟩ := hrel
    by_cases hlt : (k : Int) < n
    · have hkl : k < es.length := by have := HN.out; omega
      obtain ⟨b, o, rfl, hb, e0, e1⟩ := (HA.out.ext hE).lt0 hkl
      obtain ⟨b', o', rfl, hb', e0', e1'⟩ := (HB.out.ext hE).lt0 hkl
      have y1 : (0 : Int) ≤ (k : Int) := Int.natCast_nonneg _
      generalize es[k] = z at e0 e1 e0' e1'
      have w1w : IntKind.i64.wrap ((k : Int) + 1) = (k : Int) + 1 := IntWalk.i64_in _ (by omega)
      go_wp2_with fail
      go_quiet (fail)
      go_wp2_with fail
      go_roundw
      case rel => exact ⟨k + 1, by omega, by go_num, hE.trans ((Ext.refl _).drewN _)⟩
      case measure => simp [intOf]; omega
    · go_wp2_with fail
      go_ret
      exact Ret.mk rfl hE
end Go.Proofs.Ytebghednhjaniaa

namespace Go.Proofs.Ytebghednhjaniaa
open Go.ChangeShapes Go.WideShapes Go.ChangeAt Go.RowKit

def ex16 : ItemD := ⟨0, [102], 2, 384, 5, 0, [97, 98, 99], 0⟩
theorem ex16_few : FewI [ex16] := by
  refine ⟨?_, by decide⟩
  intro x hx
  simp only [List.mem_cons, List.not_mem_nil, or_false] at hx
  subst hx
  exact ⟨by decide, by decide⟩
def b16 : TreeD := growAll (firstT 9 9) [ex16]
theorem b16_tre : Tre 40 b16 := tre_growAll (by decide) ex16_few
theorem b16_l : (listF b16 (openN b16 0 0 1 1 4).ents).length = 1 := by kernel_rfl
theorem b16_e : openE b16 0 0 1 1 4 = 0 := by kernel_rfl
theorem b16_s : (openN b16 5 0 2 2 4).data = [97, 98, 99] := by kernel_rfl
theorem b16_f : openE b16 5 0 2 2 4 = 0 := by kernel_rfl
theorem b16_g : openE b16 6 0 2 2 4 = 6 := by kernel_rfl
theorem b16_h : openE b16 0 0 1 2 4 = 8 := by kernel_rfl
theorem b16_t : (getN b16.nodes 2).data.length = 3 ∧ (getN b16.nodes 2).links = 1 ∧ statE b16 2 = 0 := ⟨by kernel_rfl, by kernel_rfl, by kernel_rfl⟩
theorem b16_i : lookN b16 6 0 1 [102] = 2 ∧ lookE b16 6 0 1 [102] = 0 := ⟨by kernel_rfl, by kernel_rfl⟩
set_option maxRecDepth 100000 in
set_option maxHeartbeats 8000000 in
theorem awake16 (w : World) : Calls Try.prog 34 #[] w (Ret w (.bool true)) := by
  have q0 := b16_tre
  have O0 := Lib.hid q0
  have hl0 : b16.last ≤ 100000 := by have : b16.last = 2 := by kernel_rfl
                                     omega
  have HL0 := Lib.hid hl0
  clear q0 hl0
  go_enter Try.func34, Try.ntmps34
  go_wp2_with fail
  have I1 := Has.new w (.cells #[.int .i64 ex16.dir, .string (bs ex16.name), .int .i64 ex16.kind, .int .i64 ex16.mode, .int .i64 ex16.uid, .int .i64 ex16.gid, .string (bs ex16.data), .int .i64 ex16.n] 138)
  refine (growAll_any 9 9 (some ⟨w.heap.size, 0, none⟩) [ex16] 1 _ (by decide) ex16_few (items_one ex16 I1)).mono ?_
  rintro e w1 ⟨g, f, rfl, ⟨K1, F1⟩, E1⟩
  have X1 : Ext w w1 := ((Ext.refl _).alloc _).trans E1
  have K1 : WAt w1 _ g b16 := K1
  clear I1 F1 E1
  have HK1 := Lib.hid K1
  clear K1
  go_wp2_with fail
  refine (plist_any _ g b16 0 0 1 _ HK1.out O0.out (by decide)).mono ?_
  rintro e w2 ⟨A2, c2, rfl, _, E2⟩
  rw [b16_l, b16_e]
  go_wp2_with fail
  refine (pread_any _ g b16 5 0 2 _ (HK1.out.ext E2) O0.out HL0.out).mono ?_
  rintro e w3 ⟨rfl, E3⟩
  rw [b16_s, b16_f, show bs [97, 98, 99] = (⟨#[97, 98, 99]⟩ : ByteArray) from rfl]
  have E13 := E2.trans E3
  go_wp2_with fail
  refine (pread_any _ g b16 6 0 2 _ (HK1.out.ext E13) O0.out HL0.out).mono ?_
  rintro e w4 ⟨rfl, E4⟩
  rw [b16_g]
  have E14 := E13.trans E4
  go_wp2_with fail
  refine (pread_any _ g b16 0 0 1 _ (HK1.out.ext E14) O0.out HL0.out).mono ?_
  rintro e w5 ⟨rfl, E5⟩
  rw [b16_h]
  have E15 := E14.trans E5
  go_wp2_with fail
  refine (pstat_any _ g b16 2 _ (HK1.out.ext E15) O0.out.devs).mono ?_
  rintro e w6 ⟨rfl, E6⟩
  have E16 := E15.trans E6
  rw [b16_t.2.2]
  unfold statV
  rw [b16_t.1, b16_t.2.1]
  generalize getN b16.nodes 2 = z
  go_wp2_with fail
  refine (plook_any _ g b16 6 0 1 [102] _ (HK1.out.ext (E16.alloc _)) O0.out (by decide) HL0.out).mono ?_
  rintro e w7 ⟨rfl, E7⟩
  rw [b16_i.1, b16_i.2]
  have S7 := (Has.new w6 (.cells #[.int .i64 z.no, .int .i64 z.dev, .int .i64 z.kind, .int .i64 z.mode, .int .i64 z.uid, .int .i64 z.gid, .int .i64 1, .int .i64 3, .int .i64 z.mtime, .int .i64 z.ctime] 75)).ext E7
  have s6 := S7.cell 6
  have s7 := S7.cell 7
  have sz := S7.lt
  go_wp2_with fail
  go_ret
  exact Ret.mk rfl (X1.trans ((E16.alloc _).trans E7))
end Go.Proofs.Ytebghednhjaniaa
