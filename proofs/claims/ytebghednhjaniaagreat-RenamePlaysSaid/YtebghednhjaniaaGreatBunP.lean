/- Layer 19: what a move makes; the program's over. | Layer 19: the program's Move. (Printed by gen_movb.py.) -/
import Derived.Test.YtebghednhjaniaaGreatBunL
import Derived.Test.YtebghednhjaniaaGreatBunF
import Derived.Test.YtebghednhjaniaaGreatBunK
import Derived.Deep.CutBlock
namespace Go.Proofs.YtebghednhjaniaaGreat
open Go.ChangeShapes Go.WideShapes Go.ChangeAt Go.RowKit

attribute [local irreducible] wpQuiet
def putE (S : TreeD) (cu : Int) (d n old : NodeD) : Int :=
  if ¬ overF S.devs old.no = old.no then 16 else if n.kind = 1 ∧ ¬ old.kind = 1 then 9 else if ¬ n.kind = 1 ∧ old.kind = 1 then 8
  else if 0 < (old.ents.length : Int) then 10 else if freeB cu d.mode d.uid old.uid = false then 4 else 0
set_option maxRecDepth 100000 in
set_option maxHeartbeats 8000000 in
theorem pover19_any (B : Nat) (g : GhW) (S : TreeD) (cu cg : Int) (d n old : NodeD) (Ad An Ao : Option Addr) (cd cn co : Nat) (w : World) (h : WAt w B g S) (hd : 0 < S.devs.length) (hd8 : S.devs.length ≤ 8) (hol : old.ents.length ≤ 1000000) :
    Calls Tryz.prog 117 #[.pointer (some ⟨g.bW, 0, none⟩), .agg #[.int .i64 cu, .int .i64 cg], .agg #[.int .i64 d.no, .int .i64 d.dev, .int .i64 d.kind, .int .i64 d.mode, .int .i64 d.uid, .int .i64 d.gid, .int .i64 d.mtime, .int .i64 d.ctime, .int .i64 d.links, .int .i64 d.up, .string (bs d.data), .slice Ad d.ents.length cd], .agg #[.int .i64 n.no, .int .i64 n.dev, .int .i64 n.kind, .int .i64 n.mode, .int .i64 n.uid, .int .i64 n.gid, .int .i64 n.mtime, .int .i64 n.ctime, .int .i64 n.links, .int .i64 n.up, .string (bs n.data), .slice An n.ents.length cn], .agg #[.int .i64 old.no, .int .i64 old.dev, .int .i64 old.kind, .int .i64 old.mode, .int .i64 old.uid, .int .i64 old.gid, .int .i64 old.mtime, .int .i64 old.ctime, .int .i64 old.links, .int .i64 old.up, .string (bs old.data), .slice Ao old.ents.length co]] w (Ret w (.int .i64 (putE S cu d n old))) := by
  obtain ⟨W1, hW1⟩ : ∃ W1, W1 = w.alloc (.cells #[.int .i64 cu, .int .i64 cg] 40) := ⟨_, rfl⟩
  obtain ⟨W2, hW2⟩ : ∃ W2, W2 = W1.alloc (.cells #[.int .i64 d.no, .int .i64 d.dev, .int .i64 d.kind, .int .i64 d.mode, .int .i64 d.uid, .int .i64 d.gid, .int .i64 d.mtime, .int .i64 d.ctime, .int .i64 d.links, .int .i64 d.up, .string (bs d.data), .slice Ad d.ents.length cd] 49) := ⟨_, rfl⟩
  obtain ⟨W3, hW3⟩ : ∃ W3, W3 = W2.alloc (.cells #[.int .i64 n.no, .int .i64 n.dev, .int .i64 n.kind, .int .i64 n.mode, .int .i64 n.uid, .int .i64 n.gid, .int .i64 n.mtime, .int .i64 n.ctime, .int .i64 n.links, .int .i64 n.up, .string (bs n.data), .slice An n.ents.length cn] 49) := ⟨_, rfl⟩
  obtain ⟨W4, hW4⟩ : ∃ W4, W4 = W3.alloc (.cells #[.int .i64 old.no, .int .i64 old.dev, .int .i64 old.kind, .int .i64 old.mode, .int .i64 old.uid, .int .i64 old.gid, .int .i64 old.mtime, .int .i64 old.ctime, .int .i64 old.links, .int .i64 old.up, .string (bs old.data), .slice Ao old.ents.length co] 49) := ⟨_, rfl⟩
  have E1 : Ext w W1 := by rw [hW1]; exact (Ext.refl _).alloc _
  have E2 : Ext W1 W2 := by rw [hW2]; exact (Ext.refl _).alloc _
  have E3 : Ext W2 W3 := by rw [hW3]; exact (Ext.refl _).alloc _
  have E4 : Ext W3 W4 := by rw [hW4]; exact (Ext.refl _).alloc _
  have C1 : Has W1 w.heap.size (.cells #[.int .i64 cu, .int .i64 cg] 40) := by rw [hW1]; exact Has.new _ _
  have z1 : W1.heap.size = w.heap.size + 1 := by rw [hW1]; simp
  have z2 : W2.heap.size = w.heap.size + 1 + 1 := by rw [hW2, World.size_alloc, z1]
  have z3 : W3.heap.size = w.heap.size + 1 + 1 + 1 := by rw [hW3, World.size_alloc, z2]
  have D2 : Has W2 (w.heap.size + 1) (.cells #[.int .i64 d.no, .int .i64 d.dev, .int .i64 d.kind, .int .i64 d.mode, .int .i64 d.uid, .int .i64 d.gid, .int .i64 d.mtime, .int .i64 d.ctime, .int .i64 d.links, .int .i64 d.up, .string (bs d.data), .slice Ad d.ents.length cd] 49) := by rw [hW2, ← z1]; exact Has.new _ _
  have N3 : Has W3 (w.heap.size + 1 + 1) (.cells #[.int .i64 n.no, .int .i64 n.dev, .int .i64 n.kind, .int .i64 n.mode, .int .i64 n.uid, .int .i64 n.gid, .int .i64 n.mtime, .int .i64 n.ctime, .int .i64 n.links, .int .i64 n.up, .string (bs n.data), .slice An n.ents.length cn] 49) := by rw [hW3, ← z2]; exact Has.new _ _
  have O4 : Has W4 (w.heap.size + 1 + 1 + 1) (.cells #[.int .i64 old.no, .int .i64 old.dev, .int .i64 old.kind, .int .i64 old.mode, .int .i64 old.uid, .int .i64 old.gid, .int .i64 old.mtime, .int .i64 old.ctime, .int .i64 old.links, .int .i64 old.up, .string (bs old.data), .slice Ao old.ents.length co] 49) := by rw [hW4, ← z3]; exact Has.new _ _
  have E04 := ((E1.trans E2).trans E3).trans E4
  have C4 := C1.ext ((E2.trans E3).trans E4)
  have D4 := D2.ext (E3.trans E4)
  have N4 := N3.ext E4
  have K4 := h.ext E04
  obtain ⟨b6, hb6⟩ : ∃ b, b = w.heap.size := ⟨_, rfl⟩
  obtain ⟨b7, hb7⟩ : ∃ b, b = w.heap.size + 1 := ⟨_, rfl⟩
  obtain ⟨b8, hb8⟩ : ∃ b, b = w.heap.size + 1 + 1 := ⟨_, rfl⟩
  obtain ⟨b9, hb9⟩ : ∃ b, b = w.heap.size + 1 + 1 + 1 := ⟨_, rfl⟩
  have hm : (putE S cu d n old = if ¬ overF S.devs old.no = old.no then 16 else if n.kind = 1 ∧ ¬ old.kind = 1 then 9 else if ¬ n.kind = 1 ∧ old.kind = 1 then 8
    else if 0 < (old.ents.length : Int) then 10 else if freeB cu d.mode d.uid old.uid = false then 4 else 0) := rfl
  have HW4 : Hid ((((w.alloc (.cells #[.int .i64 cu, .int .i64 cg] 40)).alloc (.cells #[.int .i64 d.no, .int .i64 d.dev, .int .i64 d.kind, .int .i64 d.mode, .int .i64 d.uid, .int .i64 d.gid, .int .i64 d.mtime, .int .i64 d.ctime, .int .i64 d.links, .int .i64 d.up, .string (bs d.data), .slice Ad d.ents.length cd] 49)).alloc (.cells #[.int .i64 n.no, .int .i64 n.dev, .int .i64 n.kind, .int .i64 n.mode, .int .i64 n.uid, .int .i64 n.gid, .int .i64 n.mtime, .int .i64 n.ctime, .int .i64 n.links, .int .i64 n.up, .string (bs n.data), .slice An n.ents.length cn] 49)).alloc (.cells #[.int .i64 old.no, .int .i64 old.dev, .int .i64 old.kind, .int .i64 old.mode, .int .i64 old.uid, .int .i64 old.gid, .int .i64 old.mtime, .int .i64 old.ctime, .int .i64 old.links, .int .i64 old.up, .string (bs old.data), .slice Ao old.ents.length co] 49) = W4) := by show _ = _; rw [hW4, hW3, hW2, hW1]
  clear hW1 hW2 hW3 hW4 E1 E2 E3 E4 C1 z1 z2 z3 D2 N3
  have KO : Hid (∀ u : Gr W4, Calls Tryz.prog 104 #[.pointer (some ⟨g.bW, 0, none⟩), .int .i64 old.no] u.w (Ret u.w (.int .i64 (overF S.devs old.no)))) := by
    show ∀ u : Gr W4, _
    exact fun u => pover_any B g S old.no u.w (K4.ext u.h) hd (by omega)
  go_enter Tryz.func117, Tryz.ntmps117
  go_upto_region 1 with fail
  rw [HW4.out]
  rw [← hb9] at O4
  rw [← hb8] at N4
  rw [← hb7] at D4
  rw [← hb6] at C4
  rw [← hb9, ← hb8, ← hb7, ← hb6]
  clear hb9 hb8 hb7 hb6
  obtain ⟨no, hno⟩ : ∃ no, no = old.no := ⟨_, rfl⟩
  have r0 : ∀ u : Gr W4, u.w.cell? ⟨b9, 0, none⟩ = some (.int .i64 no) := by rw [hno]; exact Gr.cell O4.lt (O4.cell 0)
  obtain ⟨ov, hov⟩ : ∃ ov, ov = overF S.devs no := ⟨_, rfl⟩
  have KO' : Hid (∀ u : Gr W4, Calls Tryz.prog 104 #[.pointer (some ⟨g.bW, 0, none⟩), .int .i64 no] u.w (Ret u.w (.int .i64 ov))) := by rw [hov, hno]; exact KO
  rw [← hno, ← hov] at hm
  clear KO hov hno
  refine wp_region_grow W4 (by kernel_rfl) (by kernel_rfl) (Ext.refl _).drew ?_
  repeat (quiet_step (first
    | ((with_reducible refine (KO'.out _).mono ?_); rintro e w'' ⟨rfl, hEx⟩; exact ⟨rfl, ⟨w'', Ext.trans (Gr.h _) hEx⟩, rfl⟩)))
  refine wpQuiet_nil ?_
  rintro w5 ⟨⟨wy, b5⟩, h5⟩
  dsimp only at h5
  subst h5
  have E5 : Ext w w5 := E04.trans b5
  have C5 := C4.ext b5
  have D5 := D4.ext b5
  have N5 := N4.ext b5
  have O5 := O4.ext b5
  have HE5 := Lib.hid E5
  have n2 : w5.cell? ⟨b8, 2, none⟩ = some (.int .i64 n.kind) := N5.cell 2
  have o2 : w5.cell? ⟨b9, 2, none⟩ = some (.int .i64 old.kind) := O5.cell 2
  obtain ⟨lo, hlo⟩ : ∃ lo, lo = old.ents.length := ⟨_, rfl⟩
  have o11 : w5.cell? ⟨b9, 11, none⟩ = some (.slice Ao lo co) := by rw [hlo]; exact O5.cell 11
  rw [← hlo] at hm
  have hlo' : lo ≤ 1000000 := by omega
  have nz := N5.lt
  have oz := O5.lt
  clear hlo r0 KO' E5 E04 C4 D4 N4 O4 K4 b5
  by_cases c0 : ov = no
  case neg =>
    have t0 : (ov == no) = false := by simpa using c0
    have t0b : (ov != no) = true := by simpa using c0
    have hE : Hid (putE S cu d n old = 16) := by show _ = _; rw [hm, if_pos c0]
    clear hm c0
    go_wp2_with fail
    go_ret
    exact Ret.mk (by rw [hE.out]; rfl) HE5.out
  have t0 : (ov == no) = true := by simpa using c0
  have t0b : (ov != no) = false := by simpa using c0
  have h0 := c0
  rw [if_neg (not_not_intro h0)] at hm
  clear c0 h0
  by_cases c1 : n.kind = 1
  · have t1 : (n.kind == 1) = true := by simpa using c1
    have t1b : (n.kind != 1) = false := by simpa using c1
    by_cases c2 : old.kind = 1
    case neg =>
      have t2 : (old.kind == 1) = false := by simpa using c2
      have t2b : (old.kind != 1) = true := by simpa using c2
      have hE : Hid (putE S cu d n old = 9) := by show _ = _; rw [hm, if_pos ⟨c1, c2⟩]
      clear hm c1 c2
      go_wp2_with fail
      go_ret
      exact Ret.mk (by rw [hE.out]; rfl) HE5.out
    have t2 : (old.kind == 1) = true := by simpa using c2
    have t2b : (old.kind != 1) = false := by simpa using c2
    rw [if_neg (fun h => h.2 c2), if_neg (fun h => h.1 c1)] at hm
    clear c1 c2
    by_cases c3 : 0 < (lo : Int)
    · have t3 : decide ((0 : Int) < (lo : Int)) = true := decide_eq_true c3
      have t3b : decide (0 < lo) = true := decide_eq_true (by omega)
      have t3c : 0 < lo := by omega
      have hE : Hid (putE S cu d n old = 10) := by show _ = _; rw [hm, if_pos c3]
      clear hm c3
      go_wp2_with fail
      go_ret
      exact Ret.mk (by rw [hE.out]; rfl) HE5.out
    have t3 : decide ((0 : Int) < (lo : Int)) = false := decide_eq_false c3
    have t3b : decide (0 < lo) = false := decide_eq_false (by omega)
    obtain rfl : lo = 0 := by omega
    clear hlo'
    rw [if_neg c3] at hm
    have x0 : w5.cell? ⟨b6, 0, none⟩ = some (.int .i64 cu) := C5.cell 0
    have x1 : w5.cell? ⟨b6, 1, none⟩ = some (.int .i64 cg) := C5.cell 1
    have xz := C5.lt
    obtain ⟨fb, hfb⟩ : ∃ fb, fb = freeB cu d.mode d.uid old.uid := ⟨_, rfl⟩
    rw [← hfb] at hm
    have HFB := Lib.hid hfb
    clear c3 hfb
    go_wp2_with (first | (refine wpList_load_node rfl _ rfl b7 d Ad cd rfl D5 ?_) | (refine wpList_load_node rfl _ rfl b9 old Ao co rfl O5 ?_))
    all_goals
      refine (pfree_any cu cg _ _ _ d.mode d.uid _ _ _ _ _ _ _ _ _ _ _ old.uid _ _ _ _ _ _ _ _).mono ?_
      rw [← HFB.out]
      rintro e w6 ⟨rfl, b6'⟩
      clear x0 x1 xz n2 o2 o11 nz oz
      cases fb
      · have hE : Hid (putE S cu d n old = 4) := by show _ = _; rw [hm, if_pos rfl]
        clear hm
        go_wp2_with fail
        go_ret
        exact Ret.mk (by rw [hE.out]; rfl) (HE5.out.trans b6')
      · have hE : Hid (putE S cu d n old = 0) := by show _ = _; rw [hm, if_neg (by decide)]
        clear hm
        go_wp2_with fail
        go_ret
        exact Ret.mk (by rw [hE.out]; rfl) (HE5.out.trans b6')
  · have t1 : (n.kind == 1) = false := by simpa using c1
    have t1b : (n.kind != 1) = true := by simpa using c1
    by_cases c2 : old.kind = 1
    · have t2 : (old.kind == 1) = true := by simpa using c2
      have t2b : (old.kind != 1) = false := by simpa using c2
      have hE : Hid (putE S cu d n old = 8) := by show _ = _; rw [hm, if_neg (fun h => c1 h.1), if_pos ⟨c1, c2⟩]
      clear hm c1 c2
      go_wp2_with fail
      go_ret
      exact Ret.mk (by rw [hE.out]; rfl) HE5.out
    have t2 : (old.kind == 1) = false := by simpa using c2
    have t2b : (old.kind != 1) = true := by simpa using c2
    rw [if_neg (fun h => c1 h.1), if_neg (fun h => c2 h.2)] at hm
    clear c1 c2
    by_cases c3 : 0 < (lo : Int)
    · have t3 : decide ((0 : Int) < (lo : Int)) = true := decide_eq_true c3
      have t3b : decide (0 < lo) = true := decide_eq_true (by omega)
      have t3c : 0 < lo := by omega
      have hE : Hid (putE S cu d n old = 10) := by show _ = _; rw [hm, if_pos c3]
      clear hm c3
      go_wp2_with fail
      go_ret
      exact Ret.mk (by rw [hE.out]; rfl) HE5.out
    have t3 : decide ((0 : Int) < (lo : Int)) = false := decide_eq_false c3
    have t3b : decide (0 < lo) = false := decide_eq_false (by omega)
    obtain rfl : lo = 0 := by omega
    clear hlo'
    rw [if_neg c3] at hm
    have x0 : w5.cell? ⟨b6, 0, none⟩ = some (.int .i64 cu) := C5.cell 0
    have x1 : w5.cell? ⟨b6, 1, none⟩ = some (.int .i64 cg) := C5.cell 1
    have xz := C5.lt
    obtain ⟨fb, hfb⟩ : ∃ fb, fb = freeB cu d.mode d.uid old.uid := ⟨_, rfl⟩
    rw [← hfb] at hm
    have HFB := Lib.hid hfb
    clear c3 hfb
    go_wp2_with (first | (refine wpList_load_node rfl _ rfl b7 d Ad cd rfl D5 ?_) | (refine wpList_load_node rfl _ rfl b9 old Ao co rfl O5 ?_))
    all_goals
      refine (pfree_any cu cg _ _ _ d.mode d.uid _ _ _ _ _ _ _ _ _ _ _ old.uid _ _ _ _ _ _ _ _).mono ?_
      rw [← HFB.out]
      rintro e w6 ⟨rfl, b6'⟩
      clear x0 x1 xz n2 o2 o11 nz oz
      cases fb
      · have hE : Hid (putE S cu d n old = 4) := by show _ = _; rw [hm, if_pos rfl]
        clear hm
        go_wp2_with fail
        go_ret
        exact Ret.mk (by rw [hE.out]; rfl) (HE5.out.trans b6')
      · have hE : Hid (putE S cu d n old = 0) := by show _ = _; rw [hm, if_neg (by decide)]
        clear hm
        go_wp2_with fail
        go_ret
        exact Ret.mk (by rw [hE.out]; rfl) (HE5.out.trans b6')
end Go.Proofs.YtebghednhjaniaaGreat

namespace Go.Proofs.YtebghednhjaniaaGreat
open Go.ChangeShapes Go.WideShapes Go.ChangeAt Go.RowKit

attribute [local irreducible] wpQuiet
/-- What a move meets: the node in whose place it comes. -/
def oldNo (S : TreeD) (cu cg to_ : Int) (b : List UInt8) : Int := findF (placeN S cu cg to_ b).ents b
def sameB (S : TreeD) (cu cg fr to_ : Int) (a b : List UInt8) : Prop := isN S.nodes (oldNo S cu cg to_ b) = true ∧ (getN S.nodes (oldNo S cu cg to_ b)).no = (leaveN S cu cg fr a).no
instance (S : TreeD) (cu cg fr to_ : Int) (a b : List UInt8) : Decidable (sameB S cu cg fr to_ a b) := by unfold sameB; exact inferInstance
def moveX (S : TreeD) (cu cg fr to_ x y : Int) (d n t : NodeD) (is : Bool) (old : NodeD) : Int :=
  if ¬ x = 0 then x else if ¬ y = 0 then y else if ¬ d.dev = t.dev then 11 else if n.kind = 1 ∧ withinF S to_ n.no = true then 17
  else if is = true ∧ old.no = n.no then 0 else if n.kind = 1 ∧ ¬ fr = to_ ∧ mayB cu cg n.uid n.gid n.mode 2 = false then 6
  else if is = true then putE S cu t n old else 0
def moveE (S : TreeD) (cu cg fr to_ : Int) (a b : List UInt8) : Int :=
  moveX S cu cg fr to_ (leaveE S cu cg fr a) (placeE S cu cg to_ b) (leaveD S cu cg fr a) (leaveN S cu cg fr a) (placeN S cu cg to_ b) (isN S.nodes (oldNo S cu cg to_ b)) (getN S.nodes (oldNo S cu cg to_ b))
/-- What comes in the place of what. -/
def overT (S : TreeD) (now no : Int) : TreeD := if isN S.nodes no = true then lessT S now (getN S.nodes no) else S
def laidN (now to_ : Int) (n : NodeD) : NodeD := { n with ctime := now, up := if n.kind = 1 then to_ else n.up }
def laidT (T : TreeD) (now fr to_ : Int) (a b : List UInt8) (d n : NodeD) : TreeD :=
  setT (touchT (touchT T fr now (dropF d.ents a)) to_ now (putF (getN (touchT T fr now (dropF d.ents a)).nodes to_).ents (b, n.no))) (laidN now to_ n)
def moveT (S : TreeD) (cu cg now fr to_ : Int) (a b : List UInt8) : TreeD :=
  if moveE S cu cg fr to_ a b = 0 ∧ ¬ sameB S cu cg fr to_ a b then laidT (overT S now (oldNo S cu cg to_ b)) now fr to_ a b (leaveD S cu cg fr a) (leaveN S cu cg fr a) else S
theorem all_over {S : TreeD} {P : NodeD → Prop} (h : ∀ m ∈ S.nodes, P m) (now no : Int) (hl : ∀ m, P m → P (lessN now m)) : ∀ m ∈ (overT S now no).nodes, P m := by
  unfold overT
  split
  · rename_i hi
    have hs : ∀ m ∈ (setT S (lessN now (getN S.nodes no))).nodes, P m := fun m hm => by
      rcases mem_setN hm with hm | rfl
      · exact h m hm
      · exact hl _ (h _ (isN_true hi).2.2)
    unfold lessT
    split
    · unfold killT
      split
      · exact fun m hm => hs m (List.mem_filter.1 hm).1
      · exact hs
    · exact hs
  · exact h
set_option maxRecDepth 100000 in
set_option maxHeartbeats 16000000 in
theorem pmove_any (B : Nat) (g : GhW) (S : TreeD) (r : Int → Nat) (cu cg now fr to_ : Int) (a b : List UInt8) (w : World) (h : WAt w B g S) (O : Ok S) (R : Rank S r) :
    Calls Tryz.prog 51 #[.pointer (some ⟨g.bW, 0, none⟩), .agg #[.int .i64 cu, .int .i64 cg], .int .i64 now, .int .i64 fr, .string (bs a), .int .i64 to_, .string (bs b)] w (ErrR w B g (moveT S cu cg now fr to_ a b) (moveE S cu cg fr to_ a b)) := by
  obtain ⟨W0, hW0⟩ : ∃ W0, W0 = w.alloc (.cells #[.int .i64 cu, .int .i64 cg] 40) := ⟨_, rfl⟩
  have E0 : Ext w W0 := by rw [hW0]; exact (Ext.refl _).alloc _
  have C0 : Has W0 w.heap.size (.cells #[.int .i64 cu, .int .i64 cg] 40) := by rw [hW0]; exact Has.new w _
  have HO := Lib.hid O
  have HR := Lib.hid R
  have HE : Hid (moveE S cu cg fr to_ a b = moveX S cu cg fr to_ (leaveE S cu cg fr a) (placeE S cu cg to_ b) (leaveD S cu cg fr a) (leaveN S cu cg fr a) (placeN S cu cg to_ b) (isN S.nodes (oldNo S cu cg to_ b)) (getN S.nodes (oldNo S cu cg to_ b))) := by show _ = _; rfl
  have HZ : Hid (leaveE S cu cg fr a = 0 → _) := fun h0 => leaveE_zero (nm := a) h0
  have HP : Hid (placeE S cu cg to_ b = 0 → _) := fun h0 => placeE_zero (nm := b) h0
  have HS : Hid (∀ (w' : World) (x : Int), Ext w w' → moveE S cu cg fr to_ a b = x → (x ≠ 0 ∨ sameB S cu cg fr to_ a b) → ErrR w B g (moveT S cu cg now fr to_ a b) (moveE S cu cg fr to_ a b) (.returned (.int .i64 x)) w') := by
    show ∀ (w' : World) (x : Int), _
    intro w' x hE hx h0
    rw [hx]
    refine errR_same h hE ?_
    unfold moveT
    rw [if_neg]
    rintro ⟨h1, h2⟩
    rcases h0 with h0 | h0
    · exact h0 (hx.symm.trans h1)
    · exact h2 h0
  have x0 : W0.cell? ⟨w.heap.size, 0, none⟩ = some (.int .i64 cu) := C0.cell 0
  have x1 : W0.cell? ⟨w.heap.size, 1, none⟩ = some (.int .i64 cg) := C0.cell 1
  have xz := C0.lt
  clear O R
  go_enter Tryz.func51, Tryz.ntmps51
  go_upto_region 1 with fail
  rw [← hW0]
  clear hW0
  go_wp2_with fail
  refine (pleave_any B g S cu cg fr a _ (h.ext E0) HO.out).mono ?_
  rintro e w2 ⟨A1, c1, A2, c2, rfl, okd, okn, b2⟩
  obtain ⟨d, hd⟩ : ∃ d, d = leaveD S cu cg fr a := ⟨_, rfl⟩
  obtain ⟨n, hn⟩ : ∃ n, n = leaveN S cu cg fr a := ⟨_, rfl⟩
  obtain ⟨x, hx⟩ : ∃ x, x = leaveE S cu cg fr a := ⟨_, rfl⟩
  rw [← hd] at okd
  rw [← hn] at okn
  rw [← hd, ← hn, ← hx]
  rw [← hx] at HZ
  rw [← hd, ← hn, ← hx] at HE
  have HDD := Lib.hid hd
  have HNN := Lib.hid hn
  obtain ⟨W3, hW3⟩ : ∃ W3, W3 = (w2.alloc (.cells #[.int .i64 d.no, .int .i64 d.dev, .int .i64 d.kind, .int .i64 d.mode, .int .i64 d.uid, .int .i64 d.gid, .int .i64 d.mtime, .int .i64 d.ctime, .int .i64 d.links, .int .i64 d.up, .string (bs d.data), .slice A1 d.ents.length c1] 49)).alloc (.cells #[.int .i64 n.no, .int .i64 n.dev, .int .i64 n.kind, .int .i64 n.mode, .int .i64 n.uid, .int .i64 n.gid, .int .i64 n.mtime, .int .i64 n.ctime, .int .i64 n.links, .int .i64 n.up, .string (bs n.data), .slice A2 n.ents.length c2] 49) := ⟨_, rfl⟩
  have E23 : Ext w2 W3 := by rw [hW3]; exact ((Ext.refl _).alloc _).alloc _
  obtain ⟨b15, hb15⟩ : ∃ b, b = w2.heap.size := ⟨_, rfl⟩
  have D3 : Has W3 b15 (.cells #[.int .i64 d.no, .int .i64 d.dev, .int .i64 d.kind, .int .i64 d.mode, .int .i64 d.uid, .int .i64 d.gid, .int .i64 d.mtime, .int .i64 d.ctime, .int .i64 d.links, .int .i64 d.up, .string (bs d.data), .slice A1 d.ents.length c1] 49) := by rw [hW3, hb15]; exact (Has.new w2 _).alloc _
  have N3 : Has W3 (b15 + 1) (.cells #[.int .i64 n.no, .int .i64 n.dev, .int .i64 n.kind, .int .i64 n.mode, .int .i64 n.uid, .int .i64 n.gid, .int .i64 n.mtime, .int .i64 n.ctime, .int .i64 n.links, .int .i64 n.up, .string (bs n.data), .slice A2 n.ents.length c2] 49) := by
    rw [hW3, hb15]
    have := Has.new (w2.alloc (.cells #[.int .i64 d.no, .int .i64 d.dev, .int .i64 d.kind, .int .i64 d.mode, .int .i64 d.uid, .int .i64 d.gid, .int .i64 d.mtime, .int .i64 d.ctime, .int .i64 d.links, .int .i64 d.up, .string (bs d.data), .slice A1 d.ents.length c1] 49)) (.cells #[.int .i64 n.no, .int .i64 n.dev, .int .i64 n.kind, .int .i64 n.mode, .int .i64 n.uid, .int .i64 n.gid, .int .i64 n.mtime, .int .i64 n.ctime, .int .i64 n.links, .int .i64 n.up, .string (bs n.data), .slice A2 n.ents.length c2] 49)
    rwa [World.size_alloc] at this
  have okd3 := okd.ext E23
  have okn3 := okn.ext E23
  have E3 := (E0.trans b2).trans E23
  have C3 := C0.ext (b2.trans E23)
  have hb15w : w.heap.size ≤ b15 := by rw [hb15]; exact (E0.trans b2).size
  clear x0 x1 xz hd hn hx C0 okd okn E23
  go_upto_region 2 with fail
  rw [← hW3]
  rw [← hb15]
  clear hW3 hb15
  by_cases hx0 : x = 0
  case neg =>
    have t0 : (x == 0) = false := by simpa using hx0
    have t0b : (x != 0) = true := by simpa using hx0
    have hE : Hid (moveE S cu cg fr to_ a b = x) := by show _ = _; rw [HE.out]; unfold moveX; rw [if_pos hx0]
    have HX := Lib.hid hx0
    clear hx0
    go_wp2_with fail
    go_ret
    exact HS.out _ _ E3 hE.out (.inl HX.out)
  have t0 : (x == 0) = true := by simpa using hx0
  have t0b : (x != 0) = false := by simpa using hx0
  have HLZ := Lib.hid (HZ.out hx0)
  have HX0 := Lib.hid hx0
  have x0 : W3.cell? ⟨w.heap.size, 0, none⟩ = some (.int .i64 cu) := C3.cell 0
  have x1 : W3.cell? ⟨w.heap.size, 1, none⟩ = some (.int .i64 cg) := C3.cell 1
  have xz := C3.lt
  clear hx0 HZ
  go_wp2_with fail
  refine (pplace_any B g S cu cg to_ b _ (h.ext E3) HO.out.live.devs).mono ?_
  rintro e w4 ⟨A4, c4, rfl, okt, b4⟩
  obtain ⟨t, ht⟩ : ∃ t, t = placeN S cu cg to_ b := ⟨_, rfl⟩
  obtain ⟨y, hy⟩ : ∃ y, y = placeE S cu cg to_ b := ⟨_, rfl⟩
  rw [← ht] at okt
  rw [← ht, ← hy]
  rw [← ht, ← hy] at HE
  rw [← hy] at HP
  have HTT := Lib.hid ht
  have HYY := Lib.hid hy
  obtain ⟨W5, hW5⟩ : ∃ W5, W5 = w4.alloc (.cells #[.int .i64 t.no, .int .i64 t.dev, .int .i64 t.kind, .int .i64 t.mode, .int .i64 t.uid, .int .i64 t.gid, .int .i64 t.mtime, .int .i64 t.ctime, .int .i64 t.links, .int .i64 t.up, .string (bs t.data), .slice A4 t.ents.length c4] 49) := ⟨_, rfl⟩
  have E45 : Ext w4 W5 := by rw [hW5]; exact (Ext.refl _).alloc _
  obtain ⟨b18, hb18⟩ : ∃ b, b = w4.heap.size := ⟨_, rfl⟩
  have T5 : Has W5 b18 (.cells #[.int .i64 t.no, .int .i64 t.dev, .int .i64 t.kind, .int .i64 t.mode, .int .i64 t.uid, .int .i64 t.gid, .int .i64 t.mtime, .int .i64 t.ctime, .int .i64 t.links, .int .i64 t.up, .string (bs t.data), .slice A4 t.ents.length c4] 49) := by rw [hW5, hb18]; exact Has.new w4 _
  have E35 := b4.trans E45
  have okd5 := okd3.ext E35
  have okn5 := okn3.ext E35
  have okt5 := okt.ext E45
  have D5 := D3.ext E35
  have N5 := N3.ext E35
  have C5 := C3.ext E35
  have E5 := E3.trans E35
  have hb18w : b15 + 1 < b18 := by rw [hb18]; have := N3.lt; have := b4.size; omega
  clear x0 x1 xz ht hy okt E45 D3 N3 C3 okd3 okn3 b4
  go_upto_region 5 with fail
  rw [← hW5]
  rw [← hb18]
  clear hW5 hb18
  by_cases hy0 : y = 0
  case neg =>
    have t1 : (y == 0) = false := by simpa using hy0
    have t1b : (y != 0) = true := by simpa using hy0
    have hE : Hid (moveE S cu cg fr to_ a b = y) := by show _ = _; rw [HE.out]; unfold moveX; rw [if_neg (not_not_intro HX0.out), if_pos hy0]
    have HX := Lib.hid hy0
    clear hy0
    go_wp2_with fail
    go_ret
    exact HS.out _ _ E5 hE.out (.inl HX.out)
  have t1 : (y == 0) = true := by simpa using hy0
  have t1b : (y != 0) = false := by simpa using hy0
  have HPZ := Lib.hid (HP.out hy0)
  have HY0 := Lib.hid hy0
  have HPN : Hid (t = getN S.nodes to_) := Lib.hid (HTT.out.trans (placeN_zero (by rw [← HYY.out]; exact hy0)))
  obtain ⟨old_, hold⟩ : ∃ o, o = oldNo S cu cg to_ b := ⟨_, rfl⟩
  have hold2 : findF t.ents b = old_ := by rw [hold, HTT.out]; rfl
  have hre := HO.out.entsN to_
  rw [← HPN.out] at hre
  have KF : Hid (∀ u : Gr W5, Calls Tryz.prog 79 #[.slice A4 t.ents.length c4, .string (bs b)] u.w (Ret u.w (.int .i64 old_))) := by
    show ∀ u : Gr W5, _
    intro u
    rw [← hold2, ← numOf_findF hre.1]
    exact find_any A4 t.ents c4 b u.w (okt5.ext u.h).ents.ents hre.1 (by have := hre.2; omega)
  have K5 := h.ext E5
  obtain ⟨A6, c6, ok6, C6⟩ := tget_fix B g S old_ W5 K5
  obtain ⟨o, ho⟩ : ∃ o, o = getN S.nodes old_ := ⟨_, rfl⟩
  obtain ⟨is, his⟩ : ∃ is, is = isN S.nodes old_ := ⟨_, rfl⟩
  rw [← ho] at ok6 C6
  rw [← his] at C6
  rw [← hold, ← ho, ← his] at HE
  have HC6 := Lib.hid C6
  have HOO := Lib.hid ho
  have HIS := Lib.hid his
  have HOLD := Lib.hid hold
  obtain ⟨_, _, cdw, hWw, _⟩ := id K5
  have v0 : ∀ u : Gr W5, u.w.cell? ⟨g.bW, 0, none⟩ = some (.pointer (some ⟨g.bT, 0, none⟩)) := Gr.cell hWw.lt (hWw.cell 0)
  have t11 : ∀ u : Gr W5, u.w.cell? ⟨b18, 11, none⟩ = some (.slice A4 t.ents.length c4) := Gr.cell T5.lt (T5.cell 11)
  clear hy0 HP hold hold2 hre C6 ho his hWw
  go_upto_region 7 with fail
  refine wp_region_nbox W5 12 13 19 57 o A6 c6 _ _ (by kernel_rfl) (by kernel_rfl) rfl rfl rfl rfl (by simp) ((Ext.refl _).drew) ?_
  simp only [List.take_succ_cons, List.take_zero, List.drop_succ_cons, List.drop_zero, List.drop_nil]
  repeat (refine wpQuietR_step (fun K hK => ?_)
          go_simp
          first
            | (refine hK _ ?_; clear hK K)
            | (apply Exists.intro
               refine ⟨fun u => ?_, hK _ ?_⟩
               first
                 | ((with_reducible refine (KF.out _).mono ?_); rintro e w'' ⟨rfl, hx⟩; exact ⟨rfl, hx⟩)
                 | ((with_reducible refine (HC6.out _ u.h).mono ?_); rintro e w'' ⟨rfl, hx⟩; exact ⟨rfl, hx⟩)
               clear hK K))
  refine wpQuietR_nil ?_
  refine wpQuietR_nil ⟨rfl, ?_⟩
  repeat (refine wpQuietR_step (fun K hK => ?_); go_simp; refine hK _ ?_; clear hK K)
  refine wpQuietR_nil ?_
  intro w6 b19 E56 hb19 O6
  simp only [Act.put]
  have okd6 := okd5.ext E56
  have okn6 := okn5.ext E56
  have okt6 := okt5.ext E56
  have oko6 := ok6.ext E56
  have D6 := D5.ext E56
  have N6 := N5.ext E56
  have T6 := T5.ext E56
  have C6' := C5.ext E56
  have X6 := E5.trans E56
  have hb19w : b18 < b19 := by have := T5.lt; omega
  have HKS : Hid (moveE S cu cg fr to_ a b = moveX S cu cg fr to_ x y d n t is o) := HE
  have HSM : Hid (sameB S cu cg fr to_ a b ↔ (is = true ∧ o.no = n.no)) := by
    refine Lib.hid ?_
    unfold sameB
    rw [HIS.out, HOO.out, HNN.out, HOLD.out]
  have HX6 := Lib.hid X6
  have e1 : w6.cell? ⟨b15, 1, none⟩ = some (.int .i64 d.dev) := D6.cell 1
  have e2 : w6.cell? ⟨b18, 1, none⟩ = some (.int .i64 t.dev) := T6.cell 1
  have e3 : w6.cell? ⟨b15 + 1, 2, none⟩ = some (.int .i64 n.kind) := N6.cell 2
  have e4 : w6.cell? ⟨b15 + 1, 0, none⟩ = some (.int .i64 n.no) := N6.cell 0
  have e5 : w6.cell? ⟨b19, 0, none⟩ = some (.int .i64 o.no) := O6.cell 0
  have z1 := D6.lt
  have z2 := T6.lt
  have z3 := N6.lt
  have z4 := O6.lt
  clear v0 t11 KF HC6 okd5 okn5 okt5 ok6 D5 N5 T5 C5 E5 E56 hb19 K5 E3 E35 X6 HE
  go_upto_block 0 with fail
  go_simp
  go_cut [59] (fun _ wc => Ext w6 wc ∧ d.dev = t.dev ∧ ¬ (n.kind = 1 ∧ withinF S to_ n.no = true) ∧ ¬ (is = true ∧ o.no = n.no) ∧ ¬ (n.kind = 1 ∧ ¬ fr = to_ ∧ mayB cu cg n.uid n.gid n.mode 2 = false))
  case first =>
    by_cases q1 : d.dev = t.dev
    case neg =>
      have s1 : (d.dev == t.dev) = false := by simpa using q1
      have s1b : (d.dev != t.dev) = true := by simpa using q1
      have hE : Hid (moveE S cu cg fr to_ a b = 11) := by show _ = _; rw [HKS.out]; unfold moveX; rw [if_neg (not_not_intro HX0.out), if_neg (not_not_intro HY0.out), if_pos q1]
      clear q1
      go_wp2_with fail
      go_ret
      exact HS.out _ _ HX6.out hE.out (.inl (by decide))
    have s1 : (d.dev == t.dev) = true := by simpa using q1
    have s1b : (d.dev != t.dev) = false := by simpa using q1
    have Q1 := Lib.hid q1
    clear q1
    by_cases q2 : n.kind = 1
    case neg =>
      have s2 : (n.kind == 1) = false := by simpa using q2
      have Q2 := Lib.hid q2
      clear q2
      cases is
      · have HNS : Hid (¬ (false = true ∧ o.no = n.no)) := Lib.hid (fun h => absurd h.1 (by decide))
        go_wp2_with fail
        go_meet
        exact ⟨Ext.refl _, Q1.out, fun h => Q2.out h.1, HNS.out, fun h => Q2.out h.1⟩
      · by_cases q3 : o.no = n.no
        · have s3 : (o.no == n.no) = true := by simpa using q3
          have hE : Hid (moveE S cu cg fr to_ a b = 0) := by show _ = _; rw [HKS.out]; unfold moveX; rw [if_neg (not_not_intro HX0.out), if_neg (not_not_intro HY0.out), if_neg (not_not_intro Q1.out), if_neg (fun h => Q2.out h.1), if_pos ⟨rfl, q3⟩]
          have hsm : Hid (sameB S cu cg fr to_ a b) := Lib.hid (HSM.out.2 ⟨rfl, q3⟩)
          clear q3
          go_wp2_with fail
          go_ret
          exact HS.out _ _ HX6.out hE.out (.inr hsm.out)
        have s3 : (o.no == n.no) = false := by simpa using q3
        have HNS : Hid (¬ (true = true ∧ o.no = n.no)) := Lib.hid (fun h => q3 h.2)
        clear q3
        go_wp2_with fail
        go_meet
        exact ⟨Ext.refl _, Q1.out, fun h => Q2.out h.1, HNS.out, fun h => Q2.out h.1⟩
    have s2 : (n.kind == 1) = true := by simpa using q2
    have Q2 := Lib.hid q2
    clear q2
    go_wp2_with fail
    refine (pwithin_any B g S r to_ n.no _ (h.ext HX6.out) HO.out.live.devs HO.out.live.eight HO.out.live.roots HO.out.live.nos HR.out).mono ?_
    rintro e w7 ⟨rfl, b7⟩
    have B7 := Lib.hid b7
    have X7 := HX6.out.trans b7
    obtain ⟨wi, hwi⟩ : ∃ wi, wi = withinF S to_ n.no := ⟨_, rfl⟩
    rw [← hwi]
    have HWI := Lib.hid hwi
    have e3' : w7.cell? ⟨b15 + 1, 2, none⟩ = some (.int .i64 n.kind) := (N6.ext b7).cell 2
    have e4' : w7.cell? ⟨b15 + 1, 0, none⟩ = some (.int .i64 n.no) := (N6.ext b7).cell 0
    have e5' : w7.cell? ⟨b19, 0, none⟩ = some (.int .i64 o.no) := (O6.ext b7).cell 0
    have z3' := (N6.ext b7).lt
    have z4' := (O6.ext b7).lt
    clear hwi b7 e1 e2 e3 e4 e5 z1 z2 z3 z4
    cases wi
    case true =>
      have hE : Hid (moveE S cu cg fr to_ a b = 17) := by show _ = _; rw [HKS.out]; unfold moveX; rw [if_neg (not_not_intro HX0.out), if_neg (not_not_intro HY0.out), if_neg (not_not_intro Q1.out), if_pos ⟨Q2.out, HWI.out.symm⟩]
      go_wp2_with fail
      go_ret
      exact HS.out _ _ X7 hE.out (.inl (by decide))
    have HNW : Hid (¬ (n.kind = 1 ∧ withinF S to_ n.no = true)) := Lib.hid (fun h => by rw [← HWI.out] at h; exact absurd h.2 (by decide))
    cases is
    · have HNS : Hid (¬ (false = true ∧ o.no = n.no)) := Lib.hid (fun h => absurd h.1 (by decide))
      by_cases q4 : fr = to_
      · have s4 : (fr == to_) = true := by simpa using q4
        have s4b : (fr != to_) = false := by simpa using q4
        have Q4 := Lib.hid q4
        clear q4
        go_wp2_with fail
        go_meet
        exact ⟨B7.out, Q1.out, HNW.out, HNS.out, fun h => h.2.1 Q4.out⟩
      have s4 : (fr == to_) = false := by simpa using q4
      have s4b : (fr != to_) = true := by simpa using q4
      have Q4 := Lib.hid q4
      have x0 : w7.cell? ⟨w.heap.size, 0, none⟩ = some (.int .i64 cu) := (C6'.ext B7.out).cell 0
      have x1 : w7.cell? ⟨w.heap.size, 1, none⟩ = some (.int .i64 cg) := (C6'.ext B7.out).cell 1
      have xz := (C6'.ext B7.out).lt
      obtain ⟨n0, n1, n2, n3, n4, n5, n6, n7, n8, n9, n10, n11⟩ := (N6.ext B7.out).node12
      obtain ⟨u, hu⟩ : ∃ u, u = mayB cu cg n.uid n.gid n.mode 2 := ⟨_, rfl⟩
      have HU := Lib.hid hu
      have HE6 : Hid (u = false → moveE S cu cg fr to_ a b = 6) := Lib.hid (fun hu' => by rw [HKS.out]; unfold moveX; rw [if_neg (not_not_intro HX0.out), if_neg (not_not_intro HY0.out), if_neg (not_not_intro Q1.out), if_neg HNW.out, if_neg HNS.out, if_pos ⟨Q2.out, Q4.out, by rw [← HU.out]; exact hu'⟩])
      clear q4 hu e3' e4'
      go_wp2_with fail
      refine (pnode_any cu cg _ _ _ n.mode n.uid n.gid _ _ _ _ _ _ 2 _).mono ?_
      rw [← HU.out]
      rintro e w8 ⟨rfl, b8⟩
      clear x0 x1 xz n0 n1 n2 n3 n4 n5 n6 n7 n8 n9 n10 n11
      cases u
      · have hE : Hid (moveE S cu cg fr to_ a b = 6) := Lib.hid (HE6.out rfl)
        go_wp2_with fail
        go_ret
        exact HS.out _ _ (X7.trans b8) hE.out (.inl (by decide))
      · go_wp2_with fail
        go_meet
        exact ⟨B7.out.trans b8, Q1.out, HNW.out, HNS.out, fun h => by rw [← HU.out] at h; exact absurd h.2.2 (by decide)⟩
    · by_cases q3 : o.no = n.no
      · have s3 : (o.no == n.no) = true := by simpa using q3
        have hE : Hid (moveE S cu cg fr to_ a b = 0) := by show _ = _; rw [HKS.out]; unfold moveX; rw [if_neg (not_not_intro HX0.out), if_neg (not_not_intro HY0.out), if_neg (not_not_intro Q1.out), if_neg HNW.out, if_pos ⟨rfl, q3⟩]
        have hsm : Hid (sameB S cu cg fr to_ a b) := Lib.hid (HSM.out.2 ⟨rfl, q3⟩)
        clear q3
        go_wp2_with fail
        go_ret
        exact HS.out _ _ X7 hE.out (.inr hsm.out)
      have s3 : (o.no == n.no) = false := by simpa using q3
      have HNS : Hid (¬ (true = true ∧ o.no = n.no)) := Lib.hid (fun h => q3 h.2)
      clear q3
      by_cases q4 : fr = to_
      · have s4 : (fr == to_) = true := by simpa using q4
        have s4b : (fr != to_) = false := by simpa using q4
        have Q4 := Lib.hid q4
        clear q4
        go_wp2_with fail
        go_meet
        exact ⟨B7.out, Q1.out, HNW.out, HNS.out, fun h => h.2.1 Q4.out⟩
      have s4 : (fr == to_) = false := by simpa using q4
      have s4b : (fr != to_) = true := by simpa using q4
      have Q4 := Lib.hid q4
      have x0 : w7.cell? ⟨w.heap.size, 0, none⟩ = some (.int .i64 cu) := (C6'.ext B7.out).cell 0
      have x1 : w7.cell? ⟨w.heap.size, 1, none⟩ = some (.int .i64 cg) := (C6'.ext B7.out).cell 1
      have xz := (C6'.ext B7.out).lt
      obtain ⟨n0, n1, n2, n3, n4, n5, n6, n7, n8, n9, n10, n11⟩ := (N6.ext B7.out).node12
      obtain ⟨u, hu⟩ : ∃ u, u = mayB cu cg n.uid n.gid n.mode 2 := ⟨_, rfl⟩
      have HU := Lib.hid hu
      have HE6 : Hid (u = false → moveE S cu cg fr to_ a b = 6) := Lib.hid (fun hu' => by rw [HKS.out]; unfold moveX; rw [if_neg (not_not_intro HX0.out), if_neg (not_not_intro HY0.out), if_neg (not_not_intro Q1.out), if_neg HNW.out, if_neg HNS.out, if_pos ⟨Q2.out, Q4.out, by rw [← HU.out]; exact hu'⟩])
      clear q4 hu e3' e4'
      go_wp2_with fail
      refine (pnode_any cu cg _ _ _ n.mode n.uid n.gid _ _ _ _ _ _ 2 _).mono ?_
      rw [← HU.out]
      rintro e w8 ⟨rfl, b8⟩
      clear x0 x1 xz n0 n1 n2 n3 n4 n5 n6 n7 n8 n9 n10 n11
      cases u
      · have hE : Hid (moveE S cu cg fr to_ a b = 6) := Lib.hid (HE6.out rfl)
        go_wp2_with fail
        go_ret
        exact HS.out _ _ (X7.trans b8) hE.out (.inl (by decide))
      · go_wp2_with fail
        go_meet
        exact ⟨B7.out.trans b8, Q1.out, HNW.out, HNS.out, fun h => by rw [← HU.out] at h; exact absurd h.2.2 (by decide)⟩
  case rest =>
  obtain ⟨B7, q1, q2, q3, q4⟩ := hcut
  obtain ⟨w7, hw7⟩ : ∃ w7, w7 = wc := ⟨_, rfl⟩
  rw [← hw7] at B7 ⊢
  have X7 := HX6.out.trans B7
  have K7 := h.ext X7
  have okd7 := okd6.ext B7
  have okn7 := okn6.ext B7
  have okt7 := okt6.ext B7
  have oko7 := oko6.ext B7
  have D7 := D6.ext B7
  have N7 := N6.ext B7
  have T7 := T6.ext B7
  have O7 := O6.ext B7
  have C7 := C6'.ext B7
  have HEX : Hid (moveE S cu cg fr to_ a b = if is = true then putE S cu t n o else 0) := by
    refine Lib.hid ?_
    rw [HKS.out]; unfold moveX
    rw [if_neg (not_not_intro HX0.out), if_neg (not_not_intro HY0.out), if_neg (not_not_intro q1), if_neg q2, if_neg q3, if_neg q4]
  have HMT : Hid (moveE S cu cg fr to_ a b = 0 → moveT S cu cg now fr to_ a b = laidT (overT S now old_) now fr to_ a b d n) := by
    refine Lib.hid fun h0 => ?_
    unfold moveT
    rw [if_pos ⟨h0, fun hs => q3 (HSM.out.1 hs)⟩, ← HDD.out, ← HNN.out, ← HOLD.out]
  have HX7 := Lib.hid X7
  have HD6 := Lib.hid D7
  clear hw7 q1 q2 q3 q4 e1 e2 e3 e4 e5 z1 z2 z3 z4 okd6 okn6 okt6 oko6 D6 N6 T6 O6 C6' B7
  go_upto_if 100 with fail
  go_cut [21] (fun _ wc => ∃ T, WAt wc B g T ∧ Only g.list w7 wc ∧ T = overT S now old_ ∧ moveE S cu cg fr to_ a b = 0)
  case first =>
    cases is
    · go_wp2_with fail
      go_meet
      exact ⟨S, K7, Only.refl _ _, by unfold overT; rw [← HIS.out, if_neg (by decide)], by rw [HEX.out]; rfl⟩
    have x0 : w7.cell? ⟨w.heap.size, 0, none⟩ = some (.int .i64 cu) := C7.cell 0
    have x1 : w7.cell? ⟨w.heap.size, 1, none⟩ = some (.int .i64 cg) := C7.cell 1
    have xz := C7.lt
    have hol := HO.out.entsN old_
    rw [← HOO.out] at hol
    have hto : overT S now old_ = lessT S now o := by unfold overT; rw [← HIS.out, if_pos rfl, HOO.out]
    have HTO := Lib.hid hto
    have hhe := HO.out.held (no := old_) (by rw [← HIS.out])
    rw [← HOO.out] at hhe
    have HHE := Lib.hid hhe
    have HOL := Lib.hid hol
    obtain ⟨p, hp⟩ : ∃ p, p = putE S cu t n o := ⟨_, rfl⟩
    have HPP := Lib.hid hp
    have hE : Hid (moveE S cu cg fr to_ a b = p) := by show _ = _; rw [HEX.out, if_pos rfl, hp]
    clear hol hto hhe hp
    go_wp2_with (first | (refine wpList_load_node rfl _ rfl b18 t A4 c4 rfl T7 ?_) | (refine wpList_load_node rfl _ rfl (b15 + 1) n A2 c2 rfl N7 ?_) | (refine wpList_load_node rfl _ rfl b19 o A6 c6 rfl O7 ?_))
    refine (pover19_any B g S cu cg t n o A4 A2 A6 c4 c2 c6 _ K7 HO.out.live.devs HO.out.live.eight (by have := HOL.out.2; omega)).mono ?_
    rw [← HPP.out]
    rintro e w8 ⟨rfl, b8⟩
    have O8 := O7.ext b8
    have oko8 := oko7.ext b8
    have K8 := K7.ext b8
    clear x0 x1 xz
    by_cases hp0 : p = 0
    case neg =>
      have s1 : (p == 0) = false := by simpa using hp0
      have s1b : (p != 0) = true := by simpa using hp0
      have HP0 := Lib.hid hp0
      clear hp0
      go_wp2_with fail
      go_ret
      exact HS.out _ _ (HX7.out.trans b8) hE.out (.inl HP0.out)
    have s1 : (p == 0) = true := by simpa using hp0
    have s1b : (p != 0) = false := by simpa using hp0
    have HP0 := Lib.hid hp0
    clear hp0
    go_wp2_with (refine wpList_load_node rfl _ rfl b19 o A6 c6 rfl O8 ?_)
    refine (pless_any B g S now o A6 c6 _ K8 HO.out.live oko8 HHE.out).mono ?_
    rintro e w9 ⟨rfl, K9, O9⟩
    go_wp2_with fail
    go_meet
    exact ⟨_, K9, Only.pre b8 O9, HTO.out.symm, hE.out.trans HP0.out⟩
  case rest =>
  obtain ⟨T, K8', O8', hT, hE0⟩ := hcut
  obtain ⟨w8, hw8⟩ : ∃ w8, w8 = wc := ⟨_, rfl⟩
  rw [← hw8] at K8' O8' ⊢
  have hng : ∀ b, w.heap.size ≤ b → b ∉ g.list := by
    intro b hb hm
    have hlw := h.lt
    simp only [GhW.list, List.mem_cons, List.not_mem_nil, or_false] at hm
    omega
  have HNG := Lib.hid hng
  have okd8 := okd7.only O8' K7.apart
  have okn8 := okn7.only O8' K7.apart
  have D8 := O8'.has D7 (hng _ (by omega))
  have N8 := O8'.has N7 (hng _ (by omega))
  have T8 := O8'.has T7 (hng _ (by omega))
  have Ow8 := Only.pre HX7.out O8'
  have hTL : Live T := by
    rw [hT]
    unfold overT
    split
    · rename_i hi
      have hh := HO.out.held hi
      have hl := hh.live HO.out.live now
      unfold lessT
      split
      · exact hl.kill _
      · exact hl
    · exact HO.out.live
  have HT := Lib.hid hT
  have HE0 := Lib.hid hE0
  have HTL := Lib.hid hTL
  obtain ⟨zz1, zz2, zz3, zz4, zz5⟩ := HLZ.out
  rw [← HDD.out] at zz4
  have hpos : findF (getN S.nodes fr).ents a ≠ 0 := fun e => by
    rw [e] at zz2
    have := HO.out.live.nos.zero (no := 0) (.inl (by omega))
    rw [this] at zz2; cases zz2
  have hhas : has d.ents a = true := by rw [zz4]; exact has_of_find hpos
  have hden := HO.out.entsN fr
  rw [← zz4] at hden
  have HDEN := Lib.hid hden
  have HHAS := Lib.hid hhas
  have y11 : w8.cell? ⟨b15, 11, none⟩ = some (.slice A1 d.ents.length c1) := D8.cell 11
  have yz := D8.lt
  clear hw8 hng hT hE0 hTL zz1 zz2 zz3 zz4 zz5 hpos hhas hden K7 okd7 okn7 okt7 oko7 D7 N7 T7 O7 C7 O8' X7
  go_wp2_with fail
  refine (drop_yes A1 d.ents c1 a _ okd8.ents.ents HDEN.out.1 okd8.cap okd8.max (by have := HDEN.out.2; omega) HHAS.out).mono ?_
  rintro e w9 ⟨v9, rfl, hown, b9⟩
  rw [cutP_dropF _ _ HDEN.out.1 HHAS.out] at hown
  obtain ⟨A9, c9, rfl, q1, q2, q3, q4⟩ := hown.entsT (B := B)
  have K9 := K8'.ext b9
  have N9 := N8.ext b9
  have T9 := T8.ext b9
  have okn9 := okn8.ext b9
  have Ow9 := Ow8.ext b9
  obtain ⟨L9, hL9⟩ : ∃ L, L = dropF d.ents a := ⟨_, rfl⟩
  rw [← hL9] at q1 q3 ⊢
  have HL9 := Lib.hid hL9
  obtain ⟨T1, hT1⟩ : ∃ T1, T1 = touchT T fr now L9 := ⟨_, rfl⟩
  have HT1 := Lib.hid hT1
  have KT : Hid (Calls Tryz.prog 81 #[.pointer (some ⟨g.bW, 0, none⟩), .int .i64 fr, .int .i64 now, .slice A9 L9.length c9] w9 (TouchR w9 B g T1)) := by
    show Calls _ _ _ _ _
    rw [hT1]
    exact ptouch_any B g T fr now A9 L9 c9 w9 K9 HTL.out.nos q3 q1 q2 q4
  have HU1 : Hid (NosUp T1.nodes T1.last) := by show NosUp _ _; rw [hT1]; exact HTL.out.nos.set _
  clear y11 yz hown q1 q2 q3 q4 hL9 hT1 okd8 okn8 D8 N8 T8 K8' Ow8
  go_wp2_with fail
  refine KT.out.mono ?_
  rintro e w10 ⟨rfl, K10, O10⟩
  have N10 := O10.has N9 (HNG.out _ (by have := b9.size; omega))
  have T10 := O10.has T9 (HNG.out _ (by omega))
  have okn10 := okn9.only O10 K9.apart
  have Ow10 := Ow9.then O10
  obtain ⟨_, _, cdx, hWx, _⟩ := id K10
  have v0 : w10.cell? ⟨g.bW, 0, none⟩ = some (.pointer (some ⟨g.bT, 0, none⟩)) := hWx.cell 0
  have vz := hWx.lt
  clear KT O10 N9 T9 okn9 Ow9 K9 hWx
  go_wp2_with fail
  refine (tget_any B g.bT g.bM T1.nodes T1.last to_ _ K10.2.1).mono ?_
  rintro e w11 ⟨A11, c11, rfl, ok11, b11⟩
  obtain ⟨t1', ht1⟩ : ∃ t1, t1 = getN T1.nodes to_ := ⟨_, rfl⟩
  obtain ⟨i1, hi1⟩ : ∃ i1, i1 = isN T1.nodes to_ := ⟨_, rfl⟩
  rw [← ht1] at ok11
  rw [← ht1, ← hi1]
  have hrise : Rise t1'.ents ∧ t1'.ents.length ≤ 100000 := by
    have hS : ∀ m ∈ S.nodes, Rise m.ents ∧ m.ents.length ≤ 100000 := fun m hm => by
      have := HO.out.entsN m.no
      rw [(mem_getN HO.out.live.nos hm).1] at this
      exact this
    have hTA : ∀ m ∈ T.nodes, Rise m.ents ∧ m.ents.length ≤ 100000 := by
      rw [HT.out]
      exact all_over hS now old_ fun m hm => hm
    have hT1A : ∀ m ∈ T1.nodes, Rise m.ents ∧ m.ents.length ≤ 100000 := fun m hm => by
      rw [HT1.out] at hm
      rcases mem_setN hm with hm | rfl
      · exact hTA m hm
      · show Rise L9 ∧ L9.length ≤ 100000
        rw [HL9.out]
        exact ⟨rise_dropF _ HDEN.out.1, Nat.le_trans (dropF_len _ _) HDEN.out.2⟩
    rw [ht1]
    cases hi : isN T1.nodes to_
    · rw [(isN_false hi).1]; exact ⟨List.Pairwise.nil, Nat.zero_le _⟩
    · exact hT1A _ (isN_true hi).2.2
  have HRS := Lib.hid hrise
  have HT1' := Lib.hid ht1
  have T11 := T10.ext b11
  have N11 := N10.ext b11
  have K11 := K10.ext b11
  have okn11 := okn10.ext b11
  have Ow11 := Ow10.ext b11
  clear hrise ht1 hi1 v0 vz T10 N10 K10 okn10 Ow10
  go_upto_region 24 with (refine wpList_store_node rfl _ _ rfl b18 t1' A11 c11 rfl rfl T11 ?_; intro w12 T12 O12)
  have hap : Apart w11 B [b18] := by
    intro b hb
    rw [List.mem_singleton] at hb
    subst hb
    exact ⟨by have := h.1; have := h.lt.1; omega, T11.noTag (by decide)⟩
  have hnb18 : ∀ b ∈ g.list, b ∉ [b18] := by
    intro b hb he
    rw [List.mem_singleton] at he
    subst he
    exact HNG.out _ (by omega) hb
  have K12 : WAt w12 B g T1 := K11.only O12 hap hnb18
  have okn12 := okn11.only O12 hap
  have ok12 := ok11.only O12 hap
  have N12 := O12.has N11 (by simp; omega)
  have Ow12 : Only g.list w w12 := Ow11.trans O12 (by intro b hb; rw [List.mem_singleton] at hb; right; omega)
  have y11 : w12.cell? ⟨b18, 11, none⟩ = some (.slice A11 t1'.ents.length c11) := T12.cell 11
  have y0 : w12.cell? ⟨b15 + 1, 0, none⟩ = some (.int .i64 n.no) := N12.cell 0
  have yz := T12.lt
  have yz' := N12.lt
  clear hap hnb18 K11 okn11 ok11 N11 Ow11 O12 T11
  go_wp2_with fail
  refine (put_any A11 t1'.ents c11 b n.no _ ok12.ents.ents ok12.nil HRS.out.1 ok12.cap ok12.max (by have := HRS.out.2; omega)).mono ?_
  rintro e w13 ⟨v13, rfl, hown, b13⟩
  rw [putP_putF _ _ _ HRS.out.1] at hown
  obtain ⟨A13, c13, rfl, q1, q2, q3, q4⟩ := hown.entsT (B := B)
  have K13 := K12.ext b13
  have N13 := N12.ext b13
  have okn13 := okn12.ext b13
  have Ow13 := Ow12.ext b13
  obtain ⟨L13, hL13⟩ : ∃ L, L = putF t1'.ents (b, n.no) := ⟨_, rfl⟩
  rw [← hL13] at q1 q3 ⊢
  have HL13 := Lib.hid hL13
  obtain ⟨T2, hT2⟩ : ∃ T2, T2 = touchT T1 to_ now L13 := ⟨_, rfl⟩
  have HT2 := Lib.hid hT2
  have KT2 : Hid (Calls Tryz.prog 81 #[.pointer (some ⟨g.bW, 0, none⟩), .int .i64 to_, .int .i64 now, .slice A13 L13.length c13] w13 (TouchR w13 B g T2)) := by
    show Calls _ _ _ _ _
    rw [hT2]
    exact ptouch_any B g T1 to_ now A13 L13 c13 w13 K13 HU1.out q3 q1 q2 q4
  have HU2 : Hid (NosUp T2.nodes T2.last) := by show NosUp _ _; rw [hT2]; exact HU1.out.set _
  clear y11 y0 yz yz' hown q1 q2 q3 q4 hL13 hT2 K12 N12 okn12 ok12 Ow12 T12
  go_wp2_with fail
  refine KT2.out.mono ?_
  rintro e w14 ⟨rfl, K14, O14⟩
  have N14 := O14.has N13 (HNG.out _ (by omega))
  have okn14 := okn13.only O14 K13.apart
  have Ow14 := Ow13.then O14
  have y7 : w14.cell? ⟨b15 + 1, 7, none⟩ = some (.int .i64 n.ctime) := N14.cell 7
  have yf : ∀ i, w14.frozen? ⟨b15 + 1, i, none⟩ = false := fun i => (N14.free i).trans (by simp)
  have yz := N14.lt
  have HN14 := Lib.hid N14
  clear KT2 O14 N13 okn13 Ow13 K13
  go_upto_region 26 with fail
  obtain ⟨w15, hw15⟩ : ∃ w15, w15 = w14.setCell ⟨b15 + 1, 7, none⟩ (.int .i64 now) := ⟨_, rfl⟩
  rw [← hw15]
  have N15 : Has w15 (b15 + 1) (.cells #[.int .i64 (({ n with ctime := now } : NodeD)).no, .int .i64 (({ n with ctime := now } : NodeD)).dev, .int .i64 (({ n with ctime := now } : NodeD)).kind, .int .i64 (({ n with ctime := now } : NodeD)).mode, .int .i64 (({ n with ctime := now } : NodeD)).uid, .int .i64 (({ n with ctime := now } : NodeD)).gid, .int .i64 (({ n with ctime := now } : NodeD)).mtime, .int .i64 (({ n with ctime := now } : NodeD)).ctime, .int .i64 (({ n with ctime := now } : NodeD)).links, .int .i64 (({ n with ctime := now } : NodeD)).up, .string (bs (({ n with ctime := now } : NodeD)).data), .slice A2 (({ n with ctime := now } : NodeD)).ents.length c2] 49) := by rw [hw15]; exact N14.setCell 7 _
  have O15 : Only [b15 + 1] w14 w15 := by rw [hw15]; exact Only.setCell _ _ _ _
  have y2 : w15.cell? ⟨b15 + 1, 2, none⟩ = some (.int .i64 n.kind) := N15.cell 2
  have y9 : w15.cell? ⟨b15 + 1, 9, none⟩ = some (.int .i64 n.up) := N15.cell 9
  have yf' : ∀ i, w15.frozen? ⟨b15 + 1, i, none⟩ = false := fun i => (N15.free i).trans (by simp)
  have yz' := N15.lt
  clear hw15 y7 yf yz N14
  go_upto_if 149 with fail
  go_cut [150] (fun _ wc => Has wc (b15 + 1) (.cells #[.int .i64 (laidN now to_ n).no, .int .i64 (laidN now to_ n).dev, .int .i64 (laidN now to_ n).kind, .int .i64 (laidN now to_ n).mode, .int .i64 (laidN now to_ n).uid, .int .i64 (laidN now to_ n).gid, .int .i64 (laidN now to_ n).mtime, .int .i64 (laidN now to_ n).ctime, .int .i64 (laidN now to_ n).links, .int .i64 (laidN now to_ n).up, .string (bs (laidN now to_ n).data), .slice A2 (laidN now to_ n).ents.length c2] 49) ∧ Only [b15 + 1] w14 wc)
  case first =>
    by_cases hk : n.kind = 1
    · have s1 : (n.kind == 1) = true := by simpa using hk
      have hl : Hid (laidN now to_ n = { n with ctime := now, up := to_ }) := by show _ = _; unfold laidN; rw [if_pos hk]
      clear hk
      go_wp2_with fail
      go_meet
      exact ⟨by rw [hl.out]; exact N15.setCell 9 _, O15.then (Only.setCell _ _ _ _)⟩
    · have s1 : (n.kind == 1) = false := by simpa using hk
      have hl : Hid (laidN now to_ n = { n with ctime := now }) := by show _ = _; unfold laidN; rw [if_neg hk]
      clear hk
      go_wp2_with fail
      go_meet
      exact ⟨by rw [hl.out]; exact N15, O15⟩
  case rest =>
  obtain ⟨N16, O16⟩ := hcut
  obtain ⟨w16, hw16⟩ : ∃ w16, w16 = wc := ⟨_, rfl⟩
  rw [← hw16] at N16 O16 ⊢
  obtain ⟨n', hn'⟩ : ∃ n', n' = laidN now to_ n := ⟨_, rfl⟩
  rw [← hn'] at N16
  have hap : Apart w14 B [b15 + 1] := by
    intro b hb
    rw [List.mem_singleton] at hb
    subst hb
    exact ⟨by have := h.1; have := h.lt.1; omega, HN14.out.noTag (by decide)⟩
  have K16 : WAt w16 B g T2 := K14.only O16 hap (by
    intro b hb he
    rw [List.mem_singleton] at he
    subst he
    exact HNG.out _ (by omega) hb)
  have okn16 : NodeOk w16 B n' A2 c2 := (okn14.only O16 hap).same (by rw [hn']; unfold laidN; rfl)
  have Ow16 : Only g.list w w16 := Ow14.trans O16 (by intro b hb; rw [List.mem_singleton] at hb; right; omega)
  have HN' := Lib.hid hn'
  obtain ⟨_, _, cdy, hWy, _⟩ := id K16
  have v0 : w16.cell? ⟨g.bW, 0, none⟩ = some (.pointer (some ⟨g.bT, 0, none⟩)) := hWy.cell 0
  have vz := hWy.lt
  obtain ⟨e0, e1, e2, e3, e4, e5, e6, e7, e8, e9, e10, e11⟩ := N16.node12
  have ez := N16.lt
  clear hw16 hn' hap hWy N15 O15 y2 y9 yf' yz' K14 okn14 Ow14 O16
  go_upto_region 28 with fail
  go_still_tail 5, (by kernel_rfl)
  change wpList _ _ _ _ _ w16.drew
  go_wp2_with fail
  have ED : Ext w16 w16.drew := (Ext.refl _).drew
  refine (wset_any B g T2 n' A2 c2 _ (K16.ext ED) HU2.out (okn16.ext ED)).mono ?_
  rintro e w17 ⟨rfl, K17, O17⟩
  clear e0 e1 e2 e3 e4 e5 e6 e7 e8 e9 e10 e11 ez v0 vz
  go_wp2_with fail
  go_ret
  rw [HE0.out]
  refine ⟨rfl, ?_, Ow16.then (Only.pre ED O17)⟩
  rw [HMT.out HE0.out]
  unfold laidT
  rw [← HT.out, ← HL9.out, ← HT1.out, ← HT1'.out, ← HL13.out, ← HT2.out, ← HN'.out]
  exact K17
end Go.Proofs.YtebghednhjaniaaGreat
