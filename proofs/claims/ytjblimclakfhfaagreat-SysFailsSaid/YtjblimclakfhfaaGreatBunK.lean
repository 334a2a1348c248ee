/- Layer 19: what a move makes; the program's over. | Layer 19: the program's Move. (Printed by gen_movb.py.) | Layer 17: the chapter's example. | The law's acts in memory; Few of them. | How the arguments of the laws on trees read: items, acts, somebody who asks. (Printed by gen_opn.py.) | Layer 20: the reference's Write. | Law 20's do: an attribute call of both. (Printed by gen_doa.py.) | Layer 20 (attr): the chapter's example. | The law AttrPlays, walked. | The law BringThere, walked. (Printed by gen_brgg.py.) | Plain: trees stay true where names go. | Plain: a tree stays true through a move. | Plain, for RenameOne: a grown tree has every number; what a move leaves. | Layer 19: the reference's Move. (Printed by gen_refm.py.) -/
import Derived.Test.YtjblimclakfhfaaGreatBunJ
import Derived.Test.YtjblimclakfhfaaGreatBunE
import Derived.Test.YtjblimclakfhfaaGreatBunH
import Derived.Test.YtjblimclakfhfaaGreatBunD
import Derived.Test.YtjblimclakfhfaaGreatBunA
import Derived.Test.YtjblimclakfhfaaGreatBunG
import Derived.Test.YtjblimclakfhfaaGreatBunF
import Derived.Deep.CutBlock
import Derived.Deep.RegionWith
namespace Go.Proofs.YtjblimclakfhfaaGreat
open Go.ChangeShapes Go.WideShapes Go.ChangeAt Go.RowKit

attribute [local irreducible] wpQuiet
def putE (S : TreeD) (cu : Int) (d n old : NodeD) : Int :=
  if ¬ overF S.devs old.no = old.no then 16 else if n.kind = 1 ∧ ¬ old.kind = 1 then 9 else if ¬ n.kind = 1 ∧ old.kind = 1 then 8
  else if 0 < (old.ents.length : Int) then 10 else if freeB cu d.mode d.uid old.uid = false then 4 else 0
set_option maxRecDepth 100000 in
set_option maxHeartbeats 8000000 in
theorem pover19_any (B : Nat) (g : GhW) (S : TreeD) (cu cg : Int) (d n old : NodeD) (Ad An Ao : Option Addr) (cd cn co : Nat) (w : World) (h : WAt w B g S) (hd : 0 < S.devs.length) (hd8 : S.devs.length ≤ 8) (hol : old.ents.length ≤ 1000000) :
    Calls Tryz.prog 185 #[.pointer (some ⟨g.bW, 0, none⟩), .agg #[.int .i64 cu, .int .i64 cg], .agg #[.int .i64 d.no, .int .i64 d.dev, .int .i64 d.kind, .int .i64 d.mode, .int .i64 d.uid, .int .i64 d.gid, .int .i64 d.mtime, .int .i64 d.ctime, .int .i64 d.links, .int .i64 d.up, .string (bs d.data), .slice Ad d.ents.length cd], .agg #[.int .i64 n.no, .int .i64 n.dev, .int .i64 n.kind, .int .i64 n.mode, .int .i64 n.uid, .int .i64 n.gid, .int .i64 n.mtime, .int .i64 n.ctime, .int .i64 n.links, .int .i64 n.up, .string (bs n.data), .slice An n.ents.length cn], .agg #[.int .i64 old.no, .int .i64 old.dev, .int .i64 old.kind, .int .i64 old.mode, .int .i64 old.uid, .int .i64 old.gid, .int .i64 old.mtime, .int .i64 old.ctime, .int .i64 old.links, .int .i64 old.up, .string (bs old.data), .slice Ao old.ents.length co]] w (Ret w (.int .i64 (putE S cu d n old))) := by
  obtain ⟨W1, hW1⟩ : ∃ W1, W1 = w.alloc (.cells #[.int .i64 cu, .int .i64 cg] 24) := ⟨_, rfl⟩
  obtain ⟨W2, hW2⟩ : ∃ W2, W2 = W1.alloc (.cells #[.int .i64 d.no, .int .i64 d.dev, .int .i64 d.kind, .int .i64 d.mode, .int .i64 d.uid, .int .i64 d.gid, .int .i64 d.mtime, .int .i64 d.ctime, .int .i64 d.links, .int .i64 d.up, .string (bs d.data), .slice Ad d.ents.length cd] 87) := ⟨_, rfl⟩
  obtain ⟨W3, hW3⟩ : ∃ W3, W3 = W2.alloc (.cells #[.int .i64 n.no, .int .i64 n.dev, .int .i64 n.kind, .int .i64 n.mode, .int .i64 n.uid, .int .i64 n.gid, .int .i64 n.mtime, .int .i64 n.ctime, .int .i64 n.links, .int .i64 n.up, .string (bs n.data), .slice An n.ents.length cn] 87) := ⟨_, rfl⟩
  obtain ⟨W4, hW4⟩ : ∃ W4, W4 = W3.alloc (.cells #[.int .i64 old.no, .int .i64 old.dev, .int .i64 old.kind, .int .i64 old.mode, .int .i64 old.uid, .int .i64 old.gid, .int .i64 old.mtime, .int .i64 old.ctime, .int .i64 old.links, .int .i64 old.up, .string (bs old.data), .slice Ao old.ents.length co] 87) := ⟨_, rfl⟩
  have E1 : Ext w W1 := by rw [hW1]; exact (Ext.refl _).alloc _
  have E2 : Ext W1 W2 := by rw [hW2]; exact (Ext.refl _).alloc _
  have E3 : Ext W2 W3 := by rw [hW3]; exact (Ext.refl _).alloc _
  have E4 : Ext W3 W4 := by rw [hW4]; exact (Ext.refl _).alloc _
  have C1 : Has W1 w.heap.size (.cells #[.int .i64 cu, .int .i64 cg] 24) := by rw [hW1]; exact Has.new _ _
  have z1 : W1.heap.size = w.heap.size + 1 := by rw [hW1]; simp
  have z2 : W2.heap.size = w.heap.size + 1 + 1 := by rw [hW2, World.size_alloc, z1]
  have z3 : W3.heap.size = w.heap.size + 1 + 1 + 1 := by rw [hW3, World.size_alloc, z2]
  have D2 : Has W2 (w.heap.size + 1) (.cells #[.int .i64 d.no, .int .i64 d.dev, .int .i64 d.kind, .int .i64 d.mode, .int .i64 d.uid, .int .i64 d.gid, .int .i64 d.mtime, .int .i64 d.ctime, .int .i64 d.links, .int .i64 d.up, .string (bs d.data), .slice Ad d.ents.length cd] 87) := by rw [hW2, ← z1]; exact Has.new _ _
  have N3 : Has W3 (w.heap.size + 1 + 1) (.cells #[.int .i64 n.no, .int .i64 n.dev, .int .i64 n.kind, .int .i64 n.mode, .int .i64 n.uid, .int .i64 n.gid, .int .i64 n.mtime, .int .i64 n.ctime, .int .i64 n.links, .int .i64 n.up, .string (bs n.data), .slice An n.ents.length cn] 87) := by rw [hW3, ← z2]; exact Has.new _ _
  have O4 : Has W4 (w.heap.size + 1 + 1 + 1) (.cells #[.int .i64 old.no, .int .i64 old.dev, .int .i64 old.kind, .int .i64 old.mode, .int .i64 old.uid, .int .i64 old.gid, .int .i64 old.mtime, .int .i64 old.ctime, .int .i64 old.links, .int .i64 old.up, .string (bs old.data), .slice Ao old.ents.length co] 87) := by rw [hW4, ← z3]; exact Has.new _ _
  have E04 := ((E1.trans E2).trans E3).trans E4
  have C4 := C1.ext ((E2.trans E3).trans E4)
  have D4 := D2.ext (E3.trans E4)
  have N4 := N3.ext E4
  have K4 := h.ext E04
  obtain ⟨b6, hb6⟩ : ∃ b, b = w.heap.size := ⟨_, rfl⟩
  obtain ⟨b7, hb7⟩ : ∃ b, b = w.heap.size + 1 := ⟨_, rfl⟩
  obtain ⟨b8, hb8⟩ : ∃ b, b = w.heap.size + 1 + 1 := ⟨_, rfl⟩
  obtain ⟨b9, hb9⟩ : ∃ b, b = w.heap.size + 1 + 1 + 1 := ⟨_, rfl⟩
  have hm : (putE S cu d n old = if ¬ overF S.devs old.no = old.no then 16 else if n.kind = 1 ∧ ¬ old.kind = 1 then 9 else if ¬ n.kind = 1 ∧ old.kind = 1 then 8
    else if 0 < (old.ents.length : Int) then 10 else if freeB cu d.mode d.uid old.uid = false then 4 else 0) := rfl
  have HW4 : Hid ((((w.alloc (.cells #[.int .i64 cu, .int .i64 cg] 24)).alloc (.cells #[.int .i64 d.no, .int .i64 d.dev, .int .i64 d.kind, .int .i64 d.mode, .int .i64 d.uid, .int .i64 d.gid, .int .i64 d.mtime, .int .i64 d.ctime, .int .i64 d.links, .int .i64 d.up, .string (bs d.data), .slice Ad d.ents.length cd] 87)).alloc (.cells #[.int .i64 n.no, .int .i64 n.dev, .int .i64 n.kind, .int .i64 n.mode, .int .i64 n.uid, .int .i64 n.gid, .int .i64 n.mtime, .int .i64 n.ctime, .int .i64 n.links, .int .i64 n.up, .string (bs n.data), .slice An n.ents.length cn] 87)).alloc (.cells #[.int .i64 old.no, .int .i64 old.dev, .int .i64 old.kind, .int .i64 old.mode, .int .i64 old.uid, .int .i64 old.gid, .int .i64 old.mtime, .int .i64 old.ctime, .int .i64 old.links, .int .i64 old.up, .string (bs old.data), .slice Ao old.ents.length co] 87) = W4) := by show _ = _; rw [hW4, hW3, hW2, hW1]
  clear hW1 hW2 hW3 hW4 E1 E2 E3 E4 C1 z1 z2 z3 D2 N3
  have KO : Hid (∀ u : Gr W4, Calls Tryz.prog 137 #[.pointer (some ⟨g.bW, 0, none⟩), .int .i64 old.no] u.w (Ret u.w (.int .i64 (overF S.devs old.no)))) := by
    show ∀ u : Gr W4, _
    exact fun u => pover_any B g S old.no u.w (K4.ext u.h) hd (by omega)
  go_enter Tryz.func185, Tryz.ntmps185
  go_upto_region 1 with fail
  rw [HW4.out]
  rw [← hb9] at O4
  rw [← hb8] at N4
  rw [← hb7] at D4
  rw [← hb6] at C4
  rw [← hb9, ← hb8, ← hb7, ← hb6]
  clear hb9 hb8 hb7 hb6
  obtain ⟨no, hno⟩ : ∃ no, no = old.no := ⟨_, rfl⟩
  have r0 : ∀ u : Gr W4, u.w.cell? ⟨b9, 0, none⟩ = some (.int .i64 no) := by rw [hno]; exact Gr.cell O4.lt (O4.cell 0)
  obtain ⟨ov, hov⟩ : ∃ ov, ov = overF S.devs no := ⟨_, rfl⟩
  have KO' : Hid (∀ u : Gr W4, Calls Tryz.prog 137 #[.pointer (some ⟨g.bW, 0, none⟩), .int .i64 no] u.w (Ret u.w (.int .i64 ov))) := by rw [hov, hno]; exact KO
  rw [← hno, ← hov] at hm
  clear KO hov hno
  refine wp_region_grow W4 (by kernel_rfl) (by kernel_rfl) (Ext.refl _).drew ?_
  repeat (quiet_step (first
    | ((with_reducible refine (KO'.out _).mono ?_); rintro e w'' ⟨rfl, hEx⟩; exact ⟨rfl, ⟨w'', Ext.trans (Gr.h _) hEx⟩, rfl⟩)))
  refine wpQuiet_nil ?_
  rintro w5 ⟨⟨wy, b5⟩, h5⟩
  dsimp only at h5
  subst h5
  have E5 : Ext w w5 := E04.trans b5
  have C5 := C4.ext b5
  have D5 := D4.ext b5
  have N5 := N4.ext b5
  have O5 := O4.ext b5
  have HE5 := Lib.hid E5
  have n2 : w5.cell? ⟨b8, 2, none⟩ = some (.int .i64 n.kind) := N5.cell 2
  have o2 : w5.cell? ⟨b9, 2, none⟩ = some (.int .i64 old.kind) := O5.cell 2
  obtain ⟨lo, hlo⟩ : ∃ lo, lo = old.ents.length := ⟨_, rfl⟩
  have o11 : w5.cell? ⟨b9, 11, none⟩ = some (.slice Ao lo co) := by rw [hlo]; exact O5.cell 11
  rw [← hlo] at hm
  have hlo' : lo ≤ 1000000 := by omega
  have nz := N5.lt
  have oz := O5.lt
  clear hlo r0 KO' E5 E04 C4 D4 N4 O4 K4 b5
  by_cases c0 : ov = no
  case neg =>
    have t0 : (ov == no) = false := by simpa using c0
    have t0b : (ov != no) = true := by simpa using c0
    have hE : Hid (putE S cu d n old = 16) := by show _ = _; rw [hm, if_pos c0]
    clear hm c0
    go_wp2_with fail
    go_ret
    exact Ret.mk (by rw [hE.out]; rfl) HE5.out
  have t0 : (ov == no) = true := by simpa using c0
  have t0b : (ov != no) = false := by simpa using c0
  have h0 := c0
  rw [if_neg (not_not_intro h0)] at hm
  clear c0 h0
  by_cases c1 : n.kind = 1
  · have t1 : (n.kind == 1) = true := by simpa using c1
    have t1b : (n.kind != 1) = false := by simpa using c1
    by_cases c2 : old.kind = 1
    case neg =>
      have t2 : (old.kind == 1) = false := by simpa using c2
      have t2b : (old.kind != 1) = true := by simpa using c2
      have hE : Hid (putE S cu d n old = 9) := by show _ = _; rw [hm, if_pos ⟨c1, c2⟩]
      clear hm c1 c2
      go_wp2_with fail
      go_ret
      exact Ret.mk (by rw [hE.out]; rfl) HE5.out
    have t2 : (old.kind == 1) = true := by simpa using c2
    have t2b : (old.kind != 1) = false := by simpa using c2
    rw [if_neg (fun h => h.2 c2), if_neg (fun h => h.1 c1)] at hm
    clear c1 c2
    by_cases c3 : 0 < (lo : Int)
    · have t3 : decide ((0 : Int) < (lo : Int)) = true := decide_eq_true c3
      have t3b : decide (0 < lo) = true := decide_eq_true (by omega)
      have t3c : 0 < lo := by omega
      have hE : Hid (putE S cu d n old = 10) := by show _ = _; rw [hm, if_pos c3]
      clear hm c3
      go_wp2_with fail
      go_ret
      exact Ret.mk (by rw [hE.out]; rfl) HE5.out
    have t3 : decide ((0 : Int) < (lo : Int)) = false := decide_eq_false c3
    have t3b : decide (0 < lo) = false := decide_eq_false (by omega)
    obtain rfl : lo = 0 := by omega
    clear hlo'
    rw [if_neg c3] at hm
    have x0 : w5.cell? ⟨b6, 0, none⟩ = some (.int .i64 cu) := C5.cell 0
    have x1 : w5.cell? ⟨b6, 1, none⟩ = some (.int .i64 cg) := C5.cell 1
    have xz := C5.lt
    obtain ⟨fb, hfb⟩ : ∃ fb, fb = freeB cu d.mode d.uid old.uid := ⟨_, rfl⟩
    rw [← hfb] at hm
    have HFB := Lib.hid hfb
    clear c3 hfb
    go_wp2_with (first | (refine wpList_load_node rfl _ rfl b7 d Ad cd rfl D5 ?_) | (refine wpList_load_node rfl _ rfl b9 old Ao co rfl O5 ?_))
    all_goals
      refine (pfree_any cu cg _ _ _ d.mode d.uid _ _ _ _ _ _ _ _ _ _ _ old.uid _ _ _ _ _ _ _ _).mono ?_
      rw [← HFB.out]
      rintro e w6 ⟨rfl, b6'⟩
      clear x0 x1 xz n2 o2 o11 nz oz
      cases fb
      · have hE : Hid (putE S cu d n old = 4) := by show _ = _; rw [hm, if_pos rfl]
        clear hm
        go_wp2_with fail
        go_ret
        exact Ret.mk (by rw [hE.out]; rfl) (HE5.out.trans b6')
      · have hE : Hid (putE S cu d n old = 0) := by show _ = _; rw [hm, if_neg (by decide)]
        clear hm
        go_wp2_with fail
        go_ret
        exact Ret.mk (by rw [hE.out]; rfl) (HE5.out.trans b6')
  · have t1 : (n.kind == 1) = false := by simpa using c1
    have t1b : (n.kind != 1) = true := by simpa using c1
    by_cases c2 : old.kind = 1
    · have t2 : (old.kind == 1) = true := by simpa using c2
      have t2b : (old.kind != 1) = false := by simpa using c2
      have hE : Hid (putE S cu d n old = 8) := by show _ = _; rw [hm, if_neg (fun h => c1 h.1), if_pos ⟨c1, c2⟩]
      clear hm c1 c2
      go_wp2_with fail
      go_ret
      exact Ret.mk (by rw [hE.out]; rfl) HE5.out
    have t2 : (old.kind == 1) = false := by simpa using c2
    have t2b : (old.kind != 1) = true := by simpa using c2
    rw [if_neg (fun h => c1 h.1), if_neg (fun h => c2 h.2)] at hm
    clear c1 c2
    by_cases c3 : 0 < (lo : Int)
    · have t3 : decide ((0 : Int) < (lo : Int)) = true := decide_eq_true c3
      have t3b : decide (0 < lo) = true := decide_eq_true (by omega)
      have t3c : 0 < lo := by omega
      have hE : Hid (putE S cu d n old = 10) := by show _ = _; rw [hm, if_pos c3]
      clear hm c3
      go_wp2_with fail
      go_ret
      exact Ret.mk (by rw [hE.out]; rfl) HE5.out
    have t3 : decide ((0 : Int) < (lo : Int)) = false := decide_eq_false c3
    have t3b : decide (0 < lo) = false := decide_eq_false (by omega)
    obtain rfl : lo = 0 := by omega
    clear hlo'
    rw [if_neg c3] at hm
    have x0 : w5.cell? ⟨b6, 0, none⟩ = some (.int .i64 cu) := C5.cell 0
    have x1 : w5.cell? ⟨b6, 1, none⟩ = some (.int .i64 cg) := C5.cell 1
    have xz := C5.lt
    obtain ⟨fb, hfb⟩ : ∃ fb, fb = freeB cu d.mode d.uid old.uid := ⟨_, rfl⟩
    rw [← hfb] at hm
    have HFB := Lib.hid hfb
    clear c3 hfb
    go_wp2_with (first | (refine wpList_load_node rfl _ rfl b7 d Ad cd rfl D5 ?_) | (refine wpList_load_node rfl _ rfl b9 old Ao co rfl O5 ?_))
    all_goals
      refine (pfree_any cu cg _ _ _ d.mode d.uid _ _ _ _ _ _ _ _ _ _ _ old.uid _ _ _ _ _ _ _ _).mono ?_
      rw [← HFB.out]
      rintro e w6 ⟨rfl, b6'⟩
      clear x0 x1 xz n2 o2 o11 nz oz
      cases fb
      · have hE : Hid (putE S cu d n old = 4) := by show _ = _; rw [hm, if_pos rfl]
        clear hm
        go_wp2_with fail
        go_ret
        exact Ret.mk (by rw [hE.out]; rfl) (HE5.out.trans b6')
      · have hE : Hid (putE S cu d n old = 0) := by show _ = _; rw [hm, if_neg (by decide)]
        clear hm
        go_wp2_with fail
        go_ret
        exact Ret.mk (by rw [hE.out]; rfl) (HE5.out.trans b6')
end Go.Proofs.YtjblimclakfhfaaGreat

namespace Go.Proofs.YtjblimclakfhfaaGreat
open Go.ChangeShapes Go.WideShapes Go.ChangeAt Go.RowKit

attribute [local irreducible] wpQuiet
/-- What a move meets: the node in whose place it comes. -/
def oldNo (S : TreeD) (cu cg to_ : Int) (b : List UInt8) : Int := findF (placeN S cu cg to_ b).ents b
def sameB (S : TreeD) (cu cg fr to_ : Int) (a b : List UInt8) : Prop := isN S.nodes (oldNo S cu cg to_ b) = true ∧ (getN S.nodes (oldNo S cu cg to_ b)).no = (leaveN S cu cg fr a).no
instance (S : TreeD) (cu cg fr to_ : Int) (a b : List UInt8) : Decidable (sameB S cu cg fr to_ a b) := by unfold sameB; exact inferInstance
def moveX (S : TreeD) (cu cg fr to_ x y : Int) (d n t : NodeD) (is : Bool) (old : NodeD) : Int :=
  if ¬ x = 0 then x else if ¬ y = 0 then y else if ¬ d.dev = t.dev then 11 else if n.kind = 1 ∧ withinF S to_ n.no = true then 17
  else if is = true ∧ old.no = n.no then 0 else if n.kind = 1 ∧ ¬ fr = to_ ∧ mayB cu cg n.uid n.gid n.mode 2 = false then 6
  else if is = true then putE S cu t n old else 0
def moveE (S : TreeD) (cu cg fr to_ : Int) (a b : List UInt8) : Int :=
  moveX S cu cg fr to_ (leaveE S cu cg fr a) (placeE S cu cg to_ b) (leaveD S cu cg fr a) (leaveN S cu cg fr a) (placeN S cu cg to_ b) (isN S.nodes (oldNo S cu cg to_ b)) (getN S.nodes (oldNo S cu cg to_ b))
/-- What comes in the place of what. -/
def overT (S : TreeD) (now no : Int) : TreeD := if isN S.nodes no = true then lessT S now (getN S.nodes no) else S
def laidN (now to_ : Int) (n : NodeD) : NodeD := { n with ctime := now, up := if n.kind = 1 then to_ else n.up }
def laidT (T : TreeD) (now fr to_ : Int) (a b : List UInt8) (d n : NodeD) : TreeD :=
  setT (touchT (touchT T fr now (dropF d.ents a)) to_ now (putF (getN (touchT T fr now (dropF d.ents a)).nodes to_).ents (b, n.no))) (laidN now to_ n)
def moveT (S : TreeD) (cu cg now fr to_ : Int) (a b : List UInt8) : TreeD :=
  if moveE S cu cg fr to_ a b = 0 ∧ ¬ sameB S cu cg fr to_ a b then laidT (overT S now (oldNo S cu cg to_ b)) now fr to_ a b (leaveD S cu cg fr a) (leaveN S cu cg fr a) else S
theorem all_over {S : TreeD} {P : NodeD → Prop} (h : ∀ m ∈ S.nodes, P m) (now no : Int) (hl : ∀ m, P m → P (lessN now m)) : ∀ m ∈ (overT S now no).nodes, P m := by
  unfold overT
  split
  · rename_i hi
    have hs : ∀ m ∈ (setT S (lessN now (getN S.nodes no))).nodes, P m := fun m hm => by
      rcases mem_setN hm with hm | rfl
      · exact h m hm
      · exact hl _ (h _ (isN_true hi).2.2)
    unfold lessT
    split
    · unfold killT
      split
      · exact fun m hm => hs m (List.mem_filter.1 hm).1
      · exact hs
    · exact hs
  · exact h
set_option maxRecDepth 100000 in
set_option maxHeartbeats 16000000 in
theorem pmove_any (B : Nat) (g : GhW) (S : TreeD) (r : Int → Nat) (cu cg now fr to_ : Int) (a b : List UInt8) (w : World) (h : WAt w B g S) (O : Ok S) (R : Rank S r) :
    Calls Tryz.prog 121 #[.pointer (some ⟨g.bW, 0, none⟩), .agg #[.int .i64 cu, .int .i64 cg], .int .i64 now, .int .i64 fr, .string (bs a), .int .i64 to_, .string (bs b)] w (ErrR w B g (moveT S cu cg now fr to_ a b) (moveE S cu cg fr to_ a b)) := by
  obtain ⟨W0, hW0⟩ : ∃ W0, W0 = w.alloc (.cells #[.int .i64 cu, .int .i64 cg] 24) := ⟨_, rfl⟩
  have E0 : Ext w W0 := by rw [hW0]; exact (Ext.refl _).alloc _
  have C0 : Has W0 w.heap.size (.cells #[.int .i64 cu, .int .i64 cg] 24) := by rw [hW0]; exact Has.new w _
  have HO := Lib.hid O
  have HR := Lib.hid R
  have HE : Hid (moveE S cu cg fr to_ a b = moveX S cu cg fr to_ (leaveE S cu cg fr a) (placeE S cu cg to_ b) (leaveD S cu cg fr a) (leaveN S cu cg fr a) (placeN S cu cg to_ b) (isN S.nodes (oldNo S cu cg to_ b)) (getN S.nodes (oldNo S cu cg to_ b))) := by show _ = _; rfl
  have HZ : Hid (leaveE S cu cg fr a = 0 → _) := fun h0 => leaveE_zero (nm := a) h0
  have HP : Hid (placeE S cu cg to_ b = 0 → _) := fun h0 => placeE_zero (nm := b) h0
  have HS : Hid (∀ (w' : World) (x : Int), Ext w w' → moveE S cu cg fr to_ a b = x → (x ≠ 0 ∨ sameB S cu cg fr to_ a b) → ErrR w B g (moveT S cu cg now fr to_ a b) (moveE S cu cg fr to_ a b) (.returned (.int .i64 x)) w') := by
    show ∀ (w' : World) (x : Int), _
    intro w' x hE hx h0
    rw [hx]
    refine errR_same h hE ?_
    unfold moveT
    rw [if_neg]
    rintro ⟨h1, h2⟩
    rcases h0 with h0 | h0
    · exact h0 (hx.symm.trans h1)
    · exact h2 h0
  have x0 : W0.cell? ⟨w.heap.size, 0, none⟩ = some (.int .i64 cu) := C0.cell 0
  have x1 : W0.cell? ⟨w.heap.size, 1, none⟩ = some (.int .i64 cg) := C0.cell 1
  have xz := C0.lt
  clear O R
  go_enter Tryz.func121, Tryz.ntmps121
  go_upto_region 1 with fail
  rw [← hW0]
  clear hW0
  go_wp2_with fail
  refine (pleave_any B g S cu cg fr a _ (h.ext E0) HO.out).mono ?_
  rintro e w2 ⟨A1, c1, A2, c2, rfl, okd, okn, b2⟩
  obtain ⟨d, hd⟩ : ∃ d, d = leaveD S cu cg fr a := ⟨_, rfl⟩
  obtain ⟨n, hn⟩ : ∃ n, n = leaveN S cu cg fr a := ⟨_, rfl⟩
  obtain ⟨x, hx⟩ : ∃ x, x = leaveE S cu cg fr a := ⟨_, rfl⟩
  rw [← hd] at okd
  rw [← hn] at okn
  rw [← hd, ← hn, ← hx]
  rw [← hx] at HZ
  rw [← hd, ← hn, ← hx] at HE
  have HDD := Lib.hid hd
  have HNN := Lib.hid hn
  obtain ⟨W3, hW3⟩ : ∃ W3, W3 = (w2.alloc (.cells #[.int .i64 d.no, .int .i64 d.dev, .int .i64 d.kind, .int .i64 d.mode, .int .i64 d.uid, .int .i64 d.gid, .int .i64 d.mtime, .int .i64 d.ctime, .int .i64 d.links, .int .i64 d.up, .string (bs d.data), .slice A1 d.ents.length c1] 87)).alloc (.cells #[.int .i64 n.no, .int .i64 n.dev, .int .i64 n.kind, .int .i64 n.mode, .int .i64 n.uid, .int .i64 n.gid, .int .i64 n.mtime, .int .i64 n.ctime, .int .i64 n.links, .int .i64 n.up, .string (bs n.data), .slice A2 n.ents.length c2] 87) := ⟨_, rfl⟩
  have E23 : Ext w2 W3 := by rw [hW3]; exact ((Ext.refl _).alloc _).alloc _
  obtain ⟨b15, hb15⟩ : ∃ b, b = w2.heap.size := ⟨_, rfl⟩
  have D3 : Has W3 b15 (.cells #[.int .i64 d.no, .int .i64 d.dev, .int .i64 d.kind, .int .i64 d.mode, .int .i64 d.uid, .int .i64 d.gid, .int .i64 d.mtime, .int .i64 d.ctime, .int .i64 d.links, .int .i64 d.up, .string (bs d.data), .slice A1 d.ents.length c1] 87) := by rw [hW3, hb15]; exact (Has.new w2 _).alloc _
  have N3 : Has W3 (b15 + 1) (.cells #[.int .i64 n.no, .int .i64 n.dev, .int .i64 n.kind, .int .i64 n.mode, .int .i64 n.uid, .int .i64 n.gid, .int .i64 n.mtime, .int .i64 n.ctime, .int .i64 n.links, .int .i64 n.up, .string (bs n.data), .slice A2 n.ents.length c2] 87) := by
    rw [hW3, hb15]
    have := Has.new (w2.alloc (.cells #[.int .i64 d.no, .int .i64 d.dev, .int .i64 d.kind, .int .i64 d.mode, .int .i64 d.uid, .int .i64 d.gid, .int .i64 d.mtime, .int .i64 d.ctime, .int .i64 d.links, .int .i64 d.up, .string (bs d.data), .slice A1 d.ents.length c1] 87)) (.cells #[.int .i64 n.no, .int .i64 n.dev, .int .i64 n.kind, .int .i64 n.mode, .int .i64 n.uid, .int .i64 n.gid, .int .i64 n.mtime, .int .i64 n.ctime, .int .i64 n.links, .int .i64 n.up, .string (bs n.data), .slice A2 n.ents.length c2] 87)
    rwa [World.size_alloc] at this
  have okd3 := okd.ext E23
  have okn3 := okn.ext E23
  have E3 := (E0.trans b2).trans E23
  have C3 := C0.ext (b2.trans E23)
  have hb15w : w.heap.size ≤ b15 := by rw [hb15]; exact (E0.trans b2).size
  clear x0 x1 xz hd hn hx C0 okd okn E23
  go_upto_region 2 with fail
  rw [← hW3]
  rw [← hb15]
  clear hW3 hb15
  by_cases hx0 : x = 0
  case neg =>
    have t0 : (x == 0) = false := by simpa using hx0
    have t0b : (x != 0) = true := by simpa using hx0
    have hE : Hid (moveE S cu cg fr to_ a b = x) := by show _ = _; rw [HE.out]; unfold moveX; rw [if_pos hx0]
    have HX := Lib.hid hx0
    clear hx0
    go_wp2_with fail
    go_ret
    exact HS.out _ _ E3 hE.out (.inl HX.out)
  have t0 : (x == 0) = true := by simpa using hx0
  have t0b : (x != 0) = false := by simpa using hx0
  have HLZ := Lib.hid (HZ.out hx0)
  have HX0 := Lib.hid hx0
  have x0 : W3.cell? ⟨w.heap.size, 0, none⟩ = some (.int .i64 cu) := C3.cell 0
  have x1 : W3.cell? ⟨w.heap.size, 1, none⟩ = some (.int .i64 cg) := C3.cell 1
  have xz := C3.lt
  clear hx0 HZ
  go_wp2_with fail
  refine (pplace_any B g S cu cg to_ b _ (h.ext E3) HO.out.live.devs).mono ?_
  rintro e w4 ⟨A4, c4, rfl, okt, b4⟩
  obtain ⟨t, ht⟩ : ∃ t, t = placeN S cu cg to_ b := ⟨_, rfl⟩
  obtain ⟨y, hy⟩ : ∃ y, y = placeE S cu cg to_ b := ⟨_, rfl⟩
  rw [← ht] at okt
  rw [← ht, ← hy]
  rw [← ht, ← hy] at HE
  rw [← hy] at HP
  have HTT := Lib.hid ht
  have HYY := Lib.hid hy
  obtain ⟨W5, hW5⟩ : ∃ W5, W5 = w4.alloc (.cells #[.int .i64 t.no, .int .i64 t.dev, .int .i64 t.kind, .int .i64 t.mode, .int .i64 t.uid, .int .i64 t.gid, .int .i64 t.mtime, .int .i64 t.ctime, .int .i64 t.links, .int .i64 t.up, .string (bs t.data), .slice A4 t.ents.length c4] 87) := ⟨_, rfl⟩
  have E45 : Ext w4 W5 := by rw [hW5]; exact (Ext.refl _).alloc _
  obtain ⟨b18, hb18⟩ : ∃ b, b = w4.heap.size := ⟨_, rfl⟩
  have T5 : Has W5 b18 (.cells #[.int .i64 t.no, .int .i64 t.dev, .int .i64 t.kind, .int .i64 t.mode, .int .i64 t.uid, .int .i64 t.gid, .int .i64 t.mtime, .int .i64 t.ctime, .int .i64 t.links, .int .i64 t.up, .string (bs t.data), .slice A4 t.ents.length c4] 87) := by rw [hW5, hb18]; exact Has.new w4 _
  have E35 := b4.trans E45
  have okd5 := okd3.ext E35
  have okn5 := okn3.ext E35
  have okt5 := okt.ext E45
  have D5 := D3.ext E35
  have N5 := N3.ext E35
  have C5 := C3.ext E35
  have E5 := E3.trans E35
  have hb18w : b15 + 1 < b18 := by rw [hb18]; have := N3.lt; have := b4.size; omega
  clear x0 x1 xz ht hy okt E45 D3 N3 C3 okd3 okn3 b4
  go_upto_region 5 with fail
  rw [← hW5]
  rw [← hb18]
  clear hW5 hb18
  by_cases hy0 : y = 0
  case neg =>
    have t1 : (y == 0) = false := by simpa using hy0
    have t1b : (y != 0) = true := by simpa using hy0
    have hE : Hid (moveE S cu cg fr to_ a b = y) := by show _ = _; rw [HE.out]; unfold moveX; rw [if_neg (not_not_intro HX0.out), if_pos hy0]
    have HX := Lib.hid hy0
    clear hy0
    go_wp2_with fail
    go_ret
    exact HS.out _ _ E5 hE.out (.inl HX.out)
  have t1 : (y == 0) = true := by simpa using hy0
  have t1b : (y != 0) = false := by simpa using hy0
  have HPZ := Lib.hid (HP.out hy0)
  have HY0 := Lib.hid hy0
  have HPN : Hid (t = getN S.nodes to_) := Lib.hid (HTT.out.trans (placeN_zero (by rw [← HYY.out]; exact hy0)))
  obtain ⟨old_, hold⟩ : ∃ o, o = oldNo S cu cg to_ b := ⟨_, rfl⟩
  have hold2 : findF t.ents b = old_ := by rw [hold, HTT.out]; rfl
  have hre := HO.out.entsN to_
  rw [← HPN.out] at hre
  have KF : Hid (∀ u : Gr W5, Calls Tryz.prog 162 #[.slice A4 t.ents.length c4, .string (bs b)] u.w (Ret u.w (.int .i64 old_))) := by
    show ∀ u : Gr W5, _
    intro u
    rw [← hold2, ← numOf_findF hre.1]
    exact find_any A4 t.ents c4 b u.w (okt5.ext u.h).ents.ents hre.1 (by have := hre.2; omega)
  have K5 := h.ext E5
  obtain ⟨A6, c6, ok6, C6⟩ := tget_fix B g S old_ W5 K5
  obtain ⟨o, ho⟩ : ∃ o, o = getN S.nodes old_ := ⟨_, rfl⟩
  obtain ⟨is, his⟩ : ∃ is, is = isN S.nodes old_ := ⟨_, rfl⟩
  rw [← ho] at ok6 C6
  rw [← his] at C6
  rw [← hold, ← ho, ← his] at HE
  have HC6 := Lib.hid C6
  have HOO := Lib.hid ho
  have HIS := Lib.hid his
  have HOLD := Lib.hid hold
  obtain ⟨_, _, cdw, hWw, _⟩ := id K5
  have v0 : ∀ u : Gr W5, u.w.cell? ⟨g.bW, 0, none⟩ = some (.pointer (some ⟨g.bT, 0, none⟩)) := Gr.cell hWw.lt (hWw.cell 0)
  have t11 : ∀ u : Gr W5, u.w.cell? ⟨b18, 11, none⟩ = some (.slice A4 t.ents.length c4) := Gr.cell T5.lt (T5.cell 11)
  clear hy0 HP hold hold2 hre C6 ho his hWw
  go_upto_region 7 with fail
  refine wp_region_nbox W5 12 13 19 57 o A6 c6 _ _ (by kernel_rfl) (by kernel_rfl) rfl rfl rfl rfl (by simp) ((Ext.refl _).drew) ?_
  simp only [List.take_succ_cons, List.take_zero, List.drop_succ_cons, List.drop_zero, List.drop_nil]
  repeat (refine wpQuietR_step (fun K hK => ?_)
          go_simp
          first
            | (refine hK _ ?_; clear hK K)
            | (apply Exists.intro
               refine ⟨fun u => ?_, hK _ ?_⟩
               first
                 | ((with_reducible refine (KF.out _).mono ?_); rintro e w'' ⟨rfl, hx⟩; exact ⟨rfl, hx⟩)
                 | ((with_reducible refine (HC6.out _ u.h).mono ?_); rintro e w'' ⟨rfl, hx⟩; exact ⟨rfl, hx⟩)
               clear hK K))
  refine wpQuietR_nil ?_
  refine wpQuietR_nil ⟨rfl, ?_⟩
  repeat (refine wpQuietR_step (fun K hK => ?_); go_simp; refine hK _ ?_; clear hK K)
  refine wpQuietR_nil ?_
  intro w6 b19 E56 hb19 O6
  simp only [Act.put]
  have okd6 := okd5.ext E56
  have okn6 := okn5.ext E56
  have okt6 := okt5.ext E56
  have oko6 := ok6.ext E56
  have D6 := D5.ext E56
  have N6 := N5.ext E56
  have T6 := T5.ext E56
  have C6' := C5.ext E56
  have X6 := E5.trans E56
  have hb19w : b18 < b19 := by have := T5.lt; omega
  have HKS : Hid (moveE S cu cg fr to_ a b = moveX S cu cg fr to_ x y d n t is o) := HE
  have HSM : Hid (sameB S cu cg fr to_ a b ↔ (is = true ∧ o.no = n.no)) := by
    refine Lib.hid ?_
    unfold sameB
    rw [HIS.out, HOO.out, HNN.out, HOLD.out]
  have HX6 := Lib.hid X6
  have e1 : w6.cell? ⟨b15, 1, none⟩ = some (.int .i64 d.dev) := D6.cell 1
  have e2 : w6.cell? ⟨b18, 1, none⟩ = some (.int .i64 t.dev) := T6.cell 1
  have e3 : w6.cell? ⟨b15 + 1, 2, none⟩ = some (.int .i64 n.kind) := N6.cell 2
  have e4 : w6.cell? ⟨b15 + 1, 0, none⟩ = some (.int .i64 n.no) := N6.cell 0
  have e5 : w6.cell? ⟨b19, 0, none⟩ = some (.int .i64 o.no) := O6.cell 0
  have z1 := D6.lt
  have z2 := T6.lt
  have z3 := N6.lt
  have z4 := O6.lt
  clear v0 t11 KF HC6 okd5 okn5 okt5 ok6 D5 N5 T5 C5 E5 E56 hb19 K5 E3 E35 X6 HE
  go_upto_block 0 with fail
  go_simp
  go_cut [59] (fun _ wc => Ext w6 wc ∧ d.dev = t.dev ∧ ¬ (n.kind = 1 ∧ withinF S to_ n.no = true) ∧ ¬ (is = true ∧ o.no = n.no) ∧ ¬ (n.kind = 1 ∧ ¬ fr = to_ ∧ mayB cu cg n.uid n.gid n.mode 2 = false))
  case first =>
    by_cases q1 : d.dev = t.dev
    case neg =>
      have s1 : (d.dev == t.dev) = false := by simpa using q1
      have s1b : (d.dev != t.dev) = true := by simpa using q1
      have hE : Hid (moveE S cu cg fr to_ a b = 11) := by show _ = _; rw [HKS.out]; unfold moveX; rw [if_neg (not_not_intro HX0.out), if_neg (not_not_intro HY0.out), if_pos q1]
      clear q1
      go_wp2_with fail
      go_ret
      exact HS.out _ _ HX6.out hE.out (.inl (by decide))
    have s1 : (d.dev == t.dev) = true := by simpa using q1
    have s1b : (d.dev != t.dev) = false := by simpa using q1
    have Q1 := Lib.hid q1
    clear q1
    by_cases q2 : n.kind = 1
    case neg =>
      have s2 : (n.kind == 1) = false := by simpa using q2
      have Q2 := Lib.hid q2
      clear q2
      cases is
      · have HNS : Hid (¬ (false = true ∧ o.no = n.no)) := Lib.hid (fun h => absurd h.1 (by decide))
        go_wp2_with fail
        go_meet
        exact ⟨Ext.refl _, Q1.out, fun h => Q2.out h.1, HNS.out, fun h => Q2.out h.1⟩
      · by_cases q3 : o.no = n.no
        · have s3 : (o.no == n.no) = true := by simpa using q3
          have hE : Hid (moveE S cu cg fr to_ a b = 0) := by show _ = _; rw [HKS.out]; unfold moveX; rw [if_neg (not_not_intro HX0.out), if_neg (not_not_intro HY0.out), if_neg (not_not_intro Q1.out), if_neg (fun h => Q2.out h.1), if_pos ⟨rfl, q3⟩]
          have hsm : Hid (sameB S cu cg fr to_ a b) := Lib.hid (HSM.out.2 ⟨rfl, q3⟩)
          clear q3
          go_wp2_with fail
          go_ret
          exact HS.out _ _ HX6.out hE.out (.inr hsm.out)
        have s3 : (o.no == n.no) = false := by simpa using q3
        have HNS : Hid (¬ (true = true ∧ o.no = n.no)) := Lib.hid (fun h => q3 h.2)
        clear q3
        go_wp2_with fail
        go_meet
        exact ⟨Ext.refl _, Q1.out, fun h => Q2.out h.1, HNS.out, fun h => Q2.out h.1⟩
    have s2 : (n.kind == 1) = true := by simpa using q2
    have Q2 := Lib.hid q2
    clear q2
    go_wp2_with fail
    refine (pwithin_any B g S r to_ n.no _ (h.ext HX6.out) HO.out.live.devs HO.out.live.eight HO.out.live.roots HO.out.live.nos HR.out).mono ?_
    rintro e w7 ⟨rfl, b7⟩
    have B7 := Lib.hid b7
    have X7 := HX6.out.trans b7
    obtain ⟨wi, hwi⟩ : ∃ wi, wi = withinF S to_ n.no := ⟨_, rfl⟩
    rw [← hwi]
    have HWI := Lib.hid hwi
    have e3' : w7.cell? ⟨b15 + 1, 2, none⟩ = some (.int .i64 n.kind) := (N6.ext b7).cell 2
    have e4' : w7.cell? ⟨b15 + 1, 0, none⟩ = some (.int .i64 n.no) := (N6.ext b7).cell 0
    have e5' : w7.cell? ⟨b19, 0, none⟩ = some (.int .i64 o.no) := (O6.ext b7).cell 0
    have z3' := (N6.ext b7).lt
    have z4' := (O6.ext b7).lt
    clear hwi b7 e1 e2 e3 e4 e5 z1 z2 z3 z4
    cases wi
    case true =>
      have hE : Hid (moveE S cu cg fr to_ a b = 17) := by show _ = _; rw [HKS.out]; unfold moveX; rw [if_neg (not_not_intro HX0.out), if_neg (not_not_intro HY0.out), if_neg (not_not_intro Q1.out), if_pos ⟨Q2.out, HWI.out.symm⟩]
      go_wp2_with fail
      go_ret
      exact HS.out _ _ X7 hE.out (.inl (by decide))
    have HNW : Hid (¬ (n.kind = 1 ∧ withinF S to_ n.no = true)) := Lib.hid (fun h => by rw [← HWI.out] at h; exact absurd h.2 (by decide))
    cases is
    · have HNS : Hid (¬ (false = true ∧ o.no = n.no)) := Lib.hid (fun h => absurd h.1 (by decide))
      by_cases q4 : fr = to_
      · have s4 : (fr == to_) = true := by simpa using q4
        have s4b : (fr != to_) = false := by simpa using q4
        have Q4 := Lib.hid q4
        clear q4
        go_wp2_with fail
        go_meet
        exact ⟨B7.out, Q1.out, HNW.out, HNS.out, fun h => h.2.1 Q4.out⟩
      have s4 : (fr == to_) = false := by simpa using q4
      have s4b : (fr != to_) = true := by simpa using q4
      have Q4 := Lib.hid q4
      have x0 : w7.cell? ⟨w.heap.size, 0, none⟩ = some (.int .i64 cu) := (C6'.ext B7.out).cell 0
      have x1 : w7.cell? ⟨w.heap.size, 1, none⟩ = some (.int .i64 cg) := (C6'.ext B7.out).cell 1
      have xz := (C6'.ext B7.out).lt
      obtain ⟨n0, n1, n2, n3, n4, n5, n6, n7, n8, n9, n10, n11⟩ := (N6.ext B7.out).node12
      obtain ⟨u, hu⟩ : ∃ u, u = mayB cu cg n.uid n.gid n.mode 2 := ⟨_, rfl⟩
      have HU := Lib.hid hu
      have HE6 : Hid (u = false → moveE S cu cg fr to_ a b = 6) := Lib.hid (fun hu' => by rw [HKS.out]; unfold moveX; rw [if_neg (not_not_intro HX0.out), if_neg (not_not_intro HY0.out), if_neg (not_not_intro Q1.out), if_neg HNW.out, if_neg HNS.out, if_pos ⟨Q2.out, Q4.out, by rw [← HU.out]; exact hu'⟩])
      clear q4 hu e3' e4'
      go_wp2_with fail
      refine (pnode_any cu cg _ _ _ n.mode n.uid n.gid _ _ _ _ _ _ 2 _).mono ?_
      rw [← HU.out]
      rintro e w8 ⟨rfl, b8⟩
      clear x0 x1 xz n0 n1 n2 n3 n4 n5 n6 n7 n8 n9 n10 n11
      cases u
      · have hE : Hid (moveE S cu cg fr to_ a b = 6) := Lib.hid (HE6.out rfl)
        go_wp2_with fail
        go_ret
        exact HS.out _ _ (X7.trans b8) hE.out (.inl (by decide))
      · go_wp2_with fail
        go_meet
        exact ⟨B7.out.trans b8, Q1.out, HNW.out, HNS.out, fun h => by rw [← HU.out] at h; exact absurd h.2.2 (by decide)⟩
    · by_cases q3 : o.no = n.no
      · have s3 : (o.no == n.no) = true := by simpa using q3
        have hE : Hid (moveE S cu cg fr to_ a b = 0) := by show _ = _; rw [HKS.out]; unfold moveX; rw [if_neg (not_not_intro HX0.out), if_neg (not_not_intro HY0.out), if_neg (not_not_intro Q1.out), if_neg HNW.out, if_pos ⟨rfl, q3⟩]
        have hsm : Hid (sameB S cu cg fr to_ a b) := Lib.hid (HSM.out.2 ⟨rfl, q3⟩)
        clear q3
        go_wp2_with fail
        go_ret
        exact HS.out _ _ X7 hE.out (.inr hsm.out)
      have s3 : (o.no == n.no) = false := by simpa using q3
      have HNS : Hid (¬ (true = true ∧ o.no = n.no)) := Lib.hid (fun h => q3 h.2)
      clear q3
      by_cases q4 : fr = to_
      · have s4 : (fr == to_) = true := by simpa using q4
        have s4b : (fr != to_) = false := by simpa using q4
        have Q4 := Lib.hid q4
        clear q4
        go_wp2_with fail
        go_meet
        exact ⟨B7.out, Q1.out, HNW.out, HNS.out, fun h => h.2.1 Q4.out⟩
      have s4 : (fr == to_) = false := by simpa using q4
      have s4b : (fr != to_) = true := by simpa using q4
      have Q4 := Lib.hid q4
      have x0 : w7.cell? ⟨w.heap.size, 0, none⟩ = some (.int .i64 cu) := (C6'.ext B7.out).cell 0
      have x1 : w7.cell? ⟨w.heap.size, 1, none⟩ = some (.int .i64 cg) := (C6'.ext B7.out).cell 1
      have xz := (C6'.ext B7.out).lt
      obtain ⟨n0, n1, n2, n3, n4, n5, n6, n7, n8, n9, n10, n11⟩ := (N6.ext B7.out).node12
      obtain ⟨u, hu⟩ : ∃ u, u = mayB cu cg n.uid n.gid n.mode 2 := ⟨_, rfl⟩
      have HU := Lib.hid hu
      have HE6 : Hid (u = false → moveE S cu cg fr to_ a b = 6) := Lib.hid (fun hu' => by rw [HKS.out]; unfold moveX; rw [if_neg (not_not_intro HX0.out), if_neg (not_not_intro HY0.out), if_neg (not_not_intro Q1.out), if_neg HNW.out, if_neg HNS.out, if_pos ⟨Q2.out, Q4.out, by rw [← HU.out]; exact hu'⟩])
      clear q4 hu e3' e4'
      go_wp2_with fail
      refine (pnode_any cu cg _ _ _ n.mode n.uid n.gid _ _ _ _ _ _ 2 _).mono ?_
      rw [← HU.out]
      rintro e w8 ⟨rfl, b8⟩
      clear x0 x1 xz n0 n1 n2 n3 n4 n5 n6 n7 n8 n9 n10 n11
      cases u
      · have hE : Hid (moveE S cu cg fr to_ a b = 6) := Lib.hid (HE6.out rfl)
        go_wp2_with fail
        go_ret
        exact HS.out _ _ (X7.trans b8) hE.out (.inl (by decide))
      · go_wp2_with fail
        go_meet
        exact ⟨B7.out.trans b8, Q1.out, HNW.out, HNS.out, fun h => by rw [← HU.out] at h; exact absurd h.2.2 (by decide)⟩
  case rest =>
  obtain ⟨B7, q1, q2, q3, q4⟩ := hcut
  obtain ⟨w7, hw7⟩ : ∃ w7, w7 = wc := ⟨_, rfl⟩
  rw [← hw7] at B7 ⊢
  have X7 := HX6.out.trans B7
  have K7 := h.ext X7
  have okd7 := okd6.ext B7
  have okn7 := okn6.ext B7
  have okt7 := okt6.ext B7
  have oko7 := oko6.ext B7
  have D7 := D6.ext B7
  have N7 := N6.ext B7
  have T7 := T6.ext B7
  have O7 := O6.ext B7
  have C7 := C6'.ext B7
  have HEX : Hid (moveE S cu cg fr to_ a b = if is = true then putE S cu t n o else 0) := by
    refine Lib.hid ?_
    rw [HKS.out]; unfold moveX
    rw [if_neg (not_not_intro HX0.out), if_neg (not_not_intro HY0.out), if_neg (not_not_intro q1), if_neg q2, if_neg q3, if_neg q4]
  have HMT : Hid (moveE S cu cg fr to_ a b = 0 → moveT S cu cg now fr to_ a b = laidT (overT S now old_) now fr to_ a b d n) := by
    refine Lib.hid fun h0 => ?_
    unfold moveT
    rw [if_pos ⟨h0, fun hs => q3 (HSM.out.1 hs)⟩, ← HDD.out, ← HNN.out, ← HOLD.out]
  have HX7 := Lib.hid X7
  have HD6 := Lib.hid D7
  clear hw7 q1 q2 q3 q4 e1 e2 e3 e4 e5 z1 z2 z3 z4 okd6 okn6 okt6 oko6 D6 N6 T6 O6 C6' B7
  go_upto_if 100 with fail
  go_cut [21] (fun _ wc => ∃ T, WAt wc B g T ∧ Only g.list w7 wc ∧ T = overT S now old_ ∧ moveE S cu cg fr to_ a b = 0)
  case first =>
    cases is
    · go_wp2_with fail
      go_meet
      exact ⟨S, K7, Only.refl _ _, by unfold overT; rw [← HIS.out, if_neg (by decide)], by rw [HEX.out]; rfl⟩
    have x0 : w7.cell? ⟨w.heap.size, 0, none⟩ = some (.int .i64 cu) := C7.cell 0
    have x1 : w7.cell? ⟨w.heap.size, 1, none⟩ = some (.int .i64 cg) := C7.cell 1
    have xz := C7.lt
    have hol := HO.out.entsN old_
    rw [← HOO.out] at hol
    have hto : overT S now old_ = lessT S now o := by unfold overT; rw [← HIS.out, if_pos rfl, HOO.out]
    have HTO := Lib.hid hto
    have hhe := HO.out.held (no := old_) (by rw [← HIS.out])
    rw [← HOO.out] at hhe
    have HHE := Lib.hid hhe
    have HOL := Lib.hid hol
    obtain ⟨p, hp⟩ : ∃ p, p = putE S cu t n o := ⟨_, rfl⟩
    have HPP := Lib.hid hp
    have hE : Hid (moveE S cu cg fr to_ a b = p) := by show _ = _; rw [HEX.out, if_pos rfl, hp]
    clear hol hto hhe hp
    go_wp2_with (first | (refine wpList_load_node rfl _ rfl b18 t A4 c4 rfl T7 ?_) | (refine wpList_load_node rfl _ rfl (b15 + 1) n A2 c2 rfl N7 ?_) | (refine wpList_load_node rfl _ rfl b19 o A6 c6 rfl O7 ?_))
    refine (pover19_any B g S cu cg t n o A4 A2 A6 c4 c2 c6 _ K7 HO.out.live.devs HO.out.live.eight (by have := HOL.out.2; omega)).mono ?_
    rw [← HPP.out]
    rintro e w8 ⟨rfl, b8⟩
    have O8 := O7.ext b8
    have oko8 := oko7.ext b8
    have K8 := K7.ext b8
    clear x0 x1 xz
    by_cases hp0 : p = 0
    case neg =>
      have s1 : (p == 0) = false := by simpa using hp0
      have s1b : (p != 0) = true := by simpa using hp0
      have HP0 := Lib.hid hp0
      clear hp0
      go_wp2_with fail
      go_ret
      exact HS.out _ _ (HX7.out.trans b8) hE.out (.inl HP0.out)
    have s1 : (p == 0) = true := by simpa using hp0
    have s1b : (p != 0) = false := by simpa using hp0
    have HP0 := Lib.hid hp0
    clear hp0
    go_wp2_with (refine wpList_load_node rfl _ rfl b19 o A6 c6 rfl O8 ?_)
    refine (pless_any B g S now o A6 c6 _ K8 HO.out.live oko8 HHE.out).mono ?_
    rintro e w9 ⟨rfl, K9, O9⟩
    go_wp2_with fail
    go_meet
    exact ⟨_, K9, Only.pre b8 O9, HTO.out.symm, hE.out.trans HP0.out⟩
  case rest =>
  obtain ⟨T, K8', O8', hT, hE0⟩ := hcut
  obtain ⟨w8, hw8⟩ : ∃ w8, w8 = wc := ⟨_, rfl⟩
  rw [← hw8] at K8' O8' ⊢
  have hng : ∀ b, w.heap.size ≤ b → b ∉ g.list := by
    intro b hb hm
    have hlw := h.lt
    simp only [GhW.list, List.mem_cons, List.not_mem_nil, or_false] at hm
    omega
  have HNG := Lib.hid hng
  have okd8 := okd7.only O8' K7.apart
  have okn8 := okn7.only O8' K7.apart
  have D8 := O8'.has D7 (hng _ (by omega))
  have N8 := O8'.has N7 (hng _ (by omega))
  have T8 := O8'.has T7 (hng _ (by omega))
  have Ow8 := Only.pre HX7.out O8'
  have hTL : Live T := by
    rw [hT]
    unfold overT
    split
    · rename_i hi
      have hh := HO.out.held hi
      have hl := hh.live HO.out.live now
      unfold lessT
      split
      · exact hl.kill _
      · exact hl
    · exact HO.out.live
  have HT := Lib.hid hT
  have HE0 := Lib.hid hE0
  have HTL := Lib.hid hTL
  obtain ⟨zz1, zz2, zz3, zz4, zz5⟩ := HLZ.out
  rw [← HDD.out] at zz4
  have hpos : findF (getN S.nodes fr).ents a ≠ 0 := fun e => by
    rw [e] at zz2
    have := HO.out.live.nos.zero (no := 0) (.inl (by omega))
    rw [this] at zz2; cases zz2
  have hhas : has d.ents a = true := by rw [zz4]; exact has_of_find hpos
  have hden := HO.out.entsN fr
  rw [← zz4] at hden
  have HDEN := Lib.hid hden
  have HHAS := Lib.hid hhas
  have y11 : w8.cell? ⟨b15, 11, none⟩ = some (.slice A1 d.ents.length c1) := D8.cell 11
  have yz := D8.lt
  clear hw8 hng hT hE0 hTL zz1 zz2 zz3 zz4 zz5 hpos hhas hden K7 okd7 okn7 okt7 oko7 D7 N7 T7 O7 C7 O8' X7
  go_wp2_with fail
  refine (drop_yes A1 d.ents c1 a _ okd8.ents.ents HDEN.out.1 okd8.cap okd8.max (by have := HDEN.out.2; omega) HHAS.out).mono ?_
  rintro e w9 ⟨v9, rfl, hown, b9⟩
  rw [cutP_dropF _ _ HDEN.out.1 HHAS.out] at hown
  obtain ⟨A9, c9, rfl, q1, q2, q3, q4⟩ := hown.entsT (B := B)
  have K9 := K8'.ext b9
  have N9 := N8.ext b9
  have T9 := T8.ext b9
  have okn9 := okn8.ext b9
  have Ow9 := Ow8.ext b9
  obtain ⟨L9, hL9⟩ : ∃ L, L = dropF d.ents a := ⟨_, rfl⟩
  rw [← hL9] at q1 q3 ⊢
  have HL9 := Lib.hid hL9
  obtain ⟨T1, hT1⟩ : ∃ T1, T1 = touchT T fr now L9 := ⟨_, rfl⟩
  have HT1 := Lib.hid hT1
  have KT : Hid (Calls Tryz.prog 178 #[.pointer (some ⟨g.bW, 0, none⟩), .int .i64 fr, .int .i64 now, .slice A9 L9.length c9] w9 (TouchR w9 B g T1)) := by
    show Calls _ _ _ _ _
    rw [hT1]
    exact ptouch_any B g T fr now A9 L9 c9 w9 K9 HTL.out.nos q3 q1 q2 q4
  have HU1 : Hid (NosUp T1.nodes T1.last) := by show NosUp _ _; rw [hT1]; exact HTL.out.nos.set _
  clear y11 yz hown q1 q2 q3 q4 hL9 hT1 okd8 okn8 D8 N8 T8 K8' Ow8
  go_wp2_with fail
  refine KT.out.mono ?_
  rintro e w10 ⟨rfl, K10, O10⟩
  have N10 := O10.has N9 (HNG.out _ (by have := b9.size; omega))
  have T10 := O10.has T9 (HNG.out _ (by omega))
  have okn10 := okn9.only O10 K9.apart
  have Ow10 := Ow9.then O10
  obtain ⟨_, _, cdx, hWx, _⟩ := id K10
  have v0 : w10.cell? ⟨g.bW, 0, none⟩ = some (.pointer (some ⟨g.bT, 0, none⟩)) := hWx.cell 0
  have vz := hWx.lt
  clear KT O10 N9 T9 okn9 Ow9 K9 hWx
  go_wp2_with fail
  refine (tget_any B g.bT g.bM T1.nodes T1.last to_ _ K10.2.1).mono ?_
  rintro e w11 ⟨A11, c11, rfl, ok11, b11⟩
  obtain ⟨t1', ht1⟩ : ∃ t1, t1 = getN T1.nodes to_ := ⟨_, rfl⟩
  obtain ⟨i1, hi1⟩ : ∃ i1, i1 = isN T1.nodes to_ := ⟨_, rfl⟩
  rw [← ht1] at ok11
  rw [← ht1, ← hi1]
  have hrise : Rise t1'.ents ∧ t1'.ents.length ≤ 100000 := by
    have hS : ∀ m ∈ S.nodes, Rise m.ents ∧ m.ents.length ≤ 100000 := fun m hm => by
      have := HO.out.entsN m.no
      rw [(mem_getN HO.out.live.nos hm).1] at this
      exact this
    have hTA : ∀ m ∈ T.nodes, Rise m.ents ∧ m.ents.length ≤ 100000 := by
      rw [HT.out]
      exact all_over hS now old_ fun m hm => hm
    have hT1A : ∀ m ∈ T1.nodes, Rise m.ents ∧ m.ents.length ≤ 100000 := fun m hm => by
      rw [HT1.out] at hm
      rcases mem_setN hm with hm | rfl
      · exact hTA m hm
      · show Rise L9 ∧ L9.length ≤ 100000
        rw [HL9.out]
        exact ⟨rise_dropF _ HDEN.out.1, Nat.le_trans (dropF_len _ _) HDEN.out.2⟩
    rw [ht1]
    cases hi : isN T1.nodes to_
    · rw [(isN_false hi).1]; exact ⟨List.Pairwise.nil, Nat.zero_le _⟩
    · exact hT1A _ (isN_true hi).2.2
  have HRS := Lib.hid hrise
  have HT1' := Lib.hid ht1
  have T11 := T10.ext b11
  have N11 := N10.ext b11
  have K11 := K10.ext b11
  have okn11 := okn10.ext b11
  have Ow11 := Ow10.ext b11
  clear hrise ht1 hi1 v0 vz T10 N10 K10 okn10 Ow10
  go_upto_region 24 with (refine wpList_store_node rfl _ _ rfl b18 t1' A11 c11 rfl rfl T11 ?_; intro w12 T12 O12)
  have hap : Apart w11 B [b18] := by
    intro b hb
    rw [List.mem_singleton] at hb
    subst hb
    exact ⟨by have := h.1; have := h.lt.1; omega, T11.noTag (by decide)⟩
  have hnb18 : ∀ b ∈ g.list, b ∉ [b18] := by
    intro b hb he
    rw [List.mem_singleton] at he
    subst he
    exact HNG.out _ (by omega) hb
  have K12 : WAt w12 B g T1 := K11.only O12 hap hnb18
  have okn12 := okn11.only O12 hap
  have ok12 := ok11.only O12 hap
  have N12 := O12.has N11 (by simp; omega)
  have Ow12 : Only g.list w w12 := Ow11.trans O12 (by intro b hb; rw [List.mem_singleton] at hb; right; omega)
  have y11 : w12.cell? ⟨b18, 11, none⟩ = some (.slice A11 t1'.ents.length c11) := T12.cell 11
  have y0 : w12.cell? ⟨b15 + 1, 0, none⟩ = some (.int .i64 n.no) := N12.cell 0
  have yz := T12.lt
  have yz' := N12.lt
  clear hap hnb18 K11 okn11 ok11 N11 Ow11 O12 T11
  go_wp2_with fail
  refine (put_any A11 t1'.ents c11 b n.no _ ok12.ents.ents ok12.nil HRS.out.1 ok12.cap ok12.max (by have := HRS.out.2; omega)).mono ?_
  rintro e w13 ⟨v13, rfl, hown, b13⟩
  rw [putP_putF _ _ _ HRS.out.1] at hown
  obtain ⟨A13, c13, rfl, q1, q2, q3, q4⟩ := hown.entsT (B := B)
  have K13 := K12.ext b13
  have N13 := N12.ext b13
  have okn13 := okn12.ext b13
  have Ow13 := Ow12.ext b13
  obtain ⟨L13, hL13⟩ : ∃ L, L = putF t1'.ents (b, n.no) := ⟨_, rfl⟩
  rw [← hL13] at q1 q3 ⊢
  have HL13 := Lib.hid hL13
  obtain ⟨T2, hT2⟩ : ∃ T2, T2 = touchT T1 to_ now L13 := ⟨_, rfl⟩
  have HT2 := Lib.hid hT2
  have KT2 : Hid (Calls Tryz.prog 178 #[.pointer (some ⟨g.bW, 0, none⟩), .int .i64 to_, .int .i64 now, .slice A13 L13.length c13] w13 (TouchR w13 B g T2)) := by
    show Calls _ _ _ _ _
    rw [hT2]
    exact ptouch_any B g T1 to_ now A13 L13 c13 w13 K13 HU1.out q3 q1 q2 q4
  have HU2 : Hid (NosUp T2.nodes T2.last) := by show NosUp _ _; rw [hT2]; exact HU1.out.set _
  clear y11 y0 yz yz' hown q1 q2 q3 q4 hL13 hT2 K12 N12 okn12 ok12 Ow12 T12
  go_wp2_with fail
  refine KT2.out.mono ?_
  rintro e w14 ⟨rfl, K14, O14⟩
  have N14 := O14.has N13 (HNG.out _ (by omega))
  have okn14 := okn13.only O14 K13.apart
  have Ow14 := Ow13.then O14
  have y7 : w14.cell? ⟨b15 + 1, 7, none⟩ = some (.int .i64 n.ctime) := N14.cell 7
  have yf : ∀ i, w14.frozen? ⟨b15 + 1, i, none⟩ = false := fun i => (N14.free i).trans (by simp)
  have yz := N14.lt
  have HN14 := Lib.hid N14
  clear KT2 O14 N13 okn13 Ow13 K13
  go_upto_region 26 with fail
  obtain ⟨w15, hw15⟩ : ∃ w15, w15 = w14.setCell ⟨b15 + 1, 7, none⟩ (.int .i64 now) := ⟨_, rfl⟩
  rw [← hw15]
  have N15 : Has w15 (b15 + 1) (.cells #[.int .i64 (({ n with ctime := now } : NodeD)).no, .int .i64 (({ n with ctime := now } : NodeD)).dev, .int .i64 (({ n with ctime := now } : NodeD)).kind, .int .i64 (({ n with ctime := now } : NodeD)).mode, .int .i64 (({ n with ctime := now } : NodeD)).uid, .int .i64 (({ n with ctime := now } : NodeD)).gid, .int .i64 (({ n with ctime := now } : NodeD)).mtime, .int .i64 (({ n with ctime := now } : NodeD)).ctime, .int .i64 (({ n with ctime := now } : NodeD)).links, .int .i64 (({ n with ctime := now } : NodeD)).up, .string (bs (({ n with ctime := now } : NodeD)).data), .slice A2 (({ n with ctime := now } : NodeD)).ents.length c2] 87) := by rw [hw15]; exact N14.setCell 7 _
  have O15 : Only [b15 + 1] w14 w15 := by rw [hw15]; exact Only.setCell _ _ _ _
  have y2 : w15.cell? ⟨b15 + 1, 2, none⟩ = some (.int .i64 n.kind) := N15.cell 2
  have y9 : w15.cell? ⟨b15 + 1, 9, none⟩ = some (.int .i64 n.up) := N15.cell 9
  have yf' : ∀ i, w15.frozen? ⟨b15 + 1, i, none⟩ = false := fun i => (N15.free i).trans (by simp)
  have yz' := N15.lt
  clear hw15 y7 yf yz N14
  go_upto_if 149 with fail
  go_cut [150] (fun _ wc => Has wc (b15 + 1) (.cells #[.int .i64 (laidN now to_ n).no, .int .i64 (laidN now to_ n).dev, .int .i64 (laidN now to_ n).kind, .int .i64 (laidN now to_ n).mode, .int .i64 (laidN now to_ n).uid, .int .i64 (laidN now to_ n).gid, .int .i64 (laidN now to_ n).mtime, .int .i64 (laidN now to_ n).ctime, .int .i64 (laidN now to_ n).links, .int .i64 (laidN now to_ n).up, .string (bs (laidN now to_ n).data), .slice A2 (laidN now to_ n).ents.length c2] 87) ∧ Only [b15 + 1] w14 wc)
  case first =>
    by_cases hk : n.kind = 1
    · have s1 : (n.kind == 1) = true := by simpa using hk
      have hl : Hid (laidN now to_ n = { n with ctime := now, up := to_ }) := by show _ = _; unfold laidN; rw [if_pos hk]
      clear hk
      go_wp2_with fail
      go_meet
      exact ⟨by rw [hl.out]; exact N15.setCell 9 _, O15.then (Only.setCell _ _ _ _)⟩
    · have s1 : (n.kind == 1) = false := by simpa using hk
      have hl : Hid (laidN now to_ n = { n with ctime := now }) := by show _ = _; unfold laidN; rw [if_neg hk]
      clear hk
      go_wp2_with fail
      go_meet
      exact ⟨by rw [hl.out]; exact N15, O15⟩
  case rest =>
  obtain ⟨N16, O16⟩ := hcut
  obtain ⟨w16, hw16⟩ : ∃ w16, w16 = wc := ⟨_, rfl⟩
  rw [← hw16] at N16 O16 ⊢
  obtain ⟨n', hn'⟩ : ∃ n', n' = laidN now to_ n := ⟨_, rfl⟩
  rw [← hn'] at N16
  have hap : Apart w14 B [b15 + 1] := by
    intro b hb
    rw [List.mem_singleton] at hb
    subst hb
    exact ⟨by have := h.1; have := h.lt.1; omega, HN14.out.noTag (by decide)⟩
  have K16 : WAt w16 B g T2 := K14.only O16 hap (by
    intro b hb he
    rw [List.mem_singleton] at he
    subst he
    exact HNG.out _ (by omega) hb)
  have okn16 : NodeOk w16 B n' A2 c2 := (okn14.only O16 hap).same (by rw [hn']; unfold laidN; rfl)
  have Ow16 : Only g.list w w16 := Ow14.trans O16 (by intro b hb; rw [List.mem_singleton] at hb; right; omega)
  have HN' := Lib.hid hn'
  obtain ⟨_, _, cdy, hWy, _⟩ := id K16
  have v0 : w16.cell? ⟨g.bW, 0, none⟩ = some (.pointer (some ⟨g.bT, 0, none⟩)) := hWy.cell 0
  have vz := hWy.lt
  obtain ⟨e0, e1, e2, e3, e4, e5, e6, e7, e8, e9, e10, e11⟩ := N16.node12
  have ez := N16.lt
  clear hw16 hn' hap hWy N15 O15 y2 y9 yf' yz' K14 okn14 Ow14 O16
  go_upto_region 28 with fail
  go_still_tail 5, (by kernel_rfl)
  change wpList _ _ _ _ _ w16.drew
  go_wp2_with fail
  have ED : Ext w16 w16.drew := (Ext.refl _).drew
  refine (wset_any B g T2 n' A2 c2 _ (K16.ext ED) HU2.out (okn16.ext ED)).mono ?_
  rintro e w17 ⟨rfl, K17, O17⟩
  clear e0 e1 e2 e3 e4 e5 e6 e7 e8 e9 e10 e11 ez v0 vz
  go_wp2_with fail
  go_ret
  rw [HE0.out]
  refine ⟨rfl, ?_, Ow16.then (Only.pre ED O17)⟩
  rw [HMT.out HE0.out]
  unfold laidT
  rw [← HT.out, ← HL9.out, ← HT1.out, ← HT1'.out, ← HL13.out, ← HT2.out, ← HN'.out]
  exact K17
end Go.Proofs.YtjblimclakfhfaaGreat

namespace Go.Proofs.YtjblimclakfhfaaGreat
open Go.ChangeShapes Go.WideShapes Go.ChangeAt Go.RowKit

def b17a : TreeD := rootT emptyT 0 9 9
def b17b : TreeD := comeT b17a 0 0 7 1 [100] (dirZ 448 1)
def b17c : TreeD := comeT b17b 0 0 8 2 [120] (fileZ 384 [97, 98, 99])
theorem b17_tre : Tre 0 b17a ∧ Tre 1 b17b ∧ Tre 2 b17c := by
  have h0 : Tre 0 b17a := tre_first (by decide)
  have h1 : Tre 1 b17b := tre_comeT h0 rfl (by decide) (fun _ => rfl) ⟨by decide, by decide⟩
  exact ⟨h0, h1, tre_comeT h1 rfl (by decide) (fun h => by cases h) ⟨by decide, by decide⟩⟩
end Go.Proofs.YtjblimclakfhfaaGreat

namespace Go.Proofs.YtjblimclakfhfaaGreat
open Go.ChangeShapes Go.WideShapes Go.ChangeAt Go.RowKit

/-- A call that is asked for. -/
structure ActD where
  kind : Int
  uid : Int
  gid : Int
  dir : Int
  no : Int
  n : Int
  name : List UInt8
  text : List UInt8
  to_ : Int
  as_ : List UInt8
def ActsAt (w : World) (A : Option Addr) (l : List ActD) : Prop :=
  l = [] ∨ ∃ b o, A = some ⟨b, o, none⟩ ∧ b < w.heap.size ∧ ∀ k, (h : k < l.length) → w.cell? ⟨b, o + k * 10, none⟩ = some (.int .i64 l[k].kind) ∧ w.cell? ⟨b, o + k * 10 + 1, none⟩ = some (.int .i64 l[k].uid) ∧ w.cell? ⟨b, o + k * 10 + 2, none⟩ = some (.int .i64 l[k].gid) ∧ w.cell? ⟨b, o + k * 10 + 3, none⟩ = some (.int .i64 l[k].dir) ∧
    w.cell? ⟨b, o + k * 10 + 4, none⟩ = some (.int .i64 l[k].no) ∧ w.cell? ⟨b, o + k * 10 + 5, none⟩ = some (.int .i64 l[k].n) ∧ w.cell? ⟨b, o + k * 10 + 6, none⟩ = some (.string (bs l[k].name)) ∧ w.cell? ⟨b, o + k * 10 + 7, none⟩ = some (.string (bs l[k].text)) ∧ w.cell? ⟨b, o + k * 10 + 8, none⟩ = some (.int .i64 l[k].to_) ∧ w.cell? ⟨b, o + k * 10 + 9, none⟩ = some (.string (bs l[k].as_))
theorem ActsAt.ext {w w' : World} {A : Option Addr} {l : List ActD} (h : ActsAt w A l) (k : Ext w w') : ActsAt w' A l := by
  rcases h with h | ⟨b, o, hA, hb, hc⟩
  · exact .inl h
  · refine .inr ⟨b, o, hA, by have := k.size; omega, fun i hi => ?_⟩
    simp only [k.cell hb]; exact hc i hi
theorem ActsAt.at_ {w w' : World} {A : Option Addr} {l : List ActD} (h : ActsAt w A l) (hE : Ext w w') (k : Nat) (hk : k < l.length) : ∃ b o, A = some ⟨b, o, none⟩ ∧ b < w'.heap.size ∧ w'.cell? ⟨b, o + k * 10, none⟩ = some (.int .i64 l[k].kind) ∧ w'.cell? ⟨b, o + k * 10 + 1, none⟩ = some (.int .i64 l[k].uid) ∧ w'.cell? ⟨b, o + k * 10 + 2, none⟩ = some (.int .i64 l[k].gid) ∧ w'.cell? ⟨b, o + k * 10 + 3, none⟩ = some (.int .i64 l[k].dir) ∧
    w'.cell? ⟨b, o + k * 10 + 4, none⟩ = some (.int .i64 l[k].no) ∧ w'.cell? ⟨b, o + k * 10 + 5, none⟩ = some (.int .i64 l[k].n) ∧ w'.cell? ⟨b, o + k * 10 + 6, none⟩ = some (.string (bs l[k].name)) ∧ w'.cell? ⟨b, o + k * 10 + 7, none⟩ = some (.string (bs l[k].text)) ∧ w'.cell? ⟨b, o + k * 10 + 8, none⟩ = some (.int .i64 l[k].to_) ∧ w'.cell? ⟨b, o + k * 10 + 9, none⟩ = some (.string (bs l[k].as_)) := by
  rcases h.ext hE with h0 | ⟨b, o, hA, hb, hc⟩
  · subst h0; simp at hk
  · exact ⟨b, o, hA, hb, hc k hk⟩
def shortA (x : ActD) : Prop := x.name.length ≤ 300 ∧ x.as_.length ≤ 300 ∧ x.text.length ≤ 2000
def FewA (l : List ActD) : Prop := (∀ x ∈ l, shortA x) ∧ l.length ≤ 30
def FewAR (w : World) (l : List ActD) (e : Ending) (w' : World) : Prop := w = w' ∧ ((FewA l ∧ e = .returned (.bool true)) ∨ (¬ FewA l ∧ e = .returned (.bool false)))
set_option maxRecDepth 100000 in
set_option maxHeartbeats 2000000 in
theorem fewA_any (A : Option Addr) (l : List ActD) (cap : Nat) (w : World) (h : ActsAt w A l) (hlen : l.length ≤ 9223372036854775807) : Calls Tryz.prog 12 #[.slice A l.length cap] w (FewAR w l) := by
  obtain ⟨n, hn⟩ : ∃ n, n = l.length := ⟨_, rfl⟩
  rw [← hn] at hlen ⊢
  have HN := Lib.hid hn
  clear hn
  go_enter Tryz.func12, Tryz.ntmps12
  go_wp2_with fail
  go_loop [3] (fun i => ∃ k : Nat, k ≤ n ∧ i = .int .i64 k ∧ Hid (∀ x ∈ l.take k, shortA x)) (fun i => n - (intOf i).toNat)
  case atStart => exact ⟨0, Nat.zero_le _, rfl, fun x hx => by simp at hx⟩
  case round =>
    obtain ⟨k, hk, rfl, ha⟩ := hrel
    by_cases hlt : (k : Int) < n
    · have hkl : k < l.length := by have := HN.out; omega
      obtain ⟨b, o, rfl, hbw, c0, c1, c2, c3, c4, c5, c6, c7, c8, c9⟩ := h.at_ (Ext.refl w) k hkl
      have hmem : l[k] ∈ l := List.getElem_mem hkl
      generalize hx : l[k] = x at c0 c1 c2 c3 c4 c5 c6 c7 c8 c9
      rw [hx] at hmem
      have z6 : ((bs x.name).size : Int) = x.name.length := by rw [bs_size]
      have z7 : ((bs x.text).size : Int) = x.text.length := by rw [bs_size]
      have z9 : ((bs x.as_).size : Int) = x.as_.length := by rw [bs_size]
      have bad : ¬ shortA x → Hid (¬ FewA l) := fun hs h => hs (h.1 x hmem)
      have HB := Lib.hid bad
      clear bad
      by_cases h1 : 300 < (x.name.length : Int)
      · have h1b : decide (300 < (x.name.length : Int)) = true := decide_eq_true h1
        have hf := HB.out (fun h => by have := h.1; omega)
        clear hx
        go_wp2_with fail
        go_ret
        exact ⟨rfl, .inr ⟨hf.out, rfl⟩⟩
      · have h1b : decide (300 < (x.name.length : Int)) = false := decide_eq_false h1
        by_cases h2 : 300 < (x.as_.length : Int)
        · have h2b : decide (300 < (x.as_.length : Int)) = true := decide_eq_true h2
          have hf := HB.out (fun h => by have := h.2.1; omega)
          clear hx
          go_wp2_with fail
          go_ret
          exact ⟨rfl, .inr ⟨hf.out, rfl⟩⟩
        · have h2b : decide (300 < (x.as_.length : Int)) = false := decide_eq_false h2
          by_cases h3 : 2000 < (x.text.length : Int)
          · have h3b : decide (2000 < (x.text.length : Int)) = true := decide_eq_true h3
            have hf := HB.out (fun h => by have := h.2.2; omega)
            clear hx
            go_wp2_with fail
            go_ret
            exact ⟨rfl, .inr ⟨hf.out, rfl⟩⟩
          · have h3b : decide (2000 < (x.text.length : Int)) = false := decide_eq_false h3
            have ha2 : Hid (∀ y ∈ l.take (k + 1), shortA y) := by
              show ∀ y ∈ l.take (k + 1), shortA y
              intro y hy
              rw [List.take_succ_eq_append_getElem hkl, List.mem_append] at hy
              rcases hy with hy | hy
              · exact ha.out y hy
              · rw [List.mem_singleton.1 hy, hx]; exact ⟨by omega, by omega, by omega⟩
            clear hx
            go_wp2_with fail
            go_round
            case rel => exact ⟨k + 1, by omega, by go_num, ha2⟩
            case measure => simp [intOf]; omega
    · have hall : Hid (∀ x ∈ l, shortA x) := by
        show ∀ x ∈ l, shortA x
        intro x hx
        exact ha.out x (by rw [List.take_of_length_le (by have := HN.out; omega)]; exact hx)
      by_cases h30 : (n : Int) ≤ 30
      · have hf : Hid (FewA l) := ⟨hall.out, by have := HN.out; omega⟩
        have hb : decide ((n : Int) ≤ 30) = true := decide_eq_true h30
        go_wp2_with fail
        go_ret
        exact ⟨rfl, .inl ⟨hf.out, by first | rfl | exact ret_bool hb⟩⟩
      · have hf : Hid (¬ FewA l) := fun h => by have := h.2; have := HN.out; omega
        have hb : decide ((n : Int) ≤ 30) = false := decide_eq_false h30
        go_wp2_with fail
        go_ret
        exact ⟨rfl, .inr ⟨hf.out, by first | rfl | exact ret_bool hb⟩⟩
end Go.Proofs.YtjblimclakfhfaaGreat

namespace Go.Proofs.YtjblimclakfhfaaGreat
open Go.ChangeShapes Go.WideShapes Go.ChangeAt Go.RowKit

section
variable {H : Type} {enc : TypeId × Value → H} {w : World} {base : Nat} {spare : Nat → Bool} {held : Bool}
theorem opnInt : Tryz.prog.cellsOf 3 = 1 := by kernel_rfl
theorem opnStr : Tryz.prog.cellsOf 9 = 1 := by kernel_rfl
theorem opnCred_size : Tryz.prog.cellsOf 24 = 2 := by kernel_rfl
set_option maxRecDepth 100000 in
theorem Cred_cells {n : Nat} {cs : List Value} {x : DataW H × List MemPlace} (h : DataW.trod enc Tryz.prog w base spare held n 24 cs = some x) : ∃ v : (Int × Int), cs = [.int .i64 v.1, .int .i64 v.2] := by
  obtain ⟨xs, m, _, _, hl, hxl, hf⟩ := DataW.trod_struct Tryz.underlying24 h
  rw [opnCred_size] at hl
  match cs, hl with
  | [a0, a1], _ =>
    match xs, hxl with
    | [y0, y1], _ =>
      have f0 : DataW.trod enc Tryz.prog w base spare held m 3 (List.take (Tryz.prog.cellsOf 3) (List.drop 0 [a0, a1])) = some y0 := hf 0 _ rfl
      rw [opnInt] at f0
      obtain ⟨k0, h0, _, _⟩ := DataW.trod_int Tryz.underlying3 f0
      have e0 : a0 = .int .i64 k0 := by simpa using h0
      have f1 : DataW.trod enc Tryz.prog w base spare held m 3 (List.take (Tryz.prog.cellsOf 3) (List.drop 1 [a0, a1])) = some y1 := hf 1 _ rfl
      rw [opnInt] at f1
      obtain ⟨k1, h1, _, _⟩ := DataW.trod_int Tryz.underlying3 f1
      have e1 : a1 = .int .i64 k1 := by simpa using h1
      exact ⟨⟨k0, k1⟩, by rw [e0, e1]⟩
theorem opnAct_size : Tryz.prog.cellsOf 26 = 10 := by kernel_rfl
set_option maxRecDepth 100000 in
theorem Act_cells {n : Nat} {cs : List Value} {x : DataW H × List MemPlace} (h : DataW.trod enc Tryz.prog w base spare held n 26 cs = some x) : ∃ v : ActD, cs = [.int .i64 v.kind, .int .i64 v.uid, .int .i64 v.gid, .int .i64 v.dir, .int .i64 v.no, .int .i64 v.n, .string (bs v.name), .string (bs v.text), .int .i64 v.to_, .string (bs v.as_)] := by
  obtain ⟨xs, m, _, _, hl, hxl, hf⟩ := DataW.trod_struct Tryz.underlying26 h
  rw [opnAct_size] at hl
  match cs, hl with
  | [a0, a1, a2, a3, a4, a5, a6, a7, a8, a9], _ =>
    match xs, hxl with
    | [y0, y1, y2, y3, y4, y5, y6, y7, y8], _ =>
      have f0 : DataW.trod enc Tryz.prog w base spare held m 3 (List.take (Tryz.prog.cellsOf 3) (List.drop 0 [a0, a1, a2, a3, a4, a5, a6, a7, a8, a9])) = some y0 := hf 0 _ rfl
      rw [opnInt] at f0
      obtain ⟨k0, h0, _, _⟩ := DataW.trod_int Tryz.underlying3 f0
      have e0 : a0 = .int .i64 k0 := by simpa using h0
      have f1 : DataW.trod enc Tryz.prog w base spare held m 24 (List.take (Tryz.prog.cellsOf 24) (List.drop 1 [a0, a1, a2, a3, a4, a5, a6, a7, a8, a9])) = some y1 := hf 1 _ rfl
      rw [opnCred_size] at f1
      obtain ⟨⟨u1, g1⟩, h1⟩ := Cred_cells f1
      have e1a : a1 = .int .i64 u1 := by simp at h1; exact h1.1
      have e1b : a2 = .int .i64 g1 := by simp at h1; exact h1.2
      have f2 : DataW.trod enc Tryz.prog w base spare held m 3 (List.take (Tryz.prog.cellsOf 3) (List.drop 3 [a0, a1, a2, a3, a4, a5, a6, a7, a8, a9])) = some y2 := hf 2 _ rfl
      rw [opnInt] at f2
      obtain ⟨k2, h2, _, _⟩ := DataW.trod_int Tryz.underlying3 f2
      have e2 : a3 = .int .i64 k2 := by simpa using h2
      have f3 : DataW.trod enc Tryz.prog w base spare held m 3 (List.take (Tryz.prog.cellsOf 3) (List.drop 4 [a0, a1, a2, a3, a4, a5, a6, a7, a8, a9])) = some y3 := hf 3 _ rfl
      rw [opnInt] at f3
      obtain ⟨k3, h3, _, _⟩ := DataW.trod_int Tryz.underlying3 f3
      have e3 : a4 = .int .i64 k3 := by simpa using h3
      have f4 : DataW.trod enc Tryz.prog w base spare held m 3 (List.take (Tryz.prog.cellsOf 3) (List.drop 5 [a0, a1, a2, a3, a4, a5, a6, a7, a8, a9])) = some y4 := hf 4 _ rfl
      rw [opnInt] at f4
      obtain ⟨k4, h4, _, _⟩ := DataW.trod_int Tryz.underlying3 f4
      have e4 : a5 = .int .i64 k4 := by simpa using h4
      have f5 : DataW.trod enc Tryz.prog w base spare held m 9 (List.take (Tryz.prog.cellsOf 9) (List.drop 6 [a0, a1, a2, a3, a4, a5, a6, a7, a8, a9])) = some y5 := hf 5 _ rfl
      rw [opnStr] at f5
      obtain ⟨s5, h5, _, _⟩ := DataW.trod_string Tryz.underlying9 f5
      have e5 : a6 = .string s5 := by simpa using h5
      have f6 : DataW.trod enc Tryz.prog w base spare held m 9 (List.take (Tryz.prog.cellsOf 9) (List.drop 7 [a0, a1, a2, a3, a4, a5, a6, a7, a8, a9])) = some y6 := hf 6 _ rfl
      rw [opnStr] at f6
      obtain ⟨s6, h6, _, _⟩ := DataW.trod_string Tryz.underlying9 f6
      have e6 : a7 = .string s6 := by simpa using h6
      have f7 : DataW.trod enc Tryz.prog w base spare held m 3 (List.take (Tryz.prog.cellsOf 3) (List.drop 8 [a0, a1, a2, a3, a4, a5, a6, a7, a8, a9])) = some y7 := hf 7 _ rfl
      rw [opnInt] at f7
      obtain ⟨k7, h7, _, _⟩ := DataW.trod_int Tryz.underlying3 f7
      have e7 : a8 = .int .i64 k7 := by simpa using h7
      have f8 : DataW.trod enc Tryz.prog w base spare held m 9 (List.take (Tryz.prog.cellsOf 9) (List.drop 9 [a0, a1, a2, a3, a4, a5, a6, a7, a8, a9])) = some y8 := hf 8 _ rfl
      rw [opnStr] at f8
      obtain ⟨s8, h8, _, _⟩ := DataW.trod_string Tryz.underlying9 f8
      have e8 : a9 = .string s8 := by simpa using h8
      exact ⟨⟨k0, u1, g1, k2, k3, k4, s5.data.toList, s6.data.toList, k7, s8.data.toList⟩, by rw [e0, e1a, e1b, e2, e3, e4, e5, e6, e7, e8]; simp only [bs_self]⟩
set_option maxRecDepth 100000 in
theorem open_Act {r : Reach} {b0 : Nat} {v : Value} {d : DataW H} {p : List MemPlace} (hv : Value.okWide Tryz.prog w r b0 26 v) (h : DataW.Trod enc Tryz.prog w base spare held 26 v d p) :
    ∃ x : ActD, v = .agg #[.int .i64 x.kind, .int .i64 x.uid, .int .i64 x.gid, .int .i64 x.dir, .int .i64 x.no, .int .i64 x.n, .string (bs x.name), .string (bs x.text), .int .i64 x.to_, .string (bs x.as_)] := by
  obtain ⟨cs, rfl, hsz⟩ := okWide_struct Tryz.underlying26 hv
  obtain ⟨fuel, hf⟩ := h
  obtain ⟨x, hx⟩ := Act_cells hf
  have hcs : cs.toList = [.int .i64 x.kind, .int .i64 x.uid, .int .i64 x.gid, .int .i64 x.dir, .int .i64 x.no, .int .i64 x.n, .string (bs x.name), .string (bs x.text), .int .i64 x.to_, .string (bs x.as_)] := hx
  exact ⟨x, by rw [show cs = #[.int .i64 x.kind, .int .i64 x.uid, .int .i64 x.gid, .int .i64 x.dir, .int .i64 x.no, .int .i64 x.n, .string (bs x.name), .string (bs x.text), .int .i64 x.to_, .string (bs x.as_)] from Array.toList_inj.1 hcs]⟩
set_option maxRecDepth 100000 in
theorem open_Acts {r : Reach} {b0 : Nat} {v : Value} {d : DataW H} {p : List MemPlace} (hv : Value.okWide Tryz.prog w r b0 22 v) (h : DataW.Trod enc Tryz.prog w base spare held 22 v d p) :
    ∃ (A : Option Addr) (l : List ActD) (cap : Nat), v = .slice A l.length cap ∧ ActsAt w A l ∧ (A = none → cap = 0) ∧ l.length ≤ cap ∧ cap ≤ maxLen := by
  obtain ⟨a, n, c, rfl⟩ := okWide_slice Tryz.underlying22 hv
  obtain ⟨fuel, hf⟩ := h
  rcases Go.Deep.open_slice Tryz.underlying22 hf with ⟨hcs, _⟩ | ⟨ad, len, cap, m, k, D, Pl, hcs, _, hl, hm, hmm, _, hi⟩
  · simp [Value.cells] at hcs
    obtain ⟨rfl, rfl, rfl⟩ := hcs
    exact ⟨none, [], 0, rfl, .inl rfl, fun _ => rfl, Nat.le_refl _, by decide⟩
  · simp [Value.cells] at hcs
    obtain ⟨rfl, rfl, rfl⟩ := hcs
    have hmn : n ≤ m := by rw [hmm]; split <;> omega
    obtain ⟨l, hll, hlp⟩ := list_of (α := ActD) n (fun i x => w.cell? (ad.add (i * 10)) = some (.int .i64 x.kind) ∧ w.cell? ((ad.add (i * 10)).add 1) = some (.int .i64 x.uid) ∧ w.cell? ((ad.add (i * 10)).add 2) = some (.int .i64 x.gid) ∧ w.cell? ((ad.add (i * 10)).add 3) = some (.int .i64 x.dir) ∧ w.cell? ((ad.add (i * 10)).add 4) = some (.int .i64 x.no) ∧ w.cell? ((ad.add (i * 10)).add 5) = some (.int .i64 x.n) ∧ w.cell? ((ad.add (i * 10)).add 6) = some (.string (bs x.name)) ∧ w.cell? ((ad.add (i * 10)).add 7) = some (.string (bs x.text)) ∧ w.cell? ((ad.add (i * 10)).add 8) = some (.int .i64 x.to_) ∧ w.cell? ((ad.add (i * 10)).add 9) = some (.string (bs x.as_))) (fun i hin => by
      obtain ⟨cs', hc, ht⟩ := hi i (by omega)
      rw [opnAct_size] at hc
      obtain ⟨x, rfl⟩ := Act_cells ht
      obtain ⟨_, _, hat⟩ := World.cells?_some hc
      exact ⟨x, by simpa [Addr.add] using hat 0 (by simp), by simpa using hat 1 (by simp), by simpa using hat 2 (by simp), by simpa using hat 3 (by simp), by simpa using hat 4 (by simp), by simpa using hat 5 (by simp), by simpa using hat 6 (by simp), by simpa using hat 7 (by simp), by simpa using hat 8 (by simp), by simpa using hat 9 (by simp)⟩)
    refine ⟨some ad, l, c, by rw [hll], ?_, (fun h => by cases h), by omega, hm⟩
    by_cases h0 : l = []
    · exact .inl h0
    · have hpos : 0 < l.length := List.length_pos_iff.2 h0
      obtain ⟨b, off, spot⟩ := ad
      have hspot : spot = none := by simpa [Addr.add] using World.cell?_spot (hlp 0 hpos).1
      subst hspot
      have hbl : b < w.heap.size := by
        have := (hlp 0 hpos).1
        rcases Nat.lt_or_ge b w.heap.size with h' | h'
        · exact h'
        · simp [Addr.add, World.cell?, Array.getElem?_eq_none h'] at this
      refine .inr ⟨b, off, rfl, hbl, fun i hi' => ?_⟩
      obtain ⟨q0, q1, q2, q3, q4, q5, q6, q7, q8, q9⟩ := hlp i hi'
      simp only [add_plain] at q0 q1 q2 q3 q4 q5 q6 q7 q8 q9
      exact ⟨q0, q1, q2, q3, q4, q5, q6, q7, q8, q9⟩
end
end Go.Proofs.YtjblimclakfhfaaGreat

namespace Go.Proofs.YtjblimclakfhfaaGreat
open Go.ChangeShapes Go.WideShapes Go.ChangeAt Go.RowKit

set_option maxRecDepth 100000 in
set_option maxHeartbeats 4000000 in
theorem rwri_any (B : Nat) (g : GhF) (S : TreeD) (X : Xtra) (cu cg no : Int) (data : List UInt8) (w : World) (h : FAt w B g S X) (hnl : S.nodes.length ≤ 1000000) (hd2 : S.devs.length ≤ 8) (hr : RootsOk S.devs) (hu : NosUp S.nodes S.last) (hdv : OnDev S) (hdl : data.length ≤ 1000000000) :
    Calls Tryz.prog 74 #[.pointer (some ⟨g.bF, 0, none⟩), .agg #[.int .i64 cu, .int .i64 cg], .int .i64 no, .string (bs data)] w (ErrF w B g (wriT S cu cg X.now no data) X (wriE S cu cg no data.length)) := by
  have h0 := h
  have E0 : Ext w (w.alloc (.cells #[.int .i64 cu, .int .i64 cg] 24)) := (Ext.refl _).alloc _
  have hm : Hid (wriE S cu cg no data.length = if isN S.nodes no = false then 5 else if (getN S.nodes no).kind = 1 then 8 else if ¬ (getN S.nodes no).kind = 2 then 1
      else if mayB cu cg (getN S.nodes no).uid (getN S.nodes no).gid (getN S.nodes no).mode 2 = false then 6 else if 1048576 < (data.length : Int) then 3 else fillE S no data.length) := by show _ = _; rfl
  have hz : isN S.nodes no = false → (getN S.nodes no).no = 0 := fun hi => by rw [(isN_false hi).1]; rfl
  have hz2 : isN S.nodes no = true → (getN S.nodes no).no ≠ 0 := fun hi => by rw [(isN_true hi).2.1]; have := (hu.2 _ (isN_true hi).2.2).1; rw [(isN_true hi).2.1] at this; omega
  go_enter Tryz.func74, Tryz.ntmps74
  go_wp2_with fail
  refine (rget_any B g S X no _ (h0.ext E0) hnl hu).mono ?_
  rintro e w2 ⟨A, c, rfl, ok2, b2⟩
  have E2 := E0.trans b2
  have C2 := (Has.new w (.cells #[.int .i64 cu, .int .i64 cg] 24)).ext b2
  obtain ⟨m, hmm⟩ : ∃ m, m = getN S.nodes no := ⟨_, rfl⟩
  obtain ⟨i, hi⟩ : ∃ i, i = isN S.nodes no := ⟨_, rfl⟩
  rw [← hmm] at ok2 hm hz hz2
  rw [← hi] at hm hz hz2
  rw [← hmm]
  obtain ⟨W3, hW3⟩ : ∃ W3, W3 = w2.alloc (.cells #[.int .i64 m.no, .int .i64 m.dev, .int .i64 m.kind, .int .i64 m.mode, .int .i64 m.uid, .int .i64 m.gid, .int .i64 m.mtime, .int .i64 m.ctime, .int .i64 m.links, .int .i64 m.up, .string (bs m.data), .slice A m.ents.length c] 87) := ⟨_, rfl⟩
  have E23 : Ext w2 W3 := by rw [hW3]; exact (Ext.refl _).alloc _
  have N3 : Has W3 w2.heap.size (.cells #[.int .i64 m.no, .int .i64 m.dev, .int .i64 m.kind, .int .i64 m.mode, .int .i64 m.uid, .int .i64 m.gid, .int .i64 m.mtime, .int .i64 m.ctime, .int .i64 m.links, .int .i64 m.up, .string (bs m.data), .slice A m.ents.length c] 87) := by rw [hW3]; exact Has.new _ _
  have C3 := C2.ext E23
  have E3 : Ext w W3 := E2.trans E23
  obtain ⟨b11, hb11⟩ : ∃ b, b = w2.heap.size := ⟨_, rfl⟩
  have hbw : w.heap.size ≤ b11 := by rw [hb11]; exact E2.size
  have HMM := Lib.hid hmm
  have HI := Lib.hid hi
  have HZ := Lib.hid hz
  have HZ2 := Lib.hid hz2
  clear hmm hi hz hz2
  go_upto_region 2 with fail
  rw [← hW3]
  rw [← hb11] at N3 ⊢
  clear hW3 hb11
  have HS : Hid (∀ (w' : World) (x : Int), Ext w w' → wriE S cu cg no data.length = x → x ≠ 0 → ErrF w B g (wriT S cu cg X.now no data) X (wriE S cu cg no data.length) (.returned (.int .i64 x)) w') := by
    show ∀ (w' : World) (x : Int), _
    intro w' x hE hx hx0
    rw [hx]
    exact errF_same h hE (by unfold wriT; rw [if_neg (by rw [hx]; exact hx0)])
  have k0 : W3.cell? ⟨b11, 0, none⟩ = some (.int .i64 m.no) := N3.cell 0
  have k2 : W3.cell? ⟨b11, 2, none⟩ = some (.int .i64 m.kind) := N3.cell 2
  have kz := N3.lt
  cases i
  · have t0 : (m.no == 0) = true := by simpa using HZ.out rfl
    have hE : Hid (wriE S cu cg no data.length = 5) := by show _ = _; rw [hm.out]; rfl
    clear hm
    go_wp2_with fail
    go_ret
    exact HS.out _ _ E3 hE.out (by decide)
  · have t0 : (m.no == 0) = false := by simpa using HZ2.out rfl
    by_cases c1 : m.kind = 1
    · have t1 : (m.kind == 1) = true := by simpa using c1
      have hE : Hid (wriE S cu cg no data.length = 8) := by show _ = _; rw [hm.out, if_neg (by decide), if_pos c1]
      clear hm c1
      go_wp2_with fail
      go_ret
      exact HS.out _ _ E3 hE.out (by decide)
    · have t1 : (m.kind == 1) = false := by simpa using c1
      by_cases c2 : m.kind = 2
      · have t2 : (m.kind == 2) = true := by simpa using c2
        have t2b : (m.kind != 2) = false := by simpa using c2
        have x0 : W3.cell? ⟨w.heap.size, 0, none⟩ = some (.int .i64 cu) := C3.cell 0
        have x1 : W3.cell? ⟨w.heap.size, 1, none⟩ = some (.int .i64 cg) := C3.cell 1
        have xz := C3.lt
        obtain ⟨u, hu'⟩ : ∃ u, u = mayB cu cg m.uid m.gid m.mode 2 := ⟨_, rfl⟩
        rw [← hu'] at hm
        have hm2 : Hid (wriE S cu cg no data.length = if u = false then 6 else if 1048576 < (data.length : Int) then 3 else fillE S no data.length) := by
          show _ = _; rw [hm.out, if_neg (by decide), if_neg c1, if_neg (by simpa using c2)]
        have HU := Lib.hid hu'
        clear hu' hm c1 c2
        go_wp2_with (refine wpList_load_node rfl _ rfl b11 m A c rfl N3 ?_)
        refine (rnode_any cu cg _ _ _ m.mode m.uid m.gid _ _ _ _ _ _ 2 _).mono ?_
        rw [← HU.out]
        rintro e w4 ⟨rfl, b4⟩
        have E4 := E3.trans b4
        have N4 := N3.ext b4
        clear x0 x1 xz k2 kz k0
        cases u
        · have hE : Hid (wriE S cu cg no data.length = 6) := by show _ = _; rw [hm2.out]; rfl
          clear hm2
          go_wp2_with fail
          go_ret
          exact HS.out _ _ E4 hE.out (by decide)
        · have hsz : ((bs data).size : Int) = data.length := by rw [bs_size]
          by_cases c3 : 1048576 < (data.length : Int)
          · have t3 : decide (1048576 < (data.length : Int)) = true := decide_eq_true c3
            have hE : Hid (wriE S cu cg no data.length = 3) := by show _ = _; rw [hm2.out, if_neg (by decide), if_pos c3]
            clear hm2 c3
            go_wp2_with fail
            go_ret
            exact HS.out _ _ E4 hE.out (by decide)
          · have t3 : decide (1048576 < (data.length : Int)) = false := decide_eq_false c3
            have hm3 : Hid (wriE S cu cg no data.length = fillE S no data.length) := by show _ = _; rw [hm2.out, if_neg (by decide), if_neg c3]
            have c3' : data.length ≤ 1048576 := by omega
            clear hm2 c3
            go_wp2_with fail
            refine (rfill_any B g S X no data _ (h.ext E4) hnl hd2 hr hu hdv c3').mono ?_
            rintro e w5 ⟨rfl, K5, O5⟩
            obtain ⟨x, hx⟩ : ∃ x, x = fillE S no data.length := ⟨_, rfl⟩
            rw [← hx] at hm3
            rw [← hx]
            have HX := Lib.hid hx
            have s3 := E3.size
            have s4 := E4.size
            have hlw := h.lt
            have N5 := O5.has N4 (by simp; omega)
            clear hx
            by_cases hz : x = 0
            · have hzb : (x == 0) = true := by simpa using hz
              have hzb2 : (x != 0) = false := by simpa using hz
              have HZ3 := Lib.hid hz
              obtain ⟨T, hT⟩ : ∃ T, T = fillT S no data := ⟨_, rfl⟩
              rw [← hT] at K5
              have hTu : NosUp T.nodes T.last := by
                rw [hT]; unfold fillT; split
                · exact hu.set _
                · exact hu
              have hTn : T.nodes.length ≤ 1000000 := by
                rw [hT]; unfold fillT; split
                · show (setN S.nodes _).length ≤ _; rw [setN_len]; exact hnl
                · exact hnl
              have HT := Lib.hid hT
              clear hz hT
              go_wp2_with fail
              refine (rget_any B g T X no _ K5 hTn hTu).mono ?_
              rintro e w6 ⟨A6, c6, rfl, ok6, b6⟩
              have N6 := N5.ext b6
              obtain ⟨n6, hn6⟩ : ∃ n6, n6 = getN T.nodes no := ⟨_, rfl⟩
              rw [← hn6] at ok6
              rw [← hn6]
              have HN6 := Lib.hid hn6
              clear hn6
              go_upto_region 16 with (refine wpList_store_node rfl _ _ rfl b11 n6 A6 c6 rfl rfl N6 ?_; intro w7 N7 O7)
              have haP : Apart w6 B [b11] := by
                intro b hb
                rw [List.mem_singleton] at hb
                subst hb
                exact ⟨by have := h.1; omega, N6.noTag (by decide)⟩
              have hnb : ∀ b ∈ g.list, b ∉ [b11] := by
                intro b hb
                simp only [GhF.list, List.mem_cons, List.not_mem_nil, or_false] at hb
                rw [List.mem_singleton]
                rcases hb with rfl | rfl | rfl <;> omega
              have K7 : FAt w7 B g T X := (K5.ext b6).only O7 haP hnb
              have ok7 : NodeOk w7 B n6 A6 c6 := ok6.only O7 haP
              have O57 : Only g.list w w7 := ((Only.pre E4 O5).ext b6).trans O7 (by intro b hb; rw [List.mem_singleton] at hb; right; omega)
              obtain ⟨y0, y1, y2, y3, y4, y5, y6, y7, y8, y9, y10, y11⟩ := N7.node12
              have yf : ∀ i, w7.frozen? ⟨b11, i, none⟩ = false := fun i => (N7.free i).trans (by simp)
              have yz := N7.lt
              have nw : w7.cell? ⟨g.bF, 3, none⟩ = some (.int .i64 X.now) := by obtain ⟨_, _, _, k, _⟩ := K7; exact k.cell 3
              have nz := K7.lt.1
              have hne1 : g.bF ≠ b11 := by omega
              obtain ⟨n, hn⟩ : ∃ n : NodeD, n = { n6 with mtime := X.now, ctime := X.now } := ⟨_, rfl⟩
              go_upto_region 17 with fail
              obtain ⟨V1, hV1⟩ : ∃ V, V = w7.setCell ⟨b11, 6, none⟩ (.int .i64 X.now) := ⟨_, rfl⟩
              rw [← hV1]
              have N1 := N7.setCell 6 (.int .i64 X.now)
              rw [← hV1] at N1
              have O1 : Only [b11] w7 V1 := by rw [hV1]; exact Only.setCell _ _ _ _
              have nw1 : V1.cell? ⟨g.bF, 3, none⟩ = some (.int .i64 X.now) := by rw [hV1, World.cell?_setCell_far _ _ _ _ (show b11 ≠ g.bF by omega)]; exact nw
              have z71 : V1.cell? ⟨b11, 7, none⟩ = some (.int .i64 n6.ctime) := N1.cell 7
              have f71 : V1.frozen? ⟨b11, 7, none⟩ = false := (N1.free 7).trans (by simp)
              clear nw y0 y1 y2 y3 y4 y5 y6 y7 y8 y9 y10 y11 yf hV1
              go_upto_region 18 with fail
              obtain ⟨V, hV⟩ : ∃ V, V = V1.setCell ⟨b11, 7, none⟩ (.int .i64 X.now) := ⟨_, rfl⟩
              rw [← hV]
              have NV : Has V b11 (.cells #[.int .i64 n.no, .int .i64 n.dev, .int .i64 n.kind, .int .i64 n.mode, .int .i64 n.uid, .int .i64 n.gid, .int .i64 n.mtime, .int .i64 n.ctime, .int .i64 n.links, .int .i64 n.up, .string (bs n.data), .slice A6 n.ents.length c6] 87) := by rw [hV, hn]; exact N1.setCell 7 _
              have OV : Only [b11] w7 V := O1.then (by rw [hV]; exact Only.setCell _ _ _ _)
              have haP7 : Apart w7 B [b11] := by
                intro b hb
                rw [List.mem_singleton] at hb
                subst hb
                exact ⟨by have := h.1; omega, N7.noTag (by decide)⟩
              have KV : FAt V B g T X := K7.only OV haP7 hnb
              have okV : NodeOk V B n A6 c6 := (ok7.same (by rw [hn])).only OV haP7
              have O5V : Only g.list w V := O57.trans OV (by intro b hb; rw [List.mem_singleton] at hb; right; omega)
              have HN := Lib.hid hn
              clear hV hn nw1 z71 f71 yz nz
              go_wp2_with (refine wpList_load_node rfl _ rfl b11 n A6 c6 rfl NV ?_)
              refine (rset_any B g T X n A6 c6 _ KV hTn hTu okV).mono ?_
              rintro e w8 ⟨rfl, K8, O8⟩
              go_wp2_with fail
              go_ret
              have e1 : wriE S cu cg no data.length = 0 := by rw [hm3.out]; exact HZ3.out
              rw [e1]
              refine ⟨rfl, ?_, O5V.then O8⟩
              have : wriT S cu cg X.now no data = setT T n := by unfold wriT; rw [if_pos e1, HN.out, HN6.out, HT.out]
              rw [this]; exact K8
            · have hzb : (x == 0) = false := by simpa using hz
              have hzb2 : (x != 0) = true := by simpa using hz
              have HZ3 := Lib.hid hz
              clear hz
              go_wp2_with fail
              go_ret
              have e1 : wriE S cu cg no data.length = x := hm3.out
              rw [e1]
              have hT : fillT S no data = S := by unfold fillT; rw [if_neg (by rw [← HX.out]; exact HZ3.out)]
              rw [hT] at K5
              refine ⟨rfl, ?_, Only.pre E4 O5⟩
              have : wriT S cu cg X.now no data = S := by unfold wriT; rw [if_neg (by rw [e1]; exact HZ3.out)]
              rw [this]; exact K5
      · have t2 : (m.kind == 2) = false := by simpa using c2
        have t2b : (m.kind != 2) = true := by simpa using c2
        have hE : Hid (wriE S cu cg no data.length = 1) := by show _ = _; rw [hm.out, if_neg (by decide), if_neg c1, if_pos c2]
        clear hm c1 c2
        go_wp2_with fail
        go_ret
        exact HS.out _ _ E3 hE.out (by decide)
end Go.Proofs.YtjblimclakfhfaaGreat

namespace Go.Proofs.YtjblimclakfhfaaGreat
open Go.ChangeShapes Go.WideShapes Go.ChangeAt Go.RowKit

attribute [local irreducible] wpLexE
attribute [local go_sem] changeUpon
end Go.Proofs.YtjblimclakfhfaaGreat

namespace Go.Proofs.YtjblimclakfhfaaGreat
open Go.ChangeShapes Go.WideShapes Go.ChangeAt Go.RowKit

end Go.Proofs.YtjblimclakfhfaaGreat

namespace Go.Proofs.YtjblimclakfhfaaGreat
open Go.ChangeShapes Go.WideShapes Go.ChangeAt Go.RowKit

set_option maxRecDepth 100000 in
theorem alike_any (B : Nat) (g : GhW) (f : GhF) (S : TreeD) (X : Xtra) (w : World) (K : WAt w B g S) (F : FAt w B f S X) (H : Fit S) :
    Calls Tryz.prog 17 #[.pointer (some ⟨g.bW, 0, none⟩), .pointer (some ⟨f.bF, 0, none⟩)] w (Ret w (.bool true)) := by
  have KS := Lib.hid (same14_any B B g f S X w K F H)
  go_enter Tryz.func17, Tryz.ntmps17
  go_wp2_with fail
  refine KS.out.mono ?_
  rintro e w1 ⟨rfl, b1⟩
  go_wp2_with fail
  go_ret
  exact Ret.mk rfl b1
end Go.Proofs.YtjblimclakfhfaaGreat

namespace Go.Proofs.YtjblimclakfhfaaGreat
open Go.ChangeShapes Go.WideShapes Go.ChangeAt Go.RowKit

attribute [local irreducible] wpQuiet
theorem findF_put (l : List EntD) (nm : List UInt8) (no : Int) : findF (putF l (nm, no)) nm = no := by
  unfold findF putF lessF moreF
  have h1 : (l.filter fun x => bl x.1 nm).find? (fun x => x.1 == nm) = none := by
    rw [List.find?_eq_none]
    intro x hx
    rw [List.mem_filter] at hx
    have := bl_ne hx.2
    simpa using this
  simp only [List.find?_append, h1, Option.none_or, List.find?_cons, beq_self_eq_true, Option.some_or]
theorem put_length (l : List EntD) (nm : List UInt8) (no : Int) (h : ∀ x ∈ l, x.1 ≠ nm) : (putF l (nm, no)).length = l.length + 1 := by
  have hs : ∀ l : List EntD, (∀ x ∈ l, x.1 ≠ nm) → (l.filter fun x => bl x.1 nm).length + (l.filter fun x => bl nm x.1).length = l.length := by
    intro l
    induction l with
    | nil => intro _; rfl
    | cons x l ih =>
      intro h
      have := ih fun y hy => h y (List.mem_cons_of_mem _ hy)
      simp only [List.filter_cons, List.length_cons]
      have hx := h x (List.mem_cons_self ..)
      rcases bl_tri x.1 nm with g | g | g
      · have g2 := bl_asymm g
        rw [if_pos g, if_neg (by rw [g2]; decide)]
        simp only [List.length_cons]; omega
      · exact absurd g hx
      · have g2 := bl_asymm g
        rw [if_pos g, if_neg (by rw [g2]; decide)]
        simp only [List.length_cons]; omega
  have := hs l h
  unfold putF lessF moreF
  simp only [List.length_append, List.length_singleton]
  omega
/-- What a node that came has left. -/
structure Came (S T : TreeD) (uid gid now dir : Int) (nm : List UInt8) : Prop where
  len : T.nodes.length = S.nodes.length + 1
  node : (getN T.nodes (S.last + 1)).uid = uid ∧ (getN T.nodes (S.last + 1)).gid = gid ∧ (getN T.nodes (S.last + 1)).dev = (getN S.nodes dir).dev ∧ (getN T.nodes (S.last + 1)).links = 1 ∧ (getN T.nodes (S.last + 1)).mtime = now
  find : findF (getN T.nodes dir).ents nm = S.last + 1
  ents : (getN T.nodes dir).ents.length = (getN S.nodes dir).ents.length + 1
  mtime : (getN T.nodes dir).mtime = now
theorem set_self {S : TreeD} (hu : NosUp S.nodes S.last) {n : NodeD} (hi : isN S.nodes n.no = true) : getN (setT S n).nodes n.no = n := by
  have hm := set_has (n := n) (isN_true hi).2.2
  rw [if_pos (isN_true hi).2.1] at hm
  exact (mem_getN (S := setT S n) (hu.set n) hm).1
theorem came {c : Nat} {S : TreeD} (h : Tre c S) {cu cg now dir : Int} {nm : List UInt8} {n : NodeD} (h0 : comeE S cu cg now dir nm n = 0) : Came S (comeT S cu cg now dir nm n) cu cg now dir nm := by
  obtain ⟨hp, hf, hmk⟩ := comeE_zero h0
  obtain ⟨hi, hkd, hc⟩ := placeE_zero hp
  obtain ⟨e1, e2⟩ := getN_make h.nos (newN S cu cg now dir n) hi
  obtain ⟨_, hno, hmem⟩ := isN_true hi
  have hlt := (h.nos.2 _ hmem).2
  rw [hno] at hlt
  have hT : comeT S cu cg now dir nm n = setT (makeT S (newN S cu cg now dir n)) (touchN (makeT S (newN S cu cg now dir n)) dir now (putF (getN S.nodes dir).ents (nm, S.last + 1))) := by
    unfold comeT touchT; rw [if_pos h0]
  have hN : (touchN (makeT S (newN S cu cg now dir n)) dir now (putF (getN S.nodes dir).ents (nm, S.last + 1))).no = dir := by
    show (getN (makeT S (newN S cu cg now dir n)).nodes dir).no = dir
    rw [e1, hno]
  have hu := nos_make h.live (newN S cu cg now dir n)
  have hd : getN (comeT S cu cg now dir nm n).nodes dir = touchN (makeT S (newN S cu cg now dir n)) dir now (putF (getN S.nodes dir).ents (nm, S.last + 1)) := by
    rw [hT]
    have := set_self hu (n := touchN (makeT S (newN S cu cg now dir n)) dir now (putF (getN S.nodes dir).ents (nm, S.last + 1))) (by rw [hN]; exact e2)
    rw [hN] at this
    exact this
  have hnew : getN (comeT S cu cg now dir nm n).nodes (S.last + 1) = { newN S cu cg now dir n with no := S.last + 1 } := by
    rw [hT, (setN_get (by rw [hN]; omega)).1]
    have hm : ({ newN S cu cg now dir n with no := S.last + 1 } : NodeD) ∈ (makeT S (newN S cu cg now dir n)).nodes := by
      unfold makeT
      rw [if_pos hmk]
      exact List.mem_append_right _ (List.mem_singleton.2 rfl)
    exact (mem_getN hu hm).1
  have hx := putF_find (fun x hx => (h.pos _ hmem x hx).1) hf
  refine ⟨?_, by rw [hnew]; exact ⟨rfl, rfl, rfl, rfl, rfl⟩, by rw [hd]; exact findF_put _ _ _, by rw [hd]; exact put_length _ _ _ hx, by rw [hd]; rfl⟩
  rw [hT]
  show (setN _ _).length = _
  rw [setN_len]
  unfold makeT
  rw [if_pos hmk]
  simp
theorem preE_zero {p e : Int} (h : preE p e = 0) : p = 0 ∧ e = 0 := by
  unfold preE at h
  split at h
  · rename_i h1; exact absurd h h1
  · rename_i h1; exact ⟨Decidable.not_not.1 h1, h⟩
/-- A call that makes a node, at one instant. -/
def ThereR (w : World) (B : Nat) (g : GhW) (S : TreeD) (uid gid now dir : Int) (nm : List UInt8) (a x : Int) (w' : World) : Prop :=
  ∃ T, WAt w' B g T ∧ Only g.list w w' ∧ ((x ≠ 0 ∧ a = 0 ∧ T = S) ∨ (x = 0 ∧ a = S.last + 1 ∧ Came S T uid gid now dir nm ∧ NosUp T.nodes T.last))
theorem there {c : Nat} {S : TreeD} (h : Tre c S) {w w' : World} {B : Nat} {g : GhW} {cu cg now dir p : Int} {nm : List UInt8} {n : NodeD} {e : Ending}
    (hr : NoR w B g (preT p S (comeT S cu cg now dir nm n)) (preN p (comeN S cu cg now dir nm n)) (preE p (comeE S cu cg now dir nm n)) e w') : ∃ a x, e = .returned (.tuple #[.int .i64 a, .int .i64 x]) ∧ ThereR w B g S cu cg now dir nm a x w' := by
  obtain ⟨he, hK, hO⟩ := hr
  refine ⟨_, _, he, _, hK, hO, ?_⟩
  by_cases hz : preE p (comeE S cu cg now dir nm n) = 0
  · obtain ⟨h1, h2⟩ := preE_zero hz
    right
    subst h1
    have hT : preT 0 S (comeT S cu cg now dir nm n) = comeT S cu cg now dir nm n := rfl
    refine ⟨hz, by show comeN S cu cg now dir nm n = _; unfold comeN; rw [if_pos h2], by rw [hT]; exact came h h2, ?_⟩
    rw [hT]
    unfold comeT
    rw [if_pos h2]
    exact (nos_make h.live _).set _
  · left
    refine ⟨hz, ?_, ?_⟩
    · unfold preE preN at *
      split
      · rfl
      · rename_i h1
        rw [if_neg h1] at hz
        unfold comeN; rw [if_neg hz]
    · unfold preE preT at *
      split
      · rfl
      · rename_i h1
        rw [if_neg h1] at hz
        unfold comeT; rw [if_neg hz]
end Go.Proofs.YtjblimclakfhfaaGreat

namespace Go.Proofs.YtjblimclakfhfaaGreat

theorem getN_setT {S : TreeD} {n : NodeD} {no : Int} (hne : no ≠ n.no) : getN (setT S n).nodes no = getN S.nodes no := (setN_get hne).1
/-- A kill asks what is on which mount, of what size: the node's other parts do not matter. -/
theorem kill_set {S : TreeD} (hu : NosUp S.nodes S.last) {n : NodeD} (hkb : killB S n.no = true) (hi : isN S.nodes n.no = true) (hv : n.dev = (getN S.nodes n.no).dev) (hk : n.kind = (getN S.nodes n.no).kind) (hd : n.data = (getN S.nodes n.no).data) : killT (setT S n) n.no = killT S n.no := by
  have hg := set_self hu hi
  have hi2 : isN (setT S n).nodes n.no = true := by show isN (setN S.nodes n) n.no = true; rw [isN_set]; exact hi
  have hb : killB (setT S n) n.no = killB S n.no := by
    unfold killB
    rw [hi, hi2, hg, hv]; rfl
  unfold killT
  have hq : killQ (setT S n) (getN (setT S n).nodes n.no) = killQ S (getN S.nodes n.no) := by
    unfold killQ
    rw [hg, hv, hk, hd]; rfl
  have hn : dropN (setT S n).nodes n.no = dropN S.nodes n.no := by
    unfold dropN setT setN
    induction S.nodes with
    | nil => rfl
    | cons m ms ih =>
      simp only [List.map_cons, List.filter_cons] at ih ⊢
      rw [ih]
      by_cases e : m.no = n.no
      · simp [e]
      · simp [e]
  rw [hq, hn, hb, if_pos hkb, if_pos hkb]
  rfl
/-- A node has one name less; without any it goes. -/
theorem tre_less {c : Nat} {k : Int} {S : TreeD} (h : TreB c k S) {no now : Int} (hi : isN S.nodes no = true) (ho : overF S.devs no = no) (hr : rootF S.devs (getN S.nodes no).dev ≠ no) (hne : (getN S.nodes no).kind = 1 → (getN S.nodes no).ents = []) (hkk : k = 0 ∨ (k = no ∧ (getN S.nodes no).kind = 1)) : Tre c (lessT S now (getN S.nodes no)) := by
  obtain ⟨_, hno, hm⟩ := isN_true hi
  have hb := h.bits _ hm
  unfold lessT
  split
  · have hkb : killB S no = true := by unfold killB; rw [hi]; simpa using hr
    have e : killT (setT S (lessN now (getN S.nodes no))) (getN S.nodes no).no = killT S no := by
      have := kill_set h.nos (n := lessN now (getN S.nodes no)) (by show killB S (getN S.nodes no).no = true; rw [hno]; exact hkb) (by show isN S.nodes (getN S.nodes no).no = true; rw [hno]; exact hi) (by show _ = (getN S.nodes (getN S.nodes no).no).dev; rw [hno]; rfl) (by show _ = (getN S.nodes (getN S.nodes no).no).kind; rw [hno]; rfl) (by show _ = (getN S.nodes (getN S.nodes no).no).data; rw [hno]; rfl)
      have e2 : (lessN now (getN S.nodes no)).no = no := hno
      rw [e2] at this
      rw [hno]; exact this
    rw [e]
    refine tre_kill h hkb ho ?_ hne
    · rcases hkk with e | e
      · exact .inr (.inr e)
      · exact .inr (.inl e.1)
  · rename_i hl
    have hnk : (getN S.nodes no).kind ≠ 1 := fun hk => by
      have := h.dlinks _ hm hk
      rw [this] at hl
      omega
    have hk0 : k = 0 := by
      rcases hkk with e | e
      · exact e
      · exact absurd e.2 hnk
    subst hk0
    have e1 : ∀ {P : NodeD → Prop}, P (getN S.nodes no) → P (getN S.nodes (lessN now (getN S.nodes no)).no) := fun hp => by
      have : (lessN now (getN S.nodes no)).no = no := hno
      rw [this]; exact hp
    refine tre_set h (.inl rfl) (by show isN S.nodes (getN S.nodes no).no = true; rw [hno]; exact hi) (Nat.le_refl _) (e1 (P := fun m => (lessN now (getN S.nodes no)).kind = m.kind) rfl) (e1 (P := fun m => (lessN now (getN S.nodes no)).dev = m.dev) rfl) (e1 (P := fun m => (lessN now (getN S.nodes no)).up = m.up) rfl) (fun hk1 => absurd hk1 hnk) (h.rise (getN S.nodes no) hm) (h.names (getN S.nodes no) hm) (h.pos (getN S.nodes no) hm) (h.small (getN S.nodes no) hm) (h.on (getN S.nodes no) hm).2
      ⟨hb.1, hb.2.1, by show 1 ≤ (getN S.nodes no).links - 1; omega, by show (getN S.nodes no).links - 1 ≤ 1000; omega⟩ (fun x hx => h.kin (getN S.nodes no) hm x hx) (fun q hq hqk _ hqu hqn => ?_)
    rcases h.ups q hq hqk (by have := (h.nos.2 q hq).1; omega) with ⟨_, u2⟩ | ⟨_, _, m, hm2, u3, u4, _⟩
    · exact absurd (u2.symm.trans hqu) hqn
    · have : m = getN S.nodes no := node_eq h.nos hm2 hm (by rw [u3, hqu]; rfl)
      subst this
      exact absurd u4 hnk
theorem findF_mem {l : List EntD} {nm : List UInt8} (hr : Rise l) {x : EntD} (hx : x ∈ l) (he : x.1 = nm) : findF l nm = x.2 := by
  unfold findF
  cases hf : l.find? (fun x => x.1 == nm) with
  | none => have := List.find?_eq_none.1 hf x hx; simp at this; exact absurd he this
  | some y =>
    have h2 := List.find?_some (p := fun x : EntD => x.1 == nm) hf
    have h2' : y.1 = nm := by simpa using h2
    have hy := List.mem_of_find?_eq_some hf
    have : y = x := by
      obtain ⟨i, hi, rfl⟩ := List.getElem_of_mem hy
      obtain ⟨j, hj, rfl⟩ := List.getElem_of_mem hx
      rcases Nat.lt_trichotomy i j with g | g | g
      · have := bl_ne (List.pairwise_iff_getElem.1 hr i j hi hj g)
        rw [h2', he] at this; exact absurd rfl this
      · subst g; rfl
      · have := bl_ne (List.pairwise_iff_getElem.1 hr j i hj hi g)
        rw [h2', he] at this; exact absurd rfl this
    subst this; rfl
theorem findF_in {l : List EntD} {nm : List UInt8} (h : findF l nm ≠ 0) : ∃ x ∈ l, x.1 = nm ∧ x.2 = findF l nm := by
  unfold findF at h ⊢
  cases hf : l.find? (fun x => x.1 == nm) with
  | none => rw [hf] at h; exact absurd rfl h
  | some y =>
    have h2 := List.find?_some (p := fun x : EntD => x.1 == nm) hf
    exact ⟨y, List.mem_of_find?_eq_some hf, by simpa using h2, rfl⟩
theorem mem_dropF {l : List EntD} {nm : List UInt8} {x : EntD} (h : x ∈ dropF l nm) : x ∈ l ∧ x.1 ≠ nm := by
  unfold dropF at h
  rw [List.mem_filter] at h
  exact ⟨h.1, by simpa using h.2⟩
/-- A name goes out of its directory: of the node itself it is no longer said where it lies. -/
theorem tre_unname {c : Nat} {S : TreeD} (h : Tre c S) {dir now : Int} {nm : List UInt8} (hi : isN S.nodes dir = true) (hkd : (getN S.nodes dir).kind = 1) {k' : Int} (hk' : ∀ q ∈ S.nodes, q.kind = 1 → q.no ≠ k' → q.no ≠ findF (getN S.nodes dir).ents nm) : TreB c k' (touchT S dir now (dropF (getN S.nodes dir).ents nm)) := by
  obtain ⟨_, hno, hmem⟩ := isN_true hi
  refine tre_touch h (.inl rfl) hi hkd (Nat.le_refl _) (h.rise _ hmem |>.sublist List.filter_sublist) (fun x hx => h.names _ hmem x (mem_dropF hx).1) (fun x hx => h.pos _ hmem x (mem_dropF hx).1) ?_ (fun x hx => h.kin _ hmem x (mem_dropF hx).1) (fun q hq hqk hqk' hqu hqn => ?_)
  · have h1 : (dropF (getN S.nodes dir).ents nm).length ≤ (getN S.nodes dir).ents.length := List.length_filter_le ..
    have := h.small _ hmem
    omega
  · rcases h.ups0 q hq hqk with ⟨_, u2⟩ | ⟨_, _, m, hm, u3, _, _, x, hx, u6⟩
    · exact absurd (u2.symm.trans hqu) hqn
    · have : m = getN S.nodes dir := node_eq h.nos hm hmem (by rw [u3, hqu, hno])
      subst this
      refine ⟨x, ?_, u6⟩
      unfold dropF
      rw [List.mem_filter]
      refine ⟨hx, ?_⟩
      have : x.1 ≠ nm := fun e => by
        have := findF_mem (h.rise _ hmem) hx e
        exact hk' q hq hqk hqk' (by rw [this, u6])
      simpa using this
theorem kin_root {c : Nat} {k : Int} {S : TreeD} (h : TreB c k S) {no y dev : Int} (hK : Kin S no dev y) (d : Int) (hd : hasD S.devs d = true) : rootF S.devs d ≠ y := by
  rcases rootF_zero h.roots d with ⟨_, e2⟩ | ⟨j, hj, _, _, _, e4, _⟩
  · rw [e2] at hd; cases hd
  · rw [e4]
    exact fun e => hK.2.1 _ (List.getElem_mem hj) e.symm
theorem tre_gone {c : Nat} {S : TreeD} (h : Tre c S) {cu cg now dir : Int} {nm : List UInt8} (hl : leaveE S cu cg dir nm = 0) (hne : (leaveN S cu cg dir nm).kind = 1 → (leaveN S cu cg dir nm).ents = []) : Tre c (goneT S now (leaveD S cu cg dir nm) (leaveN S cu cg dir nm) nm) := by
  obtain ⟨z1, z2, z3, z4, z5⟩ := leaveE_zero hl
  obtain ⟨hi, hkd, _⟩ := placeE_zero z1
  obtain ⟨_, hno, hmem⟩ := isN_true hi
  rw [z5] at hne
  obtain ⟨no, hn⟩ : ∃ no, no = findF (getN S.nodes dir).ents nm := ⟨_, rfl⟩
  rw [← hn] at z2 z3 z5 hne
  have hpos := (h.nos.2 _ (isN_true z2).2.2).1
  rw [(isN_true z2).2.1] at hpos
  obtain ⟨x, hx, hx1, hx2⟩ := findF_in (l := (getN S.nodes dir).ents) (nm := nm) (by rw [← hn]; omega)
  have hK := h.kin _ hmem x hx
  rw [hx2, ← hn, hno] at hK
  have hnd : no ≠ dir := hK.1
  unfold goneT
  rw [z4, z5, hno]
  have hgn : getN (touchT S dir now (dropF (getN S.nodes dir).ents nm)).nodes no = getN S.nodes no := getN_setT (by show no ≠ (getN S.nodes dir).no; rw [hno]; exact hnd)
  have hin : isN (touchT S dir now (dropF (getN S.nodes dir).ents nm)).nodes no = true := by
    show isN (setN S.nodes _) no = true; rw [isN_set]; exact z2
  have hrt := kin_root h hK (getN S.nodes no).dev (h.on _ (isN_true z2).2.2).1
  rw [← hgn] at hrt hne ⊢
  by_cases hk : (getN S.nodes no).kind = 1
  · have hT := tre_unname h (now := now) (nm := nm) hi hkd (k' := no) (fun q _ _ hq => by rw [← hn]; exact hq)
    exact tre_less hT hin z3 hrt hne (.inr ⟨rfl, by rw [hgn]; exact hk⟩)
  · have hT := tre_unname h (now := now) (nm := nm) hi hkd (k' := 0) (fun q hq hqk _ e => by
      rw [← hn] at e
      have := (mem_getN h.nos hq).1
      rw [e] at this
      rw [this] at hk
      exact hk hqk)
    exact tre_less hT hin z3 hrt hne (.inl rfl)
theorem tre_unlink {c : Nat} {S : TreeD} (h : Tre c S) (cu cg now dir : Int) (nm : List UInt8) : Tre c (unlinkT S cu cg now dir nm) := by
  unfold unlinkT
  split
  · rename_i h0
    unfold unlinkE at h0
    split at h0
    · rename_i h1; exact absurd h0 h1
    · rename_i h1
      split at h0
      · cases h0
      · rename_i h2
        exact tre_gone h (Decidable.not_not.1 h1) (fun hk => absurd hk h2)
  · exact h
theorem tre_rmdir {c : Nat} {S : TreeD} (h : Tre c S) (cu cg now dir : Int) (nm : List UInt8) : Tre c (rmdirT S cu cg now dir nm) := by
  unfold rmdirT
  split
  · rename_i h0
    unfold rmdirE at h0
    split at h0
    · rename_i h1; exact absurd h0 h1
    · rename_i h1
      split at h0
      · cases h0
      · split at h0
        · cases h0
        · rename_i h3
          refine tre_gone h (Decidable.not_not.1 h1) (fun _ => ?_)
          exact List.eq_nil_of_length_eq_zero (by omega)
  · exact h
end Go.Proofs.YtjblimclakfhfaaGreat

namespace Go.Proofs.YtjblimclakfhfaaGreat

/-- What goes changes no other node. -/
theorem over_get {c : Nat} {S : TreeD} (_h : Tre c S) (now : Int) {no q : Int} (hq : q ≠ no) : getN (overT S now no).nodes q = getN S.nodes q ∧ isN (overT S now no).nodes q = isN S.nodes q := by
  unfold overT
  split
  · rename_i hi
    have hno := (isN_true hi).2.1
    have hs := setN_get (S := S) (n := lessN now (getN S.nodes no)) (no := q) (by show q ≠ (getN S.nodes no).no; rw [hno]; exact hq)
    unfold lessT
    split
    · unfold killT
      split
      · have hd : ∀ ns : List NodeD, getO (dropN ns no) q = getO ns q := by
          intro ns
          unfold getO dropN
          induction ns with
          | nil => rfl
          | cons m ms ih =>
            rw [List.find?_cons]
            by_cases e : m.no = no
            · rw [List.filter_cons_of_neg (by simpa using e), ih]
              have : (m.no == q) = false := by rw [e]; simpa using Ne.symm hq
              rw [this]
            · rw [List.filter_cons_of_pos (by simpa using e), List.find?_cons, ih]
        rw [hno]
        refine ⟨?_, ?_⟩
        · show (getO (dropN (setT S _).nodes no) q).getD nodeZ = _
          rw [hd]; exact hs.1
        · show (getO (dropN (setT S _).nodes no) q).isSome = _
          rw [hd]; exact hs.2
      · exact hs
    · exact hs
  · exact ⟨rfl, rfl⟩
theorem over_devs (S : TreeD) (now no : Int) : (overT S now no).last = S.last ∧ ∀ i, rootF (overT S now no).devs i = rootF S.devs i := by
  unfold overT
  split
  · unfold lessT
    split
    · unfold killT
      split
      · exact ⟨rfl, fun i => by show rootF (setQ _ _ _) i = _; rw [rootQ]; rfl⟩
      · exact ⟨rfl, fun _ => rfl⟩
    · exact ⟨rfl, fun _ => rfl⟩
  · exact ⟨rfl, fun _ => rfl⟩
/-- What is left of the nodes: each was there, of the same kind, at the same place. -/
theorem over_mem {S : TreeD} {now no : Int} {m : NodeD} (hm : m ∈ (overT S now no).nodes) : ∃ m' ∈ S.nodes, m'.no = m.no ∧ m'.kind = m.kind ∧ m'.up = m.up ∧ m'.dev = m.dev := by
  refine all_over (S := S) (P := fun m => ∃ m' ∈ S.nodes, m'.no = m.no ∧ m'.kind = m.kind ∧ m'.up = m.up ∧ m'.dev = m.dev) (fun m hm => ⟨m, hm, rfl, rfl, rfl, rfl⟩) now no ?_ m hm
  rintro m ⟨m', h1, h2, h3, h4, h5⟩
  exact ⟨m', h1, h2, h3, h4, h5⟩
/-- A directory that is replaced goes. -/
theorem over_gone {c : Nat} {S : TreeD} (h : Tre c S) {now no : Int} (hk : (getN S.nodes no).kind = 1) (hr : rootF S.devs (getN S.nodes no).dev ≠ no) : ∀ m ∈ (overT S now no).nodes, m.no ≠ no := by
  obtain ⟨hi, hno, hmem⟩ := getN_node hk
  have hl := h.dlinks _ hmem hk
  have hkb : killB S no = true := by unfold killB; rw [hi]; simpa using hr
  have hi2 : isN (setT S (lessN now (getN S.nodes no))).nodes no = true := by show isN (setN S.nodes _) no = true; rw [isN_set]; exact hi
  have hg : getN (setT S (lessN now (getN S.nodes no))).nodes no = lessN now (getN S.nodes no) := by
    have := set_self (n := lessN now (getN S.nodes no)) h.nos (by show isN S.nodes (getN S.nodes no).no = true; rw [hno]; exact hi)
    have e : (lessN now (getN S.nodes no)).no = no := hno
    rw [e] at this; exact this
  have hkb2 : killB (setT S (lessN now (getN S.nodes no))) no = true := by
    unfold killB
    rw [hi2, hg]
    have e : rootF (setT S (lessN now (getN S.nodes no))).devs (lessN now (getN S.nodes no)).dev ≠ no := hr
    simpa using e
  unfold overT
  rw [if_pos hi]
  unfold lessT
  rw [if_pos (by omega), hno]
  unfold killT
  rw [if_pos hkb2]
  intro m hm
  exact (mem_drop hm).2
theorem putF_mem (l : List EntD) (x : EntD) : x ∈ putF l x := by
  unfold putF
  exact List.mem_append_left _ (List.mem_append_right _ (List.mem_singleton.2 rfl))
theorem putF_old {l : List EntD} {x y : EntD} (hy : y ∈ l) (hne : y.1 ≠ x.1) : y ∈ putF l x := by
  unfold putF lessF moreF
  rcases bl_tri y.1 x.1 with g | g | g
  · exact List.mem_append_left _ (List.mem_append_left _ (List.mem_filter.2 ⟨hy, g⟩))
  · exact absurd g hne
  · exact List.mem_append_right _ (List.mem_filter.2 ⟨hy, g⟩)
theorem moveE_zero {S : TreeD} {cu cg fr to_ : Int} {a b : List UInt8} (h : moveE S cu cg fr to_ a b = 0) (hs : ¬ sameB S cu cg fr to_ a b) :
    leaveE S cu cg fr a = 0 ∧ placeE S cu cg to_ b = 0 ∧ (leaveD S cu cg fr a).dev = (placeN S cu cg to_ b).dev ∧ ¬ ((leaveN S cu cg fr a).kind = 1 ∧ withinF S to_ (leaveN S cu cg fr a).no = true) ∧
    (isN S.nodes (oldNo S cu cg to_ b) = true → putE S cu (placeN S cu cg to_ b) (leaveN S cu cg fr a) (getN S.nodes (oldNo S cu cg to_ b)) = 0) := by
  unfold moveE moveX at h
  split at h
  · rename_i h1; exact absurd h h1
  · rename_i h1
    split at h
    · rename_i h2; exact absurd h h2
    · rename_i h2
      split at h
      · cases h
      · rename_i h3
        split at h
        · cases h
        · rename_i h4
          split at h
          · rename_i h5; exact absurd h5 hs
          · split at h
            · cases h
            · refine ⟨Decidable.not_not.1 h1, Decidable.not_not.1 h2, Decidable.not_not.1 h3, h4, fun hi => ?_⟩
              rw [if_pos hi] at h; exact h
theorem putE_zero {S : TreeD} {cu : Int} {d n o : NodeD} (h : putE S cu d n o = 0) : overF S.devs o.no = o.no ∧ (n.kind = 1 → o.kind = 1) ∧ (¬ n.kind = 1 → ¬ o.kind = 1) ∧ o.ents = [] := by
  unfold putE at h
  split at h
  · cases h
  · rename_i h1
    split at h
    · cases h
    · rename_i h2
      split at h
      · cases h
      · rename_i h3
        split at h
        · cases h
        · rename_i h4
          refine ⟨Decidable.not_not.1 h1, fun hk => Decidable.byContradiction fun e => h2 ⟨hk, e⟩, fun hk e => h3 ⟨hk, e⟩, ?_⟩
          cases ho : o.ents with
          | nil => rfl
          | cons x l => rw [ho] at h4; simp at h4
theorem tre_move {c : Nat} {S : TreeD} (h : Tre c S) (cu cg now fr to_ : Int) (a b : List UInt8) : Tre (c + 1) (moveT S cu cg now fr to_ a b) := by
  unfold moveT
  split
  case isFalse => exact tre_mono h (by omega)
  rename_i hc
  obtain ⟨p1, p2, p3, p4, p5⟩ := moveE_zero hc.1 hc.2
  have hns := hc.2
  obtain ⟨z1, z2, z3, z4, z5⟩ := leaveE_zero p1
  obtain ⟨if0, kf, _⟩ := placeE_zero z1
  obtain ⟨it0, kt, ckb⟩ := placeE_zero p2
  have pt := placeN_zero p2
  unfold sameB at hns
  unfold oldNo at hns p5 ⊢
  rw [z5, pt] at hns
  rw [z4, pt] at p3
  rw [z5] at p4
  rw [z5, pt] at p5
  rw [z4, z5, pt]
  clear z4 z5 pt hc p1 p2
  obtain ⟨no, hno⟩ : ∃ no, no = findF (getN S.nodes fr).ents a := ⟨_, rfl⟩
  obtain ⟨old, hold⟩ : ∃ old, old = findF (getN S.nodes to_).ents b := ⟨_, rfl⟩
  rw [← hno] at z2 z3 p4 p5 hns ⊢
  rw [← hold] at p5 hns ⊢
  have nfr := (isN_true if0).2.1
  have nto := (isN_true it0).2.1
  have mfr := (isN_true if0).2.2
  have mto := (isN_true it0).2.2
  have nno := (isN_true z2).2.1
  have mno := (isN_true z2).2.2
  have hpos := h.nos.2 _ mno
  rw [nno] at hpos
  have hpt := (h.nos.2 _ mto).1
  rw [nto] at hpt
  obtain ⟨x, hx, hx1, hx2⟩ := findF_in (l := (getN S.nodes fr).ents) (nm := a) (by rw [← hno]; omega)
  rw [← hno] at hx2
  have hK := h.kin _ mfr x hx
  rw [hx2, nfr] at hK
  have hnfr : no ≠ fr := hK.1
  have hdv : (getN S.nodes no).dev = (getN S.nodes fr).dev := hK.2.2 _ mno nno
  have hrt : rootF S.devs (getN S.nodes no).dev ≠ no := kin_root h hK _ (h.on _ mno).1
  -- what is replaced
  have hO : isN S.nodes old = true → old ≠ to_ ∧ old ≠ fr ∧ old ≠ no ∧ rootF S.devs (getN S.nodes old).dev ≠ old ∧ overF S.devs old = old ∧ ((getN S.nodes no).kind = 1 → (getN S.nodes old).kind = 1) ∧ (getN S.nodes old).ents = [] := by
    intro hi
    have mo := (isN_true hi).2.2
    have eo := (isN_true hi).2.1
    obtain ⟨u1, u2, u3, u4⟩ := putE_zero (p5 hi)
    have hpo := (h.nos.2 _ mo).1
    rw [eo] at hpo
    obtain ⟨y, hy, hy1, hy2⟩ := findF_in (l := (getN S.nodes to_).ents) (nm := b) (by rw [← hold]; omega)
    rw [← hold] at hy2
    have hKo := h.kin _ mto y hy
    rw [hy2, nto] at hKo
    refine ⟨hKo.1, fun e => ?_, fun e => hns ⟨hi, by rw [e]⟩, kin_root h hKo _ (h.on _ mo).1, by rw [eo] at u1; exact u1, u2, u4⟩
    rw [e] at u4
    rw [u4] at hx; cases hx
  obtain ⟨T, hT⟩ : ∃ T, T = overT S now old := ⟨_, rfl⟩
  have h0 : Tre c T := by
    rw [hT]
    unfold overT
    split
    · rename_i hi
      obtain ⟨_, _, _, o4, o5, _, o7⟩ := hO hi
      exact tre_less h hi o5 o4 (fun _ => o7) (.inl rfl)
    · exact h
  have hgT : ∀ q, (isN S.nodes old = true → old ≠ q) → getN T.nodes q = getN S.nodes q ∧ isN T.nodes q = isN S.nodes q := by
    intro q hq
    rw [hT]
    cases hi : isN S.nodes old
    · unfold overT; rw [if_neg (by rw [hi]; decide)]; exact ⟨rfl, rfl⟩
    · exact over_get h now (Ne.symm (hq hi))
  have gfr := hgT fr fun hi => (hO hi).2.1
  have gto := hgT to_ fun hi => (hO hi).1
  have gno := hgT no fun hi => (hO hi).2.2.1
  have hold' : ∀ q ∈ T.nodes, q.kind = 1 → q.no ≠ old := by
    intro q hq hqk e
    rw [hT] at hq
    obtain ⟨m', hm', e1, e2, _⟩ := over_mem hq
    have hi : isN S.nodes old = true := by
      have := (mem_getN h.nos hm').2
      rw [e1, e] at this; exact this
    have hmo : m' = getN S.nodes old := node_eq h.nos hm' (isN_true hi).2.2 (by rw [e1, e, (isN_true hi).2.1])
    have hok : (getN S.nodes old).kind = 1 := by rw [← hmo, e2]; exact hqk
    exact over_gone h hok (hO hi).2.2.2.1 q hq e
  obtain ⟨k', hk'⟩ : ∃ k', k' = if (getN S.nodes no).kind = 1 then no else 0 := ⟨_, rfl⟩
  have hkq : ∀ q ∈ T.nodes, q.kind = 1 → q.no ≠ k' → q.no ≠ no := by
    intro q hq hqk hqk' e
    have : q = getN T.nodes no := node_eq h0.nos hq (isN_true (gno.2.trans z2)).2.2 (by rw [e, (isN_true (gno.2.trans z2)).2.1])
    have hkn : (getN S.nodes no).kind = 1 := by rw [← gno.1, ← this]; exact hqk
    rw [if_pos hkn] at hk'
    exact hqk' (e.trans hk'.symm)
  have h1 : TreB c k' (touchT T fr now (dropF (getN S.nodes fr).ents a)) := by
    have := tre_unname h0 (dir := fr) (now := now) (nm := a) (gfr.2.trans if0) (by rw [gfr.1]; exact kf) (k' := k') (by rw [gfr.1, ← hno]; exact hkq)
    rw [gfr.1] at this; exact this
  obtain ⟨T1, hT1⟩ : ∃ T1, T1 = touchT T fr now (dropF (getN S.nodes fr).ents a) := ⟨_, rfl⟩
  rw [← hT1] at h1
  unfold laidT
  rw [← hT, ← hT1]
  have nT : (getN T.nodes fr).no = fr := by rw [gfr.1]; exact nfr
  have g1 : ∀ q, q ≠ fr → getN T1.nodes q = getN T.nodes q ∧ isN T1.nodes q = isN T.nodes q := by
    intro q hq
    rw [hT1]
    exact setN_get (n := touchN T fr now (dropF (getN S.nodes fr).ents a)) (by show q ≠ (getN T.nodes fr).no; rw [nT]; exact hq)
  have gf1 : getN T1.nodes fr = touchN T fr now (dropF (getN S.nodes fr).ents a) := by
    have := set_self (n := touchN T fr now (dropF (getN S.nodes fr).ents a)) h0.nos (by show isN T.nodes (getN T.nodes fr).no = true; rw [nT]; exact gfr.2.trans if0)
    have e : (touchN T fr now (dropF (getN S.nodes fr).ents a)).no = fr := nT
    rw [e] at this
    rw [hT1]; exact this
  have if1 : isN T1.nodes fr = true := by
    rw [hT1]; show isN (setN T.nodes _) fr = true; rw [isN_set]; exact gfr.2.trans if0
  have hto1 : isN T1.nodes to_ = true ∧ (getN T1.nodes to_).kind = 1 ∧ (getN T1.nodes to_).dev = (getN S.nodes to_).dev ∧ (∀ x ∈ (getN T1.nodes to_).ents, x ∈ (getN S.nodes to_).ents) := by
    by_cases e : to_ = fr
    · rw [e, gf1]
      refine ⟨if1, by show (getN T.nodes fr).kind = 1; rw [gfr.1]; exact kf, by show (getN T.nodes fr).dev = _; rw [gfr.1], fun x hx => ?_⟩
      exact (mem_dropF hx).1
    · rw [(g1 to_ e).1, (g1 to_ e).2, gto.1, gto.2]
      exact ⟨it0, kt, rfl, fun x hx => hx⟩
  obtain ⟨it1, kt1, dt1, et1⟩ := hto1
  have nt1 := (isN_true it1).2.1
  have mt1 := (isN_true it1).2.2
  have hnto : no ≠ to_ := by
    intro e
    by_cases hk : (getN S.nodes no).kind = 1
    · refine p4 ⟨hk, ?_⟩
      rw [nno, ← e]
      exact within_base (by omega) rfl
    · rw [e] at hk; exact hk kt
  have hKT := h0.kin _ (isN_true (gfr.2.trans if0)).2.2 x (by rw [gfr.1]; exact hx)
  rw [hx2, nT] at hKT
  have h2 : TreB (c + 1) k' (touchT T1 to_ now (putF (getN T1.nodes to_).ents (b, (getN S.nodes no).no))) := by
    rw [nno]
    refine tre_touch h1 (.inr rfl) it1 kt1 (by omega) (rise_putF _ (h1.rise _ mt1)) (fun y hy => ?_) (fun y hy => ?_) ?_ (fun y hy => ?_) (fun q hq hqk hqk' hqu hqn => ?_)
    · rcases mem_putF hy with hy | rfl
      · exact h1.names _ mt1 y hy
      · exact checkN_short ckb
    · rcases mem_putF hy with hy | rfl
      · exact h1.pos _ mt1 y hy
      · have e : T1.last = S.last := by rw [hT1]; show T.last = _; rw [hT]; exact (over_devs S now old).1
        rw [e]; exact hpos
    · have := putF_len (getN T1.nodes to_).ents (b, no)
      have := h1.small _ mt1
      omega
    · rcases mem_putF hy with hy | rfl
      · exact h1.kin _ mt1 y hy
      · refine ⟨by rw [nt1]; exact hnto, by rw [hT1]; exact hKT.2.1, fun q hq e => ?_⟩
        rw [hT1] at hq
        rcases mem_setT hq with ⟨hq, _⟩ | rfl
        · rw [hKT.2.2 q hq e, gfr.1, dt1, p3]
        · exact absurd (nT.symm.trans e).symm hnfr
    · rcases h1.ups q hq hqk hqk' with ⟨_, u2⟩ | ⟨_, _, m, hm, u3, _, _, y, hy, u6⟩
      · exact absurd (u2.symm.trans hqu) hqn
      · have : m = getN T1.nodes to_ := node_eq h1.nos hm mt1 (by rw [u3, hqu, nt1])
        subst this
        refine ⟨y, putF_old hy fun e => ?_, u6⟩
        have e2 := findF_mem (h.rise _ mto) (et1 y hy) e
        rw [← hold, u6] at e2
        rw [hT1] at hq
        rcases mem_setT hq with ⟨hq, _⟩ | rfl
        · exact hold' q hq hqk e2.symm
        · have e3 : old = fr := e2.trans nT
          have hq2 : getN T.nodes fr ∈ T.nodes := (isN_true (gfr.2.trans if0)).2.2
          exact hold' _ hq2 (by rw [gfr.1]; exact kf) (by rw [nT]; exact e3.symm)
  obtain ⟨T2, hT2⟩ : ∃ T2, T2 = touchT T1 to_ now (putF (getN T1.nodes to_).ents (b, (getN S.nodes no).no)) := ⟨_, rfl⟩
  rw [← hT2] at h2 ⊢
  have g2 : getN T2.nodes no = getN S.nodes no ∧ isN T2.nodes no = true := by
    have := setN_get (S := T1) (n := touchN T1 to_ now (putF (getN T1.nodes to_).ents (b, (getN S.nodes no).no))) (no := no) (by show no ≠ (getN T1.nodes to_).no; rw [nt1]; exact hnto)
    rw [hT2]
    exact ⟨this.1.trans ((g1 no hnfr).1.trans gno.1), this.2.trans ((g1 no hnfr).2.trans (gno.2.trans z2))⟩
  have m2 := (isN_true g2.2).2.2
  rw [g2.1] at m2
  have hb := h.bits _ mno
  by_cases hk : (getN S.nodes no).kind = 1
  · rw [if_pos hk] at hk'
    subst hk'
    have gt2 : getN T2.nodes to_ = touchN T1 to_ now (putF (getN T1.nodes to_).ents (b, (getN S.nodes k').no)) ∧ isN T2.nodes to_ = true := by
      have := set_self (n := touchN T1 to_ now (putF (getN T1.nodes to_).ents (b, (getN S.nodes k').no))) h1.nos (by show isN T1.nodes (getN T1.nodes to_).no = true; rw [nt1]; exact it1)
      have e : (touchN T1 to_ now (putF (getN T1.nodes to_).ents (b, (getN S.nodes k').no))).no = to_ := nt1
      rw [e] at this
      rw [hT2]
      exact ⟨this, by show isN (setN T1.nodes _) to_ = true; rw [isN_set]; exact it1⟩
    have mt2 := (isN_true gt2.2).2.2
    rw [gt2.1] at mt2
    refine tre_lies (n := laidN now to_ (getN S.nodes k')) (m0 := getN S.nodes k') (t := touchN T1 to_ now (putF (getN T1.nodes to_).ents (b, (getN S.nodes k').no))) ?_ m2 rfl hk hk rfl rfl (h.on _ mno).2 (show (getN S.nodes k').links = 1 from h.dlinks _ mno hk) rfl mt2 kt1 ?_ ⟨_, putF_mem _ _, rfl⟩ ?_ ?_ ?_
    · have e : (laidN now to_ (getN S.nodes k')).no = k' := nno
      rw [e]; exact h2
    · show (getN T1.nodes to_).dev = (getN S.nodes k').dev
      rw [dt1, ← p3, hdv]
    · show (if (getN S.nodes k').kind = 1 then to_ else _) = (getN T1.nodes to_).no
      rw [if_pos hk, nt1]
    · show rootF T2.devs (getN S.nodes k').dev ≠ (getN S.nodes k').no
      rw [nno, hT2]
      show rootF T1.devs _ ≠ _
      rw [hT1]
      show rootF T.devs _ ≠ _
      rw [hT, (over_devs S now old).2]
      exact hrt
    · intro hU
      have hU' : UpTo T2 k' to_ := by
        have e1 : (laidN now to_ (getN S.nodes k')).no = k' := nno
        have e2 : (touchN T1 to_ now (putF (getN T1.nodes to_).ents (b, (getN S.nodes k').no))).no = to_ := nt1
        rw [e1, e2] at hU; exact hU
      have hback : ∀ q ∈ T2.nodes, q.kind = 1 → ∃ q' ∈ S.nodes, q'.no = q.no ∧ q'.kind = 1 ∧ q'.up = q.up := by
        have bT : ∀ q ∈ T.nodes, ∃ q' ∈ S.nodes, q'.no = q.no ∧ q'.kind = q.kind ∧ q'.up = q.up := fun q hq => by
          rw [hT] at hq
          obtain ⟨m', a1, a2, a3, a4, _⟩ := over_mem hq
          exact ⟨m', a1, a2, a3, a4⟩
        have b1 : ∀ q ∈ T1.nodes, ∃ q' ∈ S.nodes, q'.no = q.no ∧ q'.kind = q.kind ∧ q'.up = q.up := fun q hq => by
          rw [hT1] at hq
          rcases mem_setT hq with ⟨hq, _⟩ | rfl
          · exact bT q hq
          · exact bT (getN T.nodes fr) (isN_true (gfr.2.trans if0)).2.2
        intro q hq hqk
        rw [hT2] at hq
        rcases mem_setT hq with ⟨hq, _⟩ | rfl
        · obtain ⟨q', a1, a2, a3, a4⟩ := b1 q hq
          exact ⟨q', a1, a2, a3.trans hqk, a4⟩
        · obtain ⟨q', a1, a2, a3, a4⟩ := b1 (getN T1.nodes to_) mt1
          exact ⟨q', a1, a2, a3.trans kt1, a4⟩
      have := UpTo.within h (by omega) (UpTo.mono hU' hback)
      exact p4 ⟨hk, by rw [nno]; exact this⟩
  · rw [if_neg hk] at hk'
    subst hk'
    refine tre_same h2 (no := no) g2.2 nno ?_ ?_ ?_ ?_ ?_ ?_ ?_
    · rw [g2.1]; rfl
    · exact (h.on _ mno).2
    · rw [g2.1]; rfl
    · rw [g2.1]; rfl
    · rw [g2.1]; unfold laidN; show (if (getN S.nodes no).kind = 1 then to_ else (getN S.nodes no).up) = _; rw [if_neg hk]
    · rw [g2.1]; rfl
    · exact ⟨hb.1, hb.2.1⟩
end Go.Proofs.YtjblimclakfhfaaGreat

namespace Go.Proofs.YtjblimclakfhfaaGreat

theorem drop_len {ns : List NodeD} (no : Int) (hu : ns.Pairwise fun a b => a.no < b.no) : ns.length ≤ (dropN ns no).length + 1 ∧ (dropN ns no).length ≤ ns.length := by
  refine ⟨?_, List.length_filter_le ..⟩
  induction ns with
  | nil => simp
  | cons m ms ih =>
    obtain ⟨h1, h2⟩ := List.pairwise_cons.1 hu
    by_cases e : m.no = no
    · have e2 : dropN (m :: ms) no = ms := by
        unfold dropN
        rw [List.filter_cons_of_neg (by simpa using e), List.filter_eq_self]
        intro x hx
        have := h1 x hx
        have : x.no ≠ no := by omega
        simpa using this
      rw [e2]; simp
    · have e2 : dropN (m :: ms) no = m :: dropN ms no := by
        unfold dropN
        rw [List.filter_cons_of_pos (by simpa using e)]
      rw [e2]
      have := ih h2
      simp only [List.length_cons]; omega
theorem over_len {c : Nat} {S : TreeD} (h : Tre c S) (now no : Int) : S.nodes.length ≤ (overT S now no).nodes.length + 1 ∧ (overT S now no).nodes.length ≤ S.nodes.length := by
  unfold overT
  split
  · unfold lessT
    split
    · unfold killT
      split
      · have := drop_len (getN S.nodes no).no (h.nos.set (lessN now (getN S.nodes no))).1
        rw [setN_len] at this
        exact this
      · show _ ≤ (setN _ _).length + 1 ∧ (setN _ _).length ≤ _; rw [setN_len]; omega
    · show _ ≤ (setN _ _).length + 1 ∧ (setN _ _).length ≤ _; rw [setN_len]; omega
  · omega
theorem over_nos {c : Nat} {S : TreeD} (h : Tre c S) (now no : Int) : NosUp (overT S now no).nodes (overT S now no).last := by
  unfold overT
  split
  · unfold lessT
    split
    · unfold killT
      split
      · exact (h.nos.set _).drop _
      · exact h.nos.set _
    · exact h.nos.set _
  · exact h.nos
end Go.Proofs.YtjblimclakfhfaaGreat

namespace Go.Proofs.YtjblimclakfhfaaGreat
open Go.ChangeShapes Go.WideShapes Go.ChangeAt Go.RowKit

attribute [local irreducible] wpQuiet
set_option maxRecDepth 100000 in
set_option maxHeartbeats 16000000 in
theorem rmove_any {c : Nat} (B : Nat) (g : GhF) (S : TreeD) (X : Xtra) (cu cg fr to_ : Int) (a b : List UInt8) (w : World) (h : FAt w B g S X) (HTr : Tre c S) (hcc : c ≤ 100000) (hl1 : S.last ≤ 1000) (hna : a.length ≤ 1000000) (hnb : b.length ≤ 1000000) :
    Calls Tryz.prog 66 #[.pointer (some ⟨g.bF, 0, none⟩), .agg #[.int .i64 cu, .int .i64 cg], .int .i64 fr, .string (bs a), .int .i64 to_, .string (bs b)] w (ErF w B g (moveT S cu cg X.now fr to_ a b) X (moveE S cu cg fr to_ a b)) := by
  obtain ⟨W0, hW0⟩ : ∃ W0, W0 = w.alloc (.cells #[.int .i64 cu, .int .i64 cg] 24) := ⟨_, rfl⟩
  have E0 : Ext w W0 := by rw [hW0]; exact (Ext.refl _).alloc _
  have C0 : Has W0 w.heap.size (.cells #[.int .i64 cu, .int .i64 cg] 24) := by rw [hW0]; exact Has.new w _
  have O := HTr.ok hcc
  have HTT0 := Lib.hid HTr
  have HO := Lib.hid O
  have hcl : S.nodes.length ≤ 1000 := by have := O.live.count; omega
  have HCL := Lib.hid hcl
  obtain ⟨now, hnow⟩ : ∃ now, now = X.now := ⟨_, rfl⟩
  rw [← hnow]
  have HNOW := Lib.hid hnow
  have HE : Hid (moveE S cu cg fr to_ a b = moveX S cu cg fr to_ (leaveE S cu cg fr a) (placeE S cu cg to_ b) (leaveD S cu cg fr a) (leaveN S cu cg fr a) (placeN S cu cg to_ b) (isN S.nodes (oldNo S cu cg to_ b)) (getN S.nodes (oldNo S cu cg to_ b))) := by show _ = _; rfl
  have HZ : Hid (leaveE S cu cg fr a = 0 → _) := fun h0 => leaveE_zero (nm := a) h0
  have HP : Hid (placeE S cu cg to_ b = 0 → _) := fun h0 => placeE_zero (nm := b) h0
  have HS : Hid (∀ (w' : World) (x : Int), Ext w w' → moveE S cu cg fr to_ a b = x → (x ≠ 0 ∨ sameB S cu cg fr to_ a b) → ErF w B g (moveT S cu cg now fr to_ a b) X (moveE S cu cg fr to_ a b) (.returned (.int .i64 x)) w') := by
    show ∀ (w' : World) (x : Int), _
    intro w' x hE hx h0
    rw [hx]
    have e : moveT S cu cg now fr to_ a b = S := by
      unfold moveT
      rw [if_neg]
      rintro ⟨h1, h2⟩
      rcases h0 with h0 | h0
      · exact h0 (hx.symm.trans h1)
      · exact h2 h0
    exact ⟨rfl, g, by rw [e]; exact h.ext hE, Only.of_ext hE, GhF.on_refl _ _⟩
  have x0 : W0.cell? ⟨w.heap.size, 0, none⟩ = some (.int .i64 cu) := C0.cell 0
  have x1 : W0.cell? ⟨w.heap.size, 1, none⟩ = some (.int .i64 cg) := C0.cell 1
  have xz := C0.lt
  clear O HTr hcl hnow
  go_enter Tryz.func66, Tryz.ntmps66
  go_upto_region 1 with fail
  rw [← hW0]
  clear hW0
  go_wp2_with fail
  refine (rleave_any B g S X cu cg fr a _ (h.ext E0) HO.out (by omega) hna).mono ?_
  rintro e w2 ⟨A1, c1, A2, c2, rfl, okd, okn, b2⟩
  obtain ⟨d, hd⟩ : ∃ d, d = leaveD S cu cg fr a := ⟨_, rfl⟩
  obtain ⟨n, hn⟩ : ∃ n, n = leaveN S cu cg fr a := ⟨_, rfl⟩
  obtain ⟨x, hx⟩ : ∃ x, x = leaveE S cu cg fr a := ⟨_, rfl⟩
  rw [← hd] at okd
  rw [← hn] at okn
  rw [← hd, ← hn, ← hx]
  rw [← hx] at HZ
  rw [← hd, ← hn, ← hx] at HE
  have HDD := Lib.hid hd
  have HNN := Lib.hid hn
  obtain ⟨W3, hW3⟩ : ∃ W3, W3 = (w2.alloc (.cells #[.int .i64 d.no, .int .i64 d.dev, .int .i64 d.kind, .int .i64 d.mode, .int .i64 d.uid, .int .i64 d.gid, .int .i64 d.mtime, .int .i64 d.ctime, .int .i64 d.links, .int .i64 d.up, .string (bs d.data), .slice A1 d.ents.length c1] 87)).alloc (.cells #[.int .i64 n.no, .int .i64 n.dev, .int .i64 n.kind, .int .i64 n.mode, .int .i64 n.uid, .int .i64 n.gid, .int .i64 n.mtime, .int .i64 n.ctime, .int .i64 n.links, .int .i64 n.up, .string (bs n.data), .slice A2 n.ents.length c2] 87) := ⟨_, rfl⟩
  have E23 : Ext w2 W3 := by rw [hW3]; exact ((Ext.refl _).alloc _).alloc _
  obtain ⟨b15, hb15⟩ : ∃ b, b = w2.heap.size := ⟨_, rfl⟩
  have D3 : Has W3 b15 (.cells #[.int .i64 d.no, .int .i64 d.dev, .int .i64 d.kind, .int .i64 d.mode, .int .i64 d.uid, .int .i64 d.gid, .int .i64 d.mtime, .int .i64 d.ctime, .int .i64 d.links, .int .i64 d.up, .string (bs d.data), .slice A1 d.ents.length c1] 87) := by rw [hW3, hb15]; exact (Has.new w2 _).alloc _
  have N3 : Has W3 (b15 + 1) (.cells #[.int .i64 n.no, .int .i64 n.dev, .int .i64 n.kind, .int .i64 n.mode, .int .i64 n.uid, .int .i64 n.gid, .int .i64 n.mtime, .int .i64 n.ctime, .int .i64 n.links, .int .i64 n.up, .string (bs n.data), .slice A2 n.ents.length c2] 87) := by
    rw [hW3, hb15]
    have := Has.new (w2.alloc (.cells #[.int .i64 d.no, .int .i64 d.dev, .int .i64 d.kind, .int .i64 d.mode, .int .i64 d.uid, .int .i64 d.gid, .int .i64 d.mtime, .int .i64 d.ctime, .int .i64 d.links, .int .i64 d.up, .string (bs d.data), .slice A1 d.ents.length c1] 87)) (.cells #[.int .i64 n.no, .int .i64 n.dev, .int .i64 n.kind, .int .i64 n.mode, .int .i64 n.uid, .int .i64 n.gid, .int .i64 n.mtime, .int .i64 n.ctime, .int .i64 n.links, .int .i64 n.up, .string (bs n.data), .slice A2 n.ents.length c2] 87)
    rwa [World.size_alloc] at this
  have okd3 := okd.ext E23
  have okn3 := okn.ext E23
  have E3 := (E0.trans b2).trans E23
  have C3 := C0.ext (b2.trans E23)
  have hb15w : w.heap.size ≤ b15 := by rw [hb15]; exact (E0.trans b2).size
  clear x0 x1 xz hd hn hx C0 okd okn E23
  go_upto_region 2 with fail
  rw [← hW3]
  rw [← hb15]
  clear hW3 hb15
  by_cases hx0 : x = 0
  case neg =>
    have t0 : (x == 0) = false := by simpa using hx0
    have t0b : (x != 0) = true := by simpa using hx0
    have hE : Hid (moveE S cu cg fr to_ a b = x) := by show _ = _; rw [HE.out]; unfold moveX; rw [if_pos hx0]
    have HX := Lib.hid hx0
    clear hx0
    go_wp2_with fail
    go_ret
    exact HS.out _ _ E3 hE.out (.inl HX.out)
  have t0 : (x == 0) = true := by simpa using hx0
  have t0b : (x != 0) = false := by simpa using hx0
  have HLZ := Lib.hid (HZ.out hx0)
  have HX0 := Lib.hid hx0
  have x0 : W3.cell? ⟨w.heap.size, 0, none⟩ = some (.int .i64 cu) := C3.cell 0
  have x1 : W3.cell? ⟨w.heap.size, 1, none⟩ = some (.int .i64 cg) := C3.cell 1
  have xz := C3.lt
  clear hx0 HZ
  go_wp2_with fail
  refine (rplace_any B g S X cu cg to_ b _ (h.ext E3) (by have := HCL.out; omega) HO.out.live.nos hnb).mono ?_
  rintro e w4 ⟨A4, c4, rfl, okt, b4⟩
  obtain ⟨t, ht⟩ : ∃ t, t = placeN S cu cg to_ b := ⟨_, rfl⟩
  obtain ⟨y, hy⟩ : ∃ y, y = placeE S cu cg to_ b := ⟨_, rfl⟩
  rw [← ht] at okt
  rw [← ht, ← hy]
  rw [← ht, ← hy] at HE
  rw [← hy] at HP
  have HTT := Lib.hid ht
  have HYY := Lib.hid hy
  obtain ⟨W5, hW5⟩ : ∃ W5, W5 = w4.alloc (.cells #[.int .i64 t.no, .int .i64 t.dev, .int .i64 t.kind, .int .i64 t.mode, .int .i64 t.uid, .int .i64 t.gid, .int .i64 t.mtime, .int .i64 t.ctime, .int .i64 t.links, .int .i64 t.up, .string (bs t.data), .slice A4 t.ents.length c4] 87) := ⟨_, rfl⟩
  have E45 : Ext w4 W5 := by rw [hW5]; exact (Ext.refl _).alloc _
  obtain ⟨b18, hb18⟩ : ∃ b, b = w4.heap.size := ⟨_, rfl⟩
  have T5 : Has W5 b18 (.cells #[.int .i64 t.no, .int .i64 t.dev, .int .i64 t.kind, .int .i64 t.mode, .int .i64 t.uid, .int .i64 t.gid, .int .i64 t.mtime, .int .i64 t.ctime, .int .i64 t.links, .int .i64 t.up, .string (bs t.data), .slice A4 t.ents.length c4] 87) := by rw [hW5, hb18]; exact Has.new w4 _
  have E35 := b4.trans E45
  have okd5 := okd3.ext E35
  have okn5 := okn3.ext E35
  have okt5 := okt.ext E45
  have D5 := D3.ext E35
  have N5 := N3.ext E35
  have C5 := C3.ext E35
  have E5 := E3.trans E35
  have hb18w : b15 + 1 < b18 := by rw [hb18]; have := N3.lt; have := b4.size; omega
  clear x0 x1 xz ht hy okt E45 D3 N3 C3 okd3 okn3 b4
  go_upto_region 5 with fail
  rw [← hW5]
  rw [← hb18]
  clear hW5 hb18
  by_cases hy0 : y = 0
  case neg =>
    have t1 : (y == 0) = false := by simpa using hy0
    have t1b : (y != 0) = true := by simpa using hy0
    have hE : Hid (moveE S cu cg fr to_ a b = y) := by show _ = _; rw [HE.out]; unfold moveX; rw [if_neg (not_not_intro HX0.out), if_pos hy0]
    have HX := Lib.hid hy0
    clear hy0
    go_wp2_with fail
    go_ret
    exact HS.out _ _ E5 hE.out (.inl HX.out)
  have t1 : (y == 0) = true := by simpa using hy0
  have t1b : (y != 0) = false := by simpa using hy0
  have HPZ := Lib.hid (HP.out hy0)
  have HY0 := Lib.hid hy0
  have HPN : Hid (t = getN S.nodes to_) := Lib.hid (HTT.out.trans (placeN_zero (by rw [← HYY.out]; exact hy0)))
  obtain ⟨old_, hold⟩ : ∃ o, o = oldNo S cu cg to_ b := ⟨_, rfl⟩
  have hold2 : findF t.ents b = old_ := by rw [hold, HTT.out]; rfl
  have hre := HO.out.entsN to_
  rw [← HPN.out] at hre
  have HRE := Lib.hid hre
  have k11 : W5.cell? ⟨b18, 11, none⟩ = some (.slice A4 t.ents.length c4) := T5.cell 11
  have kz := T5.lt
  have HOLD := Lib.hid hold
  have HOLD2 := Lib.hid hold2
  clear hy0 HP hold hold2 hre
  go_wp2_with fail
  refine (rfind_any A4 t.ents c4 b _ okt5.ents.ents (by have := HRE.out.2; omega)).mono ?_
  rintro e w5a ⟨rfl, b5a⟩
  rw [HOLD2.out]
  clear k11 kz
  go_wp2_with fail
  refine (rget_any B g S X old_ _ (h.ext (E5.trans b5a)) (by have := HCL.out; omega) HO.out.live.nos).mono ?_
  rintro e w5b ⟨A6, c6, rfl, ok6', b5b⟩
  have hnz : ((getN S.nodes old_).no == 0) = !isN S.nodes old_ := by
    cases hi : isN S.nodes old_
    · rw [(isN_false hi).1]; rfl
    · have h1 := (HO.out.live.nos.2 _ (isN_true hi).2.2).1
      simp; omega
  have hno' : isN S.nodes old_ = true → (getN S.nodes old_).no = old_ := fun hi => (isN_true hi).2.1
  obtain ⟨o, ho⟩ : ∃ o, o = getN S.nodes old_ := ⟨_, rfl⟩
  obtain ⟨is, his⟩ : ∃ is, is = isN S.nodes old_ := ⟨_, rfl⟩
  rw [← ho] at ok6' hnz hno' ⊢
  rw [← his] at hnz hno'
  rw [← HOLD.out, ← ho, ← his] at HE
  have HOO := Lib.hid ho
  have HIS := Lib.hid his
  have HNZ := Lib.hid hnz
  have HNO' := Lib.hid hno'
  obtain ⟨w6, hw6⟩ : ∃ W, W = w5b.alloc (.cells #[.int .i64 o.no, .int .i64 o.dev, .int .i64 o.kind, .int .i64 o.mode, .int .i64 o.uid, .int .i64 o.gid, .int .i64 o.mtime, .int .i64 o.ctime, .int .i64 o.links, .int .i64 o.up, .string (bs o.data), .slice A6 o.ents.length c6] 87) := ⟨_, rfl⟩
  obtain ⟨b19, hb19⟩ : ∃ b, b = w5b.heap.size := ⟨_, rfl⟩
  have O6 : Has w6 b19 (.cells #[.int .i64 o.no, .int .i64 o.dev, .int .i64 o.kind, .int .i64 o.mode, .int .i64 o.uid, .int .i64 o.gid, .int .i64 o.mtime, .int .i64 o.ctime, .int .i64 o.links, .int .i64 o.up, .string (bs o.data), .slice A6 o.ents.length c6] 87) := by rw [hw6, hb19]; exact Has.new _ _
  have E6b : Ext w5b w6 := by rw [hw6]; exact (Ext.refl _).alloc _
  have E56 : Ext W5 w6 := (b5a.trans b5b).trans E6b
  have oko6 := ok6'.ext E6b
  have okd6 := okd5.ext E56
  have okn6 := okn5.ext E56
  have okt6 := okt5.ext E56
  have D6 := D5.ext E56
  have N6 := N5.ext E56
  have T6 := T5.ext E56
  have C6' := C5.ext E56
  have X6 := E5.trans E56
  have hb19w : b18 < b19 := by rw [hb19]; have := T5.lt; have := (b5a.trans b5b).size; omega
  have HKS : Hid (moveE S cu cg fr to_ a b = moveX S cu cg fr to_ x y d n t is o) := HE
  have HSM : Hid (sameB S cu cg fr to_ a b ↔ (is = true ∧ o.no = n.no)) := by
    refine Lib.hid ?_
    unfold sameB
    rw [HIS.out, HOO.out, HNN.out, HOLD.out]
  have HX6 := Lib.hid X6
  obtain ⟨zz1, zz2, zz3, zz4, zz5⟩ := id HLZ.out
  have hnpos : 1 ≤ n.no := by
    rw [HNN.out, zz5]
    have hm := (isN_true zz2).2.2
    exact (HO.out.live.nos.2 _ hm).1
  have HNP := Lib.hid hnpos
  clear ho his hnz hno' ok6' okd5 okn5 okt5 D5 N5 T5 C5 E5 E56 E6b E3 E35 X6 HE zz1 zz2 zz3 zz4 zz5 hnpos
  go_upto_region 8 with fail
  rw [← hw6, ← hb19]
  clear hw6 hb19 b5a b5b
  have e1 : w6.cell? ⟨b15, 1, none⟩ = some (.int .i64 d.dev) := D6.cell 1
  have e2 : w6.cell? ⟨b18, 1, none⟩ = some (.int .i64 t.dev) := T6.cell 1
  have z1 := D6.lt
  have z2 := T6.lt
  by_cases q1 : d.dev = t.dev
  case neg =>
    have s1 : (d.dev == t.dev) = false := by simpa using q1
    have s1b : (d.dev != t.dev) = true := by simpa using q1
    have hE : Hid (moveE S cu cg fr to_ a b = 11) := by show _ = _; rw [HKS.out]; unfold moveX; rw [if_neg (not_not_intro HX0.out), if_neg (not_not_intro HY0.out), if_pos q1]
    go_wp2_with fail
    go_ret
    exact HS.out _ _ HX6.out hE.out (.inl (by decide))
  have s1 : (d.dev == t.dev) = true := by simpa using q1
  have s1b : (d.dev != t.dev) = false := by simpa using q1
  have Q1 := Lib.hid q1
  clear q1
  go_upto_region 10 with fail
  clear e1 e2 z1 z2 s1 s1b
  obtain ⟨wv, hwv⟩ : ∃ wv, wv = (decide (n.kind = 1) && withinF S to_ n.no) := ⟨_, rfl⟩
  have HWV := Lib.hid hwv
  have e3 : w6.cell? ⟨b15 + 1, 2, none⟩ = some (.int .i64 n.kind) := N6.cell 2
  have e4 : w6.cell? ⟨b15 + 1, 0, none⟩ = some (.int .i64 n.no) := N6.cell 0
  have z3 := N6.lt
  clear hwv
  go_cut [62] (fun v wc => v = .bool wv ∧ Ext w6 wc)
  case first =>
    by_cases q2 : n.kind = 1
    case neg =>
      have s2 : (n.kind == 1) = false := by simpa using q2
      have hv : Hid (wv = false) := Lib.hid (by rw [HWV.out, decide_eq_false q2]; rfl)
      clear q2
      go_wp2_with fail
      go_meet
      exact ⟨by rw [hv.out], Ext.refl _⟩
    have s2 : (n.kind == 1) = true := by simpa using q2
    have hv : Hid (wv = withinF S to_ n.no) := Lib.hid (by rw [HWV.out, decide_eq_true q2]; rfl)
    clear q2
    go_wp2_with fail
    refine (rwithin_any B g S X to_ n.no _ (h.ext HX6.out) (by have := HCL.out; omega) HO.out.live.eight HO.out.live.roots HO.out.live.nos).mono ?_
    rintro e w7 ⟨rfl, b7⟩
    have B7 := Lib.hid b7
    clear b7 e3 e4 z3
    go_wp2_with fail
    go_meet
    exact ⟨by rw [hv.out], B7.out⟩
  case rest =>
  obtain ⟨rfl, B7⟩ := hcut
  obtain ⟨w7, hw7⟩ : ∃ w7, w7 = wc := ⟨_, rfl⟩
  rw [← hw7] at B7 ⊢
  clear e3 e4 z3
  have HX7 := Lib.hid (HX6.out.trans B7)
  have okd7 := okd6.ext B7
  have okn7 := okn6.ext B7
  have okt7 := okt6.ext B7
  have oko7 := oko6.ext B7
  have D7 := D6.ext B7
  have N7 := N6.ext B7
  have T7 := T6.ext B7
  have O7 := O6.ext B7
  have C7 := C6'.ext B7
  clear hw7 okd6 okn6 okt6 oko6 D6 N6 T6 O6 C6' B7
  cases wv
  case true =>
    have hh : Hid (n.kind = 1 ∧ withinF S to_ n.no = true) := Lib.hid (by have := HWV.out.symm; rw [Bool.and_eq_true, decide_eq_true_eq] at this; exact this)
    have hE : Hid (moveE S cu cg fr to_ a b = 17) := by show _ = _; rw [HKS.out]; unfold moveX; rw [if_neg (not_not_intro HX0.out), if_neg (not_not_intro HY0.out), if_neg (not_not_intro Q1.out), if_pos hh.out]
    go_wp2_with fail
    go_ret
    exact HS.out _ _ HX7.out hE.out (.inl (by decide))
  have HNW : Hid (¬ (n.kind = 1 ∧ withinF S to_ n.no = true)) := Lib.hid (fun hk => by
    have := HWV.out
    rw [decide_eq_true hk.1, hk.2] at this
    cases this)
  have e4 : w7.cell? ⟨b15 + 1, 0, none⟩ = some (.int .i64 n.no) := N7.cell 0
  have e5 : w7.cell? ⟨b19, 0, none⟩ = some (.int .i64 o.no) := O7.cell 0
  have z3 := N7.lt
  have z4 := O7.lt
  by_cases q3 : o.no = n.no
  · have s3 : (o.no == n.no) = true := by simpa using q3
    have hsm : Hid (is = true ∧ o.no = n.no) := Lib.hid ⟨by
      have h1 := HNZ.out
      rw [q3] at h1
      have h2 := HNP.out
      have h3 : (n.no == 0) = false := by simp; omega
      rw [h3] at h1
      cases his : is
      · rw [his] at h1; cases h1
      · rfl, q3⟩
    clear q3
    have hE : Hid (moveE S cu cg fr to_ a b = 0) := by show _ = _; rw [HKS.out]; unfold moveX; rw [if_neg (not_not_intro HX0.out), if_neg (not_not_intro HY0.out), if_neg (not_not_intro Q1.out), if_neg HNW.out, if_pos hsm.out]
    go_wp2_with fail
    go_ret
    exact HS.out _ _ HX7.out hE.out (.inr (HSM.out.2 hsm.out))
  have s3 : (o.no == n.no) = false := by simpa using q3
  have HNS : Hid (¬ (is = true ∧ o.no = n.no)) := Lib.hid (fun h => q3 h.2)
  clear q3
  go_upto_region 14 with fail
  clear e4 e5 z3 z4 s3
  obtain ⟨mv, hmv⟩ : ∃ mv, mv = (decide (n.kind = 1) && (decide (¬ fr = to_) && !mayB cu cg n.uid n.gid n.mode 2)) := ⟨_, rfl⟩
  have HMV := Lib.hid hmv
  have e3 : w7.cell? ⟨b15 + 1, 2, none⟩ = some (.int .i64 n.kind) := N7.cell 2
  have z3 := N7.lt
  clear hmv
  go_cut [81] (fun v wc => v = .bool mv ∧ Ext w7 wc)
  case first =>
    by_cases q2 : n.kind = 1
    case neg =>
      have s2 : (n.kind == 1) = false := by simpa using q2
      have hv : Hid (mv = false) := Lib.hid (by rw [HMV.out, decide_eq_false q2]; rfl)
      clear q2
      go_wp2_with fail
      go_meet
      exact ⟨by rw [hv.out], Ext.refl _⟩
    have s2 : (n.kind == 1) = true := by simpa using q2
    have HQ2 := Lib.hid q2
    clear q2
    by_cases q4 : fr = to_
    · have s4 : (fr == to_) = true := by simpa using q4
      have s4b : (fr != to_) = false := by simpa using q4
      have hv : Hid (mv = false) := Lib.hid (by rw [HMV.out, decide_eq_true HQ2.out, decide_eq_false (not_not_intro q4)]; rfl)
      clear q4
      go_wp2_with fail
      go_meet
      exact ⟨by rw [hv.out], Ext.refl _⟩
    have s4 : (fr == to_) = false := by simpa using q4
    have s4b : (fr != to_) = true := by simpa using q4
    obtain ⟨u, hu⟩ : ∃ u, u = mayB cu cg n.uid n.gid n.mode 2 := ⟨_, rfl⟩
    have HU := Lib.hid hu
    have hv : Hid (mv = !u) := Lib.hid (by rw [HMV.out, decide_eq_true HQ2.out, decide_eq_true q4, hu]; rfl)
    have x0 : w7.cell? ⟨w.heap.size, 0, none⟩ = some (.int .i64 cu) := C7.cell 0
    have x1 : w7.cell? ⟨w.heap.size, 1, none⟩ = some (.int .i64 cg) := C7.cell 1
    have xz := C7.lt
    obtain ⟨n0, n1, n2, n3, n4, n5, n6, n7, n8, n9, n10, n11⟩ := N7.node12
    clear q4 hu e3
    go_wp2_with fail
    refine (rnode_any cu cg _ _ _ n.mode n.uid n.gid _ _ _ _ _ _ 2 _).mono ?_
    rw [← HU.out]
    rintro e w8 ⟨rfl, b8⟩
    have B8 := Lib.hid b8
    clear x0 x1 xz n0 n1 n2 n3 n4 n5 n6 n7 n8 n9 n10 n11 b8
    go_wp2_with fail
    go_meet
    exact ⟨by rw [hv.out], B8.out⟩
  case rest =>
  obtain ⟨rfl, B8⟩ := hcut
  obtain ⟨w8, hw8⟩ : ∃ w8, w8 = wc := ⟨_, rfl⟩
  rw [← hw8] at B8 ⊢
  clear e3 z3
  have HX8 := Lib.hid (HX7.out.trans B8)
  have K8 := h.ext HX8.out
  have okd8 := okd7.ext B8
  have okn8 := okn7.ext B8
  have okt8 := okt7.ext B8
  have oko8 := oko7.ext B8
  have D8 := D7.ext B8
  have N8 := N7.ext B8
  have T8 := T7.ext B8
  have O8 := O7.ext B8
  have C8 := C7.ext B8
  clear hw8 okd7 okn7 okt7 oko7 D7 N7 T7 O7 C7 B8
  cases mv
  case true =>
    have hh : Hid (n.kind = 1 ∧ ¬ fr = to_ ∧ mayB cu cg n.uid n.gid n.mode 2 = false) := Lib.hid (by
      have := HMV.out.symm
      rw [Bool.and_eq_true, Bool.and_eq_true, decide_eq_true_eq, decide_eq_true_eq] at this
      exact ⟨this.1, this.2.1, by simpa using this.2.2⟩)
    have hE : Hid (moveE S cu cg fr to_ a b = 6) := by show _ = _; rw [HKS.out]; unfold moveX; rw [if_neg (not_not_intro HX0.out), if_neg (not_not_intro HY0.out), if_neg (not_not_intro Q1.out), if_neg HNW.out, if_neg HNS.out, if_pos hh.out]
    go_wp2_with fail
    go_ret
    exact HS.out _ _ HX8.out hE.out (.inl (by decide))
  have HNM : Hid (¬ (n.kind = 1 ∧ ¬ fr = to_ ∧ mayB cu cg n.uid n.gid n.mode 2 = false)) := Lib.hid (fun hk => by
    have := HMV.out
    rw [decide_eq_true hk.1, decide_eq_true hk.2.1, hk.2.2] at this
    cases this)
  have HEX : Hid (moveE S cu cg fr to_ a b = if is = true then putE S cu t n o else 0) := by
    refine Lib.hid ?_
    rw [HKS.out]; unfold moveX; rw [if_neg (not_not_intro HX0.out), if_neg (not_not_intro HY0.out), if_neg (not_not_intro Q1.out), if_neg HNW.out, if_neg HNS.out, if_neg HNM.out]
  have HMT : Hid (moveE S cu cg fr to_ a b = 0 → moveT S cu cg now fr to_ a b = laidT (overT S now old_) now fr to_ a b d n) := by
    refine Lib.hid fun h0 => ?_
    unfold moveT
    rw [if_pos ⟨h0, fun hs => HNS.out (HSM.out.1 hs)⟩, ← HDD.out, ← HNN.out, ← HOLD.out]
  have e5 : w8.cell? ⟨b19, 0, none⟩ = some (.int .i64 o.no) := O8.cell 0
  have z5 := O8.lt
  go_upto_if 84 with fail
  go_cut [] (fun wc => ∃ g2 T, FAt wc B g2 T X ∧ Only g.list w8 wc ∧ GhF.on g2 g w8 ∧ T = overT S now old_ ∧ moveE S cu cg fr to_ a b = 0)
  case first =>
    cases is
    · have tn : (o.no == 0) = true := HNZ.out
      have tn2 : (o.no != 0) = false := by simp only [bne, tn]; rfl
      have hto : overT S now old_ = S := by unfold overT; rw [← HIS.out, if_neg (by decide)]
      have HTO := Lib.hid hto
      clear hto
      go_wp2_with fail
      go_meet
      exact ⟨g, S, K8, Only.refl _ _, GhF.on_refl _ _, HTO.out.symm, by rw [HEX.out]; rfl⟩
    have tn : (o.no == 0) = false := HNZ.out
    have tn2 : (o.no != 0) = true := by simp only [bne, tn]; rfl
    have hon : o.no = old_ := HNO'.out (by trivial)
    have hol := HO.out.entsN old_
    rw [← HOO.out] at hol
    have hto : overT S now old_ = lessT S now o := by unfold overT; rw [← HIS.out, if_pos rfl, HOO.out]
    have HTO := Lib.hid hto
    have hhe := HO.out.held (no := old_) (by rw [← HIS.out])
    rw [← HOO.out] at hhe
    have HHE := Lib.hid hhe
    have HOL := Lib.hid hol
    have HON := Lib.hid hon
    have hE : Hid (moveE S cu cg fr to_ a b = putE S cu t n o) := by show _ = _; rw [HEX.out, if_pos rfl]
    have KO : Hid (∀ u : Gr w8, Calls Tryz.prog 123 #[.pointer (some ⟨g.bF, 0, none⟩), .int .i64 o.no] u.w (Ret u.w (.int .i64 (overF S.devs o.no)))) := by
      show ∀ u : Gr w8, _
      exact fun u => rover_any B g S X o.no _ (K8.ext u.h) (by have := HO.out.live.eight; omega)
    have y0 := Gr.cell O8.lt e5
    obtain ⟨ov, hov⟩ : ∃ ov, ov = overF S.devs o.no := ⟨_, rfl⟩
    rw [← hov] at KO
    have HOV := Lib.hid hov
    clear hto hhe hol hon hov e5 z5
    go_upto_region 17 with fail
    refine wp_region_grow w8 (by kernel_rfl) (by kernel_rfl) (Ext.refl _).drew ?_
    repeat (quiet_step (((with_reducible refine (KO.out _).mono ?_); rintro e w'' ⟨rfl, hEx⟩; exact ⟨rfl, ⟨w'', Ext.trans (Gr.h _) hEx⟩, rfl⟩)))
    refine wpQuiet_nil ?_
    rintro w9 ⟨⟨wy, b9⟩, h9⟩
    dsimp only at h9
    subst h9
    clear y0 KO
    have X9 := HX8.out.trans b9
    have N9 := N8.ext b9
    have T9 := T8.ext b9
    have O9 := O8.ext b9
    have C9 := C8.ext b9
    have oko9 := oko8.ext b9
    have K9 := K8.ext b9
    by_cases p1 : ov = o.no
    case neg =>
      have r1 : (ov == o.no) = false := by simpa using p1
      have r1b : (ov != o.no) = true := by simpa using p1
      have hE2 : Hid (moveE S cu cg fr to_ a b = 16) := by show _ = _; rw [hE.out]; unfold putE; rw [if_pos (by rw [← HOV.out]; exact p1)]
      clear p1
      go_wp2_with fail
      go_ret
      exact HS.out _ _ X9 hE2.out (.inl (by decide))
    have r1 : (ov == o.no) = true := by simpa using p1
    have r1b : (ov != o.no) = false := by simpa using p1
    have HP1 : Hid (¬ ¬ overF S.devs o.no = o.no) := Lib.hid (not_not_intro (by rw [← HOV.out]; exact p1))
    have v2 : w9.cell? ⟨b15 + 1, 2, none⟩ = some (.int .i64 n.kind) := N9.cell 2
    have v3 : w9.cell? ⟨b19, 2, none⟩ = some (.int .i64 o.kind) := O9.cell 2
    obtain ⟨lo, hlo⟩ : ∃ lo, lo = o.ents.length := ⟨_, rfl⟩
    have v11 : w9.cell? ⟨b19, 11, none⟩ = some (.slice A6 lo c6) := by rw [hlo]; exact O9.cell 11
    have HLO := Lib.hid hlo
    have vz := N9.lt
    have vz2 := O9.lt
    clear p1 hlo
    by_cases p2 : n.kind = 1
    · have r2 : (n.kind == 1) = true := by simpa using p2
      have r2b : (n.kind != 1) = false := by simpa using p2
      by_cases p3 : o.kind = 1
      · have r3 : (o.kind == 1) = true := by simpa using p3
        have r3b : (o.kind != 1) = false := by simpa using p3
        have HP2 : Hid (¬ (n.kind = 1 ∧ ¬ o.kind = 1) ∧ ¬ (¬ n.kind = 1 ∧ o.kind = 1)) := Lib.hid ⟨fun h => h.2 p3, fun h => h.1 p2⟩
        clear p2 p3
        by_cases p4 : 0 < lo
        · have r4 : decide ((0 : Int) < (lo : Int)) = true := decide_eq_true (by omega)
          have hE2 : Hid (moveE S cu cg fr to_ a b = 10) := by show _ = _; rw [hE.out]; unfold putE; rw [if_neg HP1.out, if_neg HP2.out.1, if_neg HP2.out.2, if_pos (by rw [← HLO.out]; omega)]
          go_wp2_with fail
          go_ret
          exact HS.out _ _ X9 hE2.out (.inl (by decide))
        have r4 : decide ((0 : Int) < (lo : Int)) = false := decide_eq_false (by omega)
        have r4c : lo ≤ 0 := by omega
        have HP4 : Hid (¬ 0 < (o.ents.length : Int)) := Lib.hid (by rw [← HLO.out]; omega)
        obtain ⟨u, hu⟩ : ∃ u, u = freeB cu t.mode t.uid o.uid := ⟨_, rfl⟩
        have HU := Lib.hid hu
        have hE3 : Hid (moveE S cu cg fr to_ a b = if u = false then 4 else 0) := by show _ = _; rw [hE.out]; unfold putE; rw [if_neg HP1.out, if_neg HP2.out.1, if_neg HP2.out.2, if_neg HP4.out, hu]
        have x0 : w9.cell? ⟨w.heap.size, 0, none⟩ = some (.int .i64 cu) := C9.cell 0
        have x1 : w9.cell? ⟨w.heap.size, 1, none⟩ = some (.int .i64 cg) := C9.cell 1
        have xz := C9.lt
        clear p4 hu
        go_wp2_with (first | (refine wpList_load_node rfl _ rfl b18 t A4 c4 rfl T9 ?_) | (refine wpList_load_node rfl _ rfl b19 o A6 c6 rfl O9 ?_))
        refine (rfree_any cu cg _ _ _ t.mode t.uid _ _ _ _ _ _ _ _ _ _ _ o.uid _ _ _ _ _ _ _ _).mono ?_
        rw [← HU.out]
        rintro e w10 ⟨rfl, b10⟩
        have O10 := O9.ext b10
        have oko10 := oko9.ext b10
        have K10 := K9.ext b10
        have X10 := X9.trans b10
        have E810 := b9.trans b10
        clear x0 x1 xz v2 v3 v11 vz vz2
        cases u
        · have hE2 : Hid (moveE S cu cg fr to_ a b = 4) := Lib.hid (by rw [hE3.out]; rfl)
          go_wp2_with fail
          go_ret
          exact HS.out _ _ X10 hE2.out (.inl (by decide))
        have hE2 : Hid (moveE S cu cg fr to_ a b = 0) := Lib.hid (by rw [hE3.out]; rfl)
        go_wp2_with (refine wpList_load_node rfl _ rfl b19 o A6 c6 rfl O10 ?_)
        refine (rless_any B g S X o A6 c6 _ K10 HO.out.live hl1 oko10 HHE.out).mono ?_
        rintro e w11 ⟨rfl, g2, K11, O11, hon⟩
        have HON2 := Lib.hid hon
        clear hon
        go_wp2_with fail
        go_meet
        exact ⟨g2, _, K11, Only.pre E810 O11, GhF.on_base HON2.out E810, by rw [HTO.out, HNOW.out], hE2.out⟩
      · have r3 : (o.kind == 1) = false := by simpa using p3
        have r3b : (o.kind != 1) = true := by simpa using p3
        have hE2 : Hid (moveE S cu cg fr to_ a b = 9) := by show _ = _; rw [hE.out]; unfold putE; rw [if_neg HP1.out, if_pos ⟨p2, p3⟩]
        clear p2 p3
        go_wp2_with fail
        go_ret
        exact HS.out _ _ X9 hE2.out (.inl (by decide))
    · have r2 : (n.kind == 1) = false := by simpa using p2
      have r2b : (n.kind != 1) = true := by simpa using p2
      by_cases p3 : o.kind = 1
      · have r3 : (o.kind == 1) = true := by simpa using p3
        have r3b : (o.kind != 1) = false := by simpa using p3
        have hE2 : Hid (moveE S cu cg fr to_ a b = 8) := by show _ = _; rw [hE.out]; unfold putE; rw [if_neg HP1.out, if_neg (fun h => p2 h.1), if_pos ⟨p2, p3⟩]
        clear p2 p3
        go_wp2_with fail
        go_ret
        exact HS.out _ _ X9 hE2.out (.inl (by decide))
      · have r3 : (o.kind == 1) = false := by simpa using p3
        have r3b : (o.kind != 1) = true := by simpa using p3
        have HP2 : Hid (¬ (n.kind = 1 ∧ ¬ o.kind = 1) ∧ ¬ (¬ n.kind = 1 ∧ o.kind = 1)) := Lib.hid ⟨fun h => p2 h.1, fun h => p3 h.2⟩
        clear p2 p3
        by_cases p4 : 0 < lo
        · have r4 : decide ((0 : Int) < (lo : Int)) = true := decide_eq_true (by omega)
          have hE2 : Hid (moveE S cu cg fr to_ a b = 10) := by show _ = _; rw [hE.out]; unfold putE; rw [if_neg HP1.out, if_neg HP2.out.1, if_neg HP2.out.2, if_pos (by rw [← HLO.out]; omega)]
          go_wp2_with fail
          go_ret
          exact HS.out _ _ X9 hE2.out (.inl (by decide))
        have r4 : decide ((0 : Int) < (lo : Int)) = false := decide_eq_false (by omega)
        have r4c : lo ≤ 0 := by omega
        have HP4 : Hid (¬ 0 < (o.ents.length : Int)) := Lib.hid (by rw [← HLO.out]; omega)
        obtain ⟨u, hu⟩ : ∃ u, u = freeB cu t.mode t.uid o.uid := ⟨_, rfl⟩
        have HU := Lib.hid hu
        have hE3 : Hid (moveE S cu cg fr to_ a b = if u = false then 4 else 0) := by show _ = _; rw [hE.out]; unfold putE; rw [if_neg HP1.out, if_neg HP2.out.1, if_neg HP2.out.2, if_neg HP4.out, hu]
        have x0 : w9.cell? ⟨w.heap.size, 0, none⟩ = some (.int .i64 cu) := C9.cell 0
        have x1 : w9.cell? ⟨w.heap.size, 1, none⟩ = some (.int .i64 cg) := C9.cell 1
        have xz := C9.lt
        clear p4 hu
        go_wp2_with (first | (refine wpList_load_node rfl _ rfl b18 t A4 c4 rfl T9 ?_) | (refine wpList_load_node rfl _ rfl b19 o A6 c6 rfl O9 ?_))
        refine (rfree_any cu cg _ _ _ t.mode t.uid _ _ _ _ _ _ _ _ _ _ _ o.uid _ _ _ _ _ _ _ _).mono ?_
        rw [← HU.out]
        rintro e w10 ⟨rfl, b10⟩
        have O10 := O9.ext b10
        have oko10 := oko9.ext b10
        have K10 := K9.ext b10
        have X10 := X9.trans b10
        have E810 := b9.trans b10
        clear x0 x1 xz v2 v3 v11 vz vz2
        cases u
        · have hE2 : Hid (moveE S cu cg fr to_ a b = 4) := Lib.hid (by rw [hE3.out]; rfl)
          go_wp2_with fail
          go_ret
          exact HS.out _ _ X10 hE2.out (.inl (by decide))
        have hE2 : Hid (moveE S cu cg fr to_ a b = 0) := Lib.hid (by rw [hE3.out]; rfl)
        go_wp2_with (refine wpList_load_node rfl _ rfl b19 o A6 c6 rfl O10 ?_)
        refine (rless_any B g S X o A6 c6 _ K10 HO.out.live hl1 oko10 HHE.out).mono ?_
        rintro e w11 ⟨rfl, g2, K11, O11, hon⟩
        have HON2 := Lib.hid hon
        clear hon
        go_wp2_with fail
        go_meet
        exact ⟨g2, _, K11, Only.pre E810 O11, GhF.on_base HON2.out E810, by rw [HTO.out, HNOW.out], hE2.out⟩
  case rest =>
  obtain ⟨g2, T, K9, O9', hon9, hT, hE0⟩ := hcut
  obtain ⟨w9, hw9⟩ : ∃ w9, w9 = wc := ⟨_, rfl⟩
  rw [← hw9] at K9 O9' ⊢
  have hng : ∀ b, w.heap.size ≤ b → b ∉ g.list := by
    intro b hb hm
    have hlw := h.lt
    simp only [GhF.list, List.mem_cons, List.not_mem_nil, or_false] at hm
    omega
  have N9 := O9'.has N8 (hng _ (by omega))
  have okn9 := okn8.only O9' K8.apart
  have hz8 : b15 + 1 < w8.heap.size := N8.lt
  have hng2 : ∀ b, w.heap.size ≤ b → b < w8.heap.size → b ∉ g2.list := by
    intro b hb hb2 hm
    rcases hon9.2 b hm with k | k
    · exact hng b hb k
    · omega
  have HNG2 := Lib.hid hng2
  have Ow9 : Only g.list w w9 := Only.pre HX8.out O9'
  have hbF : g2.bF = g.bF := hon9.1
  have hTu : NosUp T.nodes T.last := by rw [hT]; exact over_nos HTT0.out now old_
  have hTc : T.nodes.length ≤ 1000 := by rw [hT]; have := (over_len HTT0.out now old_).2; have := HCL.out; omega
  have HT := Lib.hid hT
  have HE0 := Lib.hid hE0
  have HTU := Lib.hid hTu
  have HTC := Lib.hid hTc
  have HON9 := Lib.hid hon9
  -- what the directory holds is what it held
  obtain ⟨zz1, zz2, zz3, zz4, zz5⟩ := id HLZ.out
  rw [← HDD.out] at zz4
  have hgf : (getN T.nodes fr).ents = d.ents := by
    rw [hT, zz4]
    by_cases hio : isN S.nodes old_ = true
    · have hne : fr ≠ old_ := by
        intro e
        have hex := HEX.out
        rw [hE0, if_pos (by rw [HIS.out]; exact hio)] at hex
        have hoe := (putE_zero hex.symm).2.2.2
        rw [HOO.out, ← e] at hoe
        rw [hoe] at zz2
        have : isN S.nodes 0 = true := zz2
        rw [HO.out.live.nos.zero (no := 0) (.inl (by decide))] at this
        cases this
      rw [(over_get HTT0.out now hne).1]
    · unfold overT
      rw [if_neg hio]
  have HGF := Lib.hid hgf
  have hden := HO.out.entsN fr
  rw [← zz4] at hden
  have HDEN := Lib.hid hden
  obtain ⟨A1', k1', okf, Cf⟩ := rget_fix B g2 T X fr w9 K9 (by omega) hTu
  rw [hbF] at Cf
  obtain ⟨f0, hf0⟩ : ∃ f0, f0 = getN T.nodes fr := ⟨_, rfl⟩
  rw [← hf0] at okf Cf
  have hfe : f0.ents = d.ents := by rw [hf0]; exact hgf
  have HFE := Lib.hid hfe
  have HCF := Lib.hid Cf
  have hfd1 : ∀ w', (Instr.field 87 (.agg #[.int .i64 f0.no, .int .i64 f0.dev, .int .i64 f0.kind, .int .i64 f0.mode, .int .i64 f0.uid, .int .i64 f0.gid, .int .i64 f0.mtime, .int .i64 f0.ctime, .int .i64 f0.links, .int .i64 f0.up, .string (bs f0.data), .slice A1' f0.ents.length k1']) 11).run Tryz.prog w' = .ok (.slice A1' f0.ents.length k1') w' := fun w' => (field_node _ _ _ _ _ _ _ _ _ _ _ _ w').1
  clear hw9 hng hng2 hT hE0 hTu hTc hon9 zz1 zz2 zz3 zz4 zz5 hgf hden hf0 hfe Cf e5 z5 K8 okd8 okn8 okt8 oko8 D8 N8 T8 O8 C8 O9'
  go_wp2_with fail
  refine (HCF.out w9 (Ext.refl _)).mono ?_
  rintro e w10 ⟨rfl, b10⟩
  go_wp2_with fail
  refine (rdrop_any A1' f0.ents k1' a _ (okf.ext b10).ents.ents (by rw [HFE.out]; have := HDEN.out.2; omega)).mono ?_
  rintro e w11 ⟨v11, rfl, hown, b11⟩
  obtain ⟨A9, c9, rfl, q1, q2, q3, q4⟩ := hown.entsT (B := B)
  obtain ⟨L9, hL9⟩ : ∃ L, L = dropF f0.ents a := ⟨_, rfl⟩
  rw [← hL9] at q1 q3 ⊢
  have HL9 : Hid (L9 = dropF d.ents a) := Lib.hid (by rw [hL9, HFE.out])
  have E911 := b10.trans b11
  obtain ⟨T1, hT1⟩ : ∃ T1, T1 = touchT T fr now L9 := ⟨_, rfl⟩
  have HT1 := Lib.hid hT1
  have KT : Hid (Calls Tryz.prog 114 #[.pointer (some ⟨g.bF, 0, none⟩), .int .i64 fr, .slice A9 L9.length c9] w11 (TouchF w11 B g2 T1 X)) := by
    show Calls _ _ _ _ _
    rw [hT1, HNOW.out, ← hbF]
    exact rtouch_any B g2 T X fr A9 L9 c9 w11 (K9.ext E911) (by have := HTC.out; omega) HTU.out q3 q1 q2 q4
  have HU1 : Hid (NosUp T1.nodes T1.last) := by show NosUp _ _; rw [hT1]; exact HTU.out.set _
  have HC1 : Hid (T1.nodes.length ≤ 1000) := by show _ ≤ _; rw [hT1]; show (setN _ _).length ≤ _; rw [setN_len]; exact HTC.out
  have N11 := N9.ext E911
  have okn11 := okn9.ext E911
  have K11 := K9.ext E911
  have Ow11 := Ow9.ext E911
  have hfb := Lib.hid hbF
  clear hown q1 q2 q3 q4 hL9 hT1 hfd1 okf hbF b10 b11
  go_wp2_with fail
  refine KT.out.mono ?_
  rintro e w12 ⟨rfl, K12, O12⟩
  have N12 := O12.has N11 (HNG2.out _ (by omega) hz8)
  have okn12 := okn11.only O12 K11.apart
  have Ow12 : Only g.list w w12 := Ow11.trans O12 (fun b hb => by
    rcases HON9.out.2 b hb with k | k
    · exact .inl k
    · exact .inr (by have := HX8.out.size; omega))
  obtain ⟨A2', k2', okt2, Ct⟩ := rget_fix B g2 T1 X to_ w12 K12 (by have := HC1.out; omega) HU1.out
  rw [hfb.out] at Ct
  obtain ⟨t1', ht1⟩ : ∃ t1, t1 = getN T1.nodes to_ := ⟨_, rfl⟩
  rw [← ht1] at okt2 Ct
  have hrise : t1'.ents.length ≤ 100000 := by
    have hS : ∀ m ∈ S.nodes, m.ents.length ≤ 100000 := fun m hm => (HO.out.ents m hm).2
    have hTA : ∀ m ∈ T.nodes, m.ents.length ≤ 100000 := by
      rw [HT.out]
      exact all_over hS now old_ fun m hm => hm
    have hT1A : ∀ m ∈ T1.nodes, m.ents.length ≤ 100000 := fun m hm => by
      rw [HT1.out] at hm
      rcases mem_setN hm with hm | rfl
      · exact hTA m hm
      · show L9.length ≤ 100000
        rw [HL9.out]
        exact Nat.le_trans (dropF_len _ _) HDEN.out.2
    rw [ht1]
    cases hi : isN T1.nodes to_
    · rw [(isN_false hi).1]; exact Nat.zero_le _
    · exact hT1A _ (isN_true hi).2.2
  have HRS := Lib.hid hrise
  have HT1' := Lib.hid ht1
  have HCT := Lib.hid Ct
  obtain ⟨L13, hL13⟩ : ∃ L, L = putF t1'.ents (b, n.no) := ⟨_, rfl⟩
  have HL13 := Lib.hid hL13
  obtain ⟨T2, hT2⟩ : ∃ T2, T2 = touchT T1 to_ now L13 := ⟨_, rfl⟩
  have HT2 := Lib.hid hT2
  have hfd2 : ∀ w', (Instr.field 87 (.agg #[.int .i64 (t1').no, .int .i64 (t1').dev, .int .i64 (t1').kind, .int .i64 (t1').mode, .int .i64 (t1').uid, .int .i64 (t1').gid, .int .i64 (t1').mtime, .int .i64 (t1').ctime, .int .i64 (t1').links, .int .i64 (t1').up, .string (bs (t1').data), .slice A2' (t1').ents.length k2']) 11).run Tryz.prog w' = .ok (.slice A2' t1'.ents.length k2') w' := fun w' => (field_node _ _ _ _ _ _ _ _ _ _ _ _ w').1
  have HPUT : Hid (∀ u, Ext w12 u → Calls Tryz.prog 115 #[.slice A2' t1'.ents.length k2', .string (bs b), .int .i64 n.no] u (fun e w' => ∃ A cc, e = .returned (.slice A L13.length cc) ∧ (EntsT w' B A L13 ∧ L13.length ≤ cc ∧ cc ≤ maxLen ∧ (A = none → cc = 0)) ∧ Ext u w')) := by
    show ∀ u, _
    intro u hu
    refine (rput_any A2' t1'.ents k2' (b, n.no) u (okt2.ext hu).ents.ents (by have := HRS.out; omega)).mono ?_
    rintro e w' ⟨v, rfl, hown, hx⟩
    obtain ⟨A, cc, rfl, q1, q2, q3, q4⟩ := hown.entsT (B := B)
    rw [← hL13] at q1 q3
    exact ⟨A, cc, by rw [hL13], ⟨q3, q1, q2, q4⟩, hx⟩
  have HTCH : Hid (∀ (A : Option Addr) (cc : Nat) u, Ext w12 u → (EntsT u B A L13 ∧ L13.length ≤ cc ∧ cc ≤ maxLen ∧ (A = none → cc = 0)) → Calls Tryz.prog 114 #[.pointer (some ⟨g.bF, 0, none⟩), .int .i64 to_, .slice A L13.length cc] u (TouchF u B g2 T2 X)) := by
    show ∀ (A : Option Addr) (cc : Nat) u, _
    rintro A cc u hu ⟨q3, q1, q2, q4⟩
    rw [hT2, HNOW.out, ← hfb.out]
    exact rtouch_any B g2 T1 X to_ A L13 cc u (K12.ext hu) (by have := HC1.out; omega) HU1.out q3 q1 q2 q4
  have HU2 : Hid (NosUp T2.nodes T2.last) := by show NosUp _ _; rw [hT2]; exact HU1.out.set _
  have HC2 : Hid (T2.nodes.length ≤ 1000) := by show _ ≤ _; rw [hT2]; show (setN _ _).length ≤ _; rw [setN_len]; exact HC1.out
  have HK12 := Lib.hid K12
  have y0 : w12.cell? ⟨b15 + 1, 0, none⟩ = some (.int .i64 n.no) := N12.cell 0
  have yz := N12.lt
  clear KT O12 N11 okn11 N9 okn9 Ow9 Ow11 K11 K9 hrise ht1 Ct hL13 hT2 okt2 K12
  go_upto_region 29 with fail
  go_cut [] (fun wc => FAt wc B g2 T2 X ∧ Only g2.list w12 wc)
  case first =>
    have hED : Ext w12 w12.drew := (Ext.refl _).drew
    have HED := Lib.hid hED
    have v0 : w12.drew.cell? ⟨b15 + 1, 0, none⟩ = some (.int .i64 n.no) := (hED.cell yz).trans y0
    have HV0 := Lib.hid v0
    clear hED
    go_region_with (first
      | (go_at_call 39; refine (HCT.out _ HED.out).mono ?_; rintro e wg ⟨rfl, bg⟩; have cg : wg.cell? ⟨b15 + 1, 0, none⟩ = some (.int .i64 n.no) := (bg.cell (show b15 + 1 < w12.drew.heap.size from yz)).trans HV0.out; have hzg : b15 + 1 < wg.heap.size := Nat.lt_of_lt_of_le (show b15 + 1 < w12.drew.heap.size from yz) bg.size)
      | (go_at_call 115; refine (HPUT.out _ (HED.out.trans bg)).mono ?_; rintro e wp ⟨Ap, cp, rfl, hp, bp⟩)
      | (go_at_call 114; refine (HTCH.out _ _ _ ((HED.out.trans bg).trans bp) hp).mono ?_; rintro e wt ⟨rfl, Kt, Ot⟩))
    all_goals
      go_wp2_with fail
      go_meet
      exact ⟨Kt, Only.pre ((HED.out.trans bg).trans bp) Ot⟩
  case rest =>
  obtain ⟨K14, O14⟩ := hcut
  obtain ⟨w14, hw14⟩ : ∃ w14, w14 = wc := ⟨_, rfl⟩
  rw [← hw14] at K14 O14 ⊢
  have N14 := O14.has N12 (HNG2.out _ (by omega) hz8)
  have okn14 := okn12.only O14 HK12.out.apart
  have Ow14 : Only g.list w w14 := Ow12.trans O14 (fun b hb => by
    rcases HON9.out.2 b hb with k | k
    · exact .inl k
    · exact .inr (by have := HX8.out.size; omega))
  have hbl : g2.bF < b15 + 1 := by rw [hfb.out]; have := h.lt.1; omega
  have nbf : (b15 + 1 = g.bF) = False := eq_false (by have := hfb.out; omega)
  have nbf2 : (g.bF = b15 + 1) = False := eq_false (by have := hfb.out; omega)
  have y7 : w14.cell? ⟨b15 + 1, 7, none⟩ = some (.int .i64 n.ctime) := N14.cell 7
  have yf : ∀ i, w14.frozen? ⟨b15 + 1, i, none⟩ = false := fun i => (N14.free i).trans (by simp)
  have nw : w14.cell? ⟨g.bF, 3, none⟩ = some (.int .i64 now) := by rw [HNOW.out, ← hfb.out]; obtain ⟨_, _, _, k, _⟩ := id K14; exact k.cell 3
  have nz : g.bF < w14.heap.size := by have := K14.lt.1; have := hfb.out; omega
  have yz' := N14.lt
  clear hw14 y0 yz hfd2 N12 okn12 Ow12
  go_upto_region 31 with fail
  obtain ⟨w15, hw15⟩ : ∃ w15, w15 = w14.setCell ⟨b15 + 1, 7, none⟩ (.int .i64 now) := ⟨_, rfl⟩
  rw [← hw15]
  have N15 : Has w15 (b15 + 1) (.cells #[.int .i64 (({ n with ctime := now } : NodeD)).no, .int .i64 (({ n with ctime := now } : NodeD)).dev, .int .i64 (({ n with ctime := now } : NodeD)).kind, .int .i64 (({ n with ctime := now } : NodeD)).mode, .int .i64 (({ n with ctime := now } : NodeD)).uid, .int .i64 (({ n with ctime := now } : NodeD)).gid, .int .i64 (({ n with ctime := now } : NodeD)).mtime, .int .i64 (({ n with ctime := now } : NodeD)).ctime, .int .i64 (({ n with ctime := now } : NodeD)).links, .int .i64 (({ n with ctime := now } : NodeD)).up, .string (bs (({ n with ctime := now } : NodeD)).data), .slice A2 (({ n with ctime := now } : NodeD)).ents.length c2] 87) := by rw [hw15]; exact N14.setCell 7 _
  have O15 : Only [b15 + 1] w14 w15 := by rw [hw15]; exact Only.setCell _ _ _ _
  have HN14 := Lib.hid N14
  have y2 : w15.cell? ⟨b15 + 1, 2, none⟩ = some (.int .i64 n.kind) := N15.cell 2
  have y9 : w15.cell? ⟨b15 + 1, 9, none⟩ = some (.int .i64 n.up) := N15.cell 9
  have yf' : ∀ i, w15.frozen? ⟨b15 + 1, i, none⟩ = false := fun i => (N15.free i).trans (by simp)
  have yz := N15.lt
  clear hw15 y7 yf yz' nw nz N14 nbf nbf2
  go_upto_if 147 with fail
  go_cut [148] (fun _ wc => Has wc (b15 + 1) (.cells #[.int .i64 (laidN now to_ n).no, .int .i64 (laidN now to_ n).dev, .int .i64 (laidN now to_ n).kind, .int .i64 (laidN now to_ n).mode, .int .i64 (laidN now to_ n).uid, .int .i64 (laidN now to_ n).gid, .int .i64 (laidN now to_ n).mtime, .int .i64 (laidN now to_ n).ctime, .int .i64 (laidN now to_ n).links, .int .i64 (laidN now to_ n).up, .string (bs (laidN now to_ n).data), .slice A2 (laidN now to_ n).ents.length c2] 87) ∧ Only [b15 + 1] w14 wc)
  case first =>
    by_cases hk : n.kind = 1
    · have s1 : (n.kind == 1) = true := by simpa using hk
      have hl : Hid (laidN now to_ n = { n with ctime := now, up := to_ }) := by show _ = _; unfold laidN; rw [if_pos hk]
      clear hk
      go_wp2_with fail
      go_meet
      exact ⟨by rw [hl.out]; exact N15.setCell 9 _, O15.then (Only.setCell _ _ _ _)⟩
    · have s1 : (n.kind == 1) = false := by simpa using hk
      have hl : Hid (laidN now to_ n = { n with ctime := now }) := by show _ = _; unfold laidN; rw [if_neg hk]
      clear hk
      go_wp2_with fail
      go_meet
      exact ⟨by rw [hl.out]; exact N15, O15⟩
  case rest =>
  obtain ⟨N16, O16⟩ := hcut
  obtain ⟨w16, hw16⟩ : ∃ w16, w16 = wc := ⟨_, rfl⟩
  rw [← hw16] at N16 O16 ⊢
  obtain ⟨n', hn'⟩ : ∃ n', n' = laidN now to_ n := ⟨_, rfl⟩
  rw [← hn'] at N16
  have hap : Apart w14 B [b15 + 1] := by
    intro b hb
    rw [List.mem_singleton] at hb
    subst hb
    exact ⟨by have := h.1; have := h.lt.1; omega, HN14.out.noTag (by decide)⟩
  have hnl : ∀ b ∈ g2.list, b ∉ [b15 + 1] := by
    intro b hb he
    rw [List.mem_singleton] at he
    subst he
    exact HNG2.out _ (by omega) hz8 hb
  have K16 := K14.only O16 hap hnl
  have okn16 : NodeOk w16 B n' A2 c2 := (okn14.only O16 hap).same (by rw [hn']; rfl)
  have Ow16 : Only g.list w w16 := Ow14.trans O16 (by intro b hb; rw [List.mem_singleton] at hb; right; omega)
  have HN' := Lib.hid hn'
  clear hw16 y2 y9 yf' yz hn' N15 O15 HN14 hap hnl K14 okn14 Ow14
  go_wp2_with (refine wpList_load_node rfl _ rfl (b15 + 1) n' A2 c2 rfl N16 ?_)
  refine (show Calls _ _ _ _ (FSetR w16 B g2 T2 X n') by rw [← hfb.out]; exact rset_any B g2 T2 X n' A2 c2 w16 K16 (by have := HC2.out; omega) HU2.out okn16).mono ?_
  rintro e w17 ⟨rfl, K17, O17⟩
  go_wp2_with fail
  go_ret
  have e3 : moveT S cu cg now fr to_ a b = setT T2 n' := by
    rw [HMT.out HE0.out]
    unfold laidT
    rw [HN'.out, HT2.out, HL13.out, HT1'.out, HT1.out, HL9.out, HT.out]
  refine ⟨by rw [HE0.out]; rfl, g2, by rw [e3]; exact K17, Ow16.trans O17 (fun b hb => ?_), ?_⟩
  · rcases HON9.out.2 b hb with k | k
    · exact .inl k
    · exact .inr (by have := HX8.out.size; omega)
  · exact GhF.on_base HON9.out HX8.out
end Go.Proofs.YtjblimclakfhfaaGreat
