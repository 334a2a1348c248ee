/- A drawn region that makes a node's box and fills it late. | The law BringThere, walked. (Printed by gen_brgg.py.) -/
import Derived.Test.YtebghednhjaniaaBunE
import Derived.Test.YtebghednhjaniaaBunI
import Derived.Test.YtebghednhjaniaaBunF
import Derived.Test.YtebghednhjaniaaBunD
import Derived.Test.YtebghednhjaniaaBunG
import Derived.Deep.CutBlock
namespace Go.Proofs.Ytebghednhjaniaa
open Go

theorem wp_region_nbox {id : Nat} {Q : Exit → Act → World → Prop} {a : Act} {w : World} {l : List Oper} (V : World) (m s : Nat) (d t : Tmp) (n : NodeD) (A : Option Addr) (c : Nat) (om os : Oper)
    (hB : Region.lexB .any l.toArray = true) (hc : boxB l m s d t = true) (hom : l[m]? = some om) (hos : l[s]? = some os) (ho1 : om.op = .alloc 100) (ho2 : os.op = .store 100 (.tmp d) (.tmp t)) (htd : d < a.tmps.size)
    (hV : Ext V w.drew) :
    wpQuietR Try.prog l.toArray V (fun a1 => wpQuietR Try.prog l.toArray V (fun a2 => a2.eval (.tmp t) = .agg #[.int .i64 n.no, .int .i64 n.dev, .int .i64 n.kind, .int .i64 n.mode, .int .i64 n.uid, .int .i64 n.gid, .int .i64 n.mtime, .int .i64 n.ctime, .int .i64 n.links, .int .i64 n.up, .string (bs n.data), .slice A n.ents.length c] ∧ wpQuietR Try.prog l.toArray V (fun a3 => ∀ w' bx, Ext V w' → V.heap.size ≤ bx → Has w' bx (.cells #[.int .i64 n.no, .int .i64 n.dev, .int .i64 n.kind, .int .i64 n.mode, .int .i64 n.uid, .int .i64 n.gid, .int .i64 n.mtime, .int .i64 n.ctime, .int .i64 n.links, .int .i64 n.up, .string (bs n.data), .slice A n.ents.length c] 100) → Q .normal (a3.put (some d) (.pointer (some ⟨bx, 0, none⟩))) w') (l.drop (s + 1)) a2) ((l.take s).drop (m + 1)) a1) (l.take m) a →
    (Code.region id l.toArray true).wp Try.prog Q a w := by
  refine wp_region_box V m s d t (.agg #[.int .i64 n.no, .int .i64 n.dev, .int .i64 n.kind, .int .i64 n.mode, .int .i64 n.uid, .int .i64 n.gid, .int .i64 n.mtime, .int .i64 n.ctime, .int .i64 n.links, .int .i64 n.up, .string (bs n.data), .slice A n.ents.length c]) (.cells #[.int .i64 0, .int .i64 0, .int .i64 0, .int .i64 0, .int .i64 0, .int .i64 0, .int .i64 0, .int .i64 0, .int .i64 0, .int .i64 0, .string ⟨#[]⟩, .slice none 0 0] 100) _ om os (by kernel_rfl) hB hc hom hos ?_ ?_ hV htd
  · intro a w
    simp [execOp, ho1, go_sem]
  · intro a w bx hsz hb he
    have hd : (a.put (some d) (.pointer (some ⟨bx, 0, none⟩))).eval (.tmp d) = .pointer (some ⟨bx, 0, none⟩) := by
      simp [Act.put, Act.eval, hsz]
    have hb' : Has w bx (.cells #[.int .i64 nodeZ.no, .int .i64 nodeZ.dev, .int .i64 nodeZ.kind, .int .i64 nodeZ.mode, .int .i64 nodeZ.uid, .int .i64 nodeZ.gid, .int .i64 nodeZ.mtime, .int .i64 nodeZ.ctime, .int .i64 nodeZ.links, .int .i64 nodeZ.up, .string (bs nodeZ.data), .slice none nodeZ.ents.length 0] 100) := hb
    refine ⟨_, ?_, hb'.setNode n A c, only_setCells (nodeL n A c) 0 w⟩
    simp only [execOp, ho2, hd, he, run_storeAt_mid w bx 0 100 #[.int .i64 n.no, .int .i64 n.dev, .int .i64 n.kind, .int .i64 n.mode, .int .i64 n.uid, .int .i64 n.gid, .int .i64 n.mtime, .int .i64 n.ctime, .int .i64 n.links, .int .i64 n.up, .string (bs n.data), .slice A n.ents.length c] hb'.there infoNode12 (node_all n A c), Sem.run_bind, Sem.run_pure, Result.andThen_ok]
    rfl
end Go.Proofs.Ytebghednhjaniaa

namespace Go.Proofs.Ytebghednhjaniaa
open Go.ChangeShapes Go.WideShapes Go.ChangeAt Go.RowKit

attribute [local irreducible] wpQuiet
theorem findF_put (l : List EntD) (nm : List UInt8) (no : Int) : findF (putF l (nm, no)) nm = no := by
  unfold findF putF lessF moreF
  have h1 : (l.filter fun x => bl x.1 nm).find? (fun x => x.1 == nm) = none := by
    rw [List.find?_eq_none]
    intro x hx
    rw [List.mem_filter] at hx
    have := bl_ne hx.2
    simpa using this
  simp only [List.find?_append, h1, Option.none_or, List.find?_cons, beq_self_eq_true, Option.some_or]
theorem put_length (l : List EntD) (nm : List UInt8) (no : Int) (h : ∀ x ∈ l, x.1 ≠ nm) : (putF l (nm, no)).length = l.length + 1 := by
  have hs : ∀ l : List EntD, (∀ x ∈ l, x.1 ≠ nm) → (l.filter fun x => bl x.1 nm).length + (l.filter fun x => bl nm x.1).length = l.length := by
    intro l
    induction l with
    | nil => intro _; rfl
    | cons x l ih =>
      intro h
      have := ih fun y hy => h y (List.mem_cons_of_mem _ hy)
      simp only [List.filter_cons, List.length_cons]
      have hx := h x (List.mem_cons_self ..)
      rcases bl_tri x.1 nm with g | g | g
      · have g2 := bl_asymm g
        rw [if_pos g, if_neg (by rw [g2]; decide)]
        simp only [List.length_cons]; omega
      · exact absurd g hx
      · have g2 := bl_asymm g
        rw [if_pos g, if_neg (by rw [g2]; decide)]
        simp only [List.length_cons]; omega
  have := hs l h
  unfold putF lessF moreF
  simp only [List.length_append, List.length_singleton]
  omega
/-- What a node that came has left. -/
structure Came (S T : TreeD) (uid gid now dir : Int) (nm : List UInt8) : Prop where
  len : T.nodes.length = S.nodes.length + 1
  node : (getN T.nodes (S.last + 1)).uid = uid ∧ (getN T.nodes (S.last + 1)).gid = gid ∧ (getN T.nodes (S.last + 1)).dev = (getN S.nodes dir).dev ∧ (getN T.nodes (S.last + 1)).links = 1 ∧ (getN T.nodes (S.last + 1)).mtime = now
  find : findF (getN T.nodes dir).ents nm = S.last + 1
  ents : (getN T.nodes dir).ents.length = (getN S.nodes dir).ents.length + 1
  mtime : (getN T.nodes dir).mtime = now
theorem set_self {S : TreeD} (hu : NosUp S.nodes S.last) {n : NodeD} (hi : isN S.nodes n.no = true) : getN (setT S n).nodes n.no = n := by
  have hm := set_has (n := n) (isN_true hi).2.2
  rw [if_pos (isN_true hi).2.1] at hm
  exact (mem_getN (S := setT S n) (hu.set n) hm).1
theorem came {c : Nat} {S : TreeD} (h : Tre c S) {cu cg now dir : Int} {nm : List UInt8} {n : NodeD} (h0 : comeE S cu cg now dir nm n = 0) : Came S (comeT S cu cg now dir nm n) cu cg now dir nm := by
  obtain ⟨hp, hf, hmk⟩ := comeE_zero h0
  obtain ⟨hi, hkd, hc⟩ := placeE_zero hp
  obtain ⟨e1, e2⟩ := getN_make h.nos (newN S cu cg now dir n) hi
  obtain ⟨_, hno, hmem⟩ := isN_true hi
  have hlt := (h.nos.2 _ hmem).2
  rw [hno] at hlt
  have hT : comeT S cu cg now dir nm n = setT (makeT S (newN S cu cg now dir n)) (touchN (makeT S (newN S cu cg now dir n)) dir now (putF (getN S.nodes dir).ents (nm, S.last + 1))) := by
    unfold comeT touchT; rw [if_pos h0]
  have hN : (touchN (makeT S (newN S cu cg now dir n)) dir now (putF (getN S.nodes dir).ents (nm, S.last + 1))).no = dir := by
    show (getN (makeT S (newN S cu cg now dir n)).nodes dir).no = dir
    rw [e1, hno]
  have hu := nos_make h.live (newN S cu cg now dir n)
  have hd : getN (comeT S cu cg now dir nm n).nodes dir = touchN (makeT S (newN S cu cg now dir n)) dir now (putF (getN S.nodes dir).ents (nm, S.last + 1)) := by
    rw [hT]
    have := set_self hu (n := touchN (makeT S (newN S cu cg now dir n)) dir now (putF (getN S.nodes dir).ents (nm, S.last + 1))) (by rw [hN]; exact e2)
    rw [hN] at this
    exact this
  have hnew : getN (comeT S cu cg now dir nm n).nodes (S.last + 1) = { newN S cu cg now dir n with no := S.last + 1 } := by
    rw [hT, (setN_get (by rw [hN]; omega)).1]
    have hm : ({ newN S cu cg now dir n with no := S.last + 1 } : NodeD) ∈ (makeT S (newN S cu cg now dir n)).nodes := by
      unfold makeT
      rw [if_pos hmk]
      exact List.mem_append_right _ (List.mem_singleton.2 rfl)
    exact (mem_getN hu hm).1
  have hx := putF_find (fun x hx => (h.pos _ hmem x hx).1) hf
  refine ⟨?_, by rw [hnew]; exact ⟨rfl, rfl, rfl, rfl, rfl⟩, by rw [hd]; exact findF_put _ _ _, by rw [hd]; exact put_length _ _ _ hx, by rw [hd]; rfl⟩
  rw [hT]
  show (setN _ _).length = _
  rw [setN_len]
  unfold makeT
  rw [if_pos hmk]
  simp
theorem preE_zero {p e : Int} (h : preE p e = 0) : p = 0 ∧ e = 0 := by
  unfold preE at h
  split at h
  · rename_i h1; exact absurd h h1
  · rename_i h1; exact ⟨Decidable.not_not.1 h1, h⟩
/-- A call that makes a node, at one instant. -/
def ThereR (w : World) (B : Nat) (g : GhW) (S : TreeD) (uid gid now dir : Int) (nm : List UInt8) (a x : Int) (w' : World) : Prop :=
  ∃ T, WAt w' B g T ∧ Only g.list w w' ∧ ((x ≠ 0 ∧ a = 0 ∧ T = S) ∨ (x = 0 ∧ a = S.last + 1 ∧ Came S T uid gid now dir nm ∧ NosUp T.nodes T.last))
theorem there {c : Nat} {S : TreeD} (h : Tre c S) {w w' : World} {B : Nat} {g : GhW} {cu cg now dir p : Int} {nm : List UInt8} {n : NodeD} {e : Ending}
    (hr : NoR w B g (preT p S (comeT S cu cg now dir nm n)) (preN p (comeN S cu cg now dir nm n)) (preE p (comeE S cu cg now dir nm n)) e w') : ∃ a x, e = .returned (.tuple #[.int .i64 a, .int .i64 x]) ∧ ThereR w B g S cu cg now dir nm a x w' := by
  obtain ⟨he, hK, hO⟩ := hr
  refine ⟨_, _, he, _, hK, hO, ?_⟩
  by_cases hz : preE p (comeE S cu cg now dir nm n) = 0
  · obtain ⟨h1, h2⟩ := preE_zero hz
    right
    subst h1
    have hT : preT 0 S (comeT S cu cg now dir nm n) = comeT S cu cg now dir nm n := rfl
    refine ⟨hz, by show comeN S cu cg now dir nm n = _; unfold comeN; rw [if_pos h2], by rw [hT]; exact came h h2, ?_⟩
    rw [hT]
    unfold comeT
    rw [if_pos h2]
    exact (nos_make h.live _).set _
  · left
    refine ⟨hz, ?_, ?_⟩
    · unfold preE preN at *
      split
      · rfl
      · rename_i h1
        rw [if_neg h1] at hz
        unfold comeN; rw [if_neg hz]
    · unfold preE preT at *
      split
      · rfl
      · rename_i h1
        rw [if_neg h1] at hz
        unfold comeT; rw [if_neg hz]
set_option maxRecDepth 100000 in
set_option maxHeartbeats 16000000 in
theorem bringThere_any (A : Option Addr) (l : List ItemD) (cap : Nat) (x : ActD) (w : World) (hA : ItemsAt w A l) (hlen : l.length ≤ 9223372036854775807) :
    Calls Try.prog 11 #[.slice A l.length cap, .agg #[.int .i64 x.kind, .int .i64 x.uid, .int .i64 x.gid, .int .i64 x.dir, .int .i64 x.no, .int .i64 x.n, .string (bs x.name), .string (bs x.text), .int .i64 x.to_, .string (bs x.as_)]] w (Ret w (.bool true)) := by
  obtain ⟨W1, hW1⟩ : ∃ W, W = w.alloc (.cells #[.int .i64 x.kind, .int .i64 x.uid, .int .i64 x.gid, .int .i64 x.dir, .int .i64 x.no, .int .i64 x.n, .string (bs x.name), .string (bs x.text), .int .i64 x.to_, .string (bs x.as_)] 64) := ⟨_, rfl⟩
  have E1 : Ext w W1 := by rw [hW1]; exact (Ext.refl _).alloc _
  have B1 : Has W1 w.heap.size (.cells #[.int .i64 x.kind, .int .i64 x.uid, .int .i64 x.gid, .int .i64 x.dir, .int .i64 x.no, .int .i64 x.n, .string (bs x.name), .string (bs x.text), .int .i64 x.to_, .string (bs x.as_)] 64) := by rw [hW1]; exact Has.new _ _
  have xc := fun i => B1.cell i
  have c0 := xc 0
  have c1 := xc 1
  have c2 := xc 2
  have c3 := xc 3
  have c4 := xc 4
  have c5 := xc 5
  have c6 := xc 6
  have c7 := xc 7
  have c8 := xc 8
  have c9 := xc 9
  simp only [List.getElem?_toArray, List.getElem?_cons_zero, List.getElem?_cons_succ] at c0 c1 c2 c3 c4 c5 c6 c7 c8 c9
  have xz := B1.lt
  obtain ⟨m, hm⟩ : ∃ m, m = l.length := ⟨_, rfl⟩
  have hlen' := hlen
  rw [← hm] at hlen' ⊢
  have HM := Lib.hid hm
  have KF : Hid (Calls Try.prog 29 #[.slice A m cap] W1 (FewR W1 l)) := by show Calls _ _ _ _ _; rw [HM.out]; exact few14_any A l cap W1 (hA.ext E1) hlen
  clear hm xc
  go_enter Try.func11, Try.ntmps11
  go_upto_region 1 with fail
  rw [← hW1]
  clear hW1
  go_wp2_with fail
  refine KF.out.mono ?_
  rintro e w2 ⟨rfl, ⟨hf, rfl⟩ | ⟨hf, rfl⟩⟩
  case inr =>
    clear hf c0 c1 c2 c3 c4 c5 c6 c7 c8 c9
    go_wp2_with fail
    refine (awake17 _).mono ?_
    rintro e wz ⟨rfl, bz⟩
    go_wp2_with fail
    go_ret
    exact Ret.mk rfl ((E1).trans bz)
  have HF := Lib.hid hf
  clear hf KF
  go_wp2_with fail
  have hX2 := Has.new W1 (.cells #[.int .i64 x.kind, .int .i64 x.uid, .int .i64 x.gid, .int .i64 x.dir, .int .i64 x.no, .int .i64 x.n, .string (bs x.name), .string (bs x.text), .int .i64 x.to_, .string (bs x.as_)] 64)
  obtain ⟨W2, hW2⟩ : ∃ W2, W2 = W1.alloc (.cells #[.int .i64 x.kind, .int .i64 x.uid, .int .i64 x.gid, .int .i64 x.dir, .int .i64 x.no, .int .i64 x.n, .string (bs x.name), .string (bs x.text), .int .i64 x.to_, .string (bs x.as_)] 64) := ⟨_, rfl⟩
  rw [← hW2] at hX2 ⊢
  have E2 : Ext W1 W2 := by rw [hW2]; exact (Ext.refl _).alloc _
  have B2 := B1.ext E2
  have EW2 : Ext w W2 := E1.trans E2
  have hacts : ActsAt W2 (some ⟨W1.heap.size, 0, none⟩) [x] := by
    refine .inr ⟨_, 0, rfl, hX2.lt, fun k hk => ?_⟩
    have : k = 0 := by simpa using hk
    subst this
    exact ⟨hX2.cell 0, hX2.cell 1, hX2.cell 2, hX2.cell 3, hX2.cell 4, hX2.cell 5, hX2.cell 6, hX2.cell 7, hX2.cell 8, hX2.cell 9⟩
  clear hW2 hX2 c0 c1 c2 c3 c4 c5 c6 c7 c8 c9 xz
  refine (fewA_any (some ⟨W1.heap.size, 0, none⟩) [x] 1 W2 hacts (by simp)).mono ?_
  rintro e w3 ⟨rfl, ⟨hfx, rfl⟩ | ⟨_, rfl⟩⟩
  case inr =>
    go_wp2_with fail
    refine (awake17 _).mono ?_
    rintro e wz ⟨rfl, bz⟩
    go_wp2_with fail
    go_ret
    exact Ret.mk rfl ((EW2).trans bz)
  have hsx := hfx.1 x (List.mem_singleton.2 rfl)
  have HSX := Lib.hid hsx
  have HB2 := Lib.hid B2
  have HX1 := Lib.hid EW2
  have hG0 := tre_growAll (b := 300) (n := 60) (by decide) HF.out
  have hga := good_all (good_first (b := 300) (n := 60) (by decide)) l
  have hl40 := HF.out.2
  have KG : Hid (Calls Try.prog 19 #[.int .i64 300, .int .i64 60, .slice A m cap] W2 (GrowAllR W2 300 60 l)) := by show Calls _ _ _ _ _; rw [HM.out]; exact growAll_any 300 60 A l cap W2 (by decide) HF.out (hA.ext EW2)
  clear hacts hfx hsx
  go_wp2_with fail
  refine KG.out.mono ?_
  rintro e w3 ⟨g, f, rfl, ⟨K3, F3⟩, E3⟩
  obtain ⟨B, hB⟩ : ∃ B, B = W2.heap.size := ⟨_, rfl⟩
  rw [← hB] at K3 F3
  obtain ⟨S, hS⟩ : ∃ S, S = growAll (firstT 300 60) l := ⟨_, rfl⟩
  rw [← hS] at K3 F3
  have hSl : S.last ≤ 41 := by
    have h2 := hga.2
    rw [hS]
    rw [show growAll (rootT emptyT 0 300 60) l = growAll (firstT 300 60) l from rfl, show (rootT emptyT 0 300 60).last = 1 from rfl] at h2
    omega
  have hT0 : Tre 40 S := by rw [hS]; exact hG0
  have hS1 := hT0.last
  have HB := Lib.hid hB
  have HE3 := Lib.hid E3
  have HT0 := Lib.hid hT0
  have HK3 := Lib.hid K3
  have HF3 := Lib.hid F3
  clear hS hga hG0 hl40 KG hB hT0
  have X3 := HX1.out.trans HE3.out
  have B3 := HB2.out.ext HE3.out
  have c3 := B3.cell 3
  simp only [List.getElem?_toArray, List.getElem?_cons_zero, List.getElem?_cons_succ] at c3
  obtain ⟨dir, hdir⟩ : ∃ dir, dir = nearF S.last x.dir := ⟨_, rfl⟩
  have KN : Hid (∀ u : Gr w3, Calls Try.prog 54 #[.pointer (some ⟨f.bF, 0, none⟩), .int .i64 x.dir] u.w (Ret u.w (.int .i64 dir))) := by
    show ∀ u : Gr w3, _
    intro u
    rw [hdir]
    exact near_any B f S x0 x.dir _ (HF3.out.ext u.h) (by omega) (by omega)
  obtain ⟨A0, k0, ok0, C0⟩ := rget_fix B f S x0 dir w3 HF3.out (by have := HT0.out.count; omega) HT0.out.nos
  obtain ⟨m0, hm0⟩ : ∃ m0, m0 = getN S.nodes dir := ⟨_, rfl⟩
  rw [← hm0] at ok0 C0
  have HC0 := Lib.hid C0
  have HM0 := Lib.hid hm0
  have y3 : ∀ u : Gr w3, u.w.cell? ⟨w.heap.size, 3, none⟩ = some (.int .i64 x.dir) := Gr.cell B3.lt c3
  clear hdir hm0 C0 c3
  go_upto_region 6 with fail
  refine wp_region_nbox w3 10 12 9 43 m0 A0 k0 _ _ (by kernel_rfl) (by kernel_rfl) rfl rfl rfl rfl (by simp) ((Ext.refl _).drew) ?_
  simp only [List.take_succ_cons, List.take_zero, List.drop_succ_cons, List.drop_zero, List.drop_nil]
  repeat (refine wpQuietR_step (fun K hK => ?_)
          go_simp
          first
            | (refine hK _ ?_; clear hK K)
            | (apply Exists.intro
               refine ⟨fun u => ?_, hK _ ?_⟩
               first
                 | ((with_reducible refine (KN.out _).mono ?_); rintro e w'' ⟨rfl, hx⟩; exact ⟨rfl, hx⟩)
                 | ((with_reducible refine (HC0.out _ u.h).mono ?_); rintro e w'' ⟨rfl, hx⟩; exact ⟨rfl, hx⟩)
               clear hK K))
  refine wpQuietR_nil ⟨rfl, ?_⟩
  refine wpQuietR_nil ?_
  intro w4 b9 E34 hb9 N4
  simp only [Act.put]
  have B4 := B3.ext E34
  have M4 : Mix w3 B g f S S x0 w4 := (Mix.start HK3.out HF3.out).ext E34
  have hnb : w.heap.size ∉ g.list ++ f.list := Mix.notin HK3.out HF3.out (.inl (by rw [HB.out]; have := HB2.out.lt; omega))
  have ok4 := ok0.ext E34
  have X4 := X3.trans E34
  have HB4 := Lib.hid B4
  have k0' : w4.cell? ⟨w.heap.size, 0, none⟩ = some (.int .i64 x.kind) := B4.cell 0
  have k1' : w4.cell? ⟨w.heap.size, 1, none⟩ = some (.int .i64 x.uid) := B4.cell 1
  have k2' : w4.cell? ⟨w.heap.size, 2, none⟩ = some (.int .i64 x.gid) := B4.cell 2
  have k4' : w4.cell? ⟨w.heap.size, 5, none⟩ = some (.int .i64 x.n) := B4.cell 5
  have k5' : w4.cell? ⟨w.heap.size, 6, none⟩ = some (.string (bs x.name)) := B4.cell 6
  have k6' : w4.cell? ⟨w.heap.size, 7, none⟩ = some (.string (bs x.text)) := B4.cell 7
  have kz := B4.lt
  have K4 := HK3.out.ext E34
  have HK4 := Lib.hid K4
  have HF4 := Lib.hid (HF3.out.ext E34)
  have HOK := Lib.hid (HT0.out.ok (by decide))
  clear y3 KN ok0 E34 K4
  go_upto_block 0 with fail
  go_cut [10, 11] (fun va ve wc => ∃ a e, va = .int .i64 a ∧ ve = .int .i64 e ∧ ThereR w4 B g S x.uid x.gid 9 dir x.name a e wc)
  case first =>
    by_cases q0 : x.kind = 0
    · have t0 : (x.kind == 0) = true := by simpa using q0
      clear q0
      go_wp2_with fail
      refine (pdir_any B g S x.uid x.gid 9 dir x.name x.n _ HK4.out HOK.out (by omega)).mono ?_
      rintro e w5 hr
      obtain ⟨a, e5, rfl, ht⟩ := there HT0.out hr
      clear hr
      go_wp2_with fail
      go_meet
      exact ⟨a, e5, rfl, rfl, ht⟩
    · have t0 : (x.kind == 0) = false := by simpa using q0
      by_cases q1 : x.kind = 1
      · have t1 : (x.kind == 1) = true := by simpa using q1
        clear q0 q1
        go_wp2_with fail
        refine (pfile_any B g S x.uid x.gid 9 dir x.name x.n x.text _ HK4.out HOK.out (by omega) (by have := HSX.out.2.2; omega)).mono ?_
        rintro e w5 hr
        obtain ⟨a, e5, rfl, ht⟩ := there HT0.out hr
        clear hr
        go_wp2_with fail
        go_meet
        exact ⟨a, e5, rfl, rfl, ht⟩
      · have t1 : (x.kind == 1) = false := by simpa using q1
        clear q0 q1
        go_wp2_with fail
        refine (psym_any B g S x.uid x.gid 9 dir x.name x.text _ HK4.out HOK.out (by omega) (by have := HSX.out.2.2; omega)).mono ?_
        rintro e w5 hr
        obtain ⟨a, e5, rfl, ht⟩ := there HT0.out hr
        clear hr
        go_wp2_with fail
        go_meet
        exact ⟨a, e5, rfl, rfl, ht⟩
  case rest =>
  obtain ⟨a, e, rfl, rfl, T, K5, O5, hcases⟩ := hcut
  obtain ⟨w5, hw5⟩ : ∃ w5, w5 = wc := ⟨_, rfl⟩
  rw [← hw5] at K5 O5 ⊢
  have F5 := FAt.byW HF4.out HK4.out O5
  have hgB : ∀ b ∈ g.list, B ≤ b := fun b hb => (HK4.out.apart b hb).1
  have X5 : Ext w w5 := O5.after X4 (fun b hb => by have := hgB b hb; have := HX1.out.size; have := HB.out; omega)
  have B5 := O5.has HB4.out (fun hb => hnb (List.mem_append_left _ hb))
  have hb9g : b9 ∉ g.list := fun hb => by
    have := HK3.out.lt
    simp only [GhW.list, List.mem_cons, List.not_mem_nil, or_false] at hb
    omega
  have N5 := O5.has N4 hb9g
  clear hw5 k0' k1' k2' k4' k5' k6' kz O5 M4 N4 B4 ok4 X4
  rcases hcases with ⟨he, ha, hT⟩ | ⟨he, ha, hC, hu⟩
  · subst hT
    have t1 : (e == 0) = false := by simpa using he
    have t1b : (e != 0) = true := by simpa using he
    have t2 : (a == 0) = true := by simpa using ha
    clear he ha N5 B5
    go_wp2_with fail
    refine (alike_any B g f T x0 _ K5 F5 (HT0.out.fit (by decide) (by omega))).mono ?_
    rintro e w6 ⟨rfl, b6⟩
    go_wp2_with fail
    refine (awake17 _).mono ?_
    rintro e wz ⟨rfl, bz⟩
    go_wp2_with fail
    go_ret
    exact Ret.mk rfl ((X5.trans b6).trans bz)
  · have t1 : (e == 0) = true := by simpa using he
    have t1b : (e != 0) = false := by simpa using he
    obtain ⟨_, _, cd, hW5, _⟩ := id K5
    have v0 : w5.cell? ⟨g.bW, 0, none⟩ = some (.pointer (some ⟨g.bT, 0, none⟩)) := hW5.cell 0
    have vz := hW5.lt
    have HA := Lib.hid ha
    have HC := Lib.hid hC
    have HU := Lib.hid hu
    clear he ha hC hW5 hu
    go_wp2_with fail
    refine (tget_any B g.bT g.bM T.nodes T.last a _ K5.2.1).mono ?_
    rintro e w6 ⟨A6, k6, rfl, ok6, b6⟩
    obtain ⟨n6, hn6⟩ : ∃ n6, n6 = getN T.nodes a := ⟨_, rfl⟩
    obtain ⟨i6, hi6⟩ : ∃ i6, i6 = isN T.nodes a := ⟨_, rfl⟩
    rw [← hn6, ← hi6]
    obtain ⟨W7, hW7⟩ : ∃ W7, W7 = w6.alloc (.cells #[.int .i64 n6.no, .int .i64 n6.dev, .int .i64 n6.kind, .int .i64 n6.mode, .int .i64 n6.uid, .int .i64 n6.gid, .int .i64 n6.mtime, .int .i64 n6.ctime, .int .i64 n6.links, .int .i64 n6.up, .string (bs n6.data), .slice A6 n6.ents.length k6] 100) := ⟨_, rfl⟩
    have E67 : Ext w6 W7 := by rw [hW7]; exact (Ext.refl _).alloc _
    obtain ⟨b12, hb12⟩ : ∃ b, b = w6.heap.size := ⟨_, rfl⟩
    have N7 : Has W7 b12 (.cells #[.int .i64 n6.no, .int .i64 n6.dev, .int .i64 n6.kind, .int .i64 n6.mode, .int .i64 n6.uid, .int .i64 n6.gid, .int .i64 n6.mtime, .int .i64 n6.ctime, .int .i64 n6.links, .int .i64 n6.up, .string (bs n6.data), .slice A6 n6.ents.length k6] 100) := by rw [hW7, hb12]; exact Has.new _ _
    have E57 : Ext w5 W7 := b6.trans E67
    have K7 := K5.ext E57
    have HN6 := Lib.hid hn6
    obtain ⟨_, _, cd, hW5, _⟩ := id K7
    have v0' : W7.cell? ⟨g.bW, 0, none⟩ = some (.pointer (some ⟨g.bT, 0, none⟩)) := hW5.cell 0
    have vz' := hW5.lt
    clear hn6 hi6 ok6 hW5
    go_upto_region 17 with fail
    rw [← hW7]
    rw [← hb12]
    clear hW7 hb12 v0 vz
    go_wp2_with fail
    refine (tget_any B g.bT g.bM T.nodes T.last dir _ K7.2.1).mono ?_
    rintro e w8 ⟨A8, k8, rfl, ok8, b8⟩
    obtain ⟨n8, hn8⟩ : ∃ n8, n8 = getN T.nodes dir := ⟨_, rfl⟩
    obtain ⟨i8, hi8⟩ : ∃ i8, i8 = isN T.nodes dir := ⟨_, rfl⟩
    rw [← hn8] at ok8
    rw [← hn8, ← hi8]
    obtain ⟨W9, hW9⟩ : ∃ W9, W9 = w8.alloc (.cells #[.int .i64 n8.no, .int .i64 n8.dev, .int .i64 n8.kind, .int .i64 n8.mode, .int .i64 n8.uid, .int .i64 n8.gid, .int .i64 n8.mtime, .int .i64 n8.ctime, .int .i64 n8.links, .int .i64 n8.up, .string (bs n8.data), .slice A8 n8.ents.length k8] 100) := ⟨_, rfl⟩
    have E89 : Ext w8 W9 := by rw [hW9]; exact (Ext.refl _).alloc _
    obtain ⟨b14, hb14⟩ : ∃ b, b = w8.heap.size := ⟨_, rfl⟩
    have N9 : Has W9 b14 (.cells #[.int .i64 n8.no, .int .i64 n8.dev, .int .i64 n8.kind, .int .i64 n8.mode, .int .i64 n8.uid, .int .i64 n8.gid, .int .i64 n8.mtime, .int .i64 n8.ctime, .int .i64 n8.links, .int .i64 n8.up, .string (bs n8.data), .slice A8 n8.ents.length k8] 100) := by rw [hW9, hb14]; exact Has.new _ _
    have E79 : Ext W7 W9 := b8.trans E89
    have HN8 := Lib.hid hn8
    have ok9 := ok8.ext E89
    clear hn8 hi8 ok8
    go_upto_region 18 with fail
    rw [← hW9]
    rw [← hb14]
    clear hW9 hb14 v0' vz'
    have E59 := E57.trans E79
    have K9 := K5.ext E59
    have F9 := F5.ext E59
    have B9 := B5.ext E59
    have P9 := N5.ext E59
    have N79 := N7.ext E79
    have X9 := X5.trans E59
    have HX9 := Lib.hid X9
    obtain ⟨u1, u2, u3, u4, u5⟩ := HC.out.node
    have hcl := HC.out.len
    have hcf := HC.out.find
    have hce := HC.out.ents
    have hcm := HC.out.mtime
    rw [← HA.out, ← HN6.out] at u1 u2 u3 u4 u5
    rw [← HN8.out] at hcf hce hcm
    rw [← HA.out] at hcf
    rw [← HM0.out] at u3 hce
    have HCF := Lib.hid hcf
    have HCL := Lib.hid hcl
    have hcnt : S.nodes.length ≤ 1000 := by have := HT0.out.count; omega
    have he40 : m0.ents.length ≤ 40 := by
      have := (HT0.out.getN dir).2
      rw [← HM0.out] at this
      exact this
    have hce2 : n8.ents.length ≤ 41 := by omega
    have q1 : (n6.uid == x.uid) = true := by simpa using u1
    have q2 : (n6.gid == x.gid) = true := by simpa using u2
    have q3 : (n6.dev == m0.dev) = true := by simpa using u3
    have q4 : (n6.links == 1) = true := by simpa using u4
    have q5 : (n6.mtime == 9) = true := by simpa using u5
    have q6 : (n8.mtime == 9) = true := by simpa using hcm
    have q7 : ((n8.ents.length : Int) == (m0.ents.length : Int) + 1) = true := by simp; omega
    have q8 : IntKind.i64.wrap ((m0.ents.length : Int) + 1) = (m0.ents.length : Int) + 1 := wrap_i64_in (by omega) (by omega)
    have q9 : IntKind.i64.wrap ((S.nodes.length : Int) + 1) = (S.nodes.length : Int) + 1 := wrap_i64_in (by omega) (by omega)
    have q10 : ((T.nodes.length : Int) == (S.nodes.length : Int) + 1) = true := by simp; omega
    obtain ⟨_, _, cdb, hWb, _⟩ := id K9
    obtain ⟨_, cnb, ceb, hFb, _, _⟩ := id F9
    have v0 : W9.cell? ⟨g.bW, 0, none⟩ = some (.pointer (some ⟨g.bT, 0, none⟩)) := hWb.cell 0
    have vz := hWb.lt
    have f0 : W9.cell? ⟨f.bF, 0, none⟩ = some (.slice (some ⟨f.bN, 0, none⟩) S.nodes.length cnb) := hFb.cell 0
    have fz := hFb.lt
    clear u1 u2 u3 u4 u5 hcl hcf hce hcm hWb hFb hcnt
    simp only [List.append]
    have d4 : ∀ u : Gr W9, u.w.cell? ⟨b12, 4, none⟩ = some (.int .i64 n6.uid) := Gr.cell N79.lt (N79.cell 4)
    have d5 : ∀ u : Gr W9, u.w.cell? ⟨b12, 5, none⟩ = some (.int .i64 n6.gid) := Gr.cell N79.lt (N79.cell 5)
    have d1 : ∀ u : Gr W9, u.w.cell? ⟨b12, 1, none⟩ = some (.int .i64 n6.dev) := Gr.cell N79.lt (N79.cell 1)
    have d8 : ∀ u : Gr W9, u.w.cell? ⟨b12, 8, none⟩ = some (.int .i64 n6.links) := Gr.cell N79.lt (N79.cell 8)
    have d6 : ∀ u : Gr W9, u.w.cell? ⟨b12, 6, none⟩ = some (.int .i64 n6.mtime) := Gr.cell N79.lt (N79.cell 6)
    have e1 : ∀ u : Gr W9, u.w.cell? ⟨b9, 1, none⟩ = some (.int .i64 m0.dev) := Gr.cell P9.lt (P9.cell 1)
    have e11 : ∀ u : Gr W9, u.w.cell? ⟨b9, 11, none⟩ = some (.slice A0 m0.ents.length k0) := Gr.cell P9.lt (P9.cell 11)
    have g1 : ∀ u : Gr W9, u.w.cell? ⟨w.heap.size, 1, none⟩ = some (.int .i64 x.uid) := Gr.cell B9.lt (B9.cell 1)
    have g2 : ∀ u : Gr W9, u.w.cell? ⟨w.heap.size, 2, none⟩ = some (.int .i64 x.gid) := Gr.cell B9.lt (B9.cell 2)
    have g6 : ∀ u : Gr W9, u.w.cell? ⟨w.heap.size, 6, none⟩ = some (.string (bs x.name)) := Gr.cell B9.lt (B9.cell 6)
    have h11 : ∀ u : Gr W9, u.w.cell? ⟨b14, 11, none⟩ = some (.slice A8 n8.ents.length k8) := Gr.cell N9.lt (N9.cell 11)
    have h6 : ∀ u : Gr W9, u.w.cell? ⟨b14, 6, none⟩ = some (.int .i64 n8.mtime) := Gr.cell N9.lt (N9.cell 6)
    have v1 : ∀ u : Gr W9, u.w.cell? ⟨g.bW, 0, none⟩ = some (.pointer (some ⟨g.bT, 0, none⟩)) := Gr.cell vz v0
    have f1 : ∀ u : Gr W9, u.w.cell? ⟨f.bF, 0, none⟩ = some (.slice (some ⟨f.bN, 0, none⟩) S.nodes.length cnb) := Gr.cell fz f0
    have KL : Hid (∀ u : Gr W9, Calls Try.prog 27 #[.pointer (some ⟨g.bT, 0, none⟩)] u.w (Ret u.w (.int .i64 T.nodes.length))) := by
      show ∀ u : Gr W9, _
      exact fun u => tlen_any B g.bT g.bM T.nodes T.last _ (K9.ext u.h).2.1
    have KI : Hid (∀ u : Gr W9, Calls Try.prog 62 #[.slice A8 n8.ents.length k8, .string (bs x.name)] u.w (Ret u.w (.int .i64 a))) := by
      show ∀ u : Gr W9, _
      intro u
      have := rfind_any A8 n8.ents k8 x.name u.w (ok9.ext u.h).ents.ents (by omega)
      rw [HCF.out] at this
      exact this
    have KW : Hid (∀ u : Gr W9, Calls Try.prog 53 #[] u.w (Ret u.w (.bool true))) := by
      show ∀ u : Gr W9, _
      exact fun u => awake17 u.w
    clear v0 f0
    refine wp_region_grow W9 (by kernel_rfl) (by kernel_rfl) (Ext.refl _).drew ?_
    repeat (quiet_step (first
      | ((with_reducible refine (KL.out _).mono ?_); rintro e w'' ⟨rfl, hEx⟩; exact ⟨rfl, ⟨w'', Ext.trans (Gr.h _) hEx⟩, rfl⟩)
      | ((with_reducible refine (KI.out _).mono ?_); rintro e w'' ⟨rfl, hEx⟩; exact ⟨rfl, ⟨w'', Ext.trans (Gr.h _) hEx⟩, rfl⟩)
      | ((with_reducible refine (KW.out _).mono ?_); rintro e w'' ⟨rfl, hEx⟩; exact ⟨rfl, ⟨w'', Ext.trans (Gr.h _) hEx⟩, rfl⟩)))
    refine wpQuiet_nil ?_
    rintro wy ⟨⟨wz, bz⟩, h5⟩
    dsimp only at h5
    subst h5
    clear d4 d5 d1 d8 d6 e1 e11 g1 g2 g6 h11 h6 v1 f1 KL KI KW
    go_wp2_with fail
    go_ret
    exact Ret.mk rfl (HX9.out.trans bz)
set_option maxRecDepth 100000 in
theorem bringThere_walk {H : Type} {enc : TypeId × Value → H} (W : World) (base : Nat) (v0 v1 : Value) (d0 d1 : DataW H) (p0 p1 : List MemPlace)
    (k0 : Value.okWide Try.prog W .any base 24 v0) (h0 : DataW.Trod enc Try.prog W 0 (fun _ => true) true 24 v0 d0 p0)
    (k1 : Value.okWide Try.prog W .any base 64 v1) (h1 : DataW.Trod enc Try.prog W 0 (fun _ => true) true 64 v1 d1 p1)
    : Calls Try.prog 11 #[v0, v1] W (Ret W (.bool true)) := by
  obtain ⟨A, l, cap, rfl, hA, _, hl, hc⟩ := open_Items k0 h0
  obtain ⟨x, rfl⟩ := open_Act k1 h1
  exact bringThere_any A l cap x W hA (by unfold maxLen at hc; omega)
end Go.Proofs.Ytebghednhjaniaa
