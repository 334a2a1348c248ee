/- A drawn region that makes a node's box and fills it late. | The law BringThere, walked. (Printed by gen_brgg.py.) -/
import Derived.Test.YtebghednhjaniaaGreatBunE
import Derived.Test.YtebghednhjaniaaGreatBunI
import Derived.Test.YtebghednhjaniaaGreatBunF
import Derived.Test.YtebghednhjaniaaGreatBunD
import Derived.Test.YtebghednhjaniaaGreatBunG
import Derived.Deep.CutBlock
namespace Go.Proofs.YtebghednhjaniaaGreat
open Go

theorem wp_region_nbox {id : Nat} {Q : Exit → Act → World → Prop} {a : Act} {w : World} {l : List Oper} (V : World) (m s : Nat) (d t : Tmp) (n : NodeD) (A : Option Addr) (c : Nat) (om os : Oper)
    (hB : Region.lexB .any l.toArray = true) (hc : boxB l m s d t = true) (hom : l[m]? = some om) (hos : l[s]? = some os) (ho1 : om.op = .alloc 49) (ho2 : os.op = .store 49 (.tmp d) (.tmp t)) (htd : d < a.tmps.size)
    (hV : Ext V w.drew) :
    wpQuietR Tryz.prog l.toArray V (fun a1 => wpQuietR Tryz.prog l.toArray V (fun a2 => a2.eval (.tmp t) = .agg #[.int .i64 n.no, .int .i64 n.dev, .int .i64 n.kind, .int .i64 n.mode, .int .i64 n.uid, .int .i64 n.gid, .int .i64 n.mtime, .int .i64 n.ctime, .int .i64 n.links, .int .i64 n.up, .string (bs n.data), .slice A n.ents.length c] ∧ wpQuietR Tryz.prog l.toArray V (fun a3 => ∀ w' bx, Ext V w' → V.heap.size ≤ bx → Has w' bx (.cells #[.int .i64 n.no, .int .i64 n.dev, .int .i64 n.kind, .int .i64 n.mode, .int .i64 n.uid, .int .i64 n.gid, .int .i64 n.mtime, .int .i64 n.ctime, .int .i64 n.links, .int .i64 n.up, .string (bs n.data), .slice A n.ents.length c] 49) → Q .normal (a3.put (some d) (.pointer (some ⟨bx, 0, none⟩))) w') (l.drop (s + 1)) a2) ((l.take s).drop (m + 1)) a1) (l.take m) a →
    (Code.region id l.toArray true).wp Tryz.prog Q a w := by
  refine wp_region_box V m s d t (.agg #[.int .i64 n.no, .int .i64 n.dev, .int .i64 n.kind, .int .i64 n.mode, .int .i64 n.uid, .int .i64 n.gid, .int .i64 n.mtime, .int .i64 n.ctime, .int .i64 n.links, .int .i64 n.up, .string (bs n.data), .slice A n.ents.length c]) (.cells #[.int .i64 0, .int .i64 0, .int .i64 0, .int .i64 0, .int .i64 0, .int .i64 0, .int .i64 0, .int .i64 0, .int .i64 0, .int .i64 0, .string ⟨#[]⟩, .slice none 0 0] 49) _ om os (by kernel_rfl) hB hc hom hos ?_ ?_ hV htd
  · intro a w
    simp [execOp, ho1, go_sem]
  · intro a w bx hsz hb he
    have hd : (a.put (some d) (.pointer (some ⟨bx, 0, none⟩))).eval (.tmp d) = .pointer (some ⟨bx, 0, none⟩) := by
      simp [Act.put, Act.eval, hsz]
    have hb' : Has w bx (.cells #[.int .i64 nodeZ.no, .int .i64 nodeZ.dev, .int .i64 nodeZ.kind, .int .i64 nodeZ.mode, .int .i64 nodeZ.uid, .int .i64 nodeZ.gid, .int .i64 nodeZ.mtime, .int .i64 nodeZ.ctime, .int .i64 nodeZ.links, .int .i64 nodeZ.up, .string (bs nodeZ.data), .slice none nodeZ.ents.length 0] 49) := hb
    refine ⟨_, ?_, hb'.setNode n A c, only_setCells (nodeL n A c) 0 w⟩
    simp only [execOp, ho2, hd, he, run_storeAt_mid w bx 0 49 #[.int .i64 n.no, .int .i64 n.dev, .int .i64 n.kind, .int .i64 n.mode, .int .i64 n.uid, .int .i64 n.gid, .int .i64 n.mtime, .int .i64 n.ctime, .int .i64 n.links, .int .i64 n.up, .string (bs n.data), .slice A n.ents.length c] hb'.there infoNode12 (node_all n A c), Sem.run_bind, Sem.run_pure, Result.andThen_ok]
    rfl
end Go.Proofs.YtebghednhjaniaaGreat

namespace Go.Proofs.YtebghednhjaniaaGreat
open Go.ChangeShapes Go.WideShapes Go.ChangeAt Go.RowKit

attribute [local irreducible] wpQuiet
theorem findF_put (l : List EntD) (nm : List UInt8) (no : Int) : findF (putF l (nm, no)) nm = no := by
  unfold findF putF lessF moreF
  have h1 : (l.filter fun x => bl x.1 nm).find? (fun x => x.1 == nm) = none := by
    rw [List.find?_eq_none]
    intro x hx
    rw [List.mem_filter] at hx
    have := bl_ne hx.2
    simpa using this
  simp only [List.find?_append, h1, Option.none_or, List.find?_cons, beq_self_eq_true, Option.some_or]
theorem put_length (l : List EntD) (nm : List UInt8) (no : Int) (h : ∀ x ∈ l, x.1 ≠ nm) : (putF l (nm, no)).length = l.length + 1 := by
  have hs : ∀ l : List EntD, (∀ x ∈ l, x.1 ≠ nm) → (l.filter fun x => bl x.1 nm).length + (l.filter fun x => bl nm x.1).length = l.length := by
    intro l
    induction l with
    | nil => intro _; rfl
    | cons x l ih =>
      intro h
      have := ih fun y hy => h y (List.mem_cons_of_mem _ hy)
      simp only [List.filter_cons, List.length_cons]
      have hx := h x (List.mem_cons_self ..)
      rcases bl_tri x.1 nm with g | g | g
      · have g2 := bl_asymm g
        rw [if_pos g, if_neg (by rw [g2]; decide)]
        simp only [List.length_cons]; omega
      · exact absurd g hx
      · have g2 := bl_asymm g
        rw [if_pos g, if_neg (by rw [g2]; decide)]
        simp only [List.length_cons]; omega
  have := hs l h
  unfold putF lessF moreF
  simp only [List.length_append, List.length_singleton]
  omega
/-- What a node that came has left. -/
structure Came (S T : TreeD) (uid gid now dir : Int) (nm : List UInt8) : Prop where
  len : T.nodes.length = S.nodes.length + 1
  node : (getN T.nodes (S.last + 1)).uid = uid ∧ (getN T.nodes (S.last + 1)).gid = gid ∧ (getN T.nodes (S.last + 1)).dev = (getN S.nodes dir).dev ∧ (getN T.nodes (S.last + 1)).links = 1 ∧ (getN T.nodes (S.last + 1)).mtime = now
  find : findF (getN T.nodes dir).ents nm = S.last + 1
  ents : (getN T.nodes dir).ents.length = (getN S.nodes dir).ents.length + 1
  mtime : (getN T.nodes dir).mtime = now
theorem set_self {S : TreeD} (hu : NosUp S.nodes S.last) {n : NodeD} (hi : isN S.nodes n.no = true) : getN (setT S n).nodes n.no = n := by
  have hm := set_has (n := n) (isN_true hi).2.2
  rw [if_pos (isN_true hi).2.1] at hm
  exact (mem_getN (S := setT S n) (hu.set n) hm).1
theorem came {c : Nat} {S : TreeD} (h : Tre c S) {cu cg now dir : Int} {nm : List UInt8} {n : NodeD} (h0 : comeE S cu cg now dir nm n = 0) : Came S (comeT S cu cg now dir nm n) cu cg now dir nm := by
  obtain ⟨hp, hf, hmk⟩ := comeE_zero h0
  obtain ⟨hi, hkd, hc⟩ := placeE_zero hp
  obtain ⟨e1, e2⟩ := getN_make h.nos (newN S cu cg now dir n) hi
  obtain ⟨_, hno, hmem⟩ := isN_true hi
  have hlt := (h.nos.2 _ hmem).2
  rw [hno] at hlt
  have hT : comeT S cu cg now dir nm n = setT (makeT S (newN S cu cg now dir n)) (touchN (makeT S (newN S cu cg now dir n)) dir now (putF (getN S.nodes dir).ents (nm, S.last + 1))) := by
    unfold comeT touchT; rw [if_pos h0]
  have hN : (touchN (makeT S (newN S cu cg now dir n)) dir now (putF (getN S.nodes dir).ents (nm, S.last + 1))).no = dir := by
    show (getN (makeT S (newN S cu cg now dir n)).nodes dir).no = dir
    rw [e1, hno]
  have hu := nos_make h.live (newN S cu cg now dir n)
  have hd : getN (comeT S cu cg now dir nm n).nodes dir = touchN (makeT S (newN S cu cg now dir n)) dir now (putF (getN S.nodes dir).ents (nm, S.last + 1)) := by
    rw [hT]
    have := set_self hu (n := touchN (makeT S (newN S cu cg now dir n)) dir now (putF (getN S.nodes dir).ents (nm, S.last + 1))) (by rw [hN]; exact e2)
    rw [hN] at this
    exact this
  have hnew : getN (comeT S cu cg now dir nm n).nodes (S.last + 1) = { newN S cu cg now dir n with no := S.last + 1 } := by
    rw [hT, (setN_get (by rw [hN]; omega)).1]
    have hm : ({ newN S cu cg now dir n with no := S.last + 1 } : NodeD) ∈ (makeT S (newN S cu cg now dir n)).nodes := by
      unfold makeT
      rw [if_pos hmk]
      exact List.mem_append_right _ (List.mem_singleton.2 rfl)
    exact (mem_getN hu hm).1
  have hx := putF_find (fun x hx => (h.pos _ hmem x hx).1) hf
  refine ⟨?_, by rw [hnew]; exact ⟨rfl, rfl, rfl, rfl, rfl⟩, by rw [hd]; exact findF_put _ _ _, by rw [hd]; exact put_length _ _ _ hx, by rw [hd]; rfl⟩
  rw [hT]
  show (setN _ _).length = _
  rw [setN_len]
  unfold makeT
  rw [if_pos hmk]
  simp
theorem preE_zero {p e : Int} (h : preE p e = 0) : p = 0 ∧ e = 0 := by
  unfold preE at h
  split at h
  · rename_i h1; exact absurd h h1
  · rename_i h1; exact ⟨Decidable.not_not.1 h1, h⟩
/-- A call that makes a node, at one instant. -/
def ThereR (w : World) (B : Nat) (g : GhW) (S : TreeD) (uid gid now dir : Int) (nm : List UInt8) (a x : Int) (w' : World) : Prop :=
  ∃ T, WAt w' B g T ∧ Only g.list w w' ∧ ((x ≠ 0 ∧ a = 0 ∧ T = S) ∨ (x = 0 ∧ a = S.last + 1 ∧ Came S T uid gid now dir nm ∧ NosUp T.nodes T.last))
theorem there {c : Nat} {S : TreeD} (h : Tre c S) {w w' : World} {B : Nat} {g : GhW} {cu cg now dir p : Int} {nm : List UInt8} {n : NodeD} {e : Ending}
    (hr : NoR w B g (preT p S (comeT S cu cg now dir nm n)) (preN p (comeN S cu cg now dir nm n)) (preE p (comeE S cu cg now dir nm n)) e w') : ∃ a x, e = .returned (.tuple #[.int .i64 a, .int .i64 x]) ∧ ThereR w B g S cu cg now dir nm a x w' := by
  obtain ⟨he, hK, hO⟩ := hr
  refine ⟨_, _, he, _, hK, hO, ?_⟩
  by_cases hz : preE p (comeE S cu cg now dir nm n) = 0
  · obtain ⟨h1, h2⟩ := preE_zero hz
    right
    subst h1
    have hT : preT 0 S (comeT S cu cg now dir nm n) = comeT S cu cg now dir nm n := rfl
    refine ⟨hz, by show comeN S cu cg now dir nm n = _; unfold comeN; rw [if_pos h2], by rw [hT]; exact came h h2, ?_⟩
    rw [hT]
    unfold comeT
    rw [if_pos h2]
    exact (nos_make h.live _).set _
  · left
    refine ⟨hz, ?_, ?_⟩
    · unfold preE preN at *
      split
      · rfl
      · rename_i h1
        rw [if_neg h1] at hz
        unfold comeN; rw [if_neg hz]
    · unfold preE preT at *
      split
      · rfl
      · rename_i h1
        rw [if_neg h1] at hz
        unfold comeT; rw [if_neg hz]
end Go.Proofs.YtebghednhjaniaaGreat
