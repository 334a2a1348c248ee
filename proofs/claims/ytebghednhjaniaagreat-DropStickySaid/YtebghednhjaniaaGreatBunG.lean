/- Law 20's do: an attribute call of both. (Printed by gen_doa.py.) | Layer 20 (attr): the chapter's example. | The law AttrPlays, walked. -/
import Derived.Test.YtebghednhjaniaaGreatBunE
import Derived.Test.YtebghednhjaniaaGreatBunF
import Derived.Test.YtebghednhjaniaaGreatBunD
namespace Go.Proofs.YtebghednhjaniaaGreat
open Go.ChangeShapes Go.WideShapes Go.ChangeAt Go.RowKit

attribute [local irreducible] wpLexE
attribute [local go_sem] changeUpon
def do20T (S : TreeD) (now : Int) (x : ActD) : TreeD :=
  if x.kind = 0 then modeT S x.uid now (nearF S.last x.no) x.n else if x.kind = 1 then ownrT S x.uid now (nearF S.last x.no) x.n x.to_ else if x.kind = 2 then timeT S x.uid now (nearF S.last x.no) x.n else wriT S x.uid x.gid now (nearF S.last x.no) x.text
def DoR (w0 : World) (B : Nat) (g : GhW) (f : GhF) (T : TreeD) (X : Xtra) (e : Ending) (w' : World) : Prop := e = .returned (.bool true) ∧ Mix w0 B g f T T X w'
end Go.Proofs.YtebghednhjaniaaGreat

namespace Go.Proofs.YtebghednhjaniaaGreat
open Go.ChangeShapes Go.WideShapes Go.ChangeAt Go.RowKit

/-- A list of one item, as it lies in its own block. -/
theorem items_one {w : World} {b : Nat} {t : TypeId} (it : ItemD) (h : Has w b (.cells #[.int .i64 it.dir, .string (bs it.name), .int .i64 it.kind, .int .i64 it.mode, .int .i64 it.uid, .int .i64 it.gid, .string (bs it.data), .int .i64 it.n] t)) : ItemsAt w (some ⟨b, 0, none⟩) [it] := by
  refine .inr ⟨b, 0, rfl, h.lt, fun k hk => ?_⟩
  have : k = 0 := by simpa using hk
  subst this
  exact ⟨h.cell 0, h.cell 1, h.cell 2, h.cell 3, h.cell 4, h.cell 5, h.cell 6, h.cell 7⟩
def exI : ItemD := ⟨0, [102], 2, 384, 5, 0, [], 0⟩
def exF (mode uid gid mt ct : Int) (data : List UInt8) : NodeD := ⟨2, 1, 2, mode, uid, gid, mt, ct, 1, 0, data, []⟩
def exT (f : NodeD) (b : Int) : TreeD := ⟨[⟨1, 1, 1, 493, 0, 0, 0, 0, 1, 1, [], [([102], 2)]⟩, f], [⟨1, 0, ⟨b, 2, 9, 9⟩⟩], 2⟩
theorem ex0 : growAll (firstT 9 9) [exI] = exT (exF 384 5 0 0 0 []) 1 := by kernel_rfl
theorem ex1 : modeE (exT (exF 384 5 0 0 0 []) 1) 6 2 0 = 4 ∧ modeT (exT (exF 384 5 0 0 0 []) 1) 6 1 2 0 = exT (exF 384 5 0 0 0 []) 1 := ⟨by kernel_rfl, by kernel_rfl⟩
theorem ex2 : modeE (exT (exF 384 5 0 0 0 []) 1) 5 2 256 = 0 ∧ modeT (exT (exF 384 5 0 0 0 []) 1) 5 1 2 256 = exT (exF 256 5 0 0 1 []) 1 := ⟨by kernel_rfl, by kernel_rfl⟩
theorem ex3 : wriE (exT (exF 256 5 0 0 1 []) 1) 5 0 2 1 = 6 ∧ wriT (exT (exF 256 5 0 0 1 []) 1) 5 0 2 2 [120] = exT (exF 256 5 0 0 1 []) 1 := ⟨by kernel_rfl, by kernel_rfl⟩
theorem ex4 : ownrE (exT (exF 256 5 0 0 1 []) 1) 0 2 7 8 = 0 ∧ ownrT (exT (exF 256 5 0 0 1 []) 1) 0 3 2 7 8 = exT (exF 256 7 8 0 3 []) 1 := ⟨by kernel_rfl, by kernel_rfl⟩
theorem ex5 : timeE (exT (exF 256 7 8 0 3 []) 1) 7 2 99 = 0 ∧ timeT (exT (exF 256 7 8 0 3 []) 1) 7 4 2 99 = exT (exF 256 7 8 99 4 []) 1 := ⟨by kernel_rfl, by kernel_rfl⟩
theorem ex6 : wriE (exT (exF 256 7 8 99 4 []) 1) 0 0 2 2 = 0 ∧ wriT (exT (exF 256 7 8 99 4 []) 1) 0 0 5 2 [120, 121] = exT (exF 256 7 8 5 5 [120, 121]) 2 := ⟨by kernel_rfl, by kernel_rfl⟩
theorem ex7 : getN (exT (exF 256 7 8 5 5 [120, 121]) 2).nodes 2 = exF 256 7 8 5 5 [120, 121] ∧ isN (exT (exF 256 7 8 5 5 [120, 121]) 2).nodes 2 = true := ⟨by kernel_rfl, by kernel_rfl⟩
theorem exT_nos {f : NodeD} (b : Int) (h : f.no = 2) : NosUp (exT f b).nodes (exT f b).last := by
  refine ⟨?_, ?_⟩
  · unfold exT; simp [h]
  · intro n hn
    simp only [exT, List.mem_cons, List.not_mem_nil, or_false] at hn ⊢
    rcases hn with rfl | rfl
    · exact ⟨by show (1 : Int) ≤ 1; decide, by show (1 : Int) ≤ 2; decide⟩
    · omega
theorem exT_roots {f : NodeD} {b : Int} (h0 : 0 ≤ b) (h1 : b ≤ 9) : RootsOk (exT f b).devs := by
  intro d hd
  simp only [exT, List.mem_singleton] at hd
  subst hd
  exact ⟨by show (0 : Int) < 1; decide, by unfold Fine; simp only; omega⟩
theorem exT_dev {f : NodeD} {b : Int} (h : f.dev = 1) (h2 : f.data.length ≤ 1048576) : OnDev (exT f b) := by
  intro n hn
  simp only [exT, List.mem_cons, List.not_mem_nil, or_false] at hn
  rcases hn with rfl | rfl
  · exact ⟨rfl, by simp⟩
  · exact ⟨by rw [h]; rfl, h2⟩
end Go.Proofs.YtebghednhjaniaaGreat

namespace Go.Proofs.YtebghednhjaniaaGreat
open Go.ChangeShapes Go.WideShapes Go.ChangeAt Go.RowKit

theorem tre_do20 {c : Nat} {S : TreeD} (h : Tre c S) (now : Int) (x : ActD) : Tre c (do20T S now x) := by
  unfold do20T
  split
  · exact tre_mode h ..
  · split
    · exact tre_ownr h ..
    · split
      · exact tre_time h ..
      · exact tre_wri h ..
theorem do20_last (S : TreeD) (now : Int) (x : ActD) : (do20T S now x).last = S.last := by
  unfold do20T
  split
  · exact modeT_last ..
  · split
    · exact ownrT_last ..
    · split
      · exact timeT_last ..
      · exact wriT_last ..
set_option maxRecDepth 100000 in
theorem alike_any (B : Nat) (g : GhW) (f : GhF) (S : TreeD) (X : Xtra) (w : World) (K : WAt w B g S) (F : FAt w B f S X) (H : Fit S) :
    Calls Tryz.prog 13 #[.pointer (some ⟨g.bW, 0, none⟩), .pointer (some ⟨f.bF, 0, none⟩)] w (Ret w (.bool true)) := by
  have KS := Lib.hid (same14_any B B g f S X w K F H)
  go_enter Tryz.func13, Tryz.ntmps13
  go_wp2_with fail
  refine KS.out.mono ?_
  rintro e w1 ⟨rfl, b1⟩
  go_wp2_with fail
  go_ret
  exact Ret.mk rfl b1
theorem FAt.setNow {w : World} {B : Nat} {f : GhF} {S : TreeD} {X : Xtra} (h : FAt w B f S X) (v : Int) : FAt (w.setCell ⟨f.bF, 3, none⟩ (.int .i64 v)) B f S { X with now := v } := by
  have h0 := h
  have ha := h.apart
  obtain ⟨n1, n2, _⟩ := h.ne
  obtain ⟨h1, cn, ce, h2, ⟨xs, h3, h5⟩, h4⟩ := h
  have o := Only.setCell w f.bF 3 (.int .i64 v)
  refine ⟨h1, cn, ce, h2.setCell 3 _, ⟨xs, ownsRow_only h3 o fun b hb => ?_, h5.only o (ha.sub (by simp))⟩, ownsRow_only h4 o fun b hb => ?_⟩
  · simp [Value.ownBlock] at hb; subst hb; simpa using Ne.symm n1
  · simp [Value.ownBlock] at hb; subst hb; simpa using Ne.symm n2
theorem Mix.setNow {w0 w : World} {B : Nat} {g : GhW} {f : GhF} {S T : TreeD} {X : Xtra} (h : Mix w0 B g f T S X w) (v : Int) : Mix w0 B g f T S { X with now := v } (w.setCell ⟨f.bF, 3, none⟩ (.int .i64 v)) := by
  obtain ⟨g1, f1, h1, h2, h3, h4, h5⟩ := h
  have := h4.setNow v
  rw [h2.1] at this
  refine Mix.refc h1 h2 h3 h4 h5 this ?_ (GhF.on_refl _ _)
  exact (Only.setCell w f.bF 3 (.int .i64 v)).mono (by intro x hx; rw [List.mem_singleton] at hx; subst hx; rw [← h2.1]; simp)
end Go.Proofs.YtebghednhjaniaaGreat
