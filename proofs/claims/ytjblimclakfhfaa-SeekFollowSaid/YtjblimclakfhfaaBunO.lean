/- Law 14: the chapter's example. | The law's acts in memory; Few of them. | How the arguments of the laws on trees read: items, acts, somebody who asks. (Printed by gen_opn.py.) | Layer 15: the chapter's example. | The law SeekTells, walked. -/
import Derived.Test.YtjblimclakfhfaaBunE
import Derived.Test.YtjblimclakfhfaaBunD
import Derived.Test.YtjblimclakfhfaaBunA
import Derived.Test.YtjblimclakfhfaaBunN
import Derived.Test.YtjblimclakfhfaaBunL
import Derived.OpenShut
import Derived.SliceStrings
namespace Go.Proofs.Ytjblimclakfhfaa
open Go.ChangeShapes Go.WideShapes Go.ChangeAt Go.RowKit

set_option maxRecDepth 100000 in
set_option maxHeartbeats 1000000 in
theorem pnew_no (b n : Int) (w : World) (hl : limitsF b n = false) : Calls Try.prog 33 #[.int .i64 b, .int .i64 n] w (Ret w (.tuple #[.pointer none, .int .i64 3])) := by
  go_enter Try.func33, Try.ntmps33
  go_wp2_with fail
  refine (tnew_any w.heap.size _ (Nat.le_refl _)).mono ?_
  rintro e w1 ⟨bT, bM, rfl, T1, b1, k1, k2⟩
  have hz := b1.size
  have lT := T1.2.2.1.lt
  go_wp2_with fail
  refine (padd_no w1.heap.size 0 b n _ hl).mono ?_
  rintro e w2 ⟨rfl, b2⟩
  go_wp2_with fail
  go_ret2
  exact Ret.mk rfl ((b1.alloc _).trans b2)
/-- A list of two items, as it lies in its own block. -/
theorem items_two {w : World} {b : Nat} {t : TypeId} (it jt : ItemD) (h : Has w b (.cells #[.int .i64 it.dir, .string (bs it.name), .int .i64 it.kind, .int .i64 it.mode, .int .i64 it.uid, .int .i64 it.gid, .string (bs it.data), .int .i64 it.n, .int .i64 jt.dir, .string (bs jt.name), .int .i64 jt.kind, .int .i64 jt.mode, .int .i64 jt.uid, .int .i64 jt.gid, .string (bs jt.data), .int .i64 jt.n] t)) : ItemsAt w (some ⟨b, 0, none⟩) [it, jt] := by
  refine .inr ⟨b, 0, rfl, h.lt, fun k hk => ?_⟩
  have : k = 0 ∨ k = 1 := by simp at hk; omega
  rcases this with rfl | rfl
  · exact ⟨h.cell 0, h.cell 1, h.cell 2, h.cell 3, h.cell 4, h.cell 5, h.cell 6, h.cell 7⟩
  · exact ⟨h.cell 8, h.cell 9, h.cell 10, h.cell 11, h.cell 12, h.cell 13, h.cell 14, h.cell 15⟩
def ex14A : ItemD := ⟨0, [100], 1, 0, 0, 0, [], 0⟩
def ex14B : ItemD := ⟨1, [], 4, 0, 0, 0, [], 5⟩
def ex14T : TreeD := growAll (firstT 9 9) [ex14A, ex14B]
theorem ex14_few : FewI [ex14A, ex14B] := by
  refine ⟨?_, by decide⟩
  intro x hx
  simp only [List.mem_cons, List.not_mem_nil, or_false] at hx
  rcases hx with rfl | rfl
  · exact ⟨by decide, by decide⟩
  · exact ⟨by decide, by decide⟩
theorem ex14_fit : Fit ex14T := (fit_grow (by decide) ex14_few).2
theorem ex14_where : whereF ex14T 3 = some [47, 100] := by kernel_rfl
theorem ex14_over : overF ex14T.devs 2 = 3 := by kernel_rfl
theorem ex14_above : aboveF ex14T 3 = 1 := by kernel_rfl
end Go.Proofs.Ytjblimclakfhfaa

namespace Go.Proofs.Ytjblimclakfhfaa
open Go.ChangeShapes Go.WideShapes Go.ChangeAt Go.RowKit

/-- A call that is asked for. -/
structure ActD where
  kind : Int
  uid : Int
  gid : Int
  dir : Int
  no : Int
  n : Int
  name : List UInt8
  text : List UInt8
  to_ : Int
  as_ : List UInt8
def ActsAt (w : World) (A : Option Addr) (l : List ActD) : Prop :=
  l = [] ∨ ∃ b o, A = some ⟨b, o, none⟩ ∧ b < w.heap.size ∧ ∀ k, (h : k < l.length) → w.cell? ⟨b, o + k * 10, none⟩ = some (.int .i64 l[k].kind) ∧ w.cell? ⟨b, o + k * 10 + 1, none⟩ = some (.int .i64 l[k].uid) ∧ w.cell? ⟨b, o + k * 10 + 2, none⟩ = some (.int .i64 l[k].gid) ∧ w.cell? ⟨b, o + k * 10 + 3, none⟩ = some (.int .i64 l[k].dir) ∧
    w.cell? ⟨b, o + k * 10 + 4, none⟩ = some (.int .i64 l[k].no) ∧ w.cell? ⟨b, o + k * 10 + 5, none⟩ = some (.int .i64 l[k].n) ∧ w.cell? ⟨b, o + k * 10 + 6, none⟩ = some (.string (bs l[k].name)) ∧ w.cell? ⟨b, o + k * 10 + 7, none⟩ = some (.string (bs l[k].text)) ∧ w.cell? ⟨b, o + k * 10 + 8, none⟩ = some (.int .i64 l[k].to_) ∧ w.cell? ⟨b, o + k * 10 + 9, none⟩ = some (.string (bs l[k].as_))
theorem ActsAt.ext {w w' : World} {A : Option Addr} {l : List ActD} (h : ActsAt w A l) (k : Ext w w') : ActsAt w' A l := by
  rcases h with h | ⟨b, o, hA, hb, hc⟩
  · exact .inl h
  · refine .inr ⟨b, o, hA, by have := k.size; omega, fun i hi => ?_⟩
    simp only [k.cell hb]; exact hc i hi
theorem ActsAt.at_ {w w' : World} {A : Option Addr} {l : List ActD} (h : ActsAt w A l) (hE : Ext w w') (k : Nat) (hk : k < l.length) : ∃ b o, A = some ⟨b, o, none⟩ ∧ b < w'.heap.size ∧ w'.cell? ⟨b, o + k * 10, none⟩ = some (.int .i64 l[k].kind) ∧ w'.cell? ⟨b, o + k * 10 + 1, none⟩ = some (.int .i64 l[k].uid) ∧ w'.cell? ⟨b, o + k * 10 + 2, none⟩ = some (.int .i64 l[k].gid) ∧ w'.cell? ⟨b, o + k * 10 + 3, none⟩ = some (.int .i64 l[k].dir) ∧
    w'.cell? ⟨b, o + k * 10 + 4, none⟩ = some (.int .i64 l[k].no) ∧ w'.cell? ⟨b, o + k * 10 + 5, none⟩ = some (.int .i64 l[k].n) ∧ w'.cell? ⟨b, o + k * 10 + 6, none⟩ = some (.string (bs l[k].name)) ∧ w'.cell? ⟨b, o + k * 10 + 7, none⟩ = some (.string (bs l[k].text)) ∧ w'.cell? ⟨b, o + k * 10 + 8, none⟩ = some (.int .i64 l[k].to_) ∧ w'.cell? ⟨b, o + k * 10 + 9, none⟩ = some (.string (bs l[k].as_)) := by
  rcases h.ext hE with h0 | ⟨b, o, hA, hb, hc⟩
  · subst h0; simp at hk
  · exact ⟨b, o, hA, hb, hc k hk⟩
def shortA (x : ActD) : Prop := x.name.length ≤ 300 ∧ x.as_.length ≤ 300 ∧ x.text.length ≤ 2000
def FewA (l : List ActD) : Prop := (∀ x ∈ l, shortA x) ∧ l.length ≤ 30
def FewAR (w : World) (l : List ActD) (e : Ending) (w' : World) : Prop := w = w' ∧ ((FewA l ∧ e = .returned (.bool true)) ∨ (¬ FewA l ∧ e = .returned (.bool false)))
/-- law14's Few is its few. -/
theorem few14_any (A : Option Addr) (l : List ItemD) (cap : Nat) (w : World) (h : ItemsAt w A l) (hlen : l.length ≤ 9223372036854775807) : Calls Try.prog 7 #[.slice A l.length cap] w (FewR w l) := by
  go_enter Try.func7, Try.ntmps7
  go_wp2_with fail
  refine (few_any A l cap w h hlen).mono ?_
  rintro e w1 ⟨rfl, ⟨hf, rfl⟩ | ⟨hf, rfl⟩⟩
  · go_wp2_with fail
    go_ret
    exact ⟨rfl, .inl ⟨hf, rfl⟩⟩
  · go_wp2_with fail
    go_ret
    exact ⟨rfl, .inr ⟨hf, rfl⟩⟩
end Go.Proofs.Ytjblimclakfhfaa

namespace Go.Proofs.Ytjblimclakfhfaa
open Go.ChangeShapes Go.WideShapes Go.ChangeAt Go.RowKit

section
variable {H : Type} {enc : TypeId × Value → H} {w : World} {base : Nat} {spare : Nat → Bool} {held : Bool}
theorem opnInt : Try.prog.cellsOf 3 = 1 := by kernel_rfl
theorem opnStr : Try.prog.cellsOf 9 = 1 := by kernel_rfl
theorem opnCred_size : Try.prog.cellsOf 24 = 2 := by kernel_rfl
set_option maxRecDepth 100000 in
theorem Cred_cells {n : Nat} {cs : List Value} {x : DataW H × List MemPlace} (h : DataW.trod enc Try.prog w base spare held n 24 cs = some x) : ∃ v : (Int × Int), cs = [.int .i64 v.1, .int .i64 v.2] := by
  obtain ⟨xs, m, _, _, hl, hxl, hf⟩ := DataW.trod_struct Try.underlying24 h
  rw [opnCred_size] at hl
  match cs, hl with
  | [a0, a1], _ =>
    match xs, hxl with
    | [y0, y1], _ =>
      have f0 : DataW.trod enc Try.prog w base spare held m 3 (List.take (Try.prog.cellsOf 3) (List.drop 0 [a0, a1])) = some y0 := hf 0 _ rfl
      rw [opnInt] at f0
      obtain ⟨k0, h0, _, _⟩ := DataW.trod_int Try.underlying3 f0
      have e0 : a0 = .int .i64 k0 := by simpa using h0
      have f1 : DataW.trod enc Try.prog w base spare held m 3 (List.take (Try.prog.cellsOf 3) (List.drop 1 [a0, a1])) = some y1 := hf 1 _ rfl
      rw [opnInt] at f1
      obtain ⟨k1, h1, _, _⟩ := DataW.trod_int Try.underlying3 f1
      have e1 : a1 = .int .i64 k1 := by simpa using h1
      exact ⟨⟨k0, k1⟩, by rw [e0, e1]⟩
set_option maxRecDepth 100000 in
theorem open_Cred {r : Reach} {b0 : Nat} {v : Value} {d : DataW H} {p : List MemPlace} (hv : Value.okWide Try.prog w r b0 24 v) (h : DataW.Trod enc Try.prog w base spare held 24 v d p) :
    ∃ x : (Int × Int), v = .agg #[.int .i64 x.1, .int .i64 x.2] := by
  obtain ⟨cs, rfl, hsz⟩ := okWide_struct Try.underlying24 hv
  obtain ⟨fuel, hf⟩ := h
  obtain ⟨x, hx⟩ := Cred_cells hf
  have hcs : cs.toList = [.int .i64 x.1, .int .i64 x.2] := hx
  exact ⟨x, by rw [show cs = #[.int .i64 x.1, .int .i64 x.2] from Array.toList_inj.1 hcs]⟩
theorem opnItem_size : Try.prog.cellsOf 84 = 8 := by kernel_rfl
set_option maxRecDepth 100000 in
theorem Item_cells {n : Nat} {cs : List Value} {x : DataW H × List MemPlace} (h : DataW.trod enc Try.prog w base spare held n 84 cs = some x) : ∃ v : ItemD, cs = [.int .i64 v.dir, .string (bs v.name), .int .i64 v.kind, .int .i64 v.mode, .int .i64 v.uid, .int .i64 v.gid, .string (bs v.data), .int .i64 v.n] := by
  obtain ⟨xs, m, _, _, hl, hxl, hf⟩ := DataW.trod_struct Try.underlying84 h
  rw [opnItem_size] at hl
  match cs, hl with
  | [a0, a1, a2, a3, a4, a5, a6, a7], _ =>
    match xs, hxl with
    | [y0, y1, y2, y3, y4, y5, y6, y7], _ =>
      have f0 : DataW.trod enc Try.prog w base spare held m 3 (List.take (Try.prog.cellsOf 3) (List.drop 0 [a0, a1, a2, a3, a4, a5, a6, a7])) = some y0 := hf 0 _ rfl
      rw [opnInt] at f0
      obtain ⟨k0, h0, _, _⟩ := DataW.trod_int Try.underlying3 f0
      have e0 : a0 = .int .i64 k0 := by simpa using h0
      have f1 : DataW.trod enc Try.prog w base spare held m 9 (List.take (Try.prog.cellsOf 9) (List.drop 1 [a0, a1, a2, a3, a4, a5, a6, a7])) = some y1 := hf 1 _ rfl
      rw [opnStr] at f1
      obtain ⟨s1, h1, _, _⟩ := DataW.trod_string Try.underlying9 f1
      have e1 : a1 = .string s1 := by simpa using h1
      have f2 : DataW.trod enc Try.prog w base spare held m 3 (List.take (Try.prog.cellsOf 3) (List.drop 2 [a0, a1, a2, a3, a4, a5, a6, a7])) = some y2 := hf 2 _ rfl
      rw [opnInt] at f2
      obtain ⟨k2, h2, _, _⟩ := DataW.trod_int Try.underlying3 f2
      have e2 : a2 = .int .i64 k2 := by simpa using h2
      have f3 : DataW.trod enc Try.prog w base spare held m 3 (List.take (Try.prog.cellsOf 3) (List.drop 3 [a0, a1, a2, a3, a4, a5, a6, a7])) = some y3 := hf 3 _ rfl
      rw [opnInt] at f3
      obtain ⟨k3, h3, _, _⟩ := DataW.trod_int Try.underlying3 f3
      have e3 : a3 = .int .i64 k3 := by simpa using h3
      have f4 : DataW.trod enc Try.prog w base spare held m 3 (List.take (Try.prog.cellsOf 3) (List.drop 4 [a0, a1, a2, a3, a4, a5, a6, a7])) = some y4 := hf 4 _ rfl
      rw [opnInt] at f4
      obtain ⟨k4, h4, _, _⟩ := DataW.trod_int Try.underlying3 f4
      have e4 : a4 = .int .i64 k4 := by simpa using h4
      have f5 : DataW.trod enc Try.prog w base spare held m 3 (List.take (Try.prog.cellsOf 3) (List.drop 5 [a0, a1, a2, a3, a4, a5, a6, a7])) = some y5 := hf 5 _ rfl
      rw [opnInt] at f5
      obtain ⟨k5, h5, _, _⟩ := DataW.trod_int Try.underlying3 f5
      have e5 : a5 = .int .i64 k5 := by simpa using h5
      have f6 : DataW.trod enc Try.prog w base spare held m 9 (List.take (Try.prog.cellsOf 9) (List.drop 6 [a0, a1, a2, a3, a4, a5, a6, a7])) = some y6 := hf 6 _ rfl
      rw [opnStr] at f6
      obtain ⟨s6, h6, _, _⟩ := DataW.trod_string Try.underlying9 f6
      have e6 : a6 = .string s6 := by simpa using h6
      have f7 : DataW.trod enc Try.prog w base spare held m 3 (List.take (Try.prog.cellsOf 3) (List.drop 7 [a0, a1, a2, a3, a4, a5, a6, a7])) = some y7 := hf 7 _ rfl
      rw [opnInt] at f7
      obtain ⟨k7, h7, _, _⟩ := DataW.trod_int Try.underlying3 f7
      have e7 : a7 = .int .i64 k7 := by simpa using h7
      exact ⟨⟨k0, s1.data.toList, k2, k3, k4, k5, s6.data.toList, k7⟩, by rw [e0, e1, e2, e3, e4, e5, e6, e7]; simp only [bs_self]⟩
set_option maxRecDepth 100000 in
theorem open_Items {r : Reach} {b0 : Nat} {v : Value} {d : DataW H} {p : List MemPlace} (hv : Value.okWide Try.prog w r b0 22 v) (h : DataW.Trod enc Try.prog w base spare held 22 v d p) :
    ∃ (A : Option Addr) (l : List ItemD) (cap : Nat), v = .slice A l.length cap ∧ ItemsAt w A l ∧ (A = none → cap = 0) ∧ l.length ≤ cap ∧ cap ≤ maxLen := by
  obtain ⟨a, n, c, rfl⟩ := okWide_slice Try.underlying22 hv
  obtain ⟨fuel, hf⟩ := h
  rcases Go.Deep.open_slice Try.underlying22 hf with ⟨hcs, _⟩ | ⟨ad, len, cap, m, k, D, Pl, hcs, _, hl, hm, hmm, _, hi⟩
  · simp [Value.cells] at hcs
    obtain ⟨rfl, rfl, rfl⟩ := hcs
    exact ⟨none, [], 0, rfl, .inl rfl, fun _ => rfl, Nat.le_refl _, by decide⟩
  · simp [Value.cells] at hcs
    obtain ⟨rfl, rfl, rfl⟩ := hcs
    have hmn : n ≤ m := by rw [hmm]; split <;> omega
    obtain ⟨l, hll, hlp⟩ := list_of (α := ItemD) n (fun i x => w.cell? (ad.add (i * 8)) = some (.int .i64 x.dir) ∧ w.cell? ((ad.add (i * 8)).add 1) = some (.string (bs x.name)) ∧ w.cell? ((ad.add (i * 8)).add 2) = some (.int .i64 x.kind) ∧ w.cell? ((ad.add (i * 8)).add 3) = some (.int .i64 x.mode) ∧ w.cell? ((ad.add (i * 8)).add 4) = some (.int .i64 x.uid) ∧ w.cell? ((ad.add (i * 8)).add 5) = some (.int .i64 x.gid) ∧ w.cell? ((ad.add (i * 8)).add 6) = some (.string (bs x.data)) ∧ w.cell? ((ad.add (i * 8)).add 7) = some (.int .i64 x.n)) (fun i hin => by
      obtain ⟨cs', hc, ht⟩ := hi i (by omega)
      rw [opnItem_size] at hc
      obtain ⟨x, rfl⟩ := Item_cells ht
      obtain ⟨_, _, hat⟩ := World.cells?_some hc
      exact ⟨x, by simpa [Addr.add] using hat 0 (by simp), by simpa using hat 1 (by simp), by simpa using hat 2 (by simp), by simpa using hat 3 (by simp), by simpa using hat 4 (by simp), by simpa using hat 5 (by simp), by simpa using hat 6 (by simp), by simpa using hat 7 (by simp)⟩)
    refine ⟨some ad, l, c, by rw [hll], ?_, (fun h => by cases h), by omega, hm⟩
    by_cases h0 : l = []
    · exact .inl h0
    · have hpos : 0 < l.length := List.length_pos_iff.2 h0
      obtain ⟨b, off, spot⟩ := ad
      have hspot : spot = none := by simpa [Addr.add] using World.cell?_spot (hlp 0 hpos).1
      subst hspot
      have hbl : b < w.heap.size := by
        have := (hlp 0 hpos).1
        rcases Nat.lt_or_ge b w.heap.size with h' | h'
        · exact h'
        · simp [Addr.add, World.cell?, Array.getElem?_eq_none h'] at this
      refine .inr ⟨b, off, rfl, hbl, fun i hi' => ?_⟩
      obtain ⟨q0, q1, q2, q3, q4, q5, q6, q7⟩ := hlp i hi'
      simp only [add_plain] at q0 q1 q2 q3 q4 q5 q6 q7
      exact ⟨q0, q1, q2, q3, q4, q5, q6, q7⟩
theorem opnAct_size : Try.prog.cellsOf 62 = 10 := by kernel_rfl
set_option maxRecDepth 100000 in
theorem Act_cells {n : Nat} {cs : List Value} {x : DataW H × List MemPlace} (h : DataW.trod enc Try.prog w base spare held n 62 cs = some x) : ∃ v : ActD, cs = [.int .i64 v.kind, .int .i64 v.uid, .int .i64 v.gid, .int .i64 v.dir, .int .i64 v.no, .int .i64 v.n, .string (bs v.name), .string (bs v.text), .int .i64 v.to_, .string (bs v.as_)] := by
  obtain ⟨xs, m, _, _, hl, hxl, hf⟩ := DataW.trod_struct Try.underlying62 h
  rw [opnAct_size] at hl
  match cs, hl with
  | [a0, a1, a2, a3, a4, a5, a6, a7, a8, a9], _ =>
    match xs, hxl with
    | [y0, y1, y2, y3, y4, y5, y6, y7, y8], _ =>
      have f0 : DataW.trod enc Try.prog w base spare held m 3 (List.take (Try.prog.cellsOf 3) (List.drop 0 [a0, a1, a2, a3, a4, a5, a6, a7, a8, a9])) = some y0 := hf 0 _ rfl
      rw [opnInt] at f0
      obtain ⟨k0, h0, _, _⟩ := DataW.trod_int Try.underlying3 f0
      have e0 : a0 = .int .i64 k0 := by simpa using h0
      have f1 : DataW.trod enc Try.prog w base spare held m 24 (List.take (Try.prog.cellsOf 24) (List.drop 1 [a0, a1, a2, a3, a4, a5, a6, a7, a8, a9])) = some y1 := hf 1 _ rfl
      rw [opnCred_size] at f1
      obtain ⟨⟨u1, g1⟩, h1⟩ := Cred_cells f1
      have e1a : a1 = .int .i64 u1 := by simp at h1; exact h1.1
      have e1b : a2 = .int .i64 g1 := by simp at h1; exact h1.2
      have f2 : DataW.trod enc Try.prog w base spare held m 3 (List.take (Try.prog.cellsOf 3) (List.drop 3 [a0, a1, a2, a3, a4, a5, a6, a7, a8, a9])) = some y2 := hf 2 _ rfl
      rw [opnInt] at f2
      obtain ⟨k2, h2, _, _⟩ := DataW.trod_int Try.underlying3 f2
      have e2 : a3 = .int .i64 k2 := by simpa using h2
      have f3 : DataW.trod enc Try.prog w base spare held m 3 (List.take (Try.prog.cellsOf 3) (List.drop 4 [a0, a1, a2, a3, a4, a5, a6, a7, a8, a9])) = some y3 := hf 3 _ rfl
      rw [opnInt] at f3
      obtain ⟨k3, h3, _, _⟩ := DataW.trod_int Try.underlying3 f3
      have e3 : a4 = .int .i64 k3 := by simpa using h3
      have f4 : DataW.trod enc Try.prog w base spare held m 3 (List.take (Try.prog.cellsOf 3) (List.drop 5 [a0, a1, a2, a3, a4, a5, a6, a7, a8, a9])) = some y4 := hf 4 _ rfl
      rw [opnInt] at f4
      obtain ⟨k4, h4, _, _⟩ := DataW.trod_int Try.underlying3 f4
      have e4 : a5 = .int .i64 k4 := by simpa using h4
      have f5 : DataW.trod enc Try.prog w base spare held m 9 (List.take (Try.prog.cellsOf 9) (List.drop 6 [a0, a1, a2, a3, a4, a5, a6, a7, a8, a9])) = some y5 := hf 5 _ rfl
      rw [opnStr] at f5
      obtain ⟨s5, h5, _, _⟩ := DataW.trod_string Try.underlying9 f5
      have e5 : a6 = .string s5 := by simpa using h5
      have f6 : DataW.trod enc Try.prog w base spare held m 9 (List.take (Try.prog.cellsOf 9) (List.drop 7 [a0, a1, a2, a3, a4, a5, a6, a7, a8, a9])) = some y6 := hf 6 _ rfl
      rw [opnStr] at f6
      obtain ⟨s6, h6, _, _⟩ := DataW.trod_string Try.underlying9 f6
      have e6 : a7 = .string s6 := by simpa using h6
      have f7 : DataW.trod enc Try.prog w base spare held m 3 (List.take (Try.prog.cellsOf 3) (List.drop 8 [a0, a1, a2, a3, a4, a5, a6, a7, a8, a9])) = some y7 := hf 7 _ rfl
      rw [opnInt] at f7
      obtain ⟨k7, h7, _, _⟩ := DataW.trod_int Try.underlying3 f7
      have e7 : a8 = .int .i64 k7 := by simpa using h7
      have f8 : DataW.trod enc Try.prog w base spare held m 9 (List.take (Try.prog.cellsOf 9) (List.drop 9 [a0, a1, a2, a3, a4, a5, a6, a7, a8, a9])) = some y8 := hf 8 _ rfl
      rw [opnStr] at f8
      obtain ⟨s8, h8, _, _⟩ := DataW.trod_string Try.underlying9 f8
      have e8 : a9 = .string s8 := by simpa using h8
      exact ⟨⟨k0, u1, g1, k2, k3, k4, s5.data.toList, s6.data.toList, k7, s8.data.toList⟩, by rw [e0, e1a, e1b, e2, e3, e4, e5, e6, e7, e8]; simp only [bs_self]⟩
set_option maxRecDepth 100000 in
theorem open_Act {r : Reach} {b0 : Nat} {v : Value} {d : DataW H} {p : List MemPlace} (hv : Value.okWide Try.prog w r b0 62 v) (h : DataW.Trod enc Try.prog w base spare held 62 v d p) :
    ∃ x : ActD, v = .agg #[.int .i64 x.kind, .int .i64 x.uid, .int .i64 x.gid, .int .i64 x.dir, .int .i64 x.no, .int .i64 x.n, .string (bs x.name), .string (bs x.text), .int .i64 x.to_, .string (bs x.as_)] := by
  obtain ⟨cs, rfl, hsz⟩ := okWide_struct Try.underlying62 hv
  obtain ⟨fuel, hf⟩ := h
  obtain ⟨x, hx⟩ := Act_cells hf
  have hcs : cs.toList = [.int .i64 x.kind, .int .i64 x.uid, .int .i64 x.gid, .int .i64 x.dir, .int .i64 x.no, .int .i64 x.n, .string (bs x.name), .string (bs x.text), .int .i64 x.to_, .string (bs x.as_)] := hx
  exact ⟨x, by rw [show cs = #[.int .i64 x.kind, .int .i64 x.uid, .int .i64 x.gid, .int .i64 x.dir, .int .i64 x.no, .int .i64 x.n, .string (bs x.name), .string (bs x.text), .int .i64 x.to_, .string (bs x.as_)] from Array.toList_inj.1 hcs]⟩
end
end Go.Proofs.Ytjblimclakfhfaa

namespace Go.Proofs.Ytjblimclakfhfaa
open Go.ChangeShapes Go.WideShapes Go.ChangeAt Go.RowKit

/-- seekF with a number of steps that suffices: it can be reckoned. -/
def seekG (S : TreeD) (cu cg : Int) (fol : Bool) : Nat → Int → List (List UInt8) → Nat → Bool → Option (FndD × Int)
  | 0, _, _, _, _ => none
  | _ + 1, at_, [], _, _ => some (⟨0, [], at_, true⟩, 0)
  | n + 1, at_, p :: l, h, m =>
    if stepE S cu cg at_ p ≠ 0 then some (fndZ, stepE S cu cg at_ p)
    else if p = [46, 46] then seekG S cu cg fol n (aboveF S at_) l h m
    else if isN S.nodes (stepN S at_ p) = false then (if l = [] then some (⟨at_, p, 0, m⟩, 0) else some (fndZ, 5))
    else if (getN S.nodes (stepN S at_ p)).kind = 3 ∧ (l ≠ [] ∨ m = true ∨ fol = true) then
      (if 8 < h + 1 then some (fndZ, 12) else if (getN S.nodes (stepN S at_ p)).data = [] then some (fndZ, 5)
       else seekG S cu cg fol n (if (getN S.nodes (stepN S at_ p)).data.head? = some 47 then 1 else at_) (partsN (getN S.nodes (stepN S at_ p)).data ++ l) (h + 1) (m || (l.isEmpty && slashB (getN S.nodes (stepN S at_ p)).data)))
    else if (getN S.nodes (stepN S at_ p)).kind ≠ 1 ∧ (l ≠ [] ∨ m = true) then some (fndZ, 9)
    else if l = [] then some (⟨at_, p, stepN S at_ p, m⟩, 0)
    else seekG S cu cg fol n (stepN S at_ p) l h m
theorem seekG_eq {S : TreeD} {cu cg : Int} {fol : Bool} {r : FndD × Int} : ∀ (n : Nat) (at_ : Int) (l : List (List UInt8)) (h : Nat) (m : Bool), seekG S cu cg fol n at_ l h m = some r → seekF S cu cg fol at_ l h m = r
  | 0, _, _, _, _, k => by cases k
  | n + 1, at_, [], h, m, k => by rw [seek_nil]; unfold seekG at k; injection k
  | n + 1, at_, p :: l, h, m, k => by
    unfold seekG at k
    rw [seekF]
    split at k
    · rename_i c1; rw [if_pos c1]; injection k
    · rename_i c1
      rw [if_neg c1]
      split at k
      · rename_i c2; rw [if_pos c2]; exact seekG_eq n _ _ _ _ k
      · rename_i c2
        rw [if_neg c2]
        split at k
        · rename_i c3
          rw [if_pos c3]
          split at k
          · rename_i c4; rw [if_pos c4]; injection k
          · rename_i c4; rw [if_neg c4]; injection k
        · rename_i c3
          rw [if_neg c3]
          split at k
          · rename_i c4
            rw [if_pos c4]
            split at k
            · rename_i c5; rw [dif_pos c5]; injection k
            · rename_i c5
              rw [dif_neg c5]
              split at k
              · rename_i c6; rw [if_pos c6]; injection k
              · rename_i c6; rw [if_neg c6]; exact seekG_eq n _ _ _ _ k
          · rename_i c4
            rw [if_neg c4]
            split at k
            · rename_i c5; rw [if_pos c5]; injection k
            · rename_i c5
              rw [if_neg c5]
              split at k
              · rename_i c6; rw [if_pos c6]; injection k
              · rename_i c6; rw [if_neg c6]; exact seekG_eq n _ _ _ _ k
theorem path_is {S : TreeD} {cu cg : Int} {p : List UInt8} {fol : Bool} {r : FndD × Int} (n : Nat) (h0 : pathN p = 0) (h : seekG S cu cg fol n 1 (partsN p) 0 (slashB p) = some r) : pathF S cu cg p fol = r := by
  unfold pathF; rw [if_pos h0]; exact seekG_eq n _ _ _ _ h
theorem items_three {w : World} {b : Nat} {t : TypeId} (it jt kt : ItemD) (h : Has w b (.cells #[.int .i64 it.dir, .string (bs it.name), .int .i64 it.kind, .int .i64 it.mode, .int .i64 it.uid, .int .i64 it.gid, .string (bs it.data), .int .i64 it.n, .int .i64 jt.dir, .string (bs jt.name), .int .i64 jt.kind, .int .i64 jt.mode, .int .i64 jt.uid, .int .i64 jt.gid, .string (bs jt.data), .int .i64 jt.n, .int .i64 kt.dir, .string (bs kt.name), .int .i64 kt.kind, .int .i64 kt.mode, .int .i64 kt.uid, .int .i64 kt.gid, .string (bs kt.data), .int .i64 kt.n] t)) : ItemsAt w (some ⟨b, 0, none⟩) [it, jt, kt] := by
  refine .inr ⟨b, 0, rfl, h.lt, fun k hk => ?_⟩
  have : k = 0 ∨ k = 1 ∨ k = 2 := by simp at hk; omega
  rcases this with rfl | rfl | rfl
  · exact ⟨h.cell 0, h.cell 1, h.cell 2, h.cell 3, h.cell 4, h.cell 5, h.cell 6, h.cell 7⟩
  · exact ⟨h.cell 8, h.cell 9, h.cell 10, h.cell 11, h.cell 12, h.cell 13, h.cell 14, h.cell 15⟩
  · exact ⟨h.cell 16, h.cell 17, h.cell 18, h.cell 19, h.cell 20, h.cell 21, h.cell 22, h.cell 23⟩
def ex15A : ItemD := ⟨0, [100], 1, 448, 0, 0, [], 0⟩
def ex15B : ItemD := ⟨0, [108], 3, 0, 0, 0, [100, 47], 0⟩
def ex15C : ItemD := ⟨1, [120], 2, 0, 0, 0, [], 0⟩
theorem ex15_few : FewI [ex15A, ex15B, ex15C] := by
  refine ⟨?_, by decide⟩
  intro x hx
  simp only [List.mem_cons, List.not_mem_nil, or_false] at hx
  rcases hx with rfl | rfl | rfl
  · exact ⟨by decide, by decide⟩
  · exact ⟨by decide, by decide⟩
  · exact ⟨by decide, by decide⟩
def b15 : TreeD := growAll (firstT 99 99) [ex15A, ex15B, ex15C]
theorem b15_tre : Tre 40 b15 := tre_growAll (by decide) ex15_few
theorem b15_a : pathF b15 0 0 [47, 108] false = (⟨1, [108], 3, false⟩, 0) := path_is 20 (by kernel_rfl) (by kernel_rfl)
theorem b15_b : pathF b15 0 0 [47, 108] true = (⟨1, [100], 2, true⟩, 0) := path_is 20 (by kernel_rfl) (by kernel_rfl)
theorem b15_c : pathF b15 0 0 [47, 108, 47, 46, 46, 47, 100, 47, 121] true = (⟨2, [121], 0, false⟩, 0) := path_is 20 (by kernel_rfl) (by kernel_rfl)
theorem b15_d : pathF b15 5 0 [47, 108, 47, 120] true = (fndZ, 6) := path_is 20 (by kernel_rfl) (by kernel_rfl)
set_option maxRecDepth 100000 in
set_option maxHeartbeats 8000000 in
theorem awake15 (w : World) : Calls Try.prog 8 #[] w (Ret w (.bool true)) := by
  have q0 := b15_tre
  have O0 := Lib.hid q0
  clear q0
  go_enter Try.func8, Try.ntmps8
  go_wp2_with fail
  have I1 := Has.new w (.cells #[.int .i64 ex15A.dir, .string (bs ex15A.name), .int .i64 ex15A.kind, .int .i64 ex15A.mode, .int .i64 ex15A.uid, .int .i64 ex15A.gid, .string (bs ex15A.data), .int .i64 ex15A.n, .int .i64 ex15B.dir, .string (bs ex15B.name), .int .i64 ex15B.kind, .int .i64 ex15B.mode, .int .i64 ex15B.uid, .int .i64 ex15B.gid, .string (bs ex15B.data), .int .i64 ex15B.n, .int .i64 ex15C.dir, .string (bs ex15C.name), .int .i64 ex15C.kind, .int .i64 ex15C.mode, .int .i64 ex15C.uid, .int .i64 ex15C.gid, .string (bs ex15C.data), .int .i64 ex15C.n] 84)
  refine (growAll_any 99 99 (some ⟨w.heap.size, 0, none⟩) [ex15A, ex15B, ex15C] 3 _ (by decide) ex15_few (items_three ex15A ex15B ex15C I1)).mono ?_
  rintro e w1 ⟨g, f, rfl, ⟨K1, F1⟩, E1⟩
  have X1 : Ext w w1 := ((Ext.refl _).alloc _).trans E1
  have K1 : WAt w1 _ g b15 := K1
  clear I1 F1 E1
  have HK1 := Lib.hid K1
  clear K1
  go_wp2_with fail
  refine (ppath15_any _ g b15 0 0 [47, 108] false _ HK1.out O0.out (by decide) (by decide)).mono ?_
  rw [b15_a]
  rintro e w2 ⟨rfl, E2⟩
  go_wp2_with fail
  refine (ppath15_any _ g b15 0 0 [47, 108] true _ (HK1.out.ext (E2.alloc _)) O0.out (by decide) (by decide)).mono ?_
  rw [b15_b]
  rintro e w3 ⟨rfl, E3⟩
  have E13 := (E2.alloc _).trans E3
  have A3 := (Has.new w2 (.cells #[.int .i64 1, .string (bs [108]), .int .i64 3, .bool false] 33)).ext E3
  go_wp2_with fail
  refine (ppath15_any _ g b15 0 0 [47, 108, 47, 46, 46, 47, 100, 47, 121] true _ (HK1.out.ext (E13.alloc _)) O0.out (by decide) (by decide)).mono ?_
  rw [b15_c]
  rintro e w4 ⟨rfl, E4⟩
  have E14 := (E13.alloc _).trans E4
  have A4 := (A3.alloc (.cells #[.int .i64 1, .string (bs [100]), .int .i64 2, .bool true] 33)).ext E4
  have B4 := (Has.new w3 (.cells #[.int .i64 1, .string (bs [100]), .int .i64 2, .bool true] 33)).ext E4
  go_wp2_with fail
  refine (ppath15_any _ g b15 5 0 [47, 108, 47, 120] true _ (HK1.out.ext (E14.alloc _)) O0.out (by decide) (by decide)).mono ?_
  rw [b15_d]
  rintro e w5 ⟨rfl, E5⟩
  have E15 := (E14.alloc (.cells #[.int .i64 2, .string (bs [121]), .int .i64 0, .bool false] 33)).trans E5
  have A5 := (A4.alloc (.cells #[.int .i64 2, .string (bs [121]), .int .i64 0, .bool false] 33)).ext E5
  have B5 := (B4.alloc (.cells #[.int .i64 2, .string (bs [121]), .int .i64 0, .bool false] 33)).ext E5
  have C5 := (Has.new w4 (.cells #[.int .i64 2, .string (bs [121]), .int .i64 0, .bool false] 33)).ext E5
  obtain ⟨W6, hW6⟩ : ∃ W, W = w5.alloc (.cells #[.int .i64 fndZ.dir, .string (bs fndZ.name), .int .i64 fndZ.no, .bool fndZ.slash] 33) := ⟨_, rfl⟩
  have E56 : Ext w5 W6 := by rw [hW6]; exact (Ext.refl _).alloc _
  have A6 := A5.ext E56
  have B6 := B5.ext E56
  have C6 := C5.ext E56
  obtain ⟨a1, ha1⟩ : ∃ a, a = w2.heap.size := ⟨_, rfl⟩
  obtain ⟨a2, ha2⟩ : ∃ a, a = w3.heap.size := ⟨_, rfl⟩
  obtain ⟨a3, ha3⟩ : ∃ a, a = w4.heap.size := ⟨_, rfl⟩
  rw [← ha1] at A6
  rw [← ha2] at B6
  rw [← ha3] at C6
  have HE := Lib.hid (X1.trans (E15.trans E56))
  clear A3 A4 B4 A5 B5 C5 E13 E14 E15 E56 E2 E3 E4 E5
  go_upto_region 8 with fail
  rw [show w5.alloc _ = W6 from hW6.symm, ← ha1, ← ha2, ← ha3]
  clear hW6 ha1 ha2 ha3
  have p0 := A6.cell 0
  have p1 : W6.cell? ⟨a1, 1, none⟩ = some (.string ⟨#[108]⟩) := A6.cell 1
  have p2 := A6.cell 2
  have p3 := A6.cell 3
  have pz := A6.lt
  have r0 := B6.cell 0
  have r1 : W6.cell? ⟨a2, 1, none⟩ = some (.string ⟨#[100]⟩) := B6.cell 1
  have r2 := B6.cell 2
  have r3 := B6.cell 3
  have rz := B6.lt
  have s0 := C6.cell 0
  have s1 : W6.cell? ⟨a3, 1, none⟩ = some (.string ⟨#[121]⟩) := C6.cell 1
  have s2 := C6.cell 2
  have s3 := C6.cell 3
  have sz := C6.lt
  clear A6 B6 C6
  go_wp2_with fail
  go_ret
  exact Ret.mk rfl HE.out
end Go.Proofs.Ytjblimclakfhfaa

namespace Go.Proofs.Ytjblimclakfhfaa
open Go.ChangeShapes Go.WideShapes Go.ChangeAt Go.RowKit

theorem wp_region_fbox {id : Nat} {Q : Exit → Act → World → Prop} {a : Act} {w : World} {l : List Oper} (V : World) (m s : Nat) (d t : Tmp) (x : FndD) (om os : Oper)
    (hB : Region.lexB .any l.toArray = true) (hc : boxB l m s d t = true) (hom : l[m]? = some om) (hos : l[s]? = some os) (ho1 : om.op = .alloc 33) (ho2 : os.op = .store 33 (.tmp d) (.tmp t)) (htd : d < a.tmps.size)
    (hV : Ext V w.drew)
    (h : wpQuietR Try.prog l.toArray V (fun a1 => wpQuietR Try.prog l.toArray V (fun a2 => a2.eval (.tmp t) = .agg (fndC x).toArray ∧ wpQuietR Try.prog l.toArray V (fun a3 => ∀ w' bx, Ext V w' → V.heap.size ≤ bx → Has w' bx (.cells (fndC x).toArray 33) → Q .normal (a3.put (some d) (.pointer (some ⟨bx, 0, none⟩))) w') (l.drop (s + 1)) a2) ((l.take s).drop (m + 1)) a1) (l.take m) a) :
    (Code.region id l.toArray true).wp Try.prog Q a w := by
  refine wp_region_box V m s d t (.agg (fndC x).toArray) (.cells (fndC fndZ).toArray 33) _ om os (by kernel_rfl) hB hc hom hos ?_ ?_ hV htd h
  · intro a w
    simp [execOp, ho1, go_sem]
    rfl
  · intro a w bx hsz hb he
    have hd : (a.put (some d) (.pointer (some ⟨bx, 0, none⟩))).eval (.tmp d) = .pointer (some ⟨bx, 0, none⟩) := by
      simp [Act.put, Act.eval, hsz]
    have hb' : Has w bx (.cells (fndC fndZ).toArray 33) := hb
    refine ⟨_, ?_, hb'.putFnd x, only_setCells (fndC x) 0 w⟩
    simp only [execOp, ho2, hd, he, run_storeAt_mid w bx 0 33 (fndC x).toArray hb'.there infoFound15 (all_oneCell_toArray (cs := fndC x) (fndC_one x)), Sem.run_bind, Sem.run_pure, Result.andThen_ok]
set_option maxRecDepth 100000 in
set_option maxHeartbeats 16000000 in
theorem seekTells_any (A : Option Addr) (l : List ItemD) (cap : Nat) (cu cg : Int) (Ap : Option Addr) (ps : List Txt) (cp : Nat) (w : World) (hA : ItemsAt w A l) (hlen : l.length ≤ 9223372036854775807) (hP : TxtAt w Ap ps) (hpl : ps.length ≤ 9223372036854775807) :
    Calls Try.prog 3 #[.slice A l.length cap, .agg #[.int .i64 cu, .int .i64 cg], .slice Ap ps.length cp] w (Ret w (.bool true)) := by
  obtain ⟨W1, hW1⟩ : ∃ W, W = w.alloc (.cells #[.int .i64 cu, .int .i64 cg] 24) := ⟨_, rfl⟩
  have E1 : Ext w W1 := by rw [hW1]; exact (Ext.refl _).alloc _
  have B1 : Has W1 w.heap.size (.cells #[.int .i64 cu, .int .i64 cg] 24) := by rw [hW1]; exact Has.new _ _
  obtain ⟨m, hm⟩ : ∃ m, m = l.length := ⟨_, rfl⟩
  have hlen' := hlen
  rw [← hm] at hlen' ⊢
  have HM := Lib.hid hm
  have KF : Hid (Calls Try.prog 7 #[.slice A m cap] W1 (FewR W1 l)) := by show Calls _ _ _ _ _; rw [HM.out]; exact few14_any A l cap W1 (hA.ext E1) hlen
  clear hm
  obtain ⟨n, hn⟩ : ∃ n, n = ps.length := ⟨_, rfl⟩
  have HN := Lib.hid hn
  rw [← hn] at hpl ⊢
  have HP1 := Lib.hid (hP.ext E1)
  clear hn hP
  go_enter Try.func3, Try.ntmps3
  go_upto_region 1 with fail
  rw [← hW1]
  clear hW1
  go_wp2_with fail
  refine KF.out.mono ?_
  rintro e w2 ⟨rfl, ⟨hf, rfl⟩ | ⟨hf, rfl⟩⟩
  case inr =>
    clear hf
    go_wp2_with fail
    refine (awake15 _).mono ?_
    rintro e wz ⟨rfl, bz⟩
    go_wp2_with fail
    go_ret
    exact Ret.mk rfl (E1.trans bz)
  by_cases hnm : 12 < (n : Int)
  case pos =>
    clear hf
    go_wp2_with fail
    refine (awake15 _).mono ?_
    rintro e wz ⟨rfl, bz⟩
    go_wp2_with fail
    go_ret
    exact Ret.mk rfl (E1.trans bz)
  have HF := Lib.hid hf
  have HX1 := Lib.hid E1
  have HB1 := Lib.hid B1
  have hG0 := tre_growAll (b := 60000) (n := 60000) (by decide) HF.out
  have hga := good_all (good_first (b := 60000) (n := 60000) (by decide)) l
  have hl40 := HF.out.2
  have KG : Hid (Calls Try.prog 9 #[.int .i64 60000, .int .i64 60000, .slice A m cap] W1 (GrowAllR W1 60000 60000 l)) := by show Calls _ _ _ _ _; rw [HM.out]; exact growAll_any 60000 60000 A l cap W1 (by decide) HF.out (hA.ext E1)
  clear hf KF B1 E1
  go_wp2_with fail
  refine KG.out.mono ?_
  rintro e w3 ⟨g, f, rfl, ⟨K3, F3⟩, E3⟩
  obtain ⟨B, hB⟩ : ∃ B, B = W1.heap.size := ⟨_, rfl⟩
  rw [← hB] at K3 F3
  obtain ⟨S, hS⟩ : ∃ S, S = growAll (firstT 60000 60000) l := ⟨_, rfl⟩
  rw [← hS] at K3 F3
  have hSl : S.last ≤ 41 := by
    have h2 := hga.2
    rw [hS]
    rw [show growAll (rootT emptyT 0 60000 60000) l = growAll (firstT 60000 60000) l from rfl, show (rootT emptyT 0 60000 60000).last = 1 from rfl] at h2
    omega
  have hT0 : Tre 40 S := by rw [hS]; exact hG0
  have HT0 := Lib.hid hT0
  have HK3 := Lib.hid K3
  have HF3 := Lib.hid F3
  have HX3 := Lib.hid (HX1.out.trans E3)
  have HB3 := Lib.hid (HB1.out.ext E3)
  have HP3 := Lib.hid (HP1.out.ext E3)
  have KK : Hid (∀ u, Ext w3 u → WAt u B g S) := fun u h => HK3.out.ext h
  have KFF : Hid (∀ u, Ext w3 u → FAt u B f S x0) := fun u h => HF3.out.ext h
  have hLL : Hid (S.last ≤ 100000) := by show _ ≤ _; omega
  clear hS hga hG0 hl40 KG hB hT0 K3 F3 E3 hSl
  go_wp2_with fail
  go_loopw [10] (fun i wr => ∃ k : Nat, i = .int .i64 (k : Int) ∧ k ≤ n ∧ Ext w3 wr) (fun i _ => n - (intOf i).toNat)
  case atStart => exact ⟨0, rfl, Nat.zero_le _, Ext.refl _⟩
  case round =>
    obtain ⟨k, rfl, hk, hE⟩ := hrel
    by_cases hlt : (k : Int) < n
    case neg =>
      go_wp2_with fail
      refine (awake15 _).mono ?_
      rintro e wz ⟨rfl, bz⟩
      go_wp2_with fail
      go_ret
      exact Ret.mk rfl (HX3.out.trans (hE.trans bz))
    have hkl : k < ps.length := by have := HN.out; omega
    obtain ⟨bp, op, rfl, hbp, hcp⟩ := (HP3.out.ext hE).at_ (Ext.refl _) k hkl
    obtain ⟨p, hp⟩ : ∃ p, p = ps[k] := ⟨_, rfl⟩
    rw [← hp] at hcp
    have hsz : (bs p).size = p.length := bs_size p
    obtain ⟨P, hPP⟩ : ∃ P, P = bs p := ⟨_, rfl⟩
    have HPP := Lib.hid hPP
    rw [← hPP] at hcp hsz
    have w2w : IntKind.i64.wrap ((k : Int) + 1) = ((k + 1 : Nat) : Int) := by rw [IntWalk.i64_in _ (by omega)]; omega
    have k0 : (0 : Int) ≤ (k : Int) := Int.natCast_nonneg _
    have HE := Lib.hid hE
    clear hPP hp hE
    by_cases h6 : 600 < (P.size : Int)
    case pos =>
      go_wp2_with fail
      refine (awake15 _).mono ?_
      rintro e wz ⟨rfl, bz⟩
      go_wp2_with fail
      go_ret
      exact Ret.mk rfl (HX3.out.trans (HE.out.trans bz))
    have K1 : Hid (∀ (v : Bool) (u : World), Ext wr u → Calls Try.prog 10 #[.pointer (some ⟨g.bW, 0, none⟩), .agg #[.int .i64 cu, .int .i64 cg], .string P, .bool v] u (Ret u (.tuple #[.agg (fndC (pathF S cu cg p v).1).toArray, .int .i64 (pathF S cu cg p v).2]))) := by
      show ∀ v u, _
      intro v u hu
      rw [HPP.out]
      exact ppath15_any B g S cu cg p v u (KK.out u (HE.out.trans hu)) HT0.out (by decide) (by omega)
    have K2 : Hid (∀ (v : Bool) (u : World), Ext wr u → Calls Try.prog 11 #[.pointer (some ⟨f.bF, 0, none⟩), .agg #[.int .i64 cu, .int .i64 cg], .string P, .bool v] u (Ret u (.tuple #[.agg (fndC (pathF S cu cg p v).1).toArray, .int .i64 (pathF S cu cg p v).2]))) := by
      show ∀ v u, _
      intro v u hu
      rw [HPP.out]
      exact rpath15_any B f S x0 cu cg p v u (KFF.out u (HE.out.trans hu)) HT0.out (by decide) hLL.out (by omega)
    have BC := HB3.out.ext HE.out
    have x0' : ∀ u : Gr wr, u.w.cell? ⟨w.heap.size, 0, none⟩ = some (.int .i64 cu) := Gr.cell BC.lt (BC.cell 0)
    have x1' : ∀ u : Gr wr, u.w.cell? ⟨w.heap.size, 1, none⟩ = some (.int .i64 cg) := Gr.cell BC.lt (BC.cell 1)
    have x2' : ∀ u : Gr wr, u.w.cell? ⟨bp, op + k, none⟩ = some (.string P) := Gr.cell hbp hcp
    go_upto_region 11 with fail
    obtain ⟨fb, hfb⟩ : ∃ fb : Bool, fb = (((k : Int).tmod 2) == 1) := ⟨_, rfl⟩
    obtain ⟨R, hR⟩ : ∃ R, R = pathF S cu cg p fb := ⟨_, rfl⟩
    have K1b := Lib.hid (K1.out fb)
    have K2b := Lib.hid (K2.out fb)
    rw [← hR] at K1b K2b
    have tfb := hfb.symm
    have HR := Lib.hid hR
    clear hR hfb K1 K2
    refine wp_region_fbox wr 13 14 11 56 R.1 _ _ (by kernel_rfl) (by kernel_rfl) rfl rfl rfl rfl (by simp) ((Ext.refl _).drew) ?_
    simp only [List.take_succ_cons, List.take_zero, List.drop_succ_cons, List.drop_zero, List.drop_nil]
    repeat (refine wpQuietR_step (fun K hK => ?_)
            go_simp
            first
              | (refine hK _ ?_; clear hK K)
              | (apply Exists.intro
                 refine ⟨fun u => ?_, hK _ ?_⟩
                 first
                   | ((with_reducible refine (K1b.out _ u.h).mono ?_); rintro e w'' ⟨rfl, hx⟩; exact ⟨rfl, hx⟩)
                 clear hK K))
    refine wpQuietR_nil ?_
    refine wpQuietR_nil ⟨rfl, ?_⟩
    refine wpQuietR_step (fun K hK => ?_)
    go_simp
    refine hK _ ?_
    clear hK K
    refine wpQuietR_nil ?_
    intro w4 b11 E4 hb11 N4
    simp only [Act.put]
    have y0' : ∀ u : Gr w4, u.w.cell? ⟨w.heap.size, 0, none⟩ = some (.int .i64 cu) := Gr.cell (BC.ext E4).lt ((BC.ext E4).cell 0)
    have y1' : ∀ u : Gr w4, u.w.cell? ⟨w.heap.size, 1, none⟩ = some (.int .i64 cg) := Gr.cell (BC.ext E4).lt ((BC.ext E4).cell 1)
    have y2' : ∀ u : Gr w4, u.w.cell? ⟨bp, op + k, none⟩ = some (.string P) := Gr.cell (by have := E4.size; omega) ((E4.cell hbp).trans hcp)
    clear x0' x1' x2'
    go_upto_region 12 with fail
    refine wp_region_fbox w4 13 14 13 69 R.1 _ _ (by kernel_rfl) (by kernel_rfl) rfl rfl rfl rfl (by simp) ((Ext.refl _).drew) ?_
    simp only [List.take_succ_cons, List.take_zero, List.drop_succ_cons, List.drop_zero, List.drop_nil]
    repeat (refine wpQuietR_step (fun K hK => ?_)
            go_simp
            first
              | (refine hK _ ?_; clear hK K)
              | (apply Exists.intro
                 refine ⟨fun u => ?_, hK _ ?_⟩
                 first
                   | ((with_reducible refine (K2b.out _ (E4.trans u.h)).mono ?_); rintro e w'' ⟨rfl, hx⟩; exact ⟨rfl, hx⟩)
                 clear hK K))
    refine wpQuietR_nil ?_
    refine wpQuietR_nil ⟨rfl, ?_⟩
    refine wpQuietR_step (fun K hK => ?_)
    go_simp
    refine hK _ ?_
    clear hK K
    refine wpQuietR_nil ?_
    intro w5 b13 E5 hb13 N5
    simp only [Act.put]
    have M5 := N4.ext E5
    obtain ⟨rd, hrd⟩ : ∃ d, d = R.1 := ⟨_, rfl⟩
    obtain ⟨re, hre⟩ : ∃ e, e = R.2 := ⟨_, rfl⟩
    obtain ⟨rn, hrn⟩ : ∃ n, n = bs rd.name := ⟨_, rfl⟩
    rw [← hrd] at M5 N5
    rw [← hre]
    have m0 := M5.cell 0
    have m1 : w5.cell? ⟨b11, 1, none⟩ = some (.string rn) := by rw [hrn]; exact M5.cell 1
    have m2 := M5.cell 2
    have m3 := M5.cell 3
    have mz := M5.lt
    have o0 := N5.cell 0
    have o1 : w5.cell? ⟨b13, 1, none⟩ = some (.string rn) := by rw [hrn]; exact N5.cell 1
    have o2 := N5.cell 2
    have o3 := N5.cell 3
    have oz := N5.lt
    clear y0' y1' y2' hrd hre hrn tfb
    go_wp2_with fail
    go_roundw
    case rel => exact ⟨k + 1, rfl, by omega, (HE.out.trans E4).trans E5⟩
    case measure => simp [intOf]; omega
section
variable {H : Type} {enc : TypeId × Value → H} {w : World} {base : Nat} {spare : Nat → Bool} {held : Bool}
set_option maxRecDepth 100000 in
/-- A []string that came in: texts as they lie. -/
theorem open_txts {r : Reach} {b0 : Nat} {v : Value} {d : DataW H} {p : List MemPlace} (hv : Value.okWide Try.prog w r b0 25 v) (h : DataW.Trod enc Try.prog w base spare held 25 v d p) :
    ∃ (A : Option Addr) (L : List Txt) (cap : Nat), v = .slice A L.length cap ∧ TxtAt w A L ∧ (A = none → cap = 0) ∧ L.length ≤ cap ∧ cap ≤ maxLen := by
  obtain ⟨a, n, c, rfl⟩ := okWide_slice Try.underlying25 hv
  obtain ⟨fuel, hf⟩ := h
  rcases open_strings Try.underlying25 Try.underlying9 (by kernel_rfl) hf with ⟨hcs, hx⟩ | ⟨ad, len', cap', ss, hcs, _, hle, hm, hz, hx, hcell, _⟩
  · simp [Value.cells] at hcs
    obtain ⟨rfl, rfl, rfl⟩ := hcs
    exact ⟨none, [], 0, rfl, .inl rfl, fun _ => rfl, Nat.le_refl _, by decide⟩
  · simp [Value.cells] at hcs
    obtain ⟨rfl, rfl, rfl⟩ := hcs
    have hnl : n ≤ ss.length := by rw [hz]; split <;> omega
    have hlen : ((ss.take n).map (·.data.toList)).length = n := by rw [List.length_map, List.length_take]; omega
    refine ⟨some ad, (ss.take n).map (·.data.toList), c, by rw [hlen], ?_, (fun h => by cases h), by rw [hlen]; exact hle, hm⟩
    by_cases hn0 : n = 0
    · subst hn0; exact .inl (by simp)
    · obtain ⟨b, off, spot⟩ := ad
      have hspot : spot = none := by simpa [Addr.add] using World.cell?_spot (hcell 0 (by omega))
      subst hspot
      have hb : b < w.heap.size := by
        have h0 := hcell 0 (by omega)
        rcases Nat.lt_or_ge b w.heap.size with h' | h'
        · exact h'
        · simp [Addr.add, World.cell?, Array.getElem?_eq_none h'] at h0
      refine .inr ⟨b, off, rfl, hb, fun i hi => ?_⟩
      rw [hlen] at hi
      have h1 := hcell i (by omega)
      rw [Addr.add_lit] at h1
      rw [h1, List.getElem_map, List.getElem_take, bs_self, List.getD_eq_getElem?_getD, List.getElem?_eq_getElem (by omega)]
      rfl
end
set_option maxRecDepth 100000 in
theorem seekTells_walk {H : Type} {enc : TypeId × Value → H} (W : World) (base : Nat) (v0 v1 v2 : Value) (d0 d1 d2 : DataW H) (p0 p1 p2 : List MemPlace)
    (k0 : Value.okWide Try.prog W .any base 22 v0) (h0 : DataW.Trod enc Try.prog W 0 (fun _ => true) true 22 v0 d0 p0)
    (k1 : Value.okWide Try.prog W .any base 24 v1) (h1 : DataW.Trod enc Try.prog W 0 (fun _ => true) true 24 v1 d1 p1)
    (k2 : Value.okWide Try.prog W .any base 25 v2) (h2 : DataW.Trod enc Try.prog W 0 (fun _ => true) true 25 v2 d2 p2)
    : Calls Try.prog 3 #[v0, v1, v2] W (Ret W (.bool true)) := by
  obtain ⟨A, l, cap, rfl, hA, _, hl, hc⟩ := open_Items k0 h0
  obtain ⟨x, rfl⟩ := open_Cred k1 h1
  obtain ⟨A2, L, c2, rfl, hA2, _, hl2, hc2⟩ := open_txts k2 h2
  exact seekTells_any A l cap x.1 x.2 A2 L c2 W hA (by unfold maxLen at hc; omega) hA2 (by unfold maxLen at hc2; omega)
end Go.Proofs.Ytjblimclakfhfaa
