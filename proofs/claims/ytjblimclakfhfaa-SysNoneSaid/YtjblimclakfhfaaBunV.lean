/- The law's acts in memory; Few of them. | How the arguments of the laws on trees read: items, acts, somebody who asks. (Printed by gen_opn.py.) | The law SysNone, walked. -/
import Derived.Test.YtjblimclakfhfaaBunD
import Derived.Test.YtjblimclakfhfaaBunA
import Derived.Test.YtjblimclakfhfaaBunJ
namespace Go.Proofs.Ytjblimclakfhfaa
open Go.ChangeShapes Go.WideShapes Go.ChangeAt Go.RowKit

/-- A call that is asked for. -/
structure ActD where
  kind : Int
  uid : Int
  gid : Int
  dir : Int
  no : Int
  n : Int
  name : List UInt8
  text : List UInt8
  to_ : Int
  as_ : List UInt8
def ActsAt (w : World) (A : Option Addr) (l : List ActD) : Prop :=
  l = [] ∨ ∃ b o, A = some ⟨b, o, none⟩ ∧ b < w.heap.size ∧ ∀ k, (h : k < l.length) → w.cell? ⟨b, o + k * 10, none⟩ = some (.int .i64 l[k].kind) ∧ w.cell? ⟨b, o + k * 10 + 1, none⟩ = some (.int .i64 l[k].uid) ∧ w.cell? ⟨b, o + k * 10 + 2, none⟩ = some (.int .i64 l[k].gid) ∧ w.cell? ⟨b, o + k * 10 + 3, none⟩ = some (.int .i64 l[k].dir) ∧
    w.cell? ⟨b, o + k * 10 + 4, none⟩ = some (.int .i64 l[k].no) ∧ w.cell? ⟨b, o + k * 10 + 5, none⟩ = some (.int .i64 l[k].n) ∧ w.cell? ⟨b, o + k * 10 + 6, none⟩ = some (.string (bs l[k].name)) ∧ w.cell? ⟨b, o + k * 10 + 7, none⟩ = some (.string (bs l[k].text)) ∧ w.cell? ⟨b, o + k * 10 + 8, none⟩ = some (.int .i64 l[k].to_) ∧ w.cell? ⟨b, o + k * 10 + 9, none⟩ = some (.string (bs l[k].as_))
theorem ActsAt.ext {w w' : World} {A : Option Addr} {l : List ActD} (h : ActsAt w A l) (k : Ext w w') : ActsAt w' A l := by
  rcases h with h | ⟨b, o, hA, hb, hc⟩
  · exact .inl h
  · refine .inr ⟨b, o, hA, by have := k.size; omega, fun i hi => ?_⟩
    simp only [k.cell hb]; exact hc i hi
theorem ActsAt.at_ {w w' : World} {A : Option Addr} {l : List ActD} (h : ActsAt w A l) (hE : Ext w w') (k : Nat) (hk : k < l.length) : ∃ b o, A = some ⟨b, o, none⟩ ∧ b < w'.heap.size ∧ w'.cell? ⟨b, o + k * 10, none⟩ = some (.int .i64 l[k].kind) ∧ w'.cell? ⟨b, o + k * 10 + 1, none⟩ = some (.int .i64 l[k].uid) ∧ w'.cell? ⟨b, o + k * 10 + 2, none⟩ = some (.int .i64 l[k].gid) ∧ w'.cell? ⟨b, o + k * 10 + 3, none⟩ = some (.int .i64 l[k].dir) ∧
    w'.cell? ⟨b, o + k * 10 + 4, none⟩ = some (.int .i64 l[k].no) ∧ w'.cell? ⟨b, o + k * 10 + 5, none⟩ = some (.int .i64 l[k].n) ∧ w'.cell? ⟨b, o + k * 10 + 6, none⟩ = some (.string (bs l[k].name)) ∧ w'.cell? ⟨b, o + k * 10 + 7, none⟩ = some (.string (bs l[k].text)) ∧ w'.cell? ⟨b, o + k * 10 + 8, none⟩ = some (.int .i64 l[k].to_) ∧ w'.cell? ⟨b, o + k * 10 + 9, none⟩ = some (.string (bs l[k].as_)) := by
  rcases h.ext hE with h0 | ⟨b, o, hA, hb, hc⟩
  · subst h0; simp at hk
  · exact ⟨b, o, hA, hb, hc k hk⟩
def shortA (x : ActD) : Prop := x.name.length ≤ 300 ∧ x.as_.length ≤ 300 ∧ x.text.length ≤ 2000
def FewA (l : List ActD) : Prop := (∀ x ∈ l, shortA x) ∧ l.length ≤ 30
def FewAR (w : World) (l : List ActD) (e : Ending) (w' : World) : Prop := w = w' ∧ ((FewA l ∧ e = .returned (.bool true)) ∨ (¬ FewA l ∧ e = .returned (.bool false)))
/-- law14's Few is its few. -/
theorem few14_any (A : Option Addr) (l : List ItemD) (cap : Nat) (w : World) (h : ItemsAt w A l) (hlen : l.length ≤ 9223372036854775807) : Calls Try.prog 7 #[.slice A l.length cap] w (FewR w l) := by
  go_enter Try.func7, Try.ntmps7
  go_wp2_with fail
  refine (few_any A l cap w h hlen).mono ?_
  rintro e w1 ⟨rfl, ⟨hf, rfl⟩ | ⟨hf, rfl⟩⟩
  · go_wp2_with fail
    go_ret
    exact ⟨rfl, .inl ⟨hf, rfl⟩⟩
  · go_wp2_with fail
    go_ret
    exact ⟨rfl, .inr ⟨hf, rfl⟩⟩
end Go.Proofs.Ytjblimclakfhfaa

namespace Go.Proofs.Ytjblimclakfhfaa
open Go.ChangeShapes Go.WideShapes Go.ChangeAt Go.RowKit

section
variable {H : Type} {enc : TypeId × Value → H} {w : World} {base : Nat} {spare : Nat → Bool} {held : Bool}
theorem opnInt : Try.prog.cellsOf 3 = 1 := by kernel_rfl
theorem opnStr : Try.prog.cellsOf 9 = 1 := by kernel_rfl
theorem opnCred_size : Try.prog.cellsOf 24 = 2 := by kernel_rfl
set_option maxRecDepth 100000 in
theorem Cred_cells {n : Nat} {cs : List Value} {x : DataW H × List MemPlace} (h : DataW.trod enc Try.prog w base spare held n 24 cs = some x) : ∃ v : (Int × Int), cs = [.int .i64 v.1, .int .i64 v.2] := by
  obtain ⟨xs, m, _, _, hl, hxl, hf⟩ := DataW.trod_struct Try.underlying24 h
  rw [opnCred_size] at hl
  match cs, hl with
  | [a0, a1], _ =>
    match xs, hxl with
    | [y0, y1], _ =>
      have f0 : DataW.trod enc Try.prog w base spare held m 3 (List.take (Try.prog.cellsOf 3) (List.drop 0 [a0, a1])) = some y0 := hf 0 _ rfl
      rw [opnInt] at f0
      obtain ⟨k0, h0, _, _⟩ := DataW.trod_int Try.underlying3 f0
      have e0 : a0 = .int .i64 k0 := by simpa using h0
      have f1 : DataW.trod enc Try.prog w base spare held m 3 (List.take (Try.prog.cellsOf 3) (List.drop 1 [a0, a1])) = some y1 := hf 1 _ rfl
      rw [opnInt] at f1
      obtain ⟨k1, h1, _, _⟩ := DataW.trod_int Try.underlying3 f1
      have e1 : a1 = .int .i64 k1 := by simpa using h1
      exact ⟨⟨k0, k1⟩, by rw [e0, e1]⟩
set_option maxRecDepth 100000 in
theorem open_Cred {r : Reach} {b0 : Nat} {v : Value} {d : DataW H} {p : List MemPlace} (hv : Value.okWide Try.prog w r b0 24 v) (h : DataW.Trod enc Try.prog w base spare held 24 v d p) :
    ∃ x : (Int × Int), v = .agg #[.int .i64 x.1, .int .i64 x.2] := by
  obtain ⟨cs, rfl, hsz⟩ := okWide_struct Try.underlying24 hv
  obtain ⟨fuel, hf⟩ := h
  obtain ⟨x, hx⟩ := Cred_cells hf
  have hcs : cs.toList = [.int .i64 x.1, .int .i64 x.2] := hx
  exact ⟨x, by rw [show cs = #[.int .i64 x.1, .int .i64 x.2] from Array.toList_inj.1 hcs]⟩
theorem opnItem_size : Try.prog.cellsOf 84 = 8 := by kernel_rfl
set_option maxRecDepth 100000 in
theorem Item_cells {n : Nat} {cs : List Value} {x : DataW H × List MemPlace} (h : DataW.trod enc Try.prog w base spare held n 84 cs = some x) : ∃ v : ItemD, cs = [.int .i64 v.dir, .string (bs v.name), .int .i64 v.kind, .int .i64 v.mode, .int .i64 v.uid, .int .i64 v.gid, .string (bs v.data), .int .i64 v.n] := by
  obtain ⟨xs, m, _, _, hl, hxl, hf⟩ := DataW.trod_struct Try.underlying84 h
  rw [opnItem_size] at hl
  match cs, hl with
  | [a0, a1, a2, a3, a4, a5, a6, a7], _ =>
    match xs, hxl with
    | [y0, y1, y2, y3, y4, y5, y6, y7], _ =>
      have f0 : DataW.trod enc Try.prog w base spare held m 3 (List.take (Try.prog.cellsOf 3) (List.drop 0 [a0, a1, a2, a3, a4, a5, a6, a7])) = some y0 := hf 0 _ rfl
      rw [opnInt] at f0
      obtain ⟨k0, h0, _, _⟩ := DataW.trod_int Try.underlying3 f0
      have e0 : a0 = .int .i64 k0 := by simpa using h0
      have f1 : DataW.trod enc Try.prog w base spare held m 9 (List.take (Try.prog.cellsOf 9) (List.drop 1 [a0, a1, a2, a3, a4, a5, a6, a7])) = some y1 := hf 1 _ rfl
      rw [opnStr] at f1
      obtain ⟨s1, h1, _, _⟩ := DataW.trod_string Try.underlying9 f1
      have e1 : a1 = .string s1 := by simpa using h1
      have f2 : DataW.trod enc Try.prog w base spare held m 3 (List.take (Try.prog.cellsOf 3) (List.drop 2 [a0, a1, a2, a3, a4, a5, a6, a7])) = some y2 := hf 2 _ rfl
      rw [opnInt] at f2
      obtain ⟨k2, h2, _, _⟩ := DataW.trod_int Try.underlying3 f2
      have e2 : a2 = .int .i64 k2 := by simpa using h2
      have f3 : DataW.trod enc Try.prog w base spare held m 3 (List.take (Try.prog.cellsOf 3) (List.drop 3 [a0, a1, a2, a3, a4, a5, a6, a7])) = some y3 := hf 3 _ rfl
      rw [opnInt] at f3
      obtain ⟨k3, h3, _, _⟩ := DataW.trod_int Try.underlying3 f3
      have e3 : a3 = .int .i64 k3 := by simpa using h3
      have f4 : DataW.trod enc Try.prog w base spare held m 3 (List.take (Try.prog.cellsOf 3) (List.drop 4 [a0, a1, a2, a3, a4, a5, a6, a7])) = some y4 := hf 4 _ rfl
      rw [opnInt] at f4
      obtain ⟨k4, h4, _, _⟩ := DataW.trod_int Try.underlying3 f4
      have e4 : a4 = .int .i64 k4 := by simpa using h4
      have f5 : DataW.trod enc Try.prog w base spare held m 3 (List.take (Try.prog.cellsOf 3) (List.drop 5 [a0, a1, a2, a3, a4, a5, a6, a7])) = some y5 := hf 5 _ rfl
      rw [opnInt] at f5
      obtain ⟨k5, h5, _, _⟩ := DataW.trod_int Try.underlying3 f5
      have e5 : a5 = .int .i64 k5 := by simpa using h5
      have f6 : DataW.trod enc Try.prog w base spare held m 9 (List.take (Try.prog.cellsOf 9) (List.drop 6 [a0, a1, a2, a3, a4, a5, a6, a7])) = some y6 := hf 6 _ rfl
      rw [opnStr] at f6
      obtain ⟨s6, h6, _, _⟩ := DataW.trod_string Try.underlying9 f6
      have e6 : a6 = .string s6 := by simpa using h6
      have f7 : DataW.trod enc Try.prog w base spare held m 3 (List.take (Try.prog.cellsOf 3) (List.drop 7 [a0, a1, a2, a3, a4, a5, a6, a7])) = some y7 := hf 7 _ rfl
      rw [opnInt] at f7
      obtain ⟨k7, h7, _, _⟩ := DataW.trod_int Try.underlying3 f7
      have e7 : a7 = .int .i64 k7 := by simpa using h7
      exact ⟨⟨k0, s1.data.toList, k2, k3, k4, k5, s6.data.toList, k7⟩, by rw [e0, e1, e2, e3, e4, e5, e6, e7]; simp only [bs_self]⟩
set_option maxRecDepth 100000 in
theorem open_Items {r : Reach} {b0 : Nat} {v : Value} {d : DataW H} {p : List MemPlace} (hv : Value.okWide Try.prog w r b0 22 v) (h : DataW.Trod enc Try.prog w base spare held 22 v d p) :
    ∃ (A : Option Addr) (l : List ItemD) (cap : Nat), v = .slice A l.length cap ∧ ItemsAt w A l ∧ (A = none → cap = 0) ∧ l.length ≤ cap ∧ cap ≤ maxLen := by
  obtain ⟨a, n, c, rfl⟩ := okWide_slice Try.underlying22 hv
  obtain ⟨fuel, hf⟩ := h
  rcases Go.Deep.open_slice Try.underlying22 hf with ⟨hcs, _⟩ | ⟨ad, len, cap, m, k, D, Pl, hcs, _, hl, hm, hmm, _, hi⟩
  · simp [Value.cells] at hcs
    obtain ⟨rfl, rfl, rfl⟩ := hcs
    exact ⟨none, [], 0, rfl, .inl rfl, fun _ => rfl, Nat.le_refl _, by decide⟩
  · simp [Value.cells] at hcs
    obtain ⟨rfl, rfl, rfl⟩ := hcs
    have hmn : n ≤ m := by rw [hmm]; split <;> omega
    obtain ⟨l, hll, hlp⟩ := list_of (α := ItemD) n (fun i x => w.cell? (ad.add (i * 8)) = some (.int .i64 x.dir) ∧ w.cell? ((ad.add (i * 8)).add 1) = some (.string (bs x.name)) ∧ w.cell? ((ad.add (i * 8)).add 2) = some (.int .i64 x.kind) ∧ w.cell? ((ad.add (i * 8)).add 3) = some (.int .i64 x.mode) ∧ w.cell? ((ad.add (i * 8)).add 4) = some (.int .i64 x.uid) ∧ w.cell? ((ad.add (i * 8)).add 5) = some (.int .i64 x.gid) ∧ w.cell? ((ad.add (i * 8)).add 6) = some (.string (bs x.data)) ∧ w.cell? ((ad.add (i * 8)).add 7) = some (.int .i64 x.n)) (fun i hin => by
      obtain ⟨cs', hc, ht⟩ := hi i (by omega)
      rw [opnItem_size] at hc
      obtain ⟨x, rfl⟩ := Item_cells ht
      obtain ⟨_, _, hat⟩ := World.cells?_some hc
      exact ⟨x, by simpa [Addr.add] using hat 0 (by simp), by simpa using hat 1 (by simp), by simpa using hat 2 (by simp), by simpa using hat 3 (by simp), by simpa using hat 4 (by simp), by simpa using hat 5 (by simp), by simpa using hat 6 (by simp), by simpa using hat 7 (by simp)⟩)
    refine ⟨some ad, l, c, by rw [hll], ?_, (fun h => by cases h), by omega, hm⟩
    by_cases h0 : l = []
    · exact .inl h0
    · have hpos : 0 < l.length := List.length_pos_iff.2 h0
      obtain ⟨b, off, spot⟩ := ad
      have hspot : spot = none := by simpa [Addr.add] using World.cell?_spot (hlp 0 hpos).1
      subst hspot
      have hbl : b < w.heap.size := by
        have := (hlp 0 hpos).1
        rcases Nat.lt_or_ge b w.heap.size with h' | h'
        · exact h'
        · simp [Addr.add, World.cell?, Array.getElem?_eq_none h'] at this
      refine .inr ⟨b, off, rfl, hbl, fun i hi' => ?_⟩
      obtain ⟨q0, q1, q2, q3, q4, q5, q6, q7⟩ := hlp i hi'
      simp only [add_plain] at q0 q1 q2 q3 q4 q5 q6 q7
      exact ⟨q0, q1, q2, q3, q4, q5, q6, q7⟩
theorem opnAct_size : Try.prog.cellsOf 62 = 10 := by kernel_rfl
set_option maxRecDepth 100000 in
theorem Act_cells {n : Nat} {cs : List Value} {x : DataW H × List MemPlace} (h : DataW.trod enc Try.prog w base spare held n 62 cs = some x) : ∃ v : ActD, cs = [.int .i64 v.kind, .int .i64 v.uid, .int .i64 v.gid, .int .i64 v.dir, .int .i64 v.no, .int .i64 v.n, .string (bs v.name), .string (bs v.text), .int .i64 v.to_, .string (bs v.as_)] := by
  obtain ⟨xs, m, _, _, hl, hxl, hf⟩ := DataW.trod_struct Try.underlying62 h
  rw [opnAct_size] at hl
  match cs, hl with
  | [a0, a1, a2, a3, a4, a5, a6, a7, a8, a9], _ =>
    match xs, hxl with
    | [y0, y1, y2, y3, y4, y5, y6, y7, y8], _ =>
      have f0 : DataW.trod enc Try.prog w base spare held m 3 (List.take (Try.prog.cellsOf 3) (List.drop 0 [a0, a1, a2, a3, a4, a5, a6, a7, a8, a9])) = some y0 := hf 0 _ rfl
      rw [opnInt] at f0
      obtain ⟨k0, h0, _, _⟩ := DataW.trod_int Try.underlying3 f0
      have e0 : a0 = .int .i64 k0 := by simpa using h0
      have f1 : DataW.trod enc Try.prog w base spare held m 24 (List.take (Try.prog.cellsOf 24) (List.drop 1 [a0, a1, a2, a3, a4, a5, a6, a7, a8, a9])) = some y1 := hf 1 _ rfl
      rw [opnCred_size] at f1
      obtain ⟨⟨u1, g1⟩, h1⟩ := Cred_cells f1
      have e1a : a1 = .int .i64 u1 := by simp at h1; exact h1.1
      have e1b : a2 = .int .i64 g1 := by simp at h1; exact h1.2
      have f2 : DataW.trod enc Try.prog w base spare held m 3 (List.take (Try.prog.cellsOf 3) (List.drop 3 [a0, a1, a2, a3, a4, a5, a6, a7, a8, a9])) = some y2 := hf 2 _ rfl
      rw [opnInt] at f2
      obtain ⟨k2, h2, _, _⟩ := DataW.trod_int Try.underlying3 f2
      have e2 : a3 = .int .i64 k2 := by simpa using h2
      have f3 : DataW.trod enc Try.prog w base spare held m 3 (List.take (Try.prog.cellsOf 3) (List.drop 4 [a0, a1, a2, a3, a4, a5, a6, a7, a8, a9])) = some y3 := hf 3 _ rfl
      rw [opnInt] at f3
      obtain ⟨k3, h3, _, _⟩ := DataW.trod_int Try.underlying3 f3
      have e3 : a4 = .int .i64 k3 := by simpa using h3
      have f4 : DataW.trod enc Try.prog w base spare held m 3 (List.take (Try.prog.cellsOf 3) (List.drop 5 [a0, a1, a2, a3, a4, a5, a6, a7, a8, a9])) = some y4 := hf 4 _ rfl
      rw [opnInt] at f4
      obtain ⟨k4, h4, _, _⟩ := DataW.trod_int Try.underlying3 f4
      have e4 : a5 = .int .i64 k4 := by simpa using h4
      have f5 : DataW.trod enc Try.prog w base spare held m 9 (List.take (Try.prog.cellsOf 9) (List.drop 6 [a0, a1, a2, a3, a4, a5, a6, a7, a8, a9])) = some y5 := hf 5 _ rfl
      rw [opnStr] at f5
      obtain ⟨s5, h5, _, _⟩ := DataW.trod_string Try.underlying9 f5
      have e5 : a6 = .string s5 := by simpa using h5
      have f6 : DataW.trod enc Try.prog w base spare held m 9 (List.take (Try.prog.cellsOf 9) (List.drop 7 [a0, a1, a2, a3, a4, a5, a6, a7, a8, a9])) = some y6 := hf 6 _ rfl
      rw [opnStr] at f6
      obtain ⟨s6, h6, _, _⟩ := DataW.trod_string Try.underlying9 f6
      have e6 : a7 = .string s6 := by simpa using h6
      have f7 : DataW.trod enc Try.prog w base spare held m 3 (List.take (Try.prog.cellsOf 3) (List.drop 8 [a0, a1, a2, a3, a4, a5, a6, a7, a8, a9])) = some y7 := hf 7 _ rfl
      rw [opnInt] at f7
      obtain ⟨k7, h7, _, _⟩ := DataW.trod_int Try.underlying3 f7
      have e7 : a8 = .int .i64 k7 := by simpa using h7
      have f8 : DataW.trod enc Try.prog w base spare held m 9 (List.take (Try.prog.cellsOf 9) (List.drop 9 [a0, a1, a2, a3, a4, a5, a6, a7, a8, a9])) = some y8 := hf 8 _ rfl
      rw [opnStr] at f8
      obtain ⟨s8, h8, _, _⟩ := DataW.trod_string Try.underlying9 f8
      have e8 : a9 = .string s8 := by simpa using h8
      exact ⟨⟨k0, u1, g1, k2, k3, k4, s5.data.toList, s6.data.toList, k7, s8.data.toList⟩, by rw [e0, e1a, e1b, e2, e3, e4, e5, e6, e7, e8]; simp only [bs_self]⟩
set_option maxRecDepth 100000 in
theorem open_Act {r : Reach} {b0 : Nat} {v : Value} {d : DataW H} {p : List MemPlace} (hv : Value.okWide Try.prog w r b0 62 v) (h : DataW.Trod enc Try.prog w base spare held 62 v d p) :
    ∃ x : ActD, v = .agg #[.int .i64 x.kind, .int .i64 x.uid, .int .i64 x.gid, .int .i64 x.dir, .int .i64 x.no, .int .i64 x.n, .string (bs x.name), .string (bs x.text), .int .i64 x.to_, .string (bs x.as_)] := by
  obtain ⟨cs, rfl, hsz⟩ := okWide_struct Try.underlying62 hv
  obtain ⟨fuel, hf⟩ := h
  obtain ⟨x, hx⟩ := Act_cells hf
  have hcs : cs.toList = [.int .i64 x.kind, .int .i64 x.uid, .int .i64 x.gid, .int .i64 x.dir, .int .i64 x.no, .int .i64 x.n, .string (bs x.name), .string (bs x.text), .int .i64 x.to_, .string (bs x.as_)] := hx
  exact ⟨x, by rw [show cs = #[.int .i64 x.kind, .int .i64 x.uid, .int .i64 x.gid, .int .i64 x.dir, .int .i64 x.no, .int .i64 x.n, .string (bs x.name), .string (bs x.text), .int .i64 x.to_, .string (bs x.as_)] from Array.toList_inj.1 hcs]⟩
end
end Go.Proofs.Ytjblimclakfhfaa

namespace Go.Proofs.Ytjblimclakfhfaa
open Go.ChangeShapes Go.WideShapes Go.ChangeAt Go.RowKit

set_option maxRecDepth 100000 in
set_option maxHeartbeats 16000000 in
theorem sysNone_any (x : ActD) (w : World) :
    Calls Try.prog 6 #[.agg #[.int .i64 x.kind, .int .i64 x.uid, .int .i64 x.gid, .int .i64 x.dir, .int .i64 x.no, .int .i64 x.n, .string (bs x.name), .string (bs x.text), .int .i64 x.to_, .string (bs x.as_)]] w (Ret w (.bool true)) := by
  obtain ⟨W1, hW1⟩ : ∃ W, W = w.alloc (.cells #[.int .i64 x.kind, .int .i64 x.uid, .int .i64 x.gid, .int .i64 x.dir, .int .i64 x.no, .int .i64 x.n, .string (bs x.name), .string (bs x.text), .int .i64 x.to_, .string (bs x.as_)] 62) := ⟨_, rfl⟩
  obtain ⟨b, hb⟩ : ∃ b, b = w.heap.size := ⟨_, rfl⟩
  have E1 : Ext w W1 := by rw [hW1]; exact (Ext.refl _).alloc _
  have B1 : Has W1 b (.cells #[.int .i64 x.kind, .int .i64 x.uid, .int .i64 x.gid, .int .i64 x.dir, .int .i64 x.no, .int .i64 x.n, .string (bs x.name), .string (bs x.text), .int .i64 x.to_, .string (bs x.as_)] 62) := by rw [hW1, hb]; exact Has.new _ _
  have KB : Hid (∀ u, Ext W1 u → Has u b (.cells #[.int .i64 x.kind, .int .i64 x.uid, .int .i64 x.gid, .int .i64 x.dir, .int .i64 x.no, .int .i64 x.n, .string (bs x.name), .string (bs x.text), .int .i64 x.to_, .string (bs x.as_)] 62)) := fun u hu => B1.ext hu
  have R1 : Ext W1 W1 := Ext.refl _
  have HE1 := Lib.hid E1
  clear B1 E1
  go_enter Try.func6, Try.ntmps6
  go_upto_region 1 with fail
  rw [← hW1, ← hb]
  clear hW1 hb
  have BX := KB.out _ R1
  have c0 := BX.cell 0
  have c1 := BX.cell 1
  have c2 := BX.cell 2
  have c3 := BX.cell 3
  have c4 := BX.cell 4
  have c5 := BX.cell 5
  have c6 := BX.cell 6
  have c7 := BX.cell 7
  have c8 := BX.cell 8
  have c9 := BX.cell 9
  have cz := BX.lt
  go_wp2_with fail
  refine (nilFind _).mono ?_
  rintro e u2 ⟨rfl, b2⟩
  have R2 := b2.alloc (.cells #[.int .i64 0, .string ⟨#[]⟩, .int .i64 0, .bool false] 33)
  have R2 := R1.trans R2
  clear b2 BX c0 c1 c2 c3 c4 c5 c6 c7 c8 c9 cz
  have BX := KB.out _ R2
  have c0 := BX.cell 0
  have c1 := BX.cell 1
  have c2 := BX.cell 2
  have c3 := BX.cell 3
  have c4 := BX.cell 4
  have c5 := BX.cell 5
  have c6 := BX.cell 6
  have c7 := BX.cell 7
  have c8 := BX.cell 8
  have c9 := BX.cell 9
  have cz := BX.lt
  go_wp2_with fail
  refine (nilStat _).mono ?_
  rintro e u3 ⟨rfl, b3⟩
  have R3 := b3.alloc (.cells #[.int .i64 nodeZ.no, .int .i64 nodeZ.dev, .int .i64 nodeZ.kind, .int .i64 nodeZ.mode, .int .i64 nodeZ.uid, .int .i64 nodeZ.gid, .int .i64 nodeZ.links, .int .i64 nodeZ.data.length, .int .i64 nodeZ.mtime, .int .i64 nodeZ.ctime] 66)
  have R3 := R2.trans R3
  unfold statV
  clear b3 BX c0 c1 c2 c3 c4 c5 c6 c7 c8 c9 cz
  have BX := KB.out _ R3
  have c0 := BX.cell 0
  have c1 := BX.cell 1
  have c2 := BX.cell 2
  have c3 := BX.cell 3
  have c4 := BX.cell 4
  have c5 := BX.cell 5
  have c6 := BX.cell 6
  have c7 := BX.cell 7
  have c8 := BX.cell 8
  have c9 := BX.cell 9
  have cz := BX.lt
  go_wp2_with fail
  refine (nilList _).mono ?_
  rintro e u4 ⟨rfl, b4⟩
  have R4 := R3.trans b4
  clear b4 BX c0 c1 c2 c3 c4 c5 c6 c7 c8 c9 cz
  have BX := KB.out _ R4
  have c0 := BX.cell 0
  have c1 := BX.cell 1
  have c2 := BX.cell 2
  have c3 := BX.cell 3
  have c4 := BX.cell 4
  have c5 := BX.cell 5
  have c6 := BX.cell 6
  have c7 := BX.cell 7
  have c8 := BX.cell 8
  have c9 := BX.cell 9
  have cz := BX.lt
  go_wp2_with fail
  refine (nilMkdir _).mono ?_
  rintro e u5 ⟨rfl, b5⟩
  have R5 := R4.trans b5
  clear b5 BX c0 c1 c2 c3 c4 c5 c6 c7 c8 c9 cz
  have BX := KB.out _ R5
  have c0 := BX.cell 0
  have c1 := BX.cell 1
  have c2 := BX.cell 2
  have c3 := BX.cell 3
  have c4 := BX.cell 4
  have c5 := BX.cell 5
  have c6 := BX.cell 6
  have c7 := BX.cell 7
  have c8 := BX.cell 8
  have c9 := BX.cell 9
  have cz := BX.lt
  go_wp2_with fail
  refine (nilCreate _).mono ?_
  rintro e u6 ⟨rfl, b6⟩
  have R6 := R5.trans b6
  clear b6 BX c0 c1 c2 c3 c4 c5 c6 c7 c8 c9 cz
  have BX := KB.out _ R6
  have c0 := BX.cell 0
  have c1 := BX.cell 1
  have c2 := BX.cell 2
  have c3 := BX.cell 3
  have c4 := BX.cell 4
  have c5 := BX.cell 5
  have c6 := BX.cell 6
  have c7 := BX.cell 7
  have c8 := BX.cell 8
  have c9 := BX.cell 9
  have cz := BX.lt
  go_wp2_with fail
  refine (nilPlan _).mono ?_
  rintro e u7 ⟨⟨v7, rfl⟩, b7⟩
  have R7 := R6.trans (((Ext.refl u6).alloc (.cells #[.int .i64 x.n, .int .i64 0] 76)).trans b7)
  clear b7 BX c0 c1 c2 c3 c4 c5 c6 c7 c8 c9 cz
  have BX := KB.out _ R7
  have c0 := BX.cell 0
  have c1 := BX.cell 1
  have c2 := BX.cell 2
  have c3 := BX.cell 3
  have c4 := BX.cell 4
  have c5 := BX.cell 5
  have c6 := BX.cell 6
  have c7 := BX.cell 7
  have c8 := BX.cell 8
  have c9 := BX.cell 9
  have cz := BX.lt
  go_wp2_with fail
  refine (nilWake _).mono ?_
  rintro e u8 ⟨⟨v8, rfl⟩, b8⟩
  have R8 := R7.trans b8
  clear b8 BX c0 c1 c2 c3 c4 c5 c6 c7 c8 c9 cz
  have BX := KB.out _ R8
  have c0 := BX.cell 0
  have c1 := BX.cell 1
  have c2 := BX.cell 2
  have c3 := BX.cell 3
  have c4 := BX.cell 4
  have c5 := BX.cell 5
  have c6 := BX.cell 6
  have c7 := BX.cell 7
  have c8 := BX.cell 8
  have c9 := BX.cell 9
  have cz := BX.lt
  go_upto_region 9 with fail
  go_wp2_with fail
  refine (nilLink _).mono ?_
  rintro e u9 ⟨rfl, b9⟩
  have R9 := R8.trans b9
  clear b9 BX c0 c1 c2 c3 c4 c5 c6 c7 c8 c9 cz
  have BX := KB.out _ R9
  have c0 := BX.cell 0
  have c1 := BX.cell 1
  have c2 := BX.cell 2
  have c3 := BX.cell 3
  have c4 := BX.cell 4
  have c5 := BX.cell 5
  have c6 := BX.cell 6
  have c7 := BX.cell 7
  have c8 := BX.cell 8
  have c9 := BX.cell 9
  have cz := BX.lt
  go_wp2_with fail
  refine (nilRename _).mono ?_
  rintro e u10 ⟨rfl, b10⟩
  have R10 := R9.trans b10
  clear b10 BX c0 c1 c2 c3 c4 c5 c6 c7 c8 c9 cz
  have BX := KB.out _ R10
  have c0 := BX.cell 0
  have c1 := BX.cell 1
  have c2 := BX.cell 2
  have c3 := BX.cell 3
  have c4 := BX.cell 4
  have c5 := BX.cell 5
  have c6 := BX.cell 6
  have c7 := BX.cell 7
  have c8 := BX.cell 8
  have c9 := BX.cell 9
  have cz := BX.lt
  go_wp2_with fail
  refine (nilWrite _).mono ?_
  rintro e u11 ⟨rfl, b11⟩
  have R11 := R10.trans b11
  clear b11 BX c0 c1 c2 c3 c4 c5 c6 c7 c8 c9 cz
  have BX := KB.out _ R11
  have c0 := BX.cell 0
  have c1 := BX.cell 1
  have c2 := BX.cell 2
  have c3 := BX.cell 3
  have c4 := BX.cell 4
  have c5 := BX.cell 5
  have c6 := BX.cell 6
  have c7 := BX.cell 7
  have c8 := BX.cell 8
  have c9 := BX.cell 9
  have cz := BX.lt
  go_wp2_with fail
  refine (nilTick _).mono ?_
  rintro e u12 ⟨rfl, b12⟩
  have R12 := R11.trans b12
  clear b12 BX c0 c1 c2 c3 c4 c5 c6 c7 c8 c9 cz
  have BX := KB.out _ R12
  have c0 := BX.cell 0
  have c1 := BX.cell 1
  have c2 := BX.cell 2
  have c3 := BX.cell 3
  have c4 := BX.cell 4
  have c5 := BX.cell 5
  have c6 := BX.cell 6
  have c7 := BX.cell 7
  have c8 := BX.cell 8
  have c9 := BX.cell 9
  have cz := BX.lt
  go_wp2_with fail
  refine (nilCount _).mono ?_
  rintro e u13 ⟨rfl, b13⟩
  have R13 := R12.trans b13
  clear b13 BX c0 c1 c2 c3 c4 c5 c6 c7 c8 c9 cz
  have BX := KB.out _ R13
  have c0 := BX.cell 0
  have c1 := BX.cell 1
  have c2 := BX.cell 2
  have c3 := BX.cell 3
  have c4 := BX.cell 4
  have c5 := BX.cell 5
  have c6 := BX.cell 6
  have c7 := BX.cell 7
  have c8 := BX.cell 8
  have c9 := BX.cell 9
  have cz := BX.lt
  go_wp2_with fail
  refine (nilNow _).mono ?_
  rintro e u14 ⟨rfl, b14⟩
  have R14 := R13.trans b14
  clear b14 BX c0 c1 c2 c3 c4 c5 c6 c7 c8 c9 cz
  have BX := KB.out _ R14
  have c0 := BX.cell 0
  have c1 := BX.cell 1
  have c2 := BX.cell 2
  have c3 := BX.cell 3
  have c4 := BX.cell 4
  have c5 := BX.cell 5
  have c6 := BX.cell 6
  have c7 := BX.cell 7
  have c8 := BX.cell 8
  have c9 := BX.cell 9
  have cz := BX.lt
  go_wp2_with fail
  refine (nilDead _).mono ?_
  rintro e u15 ⟨rfl, b15⟩
  have R15 := R14.trans b15
  clear b15 BX c0 c1 c2 c3 c4 c5 c6 c7 c8 c9 cz
  have BX := KB.out _ R15
  have c0 := BX.cell 0
  have c1 := BX.cell 1
  have c2 := BX.cell 2
  have c3 := BX.cell 3
  have c4 := BX.cell 4
  have c5 := BX.cell 5
  have c6 := BX.cell 6
  have c7 := BX.cell 7
  have c8 := BX.cell 8
  have c9 := BX.cell 9
  have cz := BX.lt
  go_wp2_with fail
  refine (awake21 _).mono ?_
  rintro e u99 ⟨rfl, b99⟩
  clear BX c0 c1 c2 c3 c4 c5 c6 c7 c8 c9 cz
  go_wp2_with fail
  go_ret
  exact Ret.mk rfl (HE1.out.trans (R15.trans b99))
set_option maxRecDepth 100000 in
theorem sysNone_walk {H : Type} {enc : TypeId × Value → H} (W : World) (base : Nat) (v0 : Value) (d0 : DataW H) (p0 : List MemPlace)
    (k0 : Value.okWide Try.prog W .any base 62 v0) (h0 : DataW.Trod enc Try.prog W 0 (fun _ => true) true 62 v0 d0 p0)
    : Calls Try.prog 6 #[v0] W (Ret W (.bool true)) := by
  obtain ⟨x, rfl⟩ := open_Act k0 h0
  exact sysNone_any x W
end Go.Proofs.Ytjblimclakfhfaa
