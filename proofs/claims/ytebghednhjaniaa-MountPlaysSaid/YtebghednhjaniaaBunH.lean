/- Law 14: the chapter's example. | The deeds of law 14, and two small numbers, as arguments. | Two small numbers as an argument. | The law MountPlays, walked. -/
import Derived.Test.YtebghednhjaniaaBunF
import Derived.Test.YtebghednhjaniaaBunD
import Derived.Test.YtebghednhjaniaaBunE
import Derived.Deep.CutBlock
namespace Go.Proofs.Ytebghednhjaniaa
open Go.ChangeShapes Go.WideShapes Go.ChangeAt Go.RowKit

set_option maxRecDepth 100000 in
set_option maxHeartbeats 1000000 in
theorem pnew_no (b n : Int) (w : World) (hl : limitsF b n = false) : Calls Try.prog 89 #[.int .i64 b, .int .i64 n] w (Ret w (.tuple #[.pointer none, .int .i64 3])) := by
  go_enter Try.func89, Try.ntmps89
  go_wp2_with fail
  refine (tnew_any w.heap.size _ (Nat.le_refl _)).mono ?_
  rintro e w1 ⟨bT, bM, rfl, T1, b1, k1, k2⟩
  have hz := b1.size
  have lT := T1.2.2.1.lt
  go_wp2_with fail
  refine (padd_no w1.heap.size 0 b n _ hl).mono ?_
  rintro e w2 ⟨rfl, b2⟩
  go_wp2_with fail
  go_ret2
  exact Ret.mk rfl ((b1.alloc _).trans b2)
/-- A list of two items, as it lies in its own block. -/
theorem items_two {w : World} {b : Nat} {t : TypeId} (it jt : ItemD) (h : Has w b (.cells #[.int .i64 it.dir, .string (bs it.name), .int .i64 it.kind, .int .i64 it.mode, .int .i64 it.uid, .int .i64 it.gid, .string (bs it.data), .int .i64 it.n, .int .i64 jt.dir, .string (bs jt.name), .int .i64 jt.kind, .int .i64 jt.mode, .int .i64 jt.uid, .int .i64 jt.gid, .string (bs jt.data), .int .i64 jt.n] t)) : ItemsAt w (some ⟨b, 0, none⟩) [it, jt] := by
  refine .inr ⟨b, 0, rfl, h.lt, fun k hk => ?_⟩
  have : k = 0 ∨ k = 1 := by simp at hk; omega
  rcases this with rfl | rfl
  · exact ⟨h.cell 0, h.cell 1, h.cell 2, h.cell 3, h.cell 4, h.cell 5, h.cell 6, h.cell 7⟩
  · exact ⟨h.cell 8, h.cell 9, h.cell 10, h.cell 11, h.cell 12, h.cell 13, h.cell 14, h.cell 15⟩
def ex14A : ItemD := ⟨0, [100], 1, 0, 0, 0, [], 0⟩
def ex14B : ItemD := ⟨1, [], 4, 0, 0, 0, [], 5⟩
def ex14T : TreeD := growAll (firstT 9 9) [ex14A, ex14B]
theorem ex14_few : FewI [ex14A, ex14B] := by
  refine ⟨?_, by decide⟩
  intro x hx
  simp only [List.mem_cons, List.not_mem_nil, or_false] at hx
  rcases hx with rfl | rfl
  · exact ⟨by decide, by decide⟩
  · exact ⟨by decide, by decide⟩
theorem ex14_fit : Fit ex14T := (fit_grow (by decide) ex14_few).2
theorem ex14_where : whereF ex14T 3 = some [47, 100] := by kernel_rfl
theorem ex14_over : overF ex14T.devs 2 = 3 := by kernel_rfl
theorem ex14_above : aboveF ex14T 3 = 1 := by kernel_rfl
set_option maxRecDepth 100000 in
set_option maxHeartbeats 8000000 in
theorem awake14 (w : World) : Calls Try.prog 18 #[] w (Ret w (.bool true)) := by
  go_enter Try.func18, Try.ntmps18
  go_wp2_with fail
  have I1 := Has.new w (.cells #[.int .i64 ex14A.dir, .string (bs ex14A.name), .int .i64 ex14A.kind, .int .i64 ex14A.mode, .int .i64 ex14A.uid, .int .i64 ex14A.gid, .string (bs ex14A.data), .int .i64 ex14A.n, .int .i64 ex14B.dir, .string (bs ex14B.name), .int .i64 ex14B.kind, .int .i64 ex14B.mode, .int .i64 ex14B.uid, .int .i64 ex14B.gid, .string (bs ex14B.data), .int .i64 ex14B.n] 138)
  refine (growAll_any 9 9 (some ⟨w.heap.size, 0, none⟩) [ex14A, ex14B] 2 _ (by decide) ex14_few (items_two ex14A ex14B I1)).mono ?_
  rintro e w1 ⟨g, f, rfl, ⟨K1, F1⟩, E1⟩
  have X1 : Ext w w1 := ((Ext.refl _).alloc _).trans E1
  generalize (w.alloc (.cells #[.int .i64 ex14A.dir, .string (bs ex14A.name), .int .i64 ex14A.kind, .int .i64 ex14A.mode, .int .i64 ex14A.uid, .int .i64 ex14A.gid, .string (bs ex14A.data), .int .i64 ex14A.n, .int .i64 ex14B.dir, .string (bs ex14B.name), .int .i64 ex14B.kind, .int .i64 ex14B.mode, .int .i64 ex14B.uid, .int .i64 ex14B.gid, .string (bs ex14B.data), .int .i64 ex14B.n] 138)).heap.size = B at K1 F1
  have HT : Hid (Fit ex14T) := Lib.hid ex14_fit
  have hd := HT.out.good.devs
  have hd2 := HT.out.good.eight
  have hr := HT.out.good.roots
  have hu := HT.out.good.nos
  have hl := HT.out.len
  have K1' : WAt w1 B g ex14T := K1
  have F1' : FAt w1 B f ex14T x0 := F1
  have H1 := Lib.hid ex14_where
  have H2 := Lib.hid ex14_over
  have H3 := Lib.hid ex14_above
  generalize ex14T = T at HT hd hd2 hr hu hl K1' F1' H1 H2 H3
  clear E1 I1 K1 F1
  go_wp2_with fail
  refine (same14_any B B g f T x0 _ K1' F1' HT.out).mono ?_
  rintro e w2 ⟨rfl, b2⟩
  have X2 := X1.trans b2
  obtain ⟨r, R⟩ := HT.out.rank
  have HR := Lib.hid R
  clear R
  go_wp2_with fail
  refine (pwhere_any B g T r 3 _ (K1'.ext b2) hl hd hd2 hr hu HT.out.names HT.out.ents HR.out HT.out.top HT.out.one).mono ?_
  rw [H1.out]
  rintro e w3 ⟨he, b3⟩
  dsimp only at he
  rw [show bs [47, 100] = (⟨#[47, 100]⟩ : ByteArray) from rfl] at he
  subst he
  have X3 := b2.trans b3
  go_wp2_with fail
  refine (pnew_no 0 1 _ (by decide)).mono ?_
  rintro e w4 ⟨rfl, b4⟩
  have X4 := X3.trans b4
  go_wp2_with fail
  refine (pover_any B g T 2 _ (K1'.ext X4) hd (by omega)).mono ?_
  rintro e w5 ⟨rfl, b5⟩
  rw [H2.out]
  go_wp2_with fail
  refine (pabove_any B g T 3 _ (K1'.ext (X4.trans b5)) hd hd2 hr hu).mono ?_
  rintro e w6 ⟨rfl, b6⟩
  rw [H3.out]
  go_wp2_with fail
  go_ret
  exact Ret.mk rfl (X1.trans ((X4.trans b5).trans b6))
end Go.Proofs.Ytebghednhjaniaa

namespace Go.Proofs.Ytebghednhjaniaa
open Go.ChangeShapes Go.WideShapes Go.ChangeAt Go.RowKit

/-- A deed of law 14. -/
structure DeedD where
  kind : Int
  no : Int
  data : List UInt8
def DeedsAt (w : World) (A : Option Addr) (l : List DeedD) : Prop :=
  l = [] ∨ ∃ b o, A = some ⟨b, o, none⟩ ∧ b < w.heap.size ∧ ∀ k, (h : k < l.length) → w.cell? ⟨b, o + k * 3, none⟩ = some (.int .i64 l[k].kind) ∧ w.cell? ⟨b, o + k * 3 + 1, none⟩ = some (.int .i64 l[k].no) ∧ w.cell? ⟨b, o + k * 3 + 2, none⟩ = some (.string (bs l[k].data))
theorem DeedsAt.ext {w w' : World} {A : Option Addr} {l : List DeedD} (h : DeedsAt w A l) (k : Ext w w') : DeedsAt w' A l := by
  rcases h with h | ⟨b, o, hA, hb, hc⟩
  · exact .inl h
  · refine .inr ⟨b, o, hA, by have := k.size; omega, fun i hi => ?_⟩
    simp only [k.cell hb]; exact hc i hi
theorem DeedsAt.at_ {w w' : World} {A : Option Addr} {l : List DeedD} (h : DeedsAt w A l) (hE : Ext w w') (k : Nat) (hk : k < l.length) : ∃ b o, A = some ⟨b, o, none⟩ ∧ b < w'.heap.size ∧ w'.cell? ⟨b, o + k * 3, none⟩ = some (.int .i64 l[k].kind) ∧ w'.cell? ⟨b, o + k * 3 + 1, none⟩ = some (.int .i64 l[k].no) ∧ w'.cell? ⟨b, o + k * 3 + 2, none⟩ = some (.string (bs l[k].data)) := by
  rcases h.ext hE with h0 | ⟨b, o, hA, hb, hc⟩
  · subst h0; simp at hk
  · exact ⟨b, o, hA, hb, hc k hk⟩
section
variable {H : Type} {enc : TypeId × Value → H} {w : World} {base : Nat} {spare : Nat → Bool} {held : Bool}
theorem opnDeed_size : Try.prog.cellsOf 33 = 3 := by kernel_rfl
set_option maxRecDepth 100000 in
theorem Deed_cells {n : Nat} {cs : List Value} {x : DataW H × List MemPlace} (h : DataW.trod enc Try.prog w base spare held n 33 cs = some x) : ∃ v : DeedD, cs = [.int .i64 v.kind, .int .i64 v.no, .string (bs v.data)] := by
  obtain ⟨xs, m, _, _, hl, hxl, hf⟩ := DataW.trod_struct Try.underlying33 h
  rw [opnDeed_size] at hl
  match cs, hl with
  | [a0, a1, a2], _ =>
    match xs, hxl with
    | [y0, y1, y2], _ =>
      have f0 : DataW.trod enc Try.prog w base spare held m 3 (List.take (Try.prog.cellsOf 3) (List.drop 0 [a0, a1, a2])) = some y0 := hf 0 _ rfl
      rw [opnInt] at f0
      obtain ⟨k0, h0, _, _⟩ := DataW.trod_int Try.underlying3 f0
      have e0 : a0 = .int .i64 k0 := by simpa using h0
      have f1 : DataW.trod enc Try.prog w base spare held m 3 (List.take (Try.prog.cellsOf 3) (List.drop 1 [a0, a1, a2])) = some y1 := hf 1 _ rfl
      rw [opnInt] at f1
      obtain ⟨k1, h1, _, _⟩ := DataW.trod_int Try.underlying3 f1
      have e1 : a1 = .int .i64 k1 := by simpa using h1
      have f2 : DataW.trod enc Try.prog w base spare held m 9 (List.take (Try.prog.cellsOf 9) (List.drop 2 [a0, a1, a2])) = some y2 := hf 2 _ rfl
      rw [opnStr] at f2
      obtain ⟨s2, h2, _, _⟩ := DataW.trod_string Try.underlying9 f2
      have e2 : a2 = .string s2 := by simpa using h2
      exact ⟨⟨k0, k1, s2.data.toList⟩, by rw [e0, e1, e2]; simp only [bs_self]⟩
set_option maxRecDepth 100000 in
theorem open_Deeds {r : Reach} {b0 : Nat} {v : Value} {d : DataW H} {p : List MemPlace} (hv : Value.okWide Try.prog w r b0 25 v) (h : DataW.Trod enc Try.prog w base spare held 25 v d p) :
    ∃ (A : Option Addr) (l : List DeedD) (cap : Nat), v = .slice A l.length cap ∧ DeedsAt w A l ∧ (A = none → cap = 0) ∧ l.length ≤ cap ∧ cap ≤ maxLen := by
  obtain ⟨a, n, c, rfl⟩ := okWide_slice Try.underlying25 hv
  obtain ⟨fuel, hf⟩ := h
  rcases Go.Deep.open_slice Try.underlying25 hf with ⟨hcs, _⟩ | ⟨ad, len, cap, m, k, D, Pl, hcs, _, hl, hm, hmm, _, hi⟩
  · simp [Value.cells] at hcs
    obtain ⟨rfl, rfl, rfl⟩ := hcs
    exact ⟨none, [], 0, rfl, .inl rfl, fun _ => rfl, Nat.le_refl _, by decide⟩
  · simp [Value.cells] at hcs
    obtain ⟨rfl, rfl, rfl⟩ := hcs
    have hmn : n ≤ m := by rw [hmm]; split <;> omega
    obtain ⟨l, hll, hlp⟩ := list_of (α := DeedD) n (fun i x => w.cell? (ad.add (i * 3)) = some (.int .i64 x.kind) ∧ w.cell? ((ad.add (i * 3)).add 1) = some (.int .i64 x.no) ∧ w.cell? ((ad.add (i * 3)).add 2) = some (.string (bs x.data))) (fun i hin => by
      obtain ⟨cs', hc, ht⟩ := hi i (by omega)
      rw [opnDeed_size] at hc
      obtain ⟨x, rfl⟩ := Deed_cells ht
      obtain ⟨_, _, hat⟩ := World.cells?_some hc
      exact ⟨x, by simpa [Addr.add] using hat 0 (by simp), by simpa using hat 1 (by simp), by simpa using hat 2 (by simp)⟩)
    refine ⟨some ad, l, c, by rw [hll], ?_, (fun h => by cases h), by omega, hm⟩
    by_cases h0 : l = []
    · exact .inl h0
    · have hpos : 0 < l.length := List.length_pos_iff.2 h0
      obtain ⟨b, off, spot⟩ := ad
      have hspot : spot = none := by simpa [Addr.add] using World.cell?_spot (hlp 0 hpos).1
      subst hspot
      have hbl : b < w.heap.size := by
        have := (hlp 0 hpos).1
        rcases Nat.lt_or_ge b w.heap.size with h' | h'
        · exact h'
        · simp [Addr.add, World.cell?, Array.getElem?_eq_none h'] at this
      refine .inr ⟨b, off, rfl, hbl, fun i hi' => ?_⟩
      obtain ⟨q0, q1, q2⟩ := hlp i hi'
      simp only [add_plain] at q0 q1 q2
      exact ⟨q0, q1, q2⟩
end
theorem okWide_array {P : Program} {w : World} {r : Reach} {base : Nat} {t e : TypeId} {n : Nat} {v : Value} (ht : P.underlying t = some (.array n e)) (h : Value.okWide P w r base t v) : ∃ cs, v = .agg cs ∧ cs.size = P.cellsOf t := by
  simp only [Value.okWide, ht] at h
  obtain ⟨cs, h1, h2, _⟩ := h
  exact ⟨cs, h1, h2⟩
end Go.Proofs.Ytebghednhjaniaa

namespace Go.Proofs.Ytebghednhjaniaa
open Go.ChangeShapes Go.WideShapes Go.ChangeAt Go.RowKit

section
variable {H : Type} {enc : TypeId × Value → H} {w : World} {base : Nat} {spare : Nat → Bool} {held : Bool}
theorem opnU16 : Try.prog.cellsOf 22 = 1 := by kernel_rfl
theorem opnQ_size : Try.prog.cellsOf 23 = 2 := by kernel_rfl
set_option maxRecDepth 100000 in
theorem open_Q {r : Reach} {b0 : Nat} {v : Value} {d : DataW H} {p : List MemPlace} (hv : Value.okWide Try.prog w r b0 23 v) (h : DataW.Trod enc Try.prog w base spare held 23 v d p) :
    ∃ a b : Int, v = .agg #[.int .u16 a, .int .u16 b] ∧ 0 ≤ a ∧ a ≤ 65535 ∧ 0 ≤ b ∧ b ≤ 65535 := by
  obtain ⟨cs, rfl, hsz⟩ := okWide_array Try.underlying23 hv
  obtain ⟨fuel, hf⟩ := h
  obtain ⟨xs, m, _, _, hl, hxl, hg⟩ := DataW.trod_array Try.underlying23 hf
  have hcs : (Value.agg cs).cells.toList = cs.toList := rfl
  rw [opnQ_size] at hsz
  rw [hcs] at hg
  match hc : cs.toList, hxl2 : xs, hxl with
  | [a0, a1], [y0, y1], _ =>
    rw [hc] at hg
    have f0 : DataW.trod enc Try.prog w base spare held m 22 (List.take (Try.prog.cellsOf 22) (List.drop (0 * Try.prog.cellsOf 22) [a0, a1])) = some y0 := hg 0 (by decide)
    have f1 : DataW.trod enc Try.prog w base spare held m 22 (List.take (Try.prog.cellsOf 22) (List.drop (1 * Try.prog.cellsOf 22) [a0, a1])) = some y1 := hg 1 (by decide)
    rw [opnU16] at f0 f1
    obtain ⟨k0, h0, _, w0⟩ := DataW.trod_int Try.underlying22 f0
    obtain ⟨k1, h1, _, w1⟩ := DataW.trod_int Try.underlying22 f1
    have e0 : a0 = .int .u16 k0 := by simpa using h0
    have e1 : a1 = .int .u16 k1 := by simpa using h1
    have b0 := bounds_u16 w0
    have b1 := bounds_u16 w1
    refine ⟨k0, k1, ?_, b0.1, b0.2, b1.1, b1.2⟩
    rw [← e0, ← e1, show cs = #[a0, a1] from Array.toList_inj.1 hc]
  | [], _, _ => rw [← Array.length_toList, hc] at hsz; simp at hsz
  | [_], _, _ => rw [← Array.length_toList, hc] at hsz; simp at hsz
  | _ :: _ :: _ :: _, _, _ => rw [← Array.length_toList, hc] at hsz; simp at hsz
end
end Go.Proofs.Ytebghednhjaniaa

namespace Go.Proofs.Ytebghednhjaniaa
open Go.ChangeShapes Go.WideShapes Go.ChangeAt Go.RowKit

attribute [local irreducible] wpLexE wpQuiet
attribute [local go_sem] changeUpon
theorem Live.len {S : TreeD} (h : Live S) (hl : S.last ≤ 1000) : S.nodes.length ≤ 1000 := by have := h.count; omega
theorem Live.kept {S : TreeD} (h : Live S) {no : Int} (hk : killB S no = true) : dropN S.nodes no ≠ [] := by
  obtain ⟨m, hm, e⟩ := h.first
  have h1 := (h.killed hk).2
  intro h0
  have : m ∈ dropN S.nodes no := List.mem_filter.2 ⟨hm, by rw [e]; simpa using Ne.symm h1⟩
  rw [h0] at this; cases this
set_option maxRecDepth 100000 in
set_option maxHeartbeats 8000000 in
theorem mountPlays_any (q0 q1 : Int) (A : Option Addr) (l : List ItemD) (cap : Nat) (A2 : Option Addr) (ds : List DeedD) (cap2 : Nat) (w : World) (hA : ItemsAt w A l) (hlen : l.length ≤ 9223372036854775807) (hA2 : DeedsAt w A2 ds) (hlen2 : ds.length ≤ 9223372036854775807)
    (hq0 : 0 ≤ q0) (hq0' : q0 ≤ 65535) (hq1 : 0 ≤ q1) (hq1' : q1 ≤ 65535) :
    Calls Try.prog 3 #[.agg #[.int .u16 q0, .int .u16 q1], .slice A l.length cap, .slice A2 ds.length cap2] w (Ret w (.bool true)) := by
  obtain ⟨m, hm⟩ : ∃ m, m = l.length := ⟨_, rfl⟩
  obtain ⟨n, hn⟩ : ∃ n, n = ds.length := ⟨_, rfl⟩
  have hlen' := hlen
  have hlen2' := hlen2
  rw [← hm] at hlen' ⊢
  rw [← hn] at hlen2' ⊢
  have HM := Lib.hid hm
  have HN := Lib.hid hn
  obtain ⟨W1, hW1⟩ : ∃ W1, W1 = w.alloc (.cells #[.int .u16 q0, .int .u16 q1] 23) := ⟨_, rfl⟩
  have E1 : Ext w W1 := by rw [hW1]; exact (Ext.refl _).alloc _
  have B1 : Has W1 w.heap.size (.cells #[.int .u16 q0, .int .u16 q1] 23) := by rw [hW1]; exact Has.new _ _
  have c0 : W1.cell? ⟨w.heap.size, 0, none⟩ = some (.int .u16 q0) := B1.cell 0
  have c1 : W1.cell? ⟨w.heap.size, 1, none⟩ = some (.int .u16 q1) := B1.cell 1
  have z1 := B1.lt
  have KF : Hid (Calls Try.prog 17 #[.slice A m cap] W1 (FewR W1 l)) := by show Calls _ _ _ _ _; rw [HM.out]; exact few_any A l cap W1 (hA.ext E1) hlen
  clear hm hn
  go_enter Try.func3, Try.ntmps3
  go_upto_region 1 with fail
  rw [← hW1]
  clear hW1
  go_wp2_with fail
  refine KF.out.mono ?_
  rintro e w1 ⟨rfl, ⟨hf, rfl⟩ | ⟨hf, rfl⟩⟩
  case inr =>
    go_wp2_with fail
    refine (awake14 _).mono ?_
    rintro e w3 ⟨rfl, b3⟩
    go_wp2_with fail
    go_ret
    exact Ret.mk rfl (E1.trans b3)
  have HF := Lib.hid hf
  clear hf KF
  by_cases hn40 : (40 : Int) < n
  · have tn : decide ((40 : Int) < (n : Int)) = true := decide_eq_true hn40
    clear hn40
    go_wp2_with fail
    refine (awake14 _).mono ?_
    rintro e w3 ⟨rfl, b3⟩
    go_wp2_with fail
    go_ret
    exact Ret.mk rfl (E1.trans b3)
  have tn : decide ((40 : Int) < (n : Int)) = false := decide_eq_false hn40
  have hn40' : n ≤ 40 := by omega
  have hlim : limitsF (q0 + 1) (q1 + 1) = true := by unfold limitsF; simp; omega
  have hga := good_all (good_first hlim) l
  have hL0 : Live (growAll (firstT (q0 + 1) (q1 + 1)) l) := (grown_all (grown_first hlim) l HF.out.1).live
  have hl40 := HF.out.2
  have y0 : IntKind.i64.wrap q0 = q0 := wrap_i64_in (by omega) (by omega)
  have y1 : IntKind.i64.wrap q1 = q1 := wrap_i64_in (by omega) (by omega)
  have y2 : IntKind.i64.wrap (q0 + 1) = q0 + 1 := wrap_i64_in (by omega) (by omega)
  have y3 : IntKind.i64.wrap (q1 + 1) = q1 + 1 := wrap_i64_in (by omega) (by omega)
  have KG : Hid (Calls Try.prog 19 #[.int .i64 (q0 + 1), .int .i64 (q1 + 1), .slice A m cap] W1 (GrowAllR W1 (q0 + 1) (q1 + 1) l)) := by show Calls _ _ _ _ _; rw [HM.out]; exact growAll_any _ _ A l cap W1 hlim HF.out (hA.ext E1)
  clear hn40
  go_wp2_with fail
  refine KG.out.mono ?_
  rintro e w3 ⟨g, f, rfl, ⟨K3, F3⟩, E3⟩
  obtain ⟨B, hB⟩ : ∃ B, B = W1.heap.size := ⟨_, rfl⟩
  rw [← hB] at K3 F3
  obtain ⟨S, hS⟩ : ∃ S, S = growAll (firstT (q0 + 1) (q1 + 1)) l := ⟨_, rfl⟩
  rw [← hS] at K3 F3 hL0
  have hSl : S.last ≤ 41 := by
    have h2 := hga.2
    rw [hS]
    rw [show growAll (rootT emptyT 0 (q0 + 1) (q1 + 1)) l = growAll (firstT (q0 + 1) (q1 + 1)) l from rfl, show (rootT emptyT 0 (q0 + 1) (q1 + 1)).last = 1 from rfl] at h2
    omega
  have HB := Lib.hid hB
  have HE3 := Lib.hid E3
  have HL0 := Lib.hid hL0
  have HK3 := Lib.hid K3
  have HF3 := Lib.hid F3
  have HE1 := Lib.hid E1
  clear hS hga hL0 hl40 KG hB hlen hlen' c0 c1 z1 B1 y0 y1 y2 y3 hlim E1
  go_wp2_with fail
  go_loopw [10] (fun i wr => ∃ (k : Nat) (T : TreeD) (X : Xtra), i = .int .i64 k ∧ k ≤ n ∧ Live T ∧ T.last ≤ 41 + k ∧ Mix w3 B g f T T X wr) (fun i _ => n - (intOf i).toNat)
  case atStart => exact ⟨0, S, _, rfl, Nat.zero_le _, HL0.out, by simpa using hSl, Mix.start K3 F3⟩
  case round =>
    obtain ⟨k, T, X, rfl, hk, hT, hTl, hM⟩ := hrel
    have X1 : Ext W1 wr := hM.after HE3.out (by rw [HB.out]; exact Nat.le_refl _) HK3.out HF3.out
    have HT := Lib.hid hT
    have HM1 := Lib.hid hM
    clear hT hM
    by_cases hlt : (k : Int) < n
    · have hkl : k < ds.length := by have := HN.out; omega
      have y0 : (0 : Int) ≤ (k : Int) := Int.natCast_nonneg _
      obtain ⟨bI, o, rfl, hbw, i0, i1, i2⟩ := hA2.at_ (HE1.out.trans X1) k hkl
      obtain ⟨x, hx⟩ : ∃ x, x = ds[k] := ⟨_, rfl⟩
      rw [← hx] at i0 i1 i2
      clear hx
      obtain ⟨W2, hW2⟩ : ∃ W2, W2 = wr.alloc (.cells #[.int .i64 x.kind, .int .i64 x.no, .string (bs x.data)] 33) := ⟨_, rfl⟩
      have E2 : Ext wr W2 := by rw [hW2]; exact (Ext.refl _).alloc _
      obtain ⟨b2, hb2⟩ : ∃ b, b = wr.heap.size := ⟨_, rfl⟩
      have B2 : Has W2 b2 (.cells #[.int .i64 x.kind, .int .i64 x.no, .string (bs x.data)] 33) := by rw [hW2, hb2]; exact Has.new _ _
      have hnb : ∀ (g1 : GhW) (f1 : GhF), WAt wr B g1 T → FAt wr B f1 T X → b2 ∉ g1.list ++ f1.list := by
        intro g1 f1 hK hF hb
        have hlW := hK.lt
        have hlF := hF.lt
        simp only [List.mem_append, GhW.list, GhF.list, List.mem_cons, List.not_mem_nil, or_false] at hb
        omega
      go_upto_region 10 with fail
      rw [← hW2]
      rw [← hb2]
      have HB2 := Lib.hid B2
      have HNB := Lib.hid hnb
      have HE2 := Lib.hid E2
      have c2 : W2.cell? ⟨b2, 2, none⟩ = some (.string (bs x.data)) := B2.cell 2
      have z2 := B2.lt
      have hsz : ((bs x.data).size : Int) = x.data.length := by rw [bs_size]
      clear hW2 hb2 i0 i1 i2 B2 hnb E2
      by_cases hd : (3000 : Int) < x.data.length
      · have td : decide ((3000 : Int) < (x.data.length : Int)) = true := decide_eq_true hd
        clear hd
        go_wp2_with fail
        refine (awake14 _).mono ?_
        rintro e w4 ⟨rfl, b4⟩
        go_wp2_with fail
        go_ret
        exact Ret.mk rfl (((HE1.out.trans X1).trans HE2.out).trans b4)
      have td : decide ((3000 : Int) < (x.data.length : Int)) = false := decide_eq_false hd
      obtain ⟨g1, f1, h1, h2, h3, h4, h5⟩ := id HM1.out
      have M2 : Mix W2 B g1 f1 T T X W2 := Mix.start (h3.ext HE2.out) (h4.ext HE2.out)
      have hnb2 := HNB.out g1 f1 h3 h4
      have hBw : B ≤ W2.heap.size := by have := (h3.apart _ (by simp : g1.bW ∈ g1.list)).1; have := h3.lt.1; have := HE2.out.size; omega
      have e1 := h1.1
      have e2 := h2.1
      rw [← e1, ← e2]
      have HBK : Hid (∀ (T' : TreeD) (w' : World), Mix W2 B g1 f1 T' T' X w' → Mix w3 B g f T' T' X w') := by
        show ∀ (T' : TreeD) (w' : World), _
        intro T' w' hM'
        obtain ⟨g2, f2, a1, a2, a3, a4, a5⟩ := hM'.base HE2.out
        refine ⟨g2, f2, GhW.on_trans h1 a1 h5.size, GhF.on_trans h2 a2 h5.size, a3, a4, h5.trans a5 (fun b hb => ?_)⟩
        rcases List.mem_append.1 hb with hb | hb
        · rcases h1.2 b hb with e | e
          · exact .inl (List.mem_append_left _ e)
          · exact .inr e
        · rcases h2.2 b hb with e | e
          · exact .inl (List.mem_append_right _ e)
          · exact .inr e
      have HM2 := Lib.hid M2
      have HE1' := Lib.hid e1
      have HE2' := Lib.hid e2
      clear h1 h2 h3 h4 h5 e1 e2 M2
      have k0 : W2.cell? ⟨b2, 0, none⟩ = some (.int .i64 x.kind) := HB2.out.cell 0
      go_upto_block 2 with fail
      go_cut [12] (fun v wc => v = .bool true ∧ ∃ T', Live T' ∧ T'.last ≤ T.last + 1 ∧ Mix W2 B g1 f1 T' T' X wc)
      case first =>
        clear k0
        by_cases q0 : x.kind = 0
        · have t0 : (x.kind == 0) = true := by simpa using q0
          obtain ⟨T', hT'⟩ : ∃ T', T' = killT T x.no := ⟨_, rfl⟩
          obtain ⟨v0, hv0⟩ : ∃ v0, v0 = killB T x.no := ⟨_, rfl⟩
          have hLT : Live T' := by rw [hT']; exact HT.out.kill _
          have hLl : T'.last ≤ T.last + 1 := by rw [hT']; rw [killT_last]; omega
          have HT' := Lib.hid hT'
          have HV0 := Lib.hid hv0
          have HLT := Lib.hid hLT
          have HLL := Lib.hid hLl
          clear hT' hv0 hLT hLl q0 c2
          go_upto_region 18 with fail
          obtain ⟨Ph, hPh⟩ : ∃ Ph, Ph = ph2 (Mix W2 B g1 f1 T T X) (Mix W2 B g1 f1 T' T X) (Mix W2 B g1 f1 T' T' X) := ⟨_, rfl⟩
          have P0 : Ph 0 = Mix W2 B g1 f1 T T X := by rw [hPh]; rfl
          have P1 : Ph 1 = Mix W2 B g1 f1 T' T X := by rw [hPh]; rfl
          have P2 : Ph 2 = Mix W2 B g1 f1 T' T' X := by rw [hPh]; rfl
          have HV : Hid (Ph 0 W2.drew) := by show Ph 0 _; rw [P0]; exact HM2.out.ext (Ext.refl _).drew
          have hne : Nonempty (Hp Ph) := ⟨⟨0, _, HV.out⟩⟩
          have KQ : Hid (∀ w', Ph 2 w' → Mix W2 B g1 f1 T' T' X w') := by show ∀ w', _; intro w' hw; rw [P2] at hw; exact hw
          have ux : ∀ u : Hp Ph, Has u.w b2 (.cells #[.int .i64 x.kind, .int .i64 x.no, .string (bs x.data)] 33) := by
            rw [hPh]
            have hk : ∀ (T S : TreeD) (w' : World), Mix W2 B g1 f1 T S X w' → Has w' b2 (.cells #[.int .i64 x.kind, .int .i64 x.no, .string (bs x.data)] 33) := fun T S w' h' => h'.has HB2.out hnb2
            exact ph2_all (T := fun w' => Has w' b2 (.cells #[.int .i64 x.kind, .int .i64 x.no, .string (bs x.data)] 33)) (hk _ _) (hk _ _) (hk _ _)
          have u1 : ∀ u : Hp Ph, u.w.cell? ⟨b2, 1, none⟩ = some (.int .i64 x.no) := fun u => (ux u).cell 1
          have KC0 : Hid (∀ u : Wc (Ph 0), Calls Try.prog 20 #[.pointer (some ⟨g1.bW, 0, none⟩), .int .i64 x.no] u.w (fun e w' => e = .returned (.bool v0) ∧ Ph 1 w')) := by
            show ∀ u : Wc (Ph 0), _
            rintro ⟨u, hu⟩
            dsimp only
            rw [P0] at hu
            rw [P1]
            refine Mix.callW (T := T) hu fun g2 hg hK => ?_
            rw [HT'.out, HV0.out, ← hg]
            exact (pkill_any B g2 T x.no _ hK (HT.out.devs) HT.out.eight HT.out.roots HT.out.nos HT.out.on).mono fun _ _ hh => hh.to
          have KC1 : Hid (∀ u : Wc (Ph 1), Calls Try.prog 21 #[.pointer (some ⟨f1.bF, 0, none⟩), .int .i64 x.no] u.w (fun e w' => e = .returned (.bool v0) ∧ Ph 2 w')) := by
            show ∀ u : Wc (Ph 1), _
            rintro ⟨u, hu⟩
            dsimp only
            rw [P1] at hu
            rw [P2]
            refine Mix.callF (S := T) (X := X) hu fun f2 hf hF => ?_
            rw [HT'.out, HV0.out, ← hf]
            exact (rkill_any B f2 T X x.no _ hF (by have := HT.out.count; omega) HT.out.eight HT.out.roots HT.out.nos HT.out.on (fun hk => HT.out.kept hk) (by have := (hF.apart _ (by simp : f2.bF ∈ f2.list)).1; have := hF.lt.1; omega)).mono fun _ _ hh => hh.to
          clear hPh P0 P1 P2 ux
          refine wp_region_phase Ph [3, 7] (by kernel_rfl) (by kernel_rfl) (by kernel_rfl) HV.out ?_
          repeat (first
            | (refine wpLexE_plain (by kernel_rfl) (fun K hK => ?_)
               go_simp
               refine hK _ ?_
               clear hK K)
            | (refine wpLexE_change 0 (by kernel_rfl) rfl (fun K hK => ?_)
               go_simp
               apply Exists.intro
               refine ⟨KC0.out, hK _ ?_⟩
               clear hK K)
            | (refine wpLexE_change 1 (by kernel_rfl) rfl (fun K hK => ?_)
               go_simp
               apply Exists.intro
               refine ⟨KC1.out, hK _ ?_⟩
               clear hK K))
          refine wpLexE_nil ?_
          intro w5 hw5
          have M5 := KQ.out _ hw5
          clear u1 KC0 KC1 HV hw5
          go_wp2_with fail
          go_meet
          exact ⟨rfl, T', HLT.out, HLL.out, M5⟩
        · have t0 : (x.kind == 0) = false := by simpa using q0
          by_cases q1 : x.kind = 1
          · have t1 : (x.kind == 1) = true := by simpa using q1
            obtain ⟨T', hT'⟩ : ∃ T', T' = fillT T x.no x.data := ⟨_, rfl⟩
            obtain ⟨v0, hv0⟩ : ∃ v0, v0 = fillE T x.no x.data.length := ⟨_, rfl⟩
            have hLT : Live T' := by rw [hT']; exact HT.out.fill _ _ (by omega)
            have hLl : T'.last ≤ T.last + 1 := by rw [hT']; rw [fillT_last]; omega
            have HT' := Lib.hid hT'
            have HV0 := Lib.hid hv0
            have HLT := Lib.hid hLT
            have HLL := Lib.hid hLl
            clear hT' hv0 hLT hLl q0 q1 c2
            go_upto_region 20 with fail
            obtain ⟨Ph, hPh⟩ : ∃ Ph, Ph = ph2 (Mix W2 B g1 f1 T T X) (Mix W2 B g1 f1 T' T X) (Mix W2 B g1 f1 T' T' X) := ⟨_, rfl⟩
            have P0 : Ph 0 = Mix W2 B g1 f1 T T X := by rw [hPh]; rfl
            have P1 : Ph 1 = Mix W2 B g1 f1 T' T X := by rw [hPh]; rfl
            have P2 : Ph 2 = Mix W2 B g1 f1 T' T' X := by rw [hPh]; rfl
            have HV : Hid (Ph 0 W2.drew) := by show Ph 0 _; rw [P0]; exact HM2.out.ext (Ext.refl _).drew
            have hne : Nonempty (Hp Ph) := ⟨⟨0, _, HV.out⟩⟩
            have KQ : Hid (∀ w', Ph 2 w' → Mix W2 B g1 f1 T' T' X w') := by show ∀ w', _; intro w' hw; rw [P2] at hw; exact hw
            have ux : ∀ u : Hp Ph, Has u.w b2 (.cells #[.int .i64 x.kind, .int .i64 x.no, .string (bs x.data)] 33) := by
              rw [hPh]
              have hk : ∀ (T S : TreeD) (w' : World), Mix W2 B g1 f1 T S X w' → Has w' b2 (.cells #[.int .i64 x.kind, .int .i64 x.no, .string (bs x.data)] 33) := fun T S w' h' => h'.has HB2.out hnb2
              exact ph2_all (T := fun w' => Has w' b2 (.cells #[.int .i64 x.kind, .int .i64 x.no, .string (bs x.data)] 33)) (hk _ _) (hk _ _) (hk _ _)
            have u1 : ∀ u : Hp Ph, u.w.cell? ⟨b2, 1, none⟩ = some (.int .i64 x.no) := fun u => (ux u).cell 1
            have u2 : ∀ u : Hp Ph, u.w.cell? ⟨b2, 2, none⟩ = some (.string (bs x.data)) := fun u => (ux u).cell 2
            have KC0 : Hid (∀ u : Wc (Ph 0), Calls Try.prog 22 #[.pointer (some ⟨g1.bW, 0, none⟩), .int .i64 x.no, .string (bs x.data)] u.w (fun e w' => e = .returned (.int .i64 v0) ∧ Ph 1 w')) := by
              show ∀ u : Wc (Ph 0), _
              rintro ⟨u, hu⟩
              dsimp only
              rw [P0] at hu
              rw [P1]
              refine Mix.callW (T := T) hu fun g2 hg hK => ?_
              rw [HT'.out, HV0.out, ← hg]
              exact (pfill_any B g2 T x.no x.data _ hK (HT.out.devs) HT.out.eight HT.out.roots HT.out.nos HT.out.on (by omega)).mono fun _ _ hh => hh.to
            have KC1 : Hid (∀ u : Wc (Ph 1), Calls Try.prog 23 #[.pointer (some ⟨f1.bF, 0, none⟩), .int .i64 x.no, .string (bs x.data)] u.w (fun e w' => e = .returned (.int .i64 v0) ∧ Ph 2 w')) := by
              show ∀ u : Wc (Ph 1), _
              rintro ⟨u, hu⟩
              dsimp only
              rw [P1] at hu
              rw [P2]
              refine Mix.callF (S := T) (X := X) hu fun f2 hf hF => ?_
              rw [HT'.out, HV0.out, ← hf]
              exact (rfill_any B f2 T X x.no x.data _ hF (by have := HT.out.count; omega) HT.out.eight HT.out.roots HT.out.nos HT.out.on (by omega)).mono fun _ _ hh => hh.to
            clear hPh P0 P1 P2 ux
            refine wp_region_phase Ph [5, 11] (by kernel_rfl) (by kernel_rfl) (by kernel_rfl) HV.out ?_
            repeat (first
              | (refine wpLexE_plain (by kernel_rfl) (fun K hK => ?_)
                 go_simp
                 refine hK _ ?_
                 clear hK K)
              | (refine wpLexE_change 0 (by kernel_rfl) rfl (fun K hK => ?_)
                 go_simp
                 apply Exists.intro
                 refine ⟨KC0.out, hK _ ?_⟩
                 clear hK K)
              | (refine wpLexE_change 1 (by kernel_rfl) rfl (fun K hK => ?_)
                 go_simp
                 apply Exists.intro
                 refine ⟨KC1.out, hK _ ?_⟩
                 clear hK K))
            refine wpLexE_nil ?_
            intro w5 hw5
            have M5 := KQ.out _ hw5
            clear u1 u2 KC0 KC1 HV hw5
            go_wp2_with fail
            go_meet
            exact ⟨rfl, T', HLT.out, HLL.out, M5⟩
          · have t1 : (x.kind == 1) = false := by simpa using q1
            clear q0 q1
            have k1 : W2.cell? ⟨b2, 1, none⟩ = some (.int .i64 x.no) := HB2.out.cell 1
            obtain ⟨N, hN⟩ : ∃ N : Int, N = x.data.length := ⟨_, rfl⟩
            rw [← hN] at hsz
            have HNN := Lib.hid hN
            obtain ⟨g3, f3, a1, a2, a3, a4, a5⟩ := id HM2.out
            clear hN
            go_wp2_with fail
            rw [← a1.1]
            refine (pmount_any B g3 T x.no N N _ a3 HT.out.devs HT.out.eight HT.out.nos (by have := HT.out.last; omega) (by omega)).mono ?_
            rintro e w4 hh
            obtain ⟨rfl, g4, K4, O4, on4⟩ := hh.to
            have M4 : Mix W2 B g1 f1 (mountT T x.no N N) T X w4 := Mix.prog a1 a2 a3 a4 a5 K4 O4 on4
            have B4 := M4.has HB2.out hnb2
            rw [a1.1]
            clear k1 c2 z2 a1 a2 a3 a4 a5 K4 O4 on4 hh
            have k1 : w4.cell? ⟨b2, 1, none⟩ = some (.int .i64 x.no) := B4.cell 1
            have k2 : w4.cell? ⟨b2, 2, none⟩ = some (.string (bs x.data)) := B4.cell 2
            have z4 := B4.lt
            obtain ⟨g3, f3, a1, a2, a3, a4, a5⟩ := id M4
            go_wp2_with fail
            rw [← a2.1]
            refine (rmount_any B f3 T X x.no N N _ a4 HT.out.eight HT.out.nos (by have := HT.out.last; omega) (by omega) (by have := HT.out.count; omega)).mono ?_
            rintro e w5 hh
            obtain ⟨rfl, f4, F5, O5, on5⟩ := hh.to
            have M5 : Mix W2 B g1 f1 (mountT T x.no N N) (mountT T x.no N N) X w5 := Mix.refc a1 a2 a3 a4 a5 F5 O5 on5
            rw [a2.1]
            clear k1 k2 z4 a1 a2 a3 a4 a5 F5 O5 on5 hh M4
            go_wp2_with fail
            go_meet
            exact ⟨rfl, _, HT.out.mount _ _ _, mountT_last _ _ _, M5⟩
      case rest =>
      obtain ⟨rfl, T', hT', hTl', M3⟩ := hcut
      obtain ⟨W3, hW3⟩ : ∃ W3, W3 = wc := ⟨_, rfl⟩
      rw [← hW3] at M3 ⊢
      have HT' := Lib.hid hT'
      clear hW3 c2 z2 k0 hsz hnb2 hBw hT' td hd
      go_upto_region 21 with fail
      have KD : Hid (∀ u : Gr W3, Calls Try.prog 26 #[.pointer (some ⟨g1.bW, 0, none⟩)] u.w (Ret u.w (.int .i64 T'.devs.length))) := by
        show ∀ u : Gr W3, _
        intro u
        obtain ⟨g3, f3, a1, a2, a3, a4, a5⟩ := M3.ext u.h
        rw [← a1.1]
        exact pdevs_any B g3 T' _ a3 HT'.out.devs
      obtain ⟨g3, f3, a1, a2, a3, a4, a5⟩ := id M3
      have KL : Hid (∀ u : Gr W3, Calls Try.prog 27 #[.pointer (some ⟨g3.bT, 0, none⟩)] u.w (Ret u.w (.int .i64 T'.nodes.length))) := by
        show ∀ u : Gr W3, _
        exact fun u => tlen_any B g3.bT g3.bM T'.nodes T'.last _ (a3.ext u.h).2.1
      obtain ⟨_, _, cd, kW, _⟩ := id a3
      obtain ⟨_, cn, ce, kF, _, _⟩ := id a4
      have y1 := Gr.cell kW.lt (kW.cell 0)
      have y2 := Gr.cell kF.lt (kF.cell 0)
      have y3 := Gr.cell kF.lt (kF.cell 1)
      rw [a1.1] at y1
      rw [a2.1] at y2 y3
      clear kW kF
      refine wp_region_grow W3 (by kernel_rfl) (by kernel_rfl) (Ext.refl _).drew ?_
      repeat (quiet_step (first
        | ((with_reducible refine (KD.out _).mono ?_); rintro e w'' ⟨rfl, hEx⟩; exact ⟨rfl, ⟨w'', Ext.trans (Gr.h _) hEx⟩, rfl⟩)
        | ((with_reducible refine (KL.out _).mono ?_); rintro e w'' ⟨rfl, hEx⟩; exact ⟨rfl, ⟨w'', Ext.trans (Gr.h _) hEx⟩, rfl⟩)))
      refine wpQuiet_nil ?_
      rintro w4 ⟨⟨w4', E4⟩, h4⟩
      dsimp only at h4
      subst h4
      clear y1 y2 y3 KD KL a1 a2 a3 a4 a5
      have M4 := M3.ext E4
      obtain ⟨D, hD⟩ : ∃ D, D = T'.devs.length := ⟨_, rfl⟩
      have HD := Lib.hid hD
      have hD8 : D ≤ 8 := by rw [hD]; exact HT'.out.eight
      clear hD M3 E4
      have HREL : Hid (∀ w', Mix w3 B g f T' T' X w' → ∃ (k2 : Nat) (T2 : TreeD) (X2 : Xtra), Value.int .i64 ((k : Int) + 1) = .int .i64 k2 ∧ k2 ≤ n ∧ Live T2 ∧ T2.last ≤ 41 + k2 ∧ Mix w3 B g f T2 T2 X2 w') := by
        show ∀ w', _
        intro w' hw
        exact ⟨k + 1, T', X, by go_num, by omega, HT'.out, by omega, hw⟩
      go_wp2_with fail
      go_loopw [17] (fun v wq => ∃ d : Nat, v = .int .i64 ((d : Int) + 1) ∧ d ≤ D ∧ Mix W2 B g1 f1 T' T' X wq) (fun v _ => D + 1 - (intOf v).toNat)
      case atStart => exact ⟨0, rfl, by omega, M4⟩
      case round =>
        clear M4
        obtain ⟨d, rfl, hdd, hM⟩ := hrel
        obtain ⟨g3, f3, a1, a2, a3, a4, a5⟩ := id hM
        obtain ⟨_, cnr, cer, kF, _, kD⟩ := id a4
        have hlF := a4.lt
        have c1 : wr.cell? ⟨f1.bF, 1, none⟩ = some (.slice (some ⟨f3.bE, 0, none⟩) D cer) := by rw [HD.out, ← a2.1]; exact kF.cell 1
        have zF : f1.bF < wr.heap.size := by rw [← a2.1]; exact hlF.1
        by_cases hin : d < D
        · have tin : decide ((d : Int) + 1 ≤ (D : Int)) = true := decide_eq_true (by omega)
          have hk : d < T'.devs.length := by have := HD.out; omega
          obtain ⟨q, hq⟩ : ∃ q, q = useF T'.devs ((d : Int) + 1) := ⟨_, rfl⟩
          have hv : q = T'.devs[d].q := by
            rw [hq]
            rcases rootF_zero HT'.out.roots ((d : Int) + 1) with ⟨_, e2⟩ | ⟨j, hj, e1, e2, e3, _⟩
            · unfold hasD at e2; simp at e2; omega
            · unfold useF; rw [e2, e3]
              have : j = d := by omega
              subst this; rfl
          have HQ := Lib.hid hq
          obtain ⟨d0, d1, d2, d3, d4, d5⟩ := RowD.at_ kD d hk
          rw [← hv] at d2 d3 d4 d5
          have KU : Hid (∀ u : Gr wr, Calls Try.prog 28 #[.pointer (some ⟨g1.bW, 0, none⟩), .int .i64 ((d : Int) + 1)] u.w (Ret u.w (.agg #[.int .i64 q.blocks, .int .i64 q.nodes, .int .i64 q.mostB, .int .i64 q.mostN]))) := by
            show ∀ u : Gr wr, _
            intro u
            rw [HQ.out, ← a1.1]
            exact puse_any B g3 T' _ _ (a3.ext u.h) HT'.out.devs HT'.out.eight HT'.out.roots
          have y0 : (0 : Int) ≤ (d : Int) := Int.natCast_nonneg _
          have y1 : (d : Int) < (D : Int) := by omega
          have y2 : ((d : Int) + 1 - 1) = d := by omega
          have y3 : IntKind.i64.wrap (d : Int) = d := wrap_i64_in (by omega) (by omega)
          have x1 := Gr.cell zF c1
          have x2 := Gr.cell hlF.2.2 d2
          have x3 := Gr.cell hlF.2.2 d3
          have x4 := Gr.cell hlF.2.2 d4
          have x5 := Gr.cell hlF.2.2 d5
          have HMM := Lib.hid hM
          clear hq hv kF kD d0 d1 d2 d3 d4 d5 hk a1 a2 a3 a4 a5 hM hin
          go_upto_region 26 with fail
          refine wp_region_grow wr (by kernel_rfl) (by kernel_rfl) (Ext.refl _).drew ?_
          clear c1 zF
          repeat (quiet_step (first
            | ((with_reducible refine (KU.out _).mono ?_); rintro e w'' ⟨rfl, hEx⟩; exact ⟨rfl, ⟨w'', Ext.trans (Gr.h _) hEx⟩, rfl⟩)))
          refine wpQuiet_nil ?_
          rintro w9 ⟨⟨w9', E9⟩, h9⟩
          dsimp only at h9
          subst h9
          clear x1 x2 x3 x4 x5 KU
          go_wp2_with fail
          go_roundw
          case rel => exact ⟨d + 1, by go_num, by omega, HMM.out.ext E9⟩
          case measure => simp [intOf]; omega
        · have tin : decide ((d : Int) + 1 ≤ (D : Int)) = false := decide_eq_false (by omega)
          have HMM := Lib.hid (HBK.out _ _ hM)
          clear kF kD hM a1 a2 a3 a4 a5
          rw [HE2'.out] at c1
          rw [HE1'.out, HE2'.out]
          go_wp2_with fail
          go_roundw
          case rel => exact HREL.out _ HMM.out
          case measure => simp [intOf]; omega
    · clear X1
      have X2 : Ext W1 wr := HM1.out.after HE3.out (by rw [HB.out]; exact Nat.le_refl _) HK3.out HF3.out
      go_wp2_with fail
      refine (awake14 _).mono ?_
      rintro e w4 ⟨rfl, b4⟩
      go_wp2_with fail
      go_ret
      exact Ret.mk rfl ((HE1.out.trans X2).trans b4)
set_option maxRecDepth 100000 in
theorem mountPlays_walk {H : Type} {enc : TypeId × Value → H} (W : World) (base : Nat) (v0 v1 v2 : Value) (d0 d1 d2 : DataW H) (p0 p1 p2 : List MemPlace)
    (k0 : Value.okWide Try.prog W .any base 23 v0) (h0 : DataW.Trod enc Try.prog W 0 (fun _ => true) true 23 v0 d0 p0)
    (k1 : Value.okWide Try.prog W .any base 24 v1) (h1 : DataW.Trod enc Try.prog W 0 (fun _ => true) true 24 v1 d1 p1)
    (k2 : Value.okWide Try.prog W .any base 25 v2) (h2 : DataW.Trod enc Try.prog W 0 (fun _ => true) true 25 v2 d2 p2)
    : Calls Try.prog 3 #[v0, v1, v2] W (Ret W (.bool true)) := by
  obtain ⟨a, b, rfl, ha, ha', hb, hb'⟩ := open_Q k0 h0
  obtain ⟨A, l, cap, rfl, hA, _, hl, hc⟩ := open_Items k1 h1
  obtain ⟨A2, l2, cap2, rfl, hA2, _, hl2, hc2⟩ := open_Deeds k2 h2
  exact mountPlays_any a b A l cap A2 l2 cap2 W hA (by unfold maxLen at hc; omega) hA2 (by unfold maxLen at hc2; omega) ha ha' hb hb'
end Go.Proofs.Ytebghednhjaniaa
