/- Layer 7 (sizes): a row of lines that came in; the chapter's example. -/
import Derived.Test.YtmppjbimdonfmaaDoorSizZ
import Derived.Lib.SmallJoins
namespace Go.Proofs.YtmppjbimdonfmaaDoor
open Go.ChangeShapes Go.WideShapes Go.ChangeAt Go.RowKit

theorem list_of {α : Type} (n : Nat) (P : Nat → α → Prop) (h : ∀ i, i < n → ∃ x, P i x) : ∃ l : List α, l.length = n ∧ ∀ i, (hi : i < l.length) → P i l[i] := by
  induction n with
  | zero => exact ⟨[], rfl, fun i hi => by cases hi⟩
  | succ n ih =>
    obtain ⟨l, hl, hp⟩ := ih (fun i hi => h i (by omega))
    obtain ⟨x, hx⟩ := h n (by omega)
    refine ⟨l ++ [x], by simp [hl], fun i hi => ?_⟩
    by_cases hin : i < l.length
    · rw [List.getElem_append_left hin]; exact hp i hin
    · have : i = l.length := by simp at hi; omega
      subst this
      rw [List.getElem_append_right (Nat.le_refl _)]
      simpa [hl] using hx
theorem wf_I64 {n : Int} (h : (Lit.int .i64 n).wf = true) : I64 n := by
  simp only [Lit.wf, Bool.and_eq_true, decide_eq_true_eq] at h
  exact h
section
variable {H : Type} {enc : TypeId × Value → H} {w : World} {base : Nat} {spare : Nat → Bool} {held : Bool}
theorem cellsLine : Tryd.prog.cellsOf 48 = 3 := by kernel_rfl
theorem cellsIntL : Tryd.prog.cellsOf 3 = 1 := by kernel_rfl
theorem cellsStrL : Tryd.prog.cellsOf 9 = 1 := by kernel_rfl
set_option maxRecDepth 100000 in
theorem line_cells {n : Nat} {cs : List Value} {x : DataW H × List MemPlace} (h : DataW.trod enc Tryd.prog w base spare held n 48 cs = some x) : ∃ y : EntD, cs = [.int .i64 y.2.1, .int .i64 y.2.2, .string (bs y.1)] ∧ I64 y.2.1 ∧ I64 y.2.2 ∧ y.1.length ≤ maxLen := by
  obtain ⟨xs, m, _, _, hl, hxl, hf⟩ := DataW.trod_struct Tryd.underlying48 h
  rw [cellsLine] at hl
  match cs, hl with
  | [a0, a1, a2], _ =>
    match xs, hxl with
    | [y0, y1, y2], _ =>
      have f0 : DataW.trod enc Tryd.prog w base spare held m 3 (List.take (Tryd.prog.cellsOf 3) (List.drop 0 [a0, a1, a2])) = some y0 := hf 0 _ rfl
      have f1 : DataW.trod enc Tryd.prog w base spare held m 3 (List.take (Tryd.prog.cellsOf 3) (List.drop 1 [a0, a1, a2])) = some y1 := hf 1 _ rfl
      have f2 : DataW.trod enc Tryd.prog w base spare held m 9 (List.take (Tryd.prog.cellsOf 9) (List.drop 2 [a0, a1, a2])) = some y2 := hf 2 _ rfl
      rw [cellsIntL] at f0 f1
      rw [cellsStrL] at f2
      obtain ⟨k, h0, _, w0⟩ := DataW.trod_int Tryd.underlying3 f0
      obtain ⟨j, h1, _, w1⟩ := DataW.trod_int Tryd.underlying3 f1
      obtain ⟨s, h2, _, hs⟩ := DataW.trod_string Tryd.underlying9 f2
      have e0 : a0 = .int .i64 k := by simpa using h0
      have e1 : a1 = .int .i64 j := by simpa using h1
      have e2 : a2 = .string s := by simpa using h2
      exact ⟨(s.data.toList, k, j), by rw [e0, e1, e2, bs_self], wf_I64 w0, wf_I64 w1, by simpa using hs⟩
set_option maxRecDepth 100000 in
/-- A []api.Line that came in. -/
theorem open_lines {r : Reach} {b0 : Nat} {v : Value} {d : DataW H} {p : List MemPlace} (hv : Value.okWide Tryd.prog w r b0 40 v) (h : DataW.Trod enc Tryd.prog w base spare held 40 v d p) :
    ∃ (A : Option Addr) (l : List EntD) (cap : Nat), v = .slice A l.length cap ∧ EntsAt w A l ∧ (A = none → cap = 0) ∧ l.length ≤ cap ∧ cap ≤ maxLen ∧ ∀ x ∈ l, I64 x.2.1 ∧ I64 x.2.2 ∧ x.1.length ≤ maxLen := by
  obtain ⟨a, n, c, rfl⟩ := okWide_slice Tryd.underlying40 hv
  obtain ⟨fuel, hf⟩ := h
  rcases Go.Deep.open_slice Tryd.underlying40 hf with ⟨hcs, _⟩ | ⟨ad, len, cap, m, k, D, Pl, hcs, _, hl, hm, hmm, _, hi⟩
  · simp [Value.cells] at hcs
    obtain ⟨rfl, rfl, rfl⟩ := hcs
    exact ⟨none, [], 0, rfl, .inl rfl, fun _ => rfl, Nat.le_refl _, by decide, fun x hx => by cases hx⟩
  · simp [Value.cells] at hcs
    obtain ⟨rfl, rfl, rfl⟩ := hcs
    have hmn : n ≤ m := by rw [hmm]; split <;> omega
    obtain ⟨l, hll, hlp⟩ := list_of (α := EntD) n (fun i x => (w.cell? (ad.add (i * 3)) = some (.int .i64 x.2.1) ∧ w.cell? ((ad.add (i * 3)).add 1) = some (.int .i64 x.2.2) ∧ w.cell? ((ad.add (i * 3)).add 2) = some (.string (bs x.1))) ∧ I64 x.2.1 ∧ I64 x.2.2 ∧ x.1.length ≤ maxLen) (fun i hin => by
      obtain ⟨cs', hc, ht⟩ := hi i (by omega)
      rw [cellsLine] at hc
      obtain ⟨y, hcs2, q⟩ := line_cells ht
      obtain ⟨_, _, hat⟩ := World.cells?_some hc
      have e : ∀ j, j < 3 → w.cell? ((ad.add (i * 3)).add j) = cs'[j]? := fun j hj => hat j hj
      have l0 : cs'[0]? = some (.int .i64 y.2.1) := by rw [hcs2]; rfl
      have l1 : cs'[1]? = some (.int .i64 y.2.2) := by rw [hcs2]; rfl
      have l2 : cs'[2]? = some (.string (bs y.1)) := by rw [hcs2]; rfl
      exact ⟨y, ⟨by have := (e 0 (by decide)).trans l0; simpa [Addr.add] using this, (e 1 (by decide)).trans l1, (e 2 (by decide)).trans l2⟩, q⟩)
    refine ⟨some ad, l, c, by rw [hll], ?_, (fun h => by cases h), by omega, hm, ?_⟩
    · by_cases h0 : l = []
      · exact .inl h0
      · have hpos : 0 < l.length := List.length_pos_iff.2 h0
        obtain ⟨b, off, spot⟩ := ad
        obtain ⟨⟨g0, _⟩, _⟩ := hlp 0 hpos
        have hspot : spot = none := by simpa [Addr.add] using World.cell?_spot g0
        subst hspot
        have hbl : b < w.heap.size := by
          rcases Nat.lt_or_ge b w.heap.size with h' | h'
          · exact h'
          · simp [Addr.add, World.cell?, Array.getElem?_eq_none h'] at g0
        refine .inr ⟨b, off, rfl, hbl, fun i hi' => ?_⟩
        obtain ⟨⟨g0, g1, g2⟩, _⟩ := hlp i hi'
        rw [Addr.add_lit] at g0 g1 g2
        rw [Addr.add_lit] at g1 g2
        exact ⟨g0, g1, g2⟩
    · intro x hx
      obtain ⟨i, hi', rfl⟩ := List.getElem_of_mem hx
      exact (hlp i hi').2
end
/-! ### The chapter's example. -/
def exT : List UInt8 := [120, 10, 49, 32, 50, 32, 97, 10, 51, 32, 52, 32, 97, 10]
theorem dec_small : decI 1 = [49] ∧ decI 2 = [50] ∧ decI 3 = [51] ∧ decI 4 = [52] := ⟨by kernel_rfl, by kernel_rfl, by kernel_rfl, by kernel_rfl⟩
theorem ex_pc : pcB 10 [] exT = [[120], [49, 32, 50, 32, 97], [51, 32, 52, 32, 97], []] := by decide
theorem ex_a : lineO [49, 32, 50, 32, 97] = some ([97], 1, 2) :=
  lineO_some ⟨[49], [50], [97], by decide, by decide, by unfold I64; decide, dec_small.1, by unfold I64; decide, dec_small.2.1, by decide, by decide⟩
theorem ex_b : lineO [51, 32, 52, 32, 97] = some ([97], 3, 4) :=
  lineO_some ⟨[51], [52], [97], by decide, by decide, by unfold I64; decide, dec_small.2.2.1, by unfold I64; decide, dec_small.2.2.2, by decide, by decide⟩
theorem ex_c : lineO [120] = none := lineO_none fun x ⟨a, b, c, h, _⟩ => by rw [show cutB 32 [120] = none from by decide] at h; cases h
theorem ex_d : lineO [] = none := lineO_none fun x ⟨a, b, c, h, _⟩ => by cases h
theorem ex_parse : parseL (pcB 10 [] exT) = [([97], 3, 4)] := by
  rw [ex_pc]
  unfold parseL
  rw [List.foldl_cons, stepF_none ex_c, List.foldl_cons, stepF_some ex_a, List.foldl_cons, stepF_some ex_b, List.foldl_cons, stepF_none ex_d, List.foldl_nil]
  decide
theorem ex_write : bs (writeL [([97, 32, 98], 5, 7)]) = ⟨#[53, 32, 55, 32, 97, 37, 50, 48, 98, 10]⟩ := by kernel_rfl
set_option maxRecDepth 100000 in
set_option maxHeartbeats 4000000 in
theorem awake7 (w : World) (hM : HasMax w) : Calls Tryd.prog 43 #[] w (Ret w (.bool true)) := by
  have hp := sparse_any exT w hM (by decide) (by decide)
  rw [ex_parse] at hp
  have hp : Calls Tryd.prog 47 #[.string ⟨#[120, 10, 49, 32, 50, 32, 97, 10, 51, 32, 52, 32, 97, 10]⟩] w (OwnR w [([97], 3, 4)]) := hp
  have HP := Lib.hid hp
  clear hp
  go_enter Tryd.func43, Tryd.ntmps43
  go_wp2_with fail
  refine (HP.out).mono ?_
  rintro e w1 ⟨v, rfl, ho, b1⟩
  have hown : w1.ownsRow w.heap.size 48 3 v 1 (entCells [([97], 3, 4)]) := ho
  obtain ⟨g, cap, rfl⟩ := ownsRow_succ hown
  have hgl := (hown.lt g rfl).2
  have q0 : w1.cell? ⟨g, 0, none⟩ = some (.int .i64 3) := hown.cellAt 0 (by decide)
  have q1 : w1.cell? ⟨g, 1, none⟩ = some (.int .i64 4) := hown.cellAt 1 (by decide)
  have q2 : w1.cell? ⟨g, 2, none⟩ = some (.string ⟨#[97]⟩) := hown.cellAt 2 (by decide)
  obtain ⟨V, hV⟩ : ∃ V, V = w1.alloc (.cells #[.int .i64 5, .int .i64 7, .string ⟨#[97, 32, 98]⟩] 48) := ⟨_, rfl⟩
  have hC : Has V w1.heap.size (.cells #[.int .i64 5, .int .i64 7, .string ⟨#[97, 32, 98]⟩] 48) := by rw [hV]; exact Has.new _ _
  have EV : Ext w1 V := by rw [hV]; exact (Ext.refl _).alloc _
  have hw := swrite_any (some ⟨w1.heap.size, 0, none⟩) 1 [([97, 32, 98], 5, 7)] V (ents_one (x := ([97, 32, 98], 5, 7)) hC) (by decide) (fun x hx => by rw [List.mem_singleton.1 hx]; exact ⟨by unfold I64; decide, by unfold I64; decide, by decide⟩)
  rw [ex_write] at hw
  have hw : Calls Tryd.prog 44 #[.slice (some ⟨w1.heap.size, 0, none⟩) 1 1] V (Ret V (.string ⟨#[53, 32, 55, 32, 97, 37, 50, 48, 98, 10]⟩)) := hw
  have HW := Lib.hid hw
  have HV := Lib.hid hV
  clear hw hV hown ho
  go_wp2_with (rw [← HV.out])
  refine (HW.out).mono ?_
  rintro e w2 ⟨rfl, b2⟩
  have E2 := EV.trans b2
  have r0 := (E2.cell (o := 0) hgl).trans q0
  have r1 := (E2.cell (o := 1) hgl).trans q1
  have r2 := (E2.cell (o := 2) hgl).trans q2
  clear q0 q1 q2
  go_wp2_with fail
  go_ret
  exact Ret.mk rfl (b1.trans E2)
end Go.Proofs.YtmppjbimdonfmaaDoor
