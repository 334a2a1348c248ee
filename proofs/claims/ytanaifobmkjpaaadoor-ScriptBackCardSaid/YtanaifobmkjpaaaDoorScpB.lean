/- Layer 48 (script): lists of steps in memory: as they lie; in a row of the call's own; as they came in. -/
import Derived.Test.YtanaifobmkjpaaaDoorScpS
import Derived.OpenShut
import Derived.SliceStrings
import Derived.Lib.SmallJoins
namespace Go.Proofs.YtanaifobmkjpaaaDoor
open Go.ChangeShapes Go.WideShapes Go.ChangeAt Go.RowKit

/-- A step's four cells at an address, its words where they lie. -/
def StepC (w : World) (b o : Nat) (s : StepN) : Prop := ∃ (B : Option Addr) (c : Nat), (w.cell? ⟨b, o, none⟩ = some (.int .i64 s.k) ∧ w.cell? ⟨b, o + 1, none⟩ = some (.slice B s.ws.length c) ∧ w.cell? ⟨b, o + 2, none⟩ = some (.int .i64 s.n) ∧ w.cell? ⟨b, o + 3, none⟩ = some (.int .i64 s.y)) ∧ TxtAt w B s.ws ∧ (B = none → c = 0) ∧ s.ws.length ≤ c
theorem StepC.ext {w w' : World} {b o : Nat} {s : StepN} (h : StepC w b o s) (hb : b < w.heap.size) (hE : Ext w w') : StepC w' b o s := by
  obtain ⟨B, c, ⟨h0, h1, h2, h3⟩, ht, hn, hc⟩ := h
  exact ⟨B, c, ⟨(hE.cell hb).trans h0, (hE.cell hb).trans h1, (hE.cell hb).trans h2, (hE.cell hb).trans h3⟩, ht.ext hE, hn, hc⟩
def StepsAt (w : World) (A : Option Addr) (L : List StepN) : Prop :=
  L = [] ∨ ∃ b o, A = some ⟨b, o, none⟩ ∧ b < w.heap.size ∧ ∀ k, (h : k < L.length) → StepC w b (o + k * 4) L[k]
theorem StepsAt.ext {w w' : World} {A : Option Addr} {L : List StepN} (h : StepsAt w A L) (hE : Ext w w') : StepsAt w' A L := by
  rcases h with h | ⟨b, o, hA, hb, hc⟩
  · exact .inl h
  · exact .inr ⟨b, o, hA, by have := hE.size; omega, fun k hk => (hc k hk).ext hb hE⟩
theorem StepsAt.at_ {w w' : World} {A : Option Addr} {L : List StepN} (h : StepsAt w A L) (hE : Ext w w') (k : Nat) (hk : k < L.length) : ∃ b o, A = some ⟨b, o, none⟩ ∧ b < w'.heap.size ∧ StepC w' b (o + k * 4) L[k] := by
  rcases h.ext hE with h0 | ⟨b, o, hA, hb, hc⟩
  · subst h0; simp at hk
  · exact ⟨b, o, hA, hb, hc k hk⟩
/-- A step's cells, its words at p. -/
def stepCells1 (s : StepN) (p : Option Addr × Nat) : List Value := [.int .i64 s.k, .slice p.1 s.ws.length p.2, .int .i64 s.n, .int .i64 s.y]
def stepCells : List StepN → List (Option Addr × Nat) → List Value
  | s :: L, p :: P => stepCells1 s p ++ stepCells L P
  | _, _ => []
theorem stepCells_len : ∀ (L : List StepN) (P : List (Option Addr × Nat)), P.length = L.length → (stepCells L P).length = L.length * 4
  | [], [], _ => rfl
  | [], _ :: _, h => by simp at h
  | _ :: _, [], h => by simp at h
  | s :: L, p :: P, h => by
    have ih := stepCells_len L P (by simpa using h)
    simp [stepCells, stepCells1, ih]; omega
theorem stepCells_append : ∀ (L M : List StepN) (P Q : List (Option Addr × Nat)), P.length = L.length → stepCells (L ++ M) (P ++ Q) = stepCells L P ++ stepCells M Q
  | [], M, [], Q, _ => by simp [stepCells]
  | [], _, _ :: _, _, h => by simp at h
  | _ :: _, _, [], _, h => by simp at h
  | s :: L, M, p :: P, Q, h => by
    have ih := stepCells_append L M P Q (by simpa using h)
    simp [stepCells, ih]
theorem stepCells_one : ∀ (L : List StepN) (P : List (Option Addr × Nat)), ∀ u ∈ stepCells L P, u.oneCell' = true
  | [], _, u, h => by simp [stepCells] at h
  | _ :: _, [], u, h => by simp [stepCells] at h
  | s :: L, p :: P, u, h => by
    simp only [stepCells, List.mem_append] at h
    rcases h with h | h
    · simp only [stepCells1, List.mem_cons, List.not_mem_nil, or_false] at h
      rcases h with rfl | rfl | rfl | rfl <;> rfl
    · exact stepCells_one L P u h
theorem stepCells_get : ∀ (L : List StepN) (P : List (Option Addr × Nat)) (hP : P.length = L.length) (k : Nat) (h : k < L.length) (j : Nat), j < 4 → (stepCells L P)[k * 4 + j]? = (stepCells1 L[k] (P[k]'(by omega)))[j]?
  | [], _, _, k, h, _, _ => by simp at h
  | _ :: _, [], hP, _, _, _, _ => by simp at hP
  | s :: L, p :: P, hP, k, h, j, hj => by
    cases k with
    | zero =>
      show (stepCells1 s p ++ stepCells L P)[0 * 4 + j]? = _
      rw [Nat.zero_mul, Nat.zero_add, List.getElem?_append_left (by simp [stepCells1]; omega)]
      rfl
    | succ k =>
      show (stepCells1 s p ++ stepCells L P)[(k + 1) * 4 + j]? = _
      rw [List.getElem?_append_right (by simp [stepCells1]; omega)]
      have := stepCells_get L P (by simpa using hP) k (by simpa using h) j hj
      rw [show (k + 1) * 4 + j - (stepCells1 s p).length = k * 4 + j by simp [stepCells1]; omega, this]
      rfl
/-- Steps in a row of the call's own. -/
def OwnS (w : World) (base : Nat) (v : Value) (L : List StepN) : Prop :=
  ∃ P : List (Option Addr × Nat), ∃ hP : P.length = L.length, w.ownsRow base 30 4 v L.length (stepCells L P) ∧ ∀ k, (h : k < L.length) → TxtB w (P[k]'(by omega)).1 L[k].ws ∧ ((P[k]'(by omega)).1 = none → (P[k]'(by omega)).2 = 0) ∧ L[k].ws.length ≤ (P[k]'(by omega)).2
theorem OwnS.nil (w : World) (base : Nat) : OwnS w base (.slice none 0 0) [] := ⟨[], rfl, World.ownsRow_nil _ _ _ _, fun k h => by simp at h⟩
theorem OwnS.at_ {w : World} {base : Nat} {v : Value} {L : List StepN} (h : OwnS w base v L) : ∃ A cap, v = .slice A L.length cap ∧ L.length ≤ cap ∧ cap ≤ maxLen ∧ StepsAt w A L ∧ (A = none → cap = 0) := by
  obtain ⟨P, hP, ho, ht⟩ := h
  rcases ho.2 with ⟨rfl, h0⟩ | ⟨g, cap, cur, rfl, _, hg, hn, hm, hsz, htake⟩
  · have : L = [] := List.eq_nil_of_length_eq_zero h0
    subst this
    exact ⟨none, 0, rfl, Nat.le_refl _, by decide, .inl rfl, fun _ => rfl⟩
  · refine ⟨_, cap, rfl, hn, hm, .inr ⟨g, 0, rfl, ?_, fun k hk => ?_⟩, fun h => by cases h⟩
    · rcases Nat.lt_or_ge g w.heap.size with h' | h'
      · exact h'
      · simp [Array.getElem?_eq_none h'] at hg
    · have hc : ∀ j, j < 4 → w.cell? ⟨g, 0 + k * 4 + j, none⟩ = (stepCells1 L[k] (P[k]'(by omega)))[j]? := by
        intro j hj
        have h2 := stepCells_get L P hP k hk j hj
        have hlt : j < (stepCells1 L[k] (P[k]'(by omega))).length := by simp [stepCells1]; omega
        rw [List.getElem?_eq_getElem hlt] at h2 ⊢
        have h1 := ho.cells (g := g) rfl _ _ h2
        rw [Addr.add_lit, Nat.zero_add] at h1
        rw [Nat.zero_add]; exact h1
      obtain ⟨t1, t2, t3⟩ := ht k hk
      exact ⟨_, _, ⟨hc 0 (by decide), hc 1 (by decide), hc 2 (by decide), hc 3 (by decide)⟩, t1.1, t2, t3⟩
theorem infoStep : (Tryd.prog.info? 30).map (fun i => (i.zero, i.size, i.bytes)) = some (some (.agg #[.int .i64 0, .slice none 0 0, .int .i64 0, .int .i64 0]), 4, 48) := by kernel_rfl
theorem TyB.ne {w : World} {base : Nat} {v : Value} {n : Nat} {xs : List Value} {A : Option Addr} (h : TyB w A) (ho : w.ownsRow base 30 4 v n xs) : ∃ b o C fr, A = some ⟨b, o, none⟩ ∧ w.heap[b]? = some (.cells C 9 fr) ∧ v.ownBlock ≠ some b := by
  obtain ⟨b, o, C, fr, h1, h2⟩ := h
  refine ⟨b, o, C, fr, h1, h2, fun hv => ?_⟩
  rcases ho.2 with ⟨rfl, _⟩ | ⟨g, cap, cur, rfl, _, hg, _⟩
  · cases hv
  · have : g = b := by simpa [Value.ownBlock] using hv
    subst this
    rw [h2] at hg
    injection hg with hg
    injection hg with _ h3 _
    exact absurd h3 (by decide)
theorem TxtB.grown {w w' : World} {base : Nat} {v : Value} {n : Nat} {xs : List Value} {A : Option Addr} {l : List Txt} (h : TxtB w A l) (ho : w.ownsRow base 30 4 v n xs) (hg : w.grownBy w' v.ownBlock) : TxtB w' A l := by
  by_cases hl : l = []
  · subst hl; exact TxtB.nil _ _
  · obtain ⟨b, o, C, fr, rfl, h2, hne⟩ := (h.2 hl).ne ho
    have hb : b < w.heap.size := Has.lt h2
    have hh : w'.heap[b]? = w.heap[b]? := hg.block b hb (Ne.symm hne)
    refine ⟨?_, fun _ => ⟨b, o, C, fr, rfl, hh.trans h2⟩⟩
    rcases h.1 with h0 | ⟨b', o', hA, _, hc⟩
    · exact .inl h0
    · injection hA with hA
      injection hA with e1 e2
      subst e1; subst e2
      exact .inr ⟨b, o, rfl, Has.lt (hh.trans h2), fun k hk => (World.cell?_of_block (a := ⟨b, o + k, none⟩) hh).trans (hc k hk)⟩
/-- 'append(v, step)': one fresh step. -/
theorem app_step {base : Nat} {v : Value} {P : List StepN} (x : StepN) (B : Option Addr) (c : Nat) (wr : World) (h : OwnS wr base v P) (ht : TxtB wr B x.ws) (hB : B = none → c = 0) (hc : x.ws.length ≤ c) (hb : base ≤ wr.heap.size) (hl : P.length ≤ 100000) :
    ∃ v' w2, (Builtin.append_ #[22, 22] 22 #[v, .slice (some ⟨wr.heap.size, 0, none⟩) 1 1]).run Tryd.prog (wr.alloc (.cells #[.int .i64 x.k, .slice B x.ws.length c, .int .i64 x.n, .int .i64 x.y] 30)) = .ok v' w2 ∧ OwnS w2 base v' (P ++ [x]) ∧ (wr.alloc (.cells #[.int .i64 x.k, .slice B x.ws.length c, .int .i64 x.n, .int .i64 x.y] 30)).grownBy w2 v.ownBlock := by
  obtain ⟨Q, hQ, ho, hq⟩ := h
  obtain ⟨i0, hi, hz0, hz1, hz2⟩ := info_parts infoStep
  have hE : Ext wr (wr.alloc (.cells #[.int .i64 x.k, .slice B x.ws.length c, .int .i64 x.n, .int .i64 x.y] 30)) := (Ext.refl _).alloc _
  have hnews : ∀ j u, (stepCells [x] [(B, c)])[j]? = some u → (wr.alloc (.cells #[.int .i64 x.k, .slice B x.ws.length c, .int .i64 x.n, .int .i64 x.y] 30)).cell? ((⟨wr.heap.size, 0, none⟩ : Addr).add j) = some u := by
    intro j u hu
    rw [Addr.add_lit]
    have hh := (Has.new wr (.cells #[.int .i64 x.k, .slice B x.ws.length c, .int .i64 x.n, .int .i64 x.y] 30)).cell (0 + j)
    rw [hh, Nat.zero_add]
    simpa [stepCells, stepCells1] using hu
  obtain ⟨v', w2, hr, h2, h3, _⟩ := run_append_own (P := Tryd.prog) (wr.alloc (.cells #[.int .i64 x.k, .slice B x.ws.length c, .int .i64 x.n, .int .i64 x.y] 30)) base 22 22 30 i0 _ 4 48 Tryd.underlying22 hi hz0 hz1 hz2 rfl (by decide) _ P.length _ (World.ownsRow.alloc ho _) ⟨wr.heap.size, 0, none⟩ 1 1 (stepCells [x] [(B, c)]) rfl hnews (stepCells_one _ _) (by unfold maxLen; omega) (by omega) (by simp; omega)
  refine ⟨v', w2, hr, ⟨Q ++ [(B, c)], by simp [hQ], ?_, ?_⟩, h3⟩
  · rw [stepCells_append _ _ _ _ hQ, List.length_append]; exact h2
  · have ho' := World.ownsRow.alloc ho (.cells #[.int .i64 x.k, .slice B x.ws.length c, .int .i64 x.n, .int .i64 x.y] 30)
    intro k hk
    by_cases hlt : k < P.length
    · rw [List.getElem_append_left hlt]
      have e : (Q ++ [(B, c)])[k]'(by simp; omega) = Q[k]'(by omega) := List.getElem_append_left (by omega)
      rw [e]
      obtain ⟨q1, q2, q3⟩ := hq k hlt
      exact ⟨(q1.ext hE).grown ho' h3, q2, q3⟩
    · have he : k = P.length := by simp at hk; omega
      subst he
      have e : (Q ++ [(B, c)])[P.length]'(by simp; omega) = (B, c) := by rw [List.getElem_append_right (by omega)]; simp [hQ]
      have e2 : (P ++ [x])[P.length]'hk = x := by rw [List.getElem_append_right (Nat.le_refl _)]; simp
      rw [e, e2]
      exact ⟨(ht.ext hE).grown ho' h3, hB, hc⟩
theorem OwnS.ext {w w' : World} {b : Nat} {v : Value} {L : List StepN} (h : OwnS w b v L) (hE : Ext w w') : OwnS w' b v L := by
  obtain ⟨P, hP, ho, ht⟩ := h
  refine ⟨P, hP, ?_, fun k hk => ⟨(ht k hk).1.ext hE, (ht k hk).2⟩⟩
  refine ⟨ho.1, ?_⟩
  rcases ho.2 with h | ⟨g, cap, cur, rfl, h1, hg, h2⟩
  · exact .inl h
  · exact .inr ⟨g, cap, cur, rfl, h1, hE.block hg, h2⟩
theorem list_ofS {α : Type} (n : Nat) (P : Nat → α → Prop) (h : ∀ i, i < n → ∃ x, P i x) : ∃ l : List α, l.length = n ∧ ∀ i, (hi : i < l.length) → P i l[i] := by
  induction n with
  | zero => exact ⟨[], rfl, fun i hi => by cases hi⟩
  | succ n ih =>
    obtain ⟨l, hl, hp⟩ := ih (fun i hi => h i (by omega))
    obtain ⟨x, hx⟩ := h n (by omega)
    refine ⟨l ++ [x], by simp [hl], fun i hi => ?_⟩
    by_cases hin : i < l.length
    · rw [List.getElem_append_left hin]; exact hp i hin
    · have : i = l.length := by simp at hi; omega
      subst this
      rw [List.getElem_append_right (Nat.le_refl _)]
      simpa [hl] using hx
section
variable {H : Type} {enc : TypeId × Value → H} {w : World} {base : Nat} {spare : Nat → Bool} {held : Bool}
set_option maxRecDepth 100000 in
theorem txts_cells {fuel : Nat} {cs : List Value} {x : DataW H × List MemPlace} (hf : DataW.trod enc Tryd.prog w base spare held fuel 28 cs = some x) :
    ∃ (A : Option Addr) (L : List Txt) (cap : Nat), cs = [.slice A L.length cap] ∧ TxtAt w A L ∧ (A = none → cap = 0) ∧ L.length ≤ cap ∧ cap ≤ maxLen := by
  rcases open_strings Tryd.underlying28 Tryd.underlying9 (by kernel_rfl) hf with ⟨hcs, hx⟩ | ⟨ad, n, c, ss, hcs, _, hle, hm, hz, hx, hcell, _⟩
  · exact ⟨none, [], 0, hcs, .inl rfl, fun _ => rfl, Nat.le_refl _, by decide⟩
  · have hnl : n ≤ ss.length := by rw [hz]; split <;> omega
    have hlen : ((ss.take n).map (·.data.toList)).length = n := by rw [List.length_map, List.length_take]; omega
    refine ⟨some ad, (ss.take n).map (·.data.toList), c, by rw [hlen]; exact hcs, ?_, (fun h => by cases h), by rw [hlen]; exact hle, hm⟩
    by_cases hn0 : n = 0
    · subst hn0; exact .inl (by simp)
    · obtain ⟨b, off, spot⟩ := ad
      have hspot : spot = none := by simpa [Addr.add] using World.cell?_spot (hcell 0 (by omega))
      subst hspot
      have hb : b < w.heap.size := by
        have h0 := hcell 0 (by omega)
        rcases Nat.lt_or_ge b w.heap.size with h' | h'
        · exact h'
        · simp [Addr.add, World.cell?, Array.getElem?_eq_none h'] at h0
      refine .inr ⟨b, off, rfl, hb, fun i hi => ?_⟩
      rw [hlen] at hi
      have h1 := hcell i (by omega)
      rw [Addr.add_lit] at h1
      rw [h1, List.getElem_map, List.getElem_take, bs_self, List.getD_eq_getElem?_getD, List.getElem?_eq_getElem (by omega)]
      rfl
theorem cellsStep : Tryd.prog.cellsOf 30 = 4 := by kernel_rfl
theorem cellsIntS : Tryd.prog.cellsOf 3 = 1 := by kernel_rfl
theorem cellsErrS : Tryd.prog.cellsOf 25 = 1 := by kernel_rfl
theorem cellsTxtS : Tryd.prog.cellsOf 28 = 1 := by kernel_rfl
theorem wf_I64 {n : Int} (h : (Lit.int .i64 n).wf = true) : I64 n := by
  simp only [Lit.wf, Bool.and_eq_true, decide_eq_true_eq] at h
  exact h
set_option maxRecDepth 100000 in
theorem step_cells {n : Nat} {cs : List Value} {x : DataW H × List MemPlace} (h : DataW.trod enc Tryd.prog w base spare held n 30 cs = some x) : ∃ (s : StepN) (B : Option Addr) (c : Nat), cs = [.int .i64 s.k, .slice B s.ws.length c, .int .i64 s.n, .int .i64 s.y] ∧ TxtAt w B s.ws ∧ (B = none → c = 0) ∧ s.ws.length ≤ c ∧ I64 s.n ∧ I64 s.y ∧ s.ws.length ≤ maxLen := by
  obtain ⟨xs, m, _, _, hl, hxl, hf⟩ := DataW.trod_struct Tryd.underlying30 h
  rw [cellsStep] at hl
  match cs, hl with
  | [a0, a1, a2, a3], _ =>
    match xs, hxl with
    | [y0, y1, y2, y3], _ =>
      have f0 : DataW.trod enc Tryd.prog w base spare held m 3 (List.take (Tryd.prog.cellsOf 3) (List.drop 0 [a0, a1, a2, a3])) = some y0 := hf 0 _ rfl
      have f1 : DataW.trod enc Tryd.prog w base spare held m 28 (List.take (Tryd.prog.cellsOf 28) (List.drop 1 [a0, a1, a2, a3])) = some y1 := hf 1 _ rfl
      have f2 : DataW.trod enc Tryd.prog w base spare held m 3 (List.take (Tryd.prog.cellsOf 3) (List.drop 2 [a0, a1, a2, a3])) = some y2 := hf 2 _ rfl
      have f3 : DataW.trod enc Tryd.prog w base spare held m 25 (List.take (Tryd.prog.cellsOf 25) (List.drop 3 [a0, a1, a2, a3])) = some y3 := hf 3 _ rfl
      rw [cellsIntS] at f0 f2
      rw [cellsTxtS] at f1
      rw [cellsErrS] at f3
      obtain ⟨k, h0, _, _⟩ := DataW.trod_int Tryd.underlying3 f0
      obtain ⟨A, L, cap, h1, q1, q2, q3, q4⟩ := txts_cells f1
      obtain ⟨nn, h2, _, w2⟩ := DataW.trod_int Tryd.underlying3 f2
      obtain ⟨yy, h3, _, w3⟩ := DataW.trod_int Tryd.underlying25 f3
      have e0 : a0 = .int .i64 k := by simpa using h0
      have e1 : a1 = .slice A L.length cap := by simpa using h1
      have e2 : a2 = .int .i64 nn := by simpa using h2
      have e3 : a3 = .int .i64 yy := by simpa using h3
      exact ⟨⟨k, L, nn, yy⟩, A, cap, by rw [e0, e1, e2, e3], q1, q2, q3, wf_I64 w2, wf_I64 w3, Nat.le_trans q3 q4⟩
set_option maxRecDepth 100000 in
/-- A []api.Step that came in. -/
theorem open_steps {r : Reach} {b0 : Nat} {v : Value} {d : DataW H} {p : List MemPlace} (hv : Value.okWide Tryd.prog w r b0 22 v) (h : DataW.Trod enc Tryd.prog w base spare held 22 v d p) :
    ∃ (A : Option Addr) (l : List StepN) (cap : Nat), v = .slice A l.length cap ∧ StepsAt w A l ∧ (A = none → cap = 0) ∧ l.length ≤ cap ∧ cap ≤ maxLen ∧ ∀ s ∈ l, I64 s.n ∧ I64 s.y ∧ s.ws.length ≤ maxLen := by
  obtain ⟨a, n, c, rfl⟩ := okWide_slice Tryd.underlying22 hv
  obtain ⟨fuel, hf⟩ := h
  rcases Go.Deep.open_slice Tryd.underlying22 hf with ⟨hcs, _⟩ | ⟨ad, len, cap, m, k, D, Pl, hcs, _, hl, hm, hmm, _, hi⟩
  · simp [Value.cells] at hcs
    obtain ⟨rfl, rfl, rfl⟩ := hcs
    exact ⟨none, [], 0, rfl, .inl rfl, fun _ => rfl, Nat.le_refl _, by decide, fun x hx => by cases hx⟩
  · simp [Value.cells] at hcs
    obtain ⟨rfl, rfl, rfl⟩ := hcs
    have hmn : n ≤ m := by rw [hmm]; split <;> omega
    obtain ⟨l, hll, hlp⟩ := list_ofS (α := StepN) n (fun i s => ∃ (B : Option Addr) (c : Nat), (w.cell? (ad.add (i * 4)) = some (.int .i64 s.k) ∧ w.cell? ((ad.add (i * 4)).add 1) = some (.slice B s.ws.length c) ∧ w.cell? ((ad.add (i * 4)).add 2) = some (.int .i64 s.n) ∧ w.cell? ((ad.add (i * 4)).add 3) = some (.int .i64 s.y)) ∧ TxtAt w B s.ws ∧ (B = none → c = 0) ∧ s.ws.length ≤ c ∧ I64 s.n ∧ I64 s.y ∧ s.ws.length ≤ maxLen) (fun i hin => by
      obtain ⟨cs', hc, ht⟩ := hi i (by omega)
      rw [cellsStep] at hc
      obtain ⟨s, B, c', hcs2, q⟩ := step_cells ht
      obtain ⟨_, _, hat⟩ := World.cells?_some hc
      have e : ∀ j, j < 4 → w.cell? ((ad.add (i * 4)).add j) = cs'[j]? := fun j hj => hat j hj
      have l0 : cs'[0]? = some (.int .i64 s.k) := by rw [hcs2]; rfl
      have l1 : cs'[1]? = some (.slice B s.ws.length c') := by rw [hcs2]; rfl
      have l2 : cs'[2]? = some (.int .i64 s.n) := by rw [hcs2]; rfl
      have l3 : cs'[3]? = some (.int .i64 s.y) := by rw [hcs2]; rfl
      exact ⟨s, B, c', ⟨by have := (e 0 (by decide)).trans l0; simpa [Addr.add] using this, (e 1 (by decide)).trans l1, (e 2 (by decide)).trans l2, (e 3 (by decide)).trans l3⟩, q⟩)
    refine ⟨some ad, l, c, by rw [hll], ?_, (fun h => by cases h), by omega, hm, ?_⟩
    · by_cases h0 : l = []
      · exact .inl h0
      · have hpos : 0 < l.length := List.length_pos_iff.2 h0
        obtain ⟨b, off, spot⟩ := ad
        obtain ⟨_, _, ⟨g0, _⟩, _⟩ := hlp 0 hpos
        have hspot : spot = none := by simpa [Addr.add] using World.cell?_spot g0
        subst hspot
        have hbl : b < w.heap.size := by
          rcases Nat.lt_or_ge b w.heap.size with h' | h'
          · exact h'
          · simp [Addr.add, World.cell?, Array.getElem?_eq_none h'] at g0
        refine .inr ⟨b, off, rfl, hbl, fun i hi' => ?_⟩
        obtain ⟨B, c', ⟨g0, g1, g2, g3⟩, q1, q2, q3, _⟩ := hlp i hi'
        rw [Addr.add_lit] at g0 g1 g2 g3
        rw [Addr.add_lit] at g1 g2 g3
        exact ⟨B, c', ⟨g0, g1, g2, g3⟩, q1, q2, q3⟩
    · intro x hx
      obtain ⟨i, hi', rfl⟩ := List.getElem_of_mem hx
      obtain ⟨_, _, _, _, _, _, q⟩ := hlp i hi'
      exact q
end
end Go.Proofs.YtanaifobmkjpaaaDoor
