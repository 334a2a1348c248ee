/- Layer 48 (script): what Step answers; words for its walks. -/
import Derived.Test.YtanaifobmkjpaaaDoorScpU
import Derived.Test.YtanaifobmkjpaaaDoorArgX
namespace Go.Proofs.YtanaifobmkjpaaaDoor
open Go.ChangeShapes Go.WideShapes Go.ChangeAt Go.RowKit

abbrev ZS : Array Value := #[.int .i64 0, .slice none 0 0, .int .i64 0, .int .i64 0]
theorem resS (fn : Func) (h : fn.results = #[.cell 2 30, .tmp 3]) (tmps : Array Value) (w : World) (g : Nat) (cs : Array Value) (v : Value) (hp : tmps.getD 2 undef = .pointer (some ⟨g, 0, none⟩)) (hv : tmps.getD 3 undef = v) (hg : Has w g (.cells cs 30)) (hi : (Tryd.prog.info? 30).map (·.size) = some cs.size) :
    (results fn tmps).run Tryd.prog w = .ok (.tuple #[.agg cs, v]) w :=
  res_cell_tmp h tmps w g _ cs _ v hp hv hg Tryd.underlying30 rfl hi
theorem step_size (a b c d : Value) : (Tryd.prog.info? 30).map (·.size) = some (#[a, b, c, d] : Array Value).size := by
  have h : (Tryd.prog.info? 30).map (·.size) = some 4 := by kernel_rfl
  exact h
def put4 (w : World) (b : Nat) (v0 v1 v2 v3 : Value) : World :=
  (((w.setCell ⟨b, 0, none⟩ v0).setCell ⟨b, 1, none⟩ v1).setCell ⟨b, 2, none⟩ v2).setCell ⟨b, 3, none⟩ v3
theorem Has.put4 {w : World} {b : Nat} {u0 u1 u2 u3 : Value} {t : TypeId} {fr : Nat × Nat} (h : Has w b (.cells #[u0, u1, u2, u3] t fr)) (v0 v1 v2 v3 : Value) : Has (put4 w b v0 v1 v2 v3) b (.cells #[v0, v1, v2, v3] t fr) :=
  (((h.set 0 v0).set 1 v1).set 2 v2).set 3 v3
theorem Ext.put4 {a w : World} (h : Ext a w) {b : Nat} (hp : a.heap.size ≤ b) (v0 v1 v2 v3 : Value) : Ext a (put4 w b v0 v1 v2 v3) :=
  (((h.setCell hp v0).setCell hp v1).setCell hp v2).setCell hp v3
theorem Has.far {w : World} {b B i : Nat} {o : Obj} (h : Has w b o) (hne : b ≠ B) (v : Value) : Has (w.setCell ⟨B, i, none⟩ v) b o := (setCell_block w ⟨B, i, none⟩ v b hne).trans h
/-- Texts as they lie, in a block of texts. -/
def TyB (w : World) (A : Option Addr) : Prop := ∃ b o C fr, A = some ⟨b, o, none⟩ ∧ w.heap[b]? = some (.cells C 9 fr)
def TxtB (w : World) (A : Option Addr) (l : List Txt) : Prop := TxtAt w A l ∧ (l ≠ [] → TyB w A)
theorem TyB.ext {w w' : World} {A : Option Addr} (h : TyB w A) (hE : Ext w w') : TyB w' A := by
  obtain ⟨b, o, C, fr, h1, h2⟩ := h
  exact ⟨b, o, C, fr, h1, hE.block h2⟩
theorem TxtB.ext {w w' : World} {A : Option Addr} {l : List Txt} (h : TxtB w A l) (hE : Ext w w') : TxtB w' A l := ⟨TxtAt.ext h.1 hE, fun hn => (h.2 hn).ext hE⟩
theorem TxtB.nil (w : World) (A : Option Addr) : TxtB w A [] := ⟨.inl rfl, fun h => absurd rfl h⟩
/-- What Step answers. -/
def StR (w : World) (o : Option StepN) (e : Ending) (w' : World) : Prop := match o with
  | none => e = .returned (.tuple #[.agg ZS, .int .i64 2]) ∧ Ext w w'
  | some s => ∃ (A : Option Addr) (cap : Nat), e = .returned (.tuple #[.agg #[.int .i64 s.k, .slice A s.ws.length cap, .int .i64 s.n, .int .i64 s.y], .int .i64 0]) ∧ TxtB w' A s.ws ∧ (A = none → cap = 0) ∧ s.ws.length ≤ cap ∧ Ext w w'
theorem StR.bad {w w' : World} {o : Option StepN} {e : Ending} (h : Hid (o = none)) (he : e = .returned (.tuple #[.agg ZS, .int .i64 2])) (hE : Ext w w') : StR w o e w' := by rw [h.out]; exact ⟨he, hE⟩
theorem StR.good {w w' : World} {o : Option StepN} {e : Ending} {s : StepN} {A : Option Addr} {cap : Nat} (h : Hid (o = some s)) (he : e = .returned (.tuple #[.agg #[.int .i64 s.k, .slice A s.ws.length cap, .int .i64 s.n, .int .i64 s.y], .int .i64 0])) (ht : TxtB w' A s.ws) (hA : A = none → cap = 0) (hc : s.ws.length ≤ cap) (hE : Ext w w') : StR w o e w' := by rw [h.out]; exact ⟨A, cap, he, ht, hA, hc, hE⟩
theorem StR.plain {w w' : World} {o : Option StepN} {e : Ending} {k n y : Int} (h : Hid (o = some ⟨k, [], n, y⟩)) (he : e = .returned (.tuple #[.agg #[.int .i64 k, .slice none 0 0, .int .i64 n, .int .i64 y], .int .i64 0])) (hE : Ext w w') : StR w o e w' := by rw [h.out]; exact ⟨none, 0, he, TxtB.nil _ _, fun _ => rfl, Nat.le_refl _, hE⟩
/-- 'l[1:]'. -/
theorem from_oneS (bl o n m cap : Nat) (h0 : n = m + 1) (hc : n ≤ cap) : ∃ X : Addr, (∀ W, (Instr.slice 28 (.slice (some ⟨bl, o, none⟩) n cap) (some (.int .i64 1)) none none).run Tryd.prog W = .ok (.slice (some X) m (cap - 1)) W) ∧ (0 < m → X = ⟨bl, o + 1, none⟩) := by
  have h4 : n - 1 = m := by omega
  have hu := Tryd.underlying28
  have h1 : (1 : Int) ≤ n := by omega
  have hi : (Tryd.prog.info? 9).map (·.size) = some 1 := by kernel_rfl
  by_cases h : cap = 1
  · refine ⟨⟨bl, o, none⟩, fun W => ?_, fun h2 => by omega⟩
    subst h
    go_simp
    intro h; omega
  · refine ⟨⟨bl, o + 1, none⟩, fun W => ?_, fun _ => rfl⟩
    go_simp
    intro h; omega
theorem tail_at {w : World} {bl o : Nat} {x : Txt} {l : List Txt} {X : Addr} (h : TxtAt w (some ⟨bl, o, none⟩) (x :: l)) (hX : 0 < l.length → X = ⟨bl, o + 1, none⟩) : TxtAt w (some X) l := by
  by_cases h0 : l = []
  · exact .inl h0
  · obtain rfl := hX (List.length_pos_iff.2 h0)
    rcases h with h | ⟨b, o', hA, hb, hc⟩
    · cases h
    · injection hA with hA
      injection hA with h1 h2
      subst h1; subst h2
      refine .inr ⟨bl, o + 1, rfl, hb, fun k hk => ?_⟩
      have := hc (k + 1) (by simp; omega)
      rw [show o + 1 + k = o + (k + 1) by omega]
      exact this
theorem txt_put4 {w : World} {bl o B : Nat} {L : List Txt} (h : TxtAt w (some ⟨bl, o, none⟩) L) (hne : bl ≠ B) (v0 v1 v2 v3 : Value) : TxtAt (put4 w B v0 v1 v2 v3) (some ⟨bl, o, none⟩) L := by
  rcases h with h | ⟨b, o', hA, hb, hc⟩
  · exact .inl h
  · injection hA with hA
    injection hA with h1 h2
    subst h1; subst h2
    have hp : (put4 w B v0 v1 v2 v3).heap[bl]? = w.heap[bl]? :=
      (setCell_block _ ⟨B, 3, none⟩ v3 bl hne).trans ((setCell_block _ ⟨B, 2, none⟩ v2 bl hne).trans ((setCell_block _ ⟨B, 1, none⟩ v1 bl hne).trans (setCell_block _ ⟨B, 0, none⟩ v0 bl hne)))
    refine .inr ⟨bl, o, rfl, ?_, fun k hk => ?_⟩
    · rcases Nat.lt_or_ge bl (put4 w B v0 v1 v2 v3).heap.size with h' | h'
      · exact h'
      · rw [Array.getElem?_eq_none h', Array.getElem?_eq_getElem hb] at hp; cases hp
    · exact (World.cell?_of_block (a := ⟨bl, o + k, none⟩) hp).trans (hc k hk)
theorem tail_b {w : World} {bl o : Nat} {x : Txt} {l : List Txt} {X : Addr} (h : TxtAt w (some ⟨bl, o, none⟩) (x :: l)) (hX : 0 < l.length → X = ⟨bl, o + 1, none⟩) (ht : ∃ C fr, w.heap[bl]? = some (.cells C 9 fr)) : TxtB w (some X) l := by
  refine ⟨tail_at h hX, fun hn => ?_⟩
  obtain rfl := hX (List.length_pos_iff.2 hn)
  obtain ⟨C, fr, hc⟩ := ht
  exact ⟨bl, o + 1, C, fr, rfl, hc⟩
theorem ty_put4 {w : World} {bl B : Nat} (h : ∃ C fr, w.heap[bl]? = some (.cells C 9 fr)) (hne : bl ≠ B) (v0 v1 v2 v3 : Value) : ∃ C fr, (put4 w B v0 v1 v2 v3).heap[bl]? = some (.cells C 9 fr) := by
  obtain ⟨C, fr, hc⟩ := h
  exact ⟨C, fr, ((setCell_block _ ⟨B, 3, none⟩ v3 bl hne).trans ((setCell_block _ ⟨B, 2, none⟩ v2 bl hne).trans ((setCell_block _ ⟨B, 1, none⟩ v1 bl hne).trans (setCell_block _ ⟨B, 0, none⟩ v0 bl hne)))).trans hc⟩
theorem ty_ext {w w' : World} {bl : Nat} (h : ∃ C fr, w.heap[bl]? = some (.cells C 9 fr)) (hE : Ext w w') : ∃ C fr, w'.heap[bl]? = some (.cells C 9 fr) := by
  obtain ⟨C, fr, hc⟩ := h
  exact ⟨C, fr, hE.block hc⟩
theorem own_ty {w : World} {base bl o n c : Nat} {l : List Txt} (h : OwnT w base (.slice (some ⟨bl, o, none⟩) n c) l) : ∃ C fr, w.heap[bl]? = some (.cells C 9 fr) := by
  rcases h.2 with ⟨h, _⟩ | ⟨g, cap, cur, h, _, hg, _⟩
  · cases h
  · injection h with h1
    injection h1 with h1
    injection h1 with h1
    subst h1
    exact ⟨_, _, hg⟩
/-- The value and the sign that Parse answers. -/
noncomputable def vN (x : Txt) : Int := (pN x).getD 0
noncomputable def gB (x : Txt) : Bool := (pN x).isSome
theorem parse_vg (x : Txt) : parseV x = .tuple #[.int .i64 (vN x), .bool (gB x)] := by
  unfold vN gB
  rcases pN_cases x with ⟨n, h1, _, h2⟩ | ⟨h1, h2⟩ <;> rw [h1, h2] <;> rfl
theorem gB_yes {x : Txt} (h : gB x = true) : pN x = some (vN x) := by
  unfold gB at h
  unfold vN
  cases hp : pN x with
  | none => rw [hp] at h; cases h
  | some n => rfl
theorem gB_no {x : Txt} (h : gB x = false) : pN x = none := by
  unfold gB at h
  cases hp : pN x with
  | none => rfl
  | some n => rw [hp] at h; cases h
theorem one_yes {k : Int} {x : Txt} (h : gB x = true) : oneS k [x] = chkS ⟨k, [], vN x, 0⟩ := by show (pN x).bind _ = _; rw [gB_yes h]; rfl
theorem one_no {k : Int} {x : Txt} (h : gB x = false) : oneS k [x] = none := by show (pN x).bind _ = _; rw [gB_no h]; rfl
theorem one_zero {k : Int} : oneS k [] = none := rfl
theorem one_more {k : Int} {x z : Txt} {l : List Txt} : oneS k (x :: z :: l) = none := rfl
theorem two_yes {x z : Txt} (h : gB x = true) (h2 : gB z = true) : twoS [x, z] = chkS ⟨4, [], vN x, vN z⟩ := by show (pN x).bind _ = _; rw [gB_yes h]; show (pN z).bind _ = _; rw [gB_yes h2]; rfl
theorem two_no {x z : Txt} (h : (gB x && gB z) = false) : twoS [x, z] = none := by
  show (pN x).bind _ = _
  cases hx : gB x with
  | false => rw [gB_no hx]; rfl
  | true =>
    rw [hx, Bool.true_and] at h
    rw [gB_yes hx]; show (pN z).bind _ = _; rw [gB_no h]; rfl
theorem two_zero : twoS [] = none := rfl
theorem two_one {x : Txt} : twoS [x] = none := rfl
theorem two_more {x y z : Txt} {l : List Txt} : twoS (x :: y :: z :: l) = none := rfl
/-- The five words, told apart. -/
theorem word_tests (p : Txt) : ((bs p).toList == [114, 117, 110]) = (p == wRun) ∧ ((bs p).toList == [116, 105, 99, 107]) = (p == wTick) ∧ ((bs p).toList == [97, 115]) = (p == wAs) ∧ ((bs p).toList == [102, 97, 105, 108]) = (p == wFail) ∧ ((bs p).toList == [109, 101, 110, 100]) = (p == wMend) := by
  rw [bs_toList]; exact ⟨rfl, rfl, rfl, rfl, rfl⟩
theorem step_none {line : Txt} (h : wordsN line = none) : stepN line = none := by unfold stepN; rw [h]; rfl
theorem step_some {line : Txt} {L : List Txt} (h : wordsN line = some L) : stepN line = stepW L := by unfold stepN; rw [h]; rfl
end Go.Proofs.YtanaifobmkjpaaaDoor
