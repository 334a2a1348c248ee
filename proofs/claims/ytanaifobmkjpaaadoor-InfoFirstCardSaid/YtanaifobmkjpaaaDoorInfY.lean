/- Layer 6 (info): the program's Parse. -/
import Derived.Test.YtanaifobmkjpaaaDoorInfL
import Derived.Test.YtanaifobmkjpaaaDoorInfH
import Derived.Test.YtanaifobmkjpaaaDoorInfW
import Derived.Test.YtanaifobmkjpaaaDoorSplQ
import Derived.Test.YtanaifobmkjpaaaDoorPctF
import Derived.Test.YtanaifobmkjpaaaDoorDateL
import Derived.RangeFuncNested
namespace Go.Proofs.YtanaifobmkjpaaaDoor
open Go.ChangeShapes Go.WideShapes Go.ChangeAt Go.RowKit Go.Shelf
attribute [local go_sem] Oper.semAt_some

theorem run_store_fn {P : Program} {w : World} {a : Addr} {m : Mode} (f : Fn) (ts cs : Array Value) : (store a (.func f ts cs) m).run P w = stored P w a (.func f ts cs) m := run_store P w a _ m rfl
attribute [local go_sem] run_store_fn
theorem ownFrom_has {β : Type} {B b : Nat} (hb : b < B) (C : β → Obj → Prop) : OwnFrom B (fun s W => ∃ o, W.heap[b]? = some o ∧ C s o) := fun s W W' row ⟨o, ho, hc⟩ hg hr =>
  ⟨o, (hg.block b (Array.getElem?_eq_some_iff.1 ho).1 (fun e => by have := (hr b e.symm).1; omega)).trans ho, hc⟩
/-- What the reader is behind these lines, the group still on. -/
def Cont (pre : List Ln) (st : InfS) : Prop := ∀ rest, runF st0 (pre ++ rest) = runF st rest
theorem Cont.nil : Cont [] st0 := fun _ => rfl
theorem Cont.more {pre : List Ln} {st : InfS} {x : Ln} (h : Cont pre st) (hx : (lineF st x).2 = true) : Cont (pre ++ [x]) (lineF st x).1 := fun rest => by
  rw [List.append_assoc, h]
  show runF st (x :: rest) = _
  rw [runF, if_pos hx]
theorem Cont.over {pre : List Ln} {st : InfS} {x : Ln} (h : Cont pre st) (hx : (lineF st x).2 = false) : ∀ rest, runF st0 ((pre ++ [x]) ++ rest) = (lineF st x).1 := fun rest => by
  rw [List.append_assoc, h]
  show runF st (x :: rest) = _
  rw [runF, if_neg (by rw [hx]; simp)]
/-- What the reader knows at the end. -/
theorem st_end {l : Ln} {st : InfS} (h : runF st0 (pcB 10 [] l) = st) : (st.paths = 0 → pathO l = none) ∧ (st.paths ≠ 0 → pathO l = (decL st.path).bind fun p => if p = [] ∨ 0 ∈ p then none else some p) ∧ dayO l = st.day := by
  obtain ⟨h1, h2, h3⟩ := runF_top (pcB 10 [] l) st0 rfl rfl rfl rfl rfl
  rw [h] at h1 h2 h3
  refine ⟨fun hz => ?_, fun hz => ?_, ?_⟩
  · unfold pathO; rw [h1.1 hz]; rfl
  · have hne : (grpO (pcB 10 [] l)).bind (valueF pathK) ≠ none := fun e => hz (h1.2 e)
    cases hv : (grpO (pcB 10 [] l)).bind (valueF pathK) with
    | none => exact absurd hv hne
    | some v =>
      rw [hv] at h2
      unfold pathO
      rw [hv, h2]; rfl
  · unfold dayO; rw [h3]
theorem st_small {n : Nat} : ∀ {ls : List Ln} {st : InfS}, (∀ t ∈ ls, t.length ≤ n) → st.path.length ≤ n → st.day.length ≤ n → (runF st ls).path.length ≤ n ∧ (runF st ls).day.length ≤ n
  | [], st, _, h1, h2 => ⟨h1, h2⟩
  | l :: r, st, h, h1, h2 => by
    have hl : (lineF st l).1.path.length ≤ n ∧ (lineF st l).1.day.length ≤ n := by
      unfold lineF
      split
      · exact ⟨h1, h2⟩
      · split
        · exact ⟨h1, h2⟩
        · split
          · exact ⟨h1, h2⟩
          · dsimp only
            have hx : (Lib.trimS l bl3).length ≤ n := Nat.le_trans (trimS_len _ _) (h l (by simp))
            rw [(putL_paths st (Lib.trimS l bl3)).2, (putL_days st (Lib.trimS l bl3)).2]
            constructor
            · split
              · cases hv : lineV pathK (Lib.trimS l bl3) with
                | none => exact h1
                | some v => exact Nat.le_trans (lineV_small hv) hx
              · exact h1
            · split
              · cases hv : lineV dayK (Lib.trimS l bl3) with
                | none => exact h2
                | some v => exact Nat.le_trans (lineV_small hv) hx
              · exact h2
    rw [runF]
    split
    · exact st_small (fun t ht => h t (by simp [ht])) hl.1 hl.2
    · exact hl
set_option maxRecDepth 100000 in
set_option maxHeartbeats 4000000 in
theorem pparse6_any (l : Ln) (w : World) (hM : HasMax w) (hlen : l.length ≤ 100000) : Calls Tryd.prog 25 #[.string (bs l)] w (InfR w l) := by
  refine (callsIn_wide (n := 3)).1 ?_
  obtain ⟨F, hF⟩ : ∃ F, F = Fence.wide := ⟨_, rfl⟩
  have hro : F.round = none := by rw [hF]; rfl
  have hf0 : F.fn 25 := by rw [hF]; trivial
  have hf1 : F.fn 49 := by rw [hF]; trivial
  have hf2 : F.fn 100 := by rw [hF]; trivial
  have hf3 : F.fn 48 := by rw [hF]; trivial
  have hf4 : F.fn 50 := by rw [hF]; trivial
  have hf5 : F.fn 43 := by rw [hF]; trivial
  have hf6 : F.fn 51 := by rw [hF]; trivial
  obtain ⟨X, hX⟩ : ∃ X, X = bs l := ⟨_, rfl⟩
  have g1 : ∀ (m : Nat) (w' : World), CallsIn F m Tryd.prog 49 #[.string X, .string ⟨#[10]⟩] w' (fun e w2 => e = .returned (.func (.func 100) #[] #[.pointer (some ⟨w'.heap.size + 1, 0, none⟩), .pointer (some ⟨w'.heap.size, 0, none⟩), .pointer (some ⟨w'.heap.size + 1 + 1, 0, none⟩)]) ∧ w2 = splitW w' X 10) := fun m w' => by
    rw [hF]; exact callsIn_wide.2 (splitSeq_any X 10 w')
  have g2 : ∀ (lb m : Nat) (B : Nat) (st : InfS) (x : Ln) (w' : World), Has w' B (.cells (cellsS st) 86 (0, 0)) → HasMax w' → x.length ≤ 1000000 → st.paths ≤ 1000000 → st.days ≤ 1000000 → CallsIn (F.inRound lb) m Tryd.prog 48 #[.pointer (some ⟨B, 0, none⟩), .string (bs x)] w' (fun e w2 => e = .returned (.bool (lineF st x).2) ∧ Has w2 B (.cells (cellsS (lineF st x).1) 86 (0, 0)) ∧ w'.grownBy w2 (some B)) := fun lb m B st x w' h1 h2 h3 h4 h5 => by
    rw [hF]; exact CallsIn.inRound lb (callsIn_wide.2 (pline6_any B st x w' h1 h2 h3 h4 h5))
  have g3 : ∀ (m : Nat) (s : Ln) (v : Value) (w' : World), decV (bs s).data.toList = v → s.length ≤ 1000000 → CallsIn F m Tryd.prog 50 #[.string (bs s)] w' (Ret w' v) := fun m s v w' h1 h2 => by
    rw [hF, ← h1]; exact callsIn_wide.2 (pdecode_any (bs s) w' (by rw [bs_size]; exact h2))
  have g4 : ∀ (m : Nat) (s : Ln) (b : Bool) (w' : World), b = hasB s 0 → CallsIn F m Tryd.prog 43 #[.string (bs s), .string ⟨#[0]⟩] w' (Ret w' (.bool b)) := fun m s b w' hb => by
    rw [hF]
    have h := Tryd.strings_Contains_one (bs s) 0 w'
    rw [bs_list, hasB_ix] at h
    exact callsIn_wide.2 (h.mono fun e w2 h => ⟨by rw [h.1, hb], by rw [h.2]; exact Ext.refl _⟩)
  have g5 : ∀ (m : Nat) (s : Ln) (w' : World), s.length ≤ 1000000 → CallsIn F m Tryd.prog 51 #[.string (bs s)] w' (PrsRet w' s) := fun m s w' h => by
    rw [hF]
    have h1 := pparse_any (bs s) w' (by rw [bs_size]; exact h)
    rw [bs_list] at h1
    exact callsIn_wide.2 h1
  have G1 := Lib.hid g1
  have G2 := Lib.hid g2
  have G3 := Lib.hid g3
  have G4 := Lib.hid g4
  have G5 := Lib.hid g5
  have HSM : Hid (∀ t ∈ pcB 10 [] l, t.length ≤ 1000000) := fun t ht => by
    have := pcB_small 10 l [] t ht
    simp at this; omega
  have hpn := pcB_len 10 l []
  rw [← hF]
  have HF := Lib.hid hF
  clear hF g1 g2 g3 g4 g5
  rw [← hX]
  have HX := Lib.hid hX
  clear hX
  refine callsIn_of_wp_marks Tryd.func25 rfl hf0 ?_ hro
  simp only [Tryd.ntmps25, List.size_toArray, List.length_cons, List.length_nil, Nat.reduceAdd, Nat.reduceSub, Array.replicate_succ, Array.replicate_zero, List.push_toArray, List.append_toArray, List.nil_append, List.cons_append]
  gi_wp2
  refine wpIn_scope_straight ?_
  gi_wp2
  obtain ⟨fv, hfv⟩ : ∃ fv, fv = Value.func (.func 48) #[.pointer (some ⟨w.heap.size, 0, none⟩)] #[] := ⟨_, rfl⟩
  obtain ⟨V, hV⟩ : ∃ V, V = (w.alloc (.cells #[.string ⟨#[]⟩, .string ⟨#[]⟩, .bool false, .int .i64 0, .int .i64 0] 86)).alloc (.cells #[.func (.func 48) #[.pointer (some ⟨w.heap.size, 0, none⟩)] #[]] 44) := ⟨_, rfl⟩
  have b0 : Has V w.heap.size (.cells (cellsS st0) 86 (0, 0)) := by rw [hV]; exact (Has.new w _).alloc _
  have b1 : Has V (w.heap.size + 1) (.cells #[fv] 44 (0, 0)) := by
    rw [hV, hfv]
    have := Has.new (w.alloc (.cells #[.string ⟨#[]⟩, .string ⟨#[]⟩, .bool false, .int .i64 0, .int .i64 0] 86)) (.cells #[.func (.func 48) #[.pointer (some ⟨w.heap.size, 0, none⟩)] #[]] 44)
    rwa [World.size_alloc] at this
  have EV : Ext w V := by rw [hV]; exact ((Ext.refl _).alloc _).alloc _
  have zV : V.heap.size = w.heap.size + 2 := by rw [hV]; simp
  rw [← hV]
  clear hV
  have ZV := Lib.hid zV
  clear zV
  refine wpIn_label ?_
  gi_wp2_with (gi_at_call 49; refine (G1.out _ _).mono ?_; rintro e w' ⟨rfl, rfl⟩)
  have zV := ZV.out
  obtain ⟨W0, hW0⟩ : ∃ W0, W0 = splitW V X 10 := ⟨_, rfl⟩
  obtain ⟨s1, s2, s3, s4, s5⟩ := splitW_boxes V X 10
  rw [← hW0] at s1 s2 s3 s4 s5
  rw [← hW0]
  have d0 : Has W0 w.heap.size (.cells (cellsS st0) 86 (0, 0)) := b0.ext s4
  have d1 : Has W0 (w.heap.size + 1) (.cells #[fv] 44 (0, 0)) := b1.ext s4
  have E1 : Ext w W0 := EV.trans s4
  rw [hfv] at d1
  have zl : w.heap.size + 2 ≤ V.heap.size := by omega
  have zw : V.heap.size + 3 ≤ W0.heap.size := by omega
  clear hW0 EV s4 b0 b1 hfv zV s5
  refine wpIn_range_box (w0 := W0) (B := V.heap.size) (L := [V.heap.size + 1, V.heap.size, V.heap.size + 1 + 1]) hro (by omega) (gf := 100) (lb := #[.pointer (some ⟨V.heap.size + 1, 0, none⟩), .pointer (some ⟨V.heap.size, 0, none⟩), .pointer (some ⟨V.heap.size + 1 + 1, 0, none⟩)]) rfl hf2 (enters_of Tryd.func100 (by kernel_rfl) rfl)
    (by omega) (by intro b hb; simp at hb; omega)
    (split_seqB F (3 - 1) HF.out (by omega) (V.heap.size + 1) V.heap.size (V.heap.size + 1 + 1) 10 l (by omega) (by omega) (by omega) W0 s1 (by rw [← HX.out]; exact s2) s3) (Below.refl _ _) (fun _ => rfl)
    (fun pre W => (∃ o, W.heap[w.heap.size]? = some o ∧ ∃ st, o = .cells (cellsS st) 86 (0, 0) ∧ Cont pre st ∧ st.paths ≤ pre.length ∧ st.days ≤ pre.length) ∧ (∃ o, W.heap[w.heap.size + 1]? = some o ∧ o = .cells #[.func (.func 48) #[.pointer (some ⟨w.heap.size, 0, none⟩)] #[]] 44 (0, 0)) ∧ (Below w.heap.size w W ∧ W0.heap.size ≤ W.heap.size))
    (fun c pre W => (∃ o, W.heap[w.heap.size]? = some o ∧ ∃ st, o = .cells (cellsS st) 86 (0, 0) ∧ c = .exit 0 ∧ ∀ rest, runF st0 (pre ++ rest) = st) ∧ (Below w.heap.size w W ∧ W0.heap.size ≤ W.heap.size))
    (OwnFrom.and (ownFrom_has (by omega) (fun pre o => ∃ st, o = .cells (cellsS st) 86 (0, 0) ∧ Cont pre st ∧ st.paths ≤ pre.length ∧ st.days ≤ pre.length)) (OwnFrom.and (ownFrom_has (by omega) (fun _ o => o = .cells #[.func (.func 48) #[.pointer (some ⟨w.heap.size, 0, none⟩)] #[]] 44 (0, 0))) (OwnFrom.and (ownFrom_below (Nat.le_refl _) (by omega)) (fun _ _ _ _ hs hg _ => Nat.le_trans hs hg.size))))
    (fun c => OwnFrom.and (ownFrom_has (by omega) (fun pre o => ∃ st, o = .cells (cellsS st) 86 (0, 0) ∧ c = .exit 0 ∧ ∀ rest, runF st0 (pre ++ rest) = st)) (OwnFrom.and (ownFrom_below (Nat.le_refl _) (by omega)) (fun _ _ _ _ hs hg _ => Nat.le_trans hs hg.size)))
    ?st ⟨⟨_, d0, st0, rfl, Cont.nil, Nat.le_refl _, Nat.le_refl _⟩, ⟨_, d1, rfl⟩, E1, Nat.le_refl _⟩
    (fun x => { tmps := #[.string X, undef, .string ⟨#[]⟩, .int .i64 0, .int .i64 0, .pointer (some ⟨w.heap.size, 0, none⟩), .pointer (some ⟨w.heap.size + 1, 0, none⟩), .string (bs x), undef, undef, undef, .func (.func 48) #[.pointer (some ⟨w.heap.size, 0, none⟩)] #[], .string X, .func (.func 100) #[] #[.pointer (some ⟨V.heap.size + 1, 0, none⟩), .pointer (some ⟨V.heap.size, 0, none⟩), .pointer (some ⟨V.heap.size + 1 + 1, 0, none⟩)], .string (bs x), undef, undef, undef, undef, undef, undef, undef, undef, undef, undef, undef, undef, undef, undef, undef, undef, undef, undef, undef, undef, undef, undef, undef, undef, undef, undef, undef, undef, undef, undef, undef, undef, undef], defers := [] })
    ?assign ?body ?done ?stop
  case st =>
    rintro pre U v ⟨⟨o, ho, hst⟩, ⟨o1, ho1, h1⟩, hB, hz⟩
    exact ⟨⟨o, (setCell_other _ _ _ _ (by show w.heap.size ≠ V.heap.size; omega)).trans ho, hst⟩, ⟨o1, (setCell_other _ _ _ _ (by show w.heap.size + 1 ≠ V.heap.size; omega)).trans ho1, h1⟩, hB.setCell (p := ⟨V.heap.size, 0, none⟩) (by show w.heap.size ≤ V.heap.size; omega) v, by simpa using hz⟩
  case assign =>
    intro lb x U K hK
    gi_wp2
    exact hK
  case body =>
    rintro lb pre x U ⟨⟨o, ho, st, rfl, hct, hp, hd⟩, ⟨o1, ho1, rfl⟩, hB, hz⟩ hpl
    have hxl : x.length ≤ 1000000 := by
      obtain ⟨t, ht⟩ := hpl
      exact HSM.out x (by rw [← ht]; simp)
    have hpn2 : pre.length ≤ 1000000 := by
      have h2 := hpl.length_le
      simp at h2; omega
    have c1 : U.cell? ⟨w.heap.size + 1, 0, none⟩ = some (.func (.func 48) #[.pointer (some ⟨w.heap.size, 0, none⟩)] #[]) := Has.cell (show Has U _ _ from ho1) 0
    have HS := Lib.hid (show Has U w.heap.size _ from ho)
    have HS1 := Lib.hid (show Has U (w.heap.size + 1) _ from ho1)
    have HML := Lib.hid (hM.ext hB)
    obtain ⟨b, hb⟩ : ∃ b, b = (lineF st x).2 := ⟨_, rfl⟩
    have hle := lineF_le st x
    have hcall := fun m => G2.out lb m w.heap.size st x U HS.out HML.out hxl (by omega) (by omega)
    rw [← hb] at hcall
    have HCALL := Lib.hid hcall
    have HB := Lib.hid hb.symm
    clear hcall ho ho1 hpl hb
    have fin : Hid (∀ U', U.grownBy U' (some w.heap.size) → KeepsFrom W0.heap.size U U' ∧ KeepB [V.heap.size + 1, V.heap.size, V.heap.size + 1 + 1] U U' ∧ Has U' (w.heap.size + 1) (.cells #[.func (.func 48) #[.pointer (some ⟨w.heap.size, 0, none⟩)] #[]] 44 (0, 0)) ∧ Below w.heap.size w U' ∧ W0.heap.size ≤ U'.heap.size) := fun U' hg =>
      ⟨KeepsFrom.of_grownBy hg (fun j e => by have := Option.some.inj e; omega), fun b hb => by
        simp at hb
        exact hg.block b (by omega) (fun e => by have := Option.some.inj e; omega), (hg.block (w.heap.size + 1) (Has.lt HS1.out) (fun e => by have := Option.some.inj e; omega)).trans HS1.out,
        Below.grown hB hg hB.size (fun k e => by have := Option.some.inj e; omega), Nat.le_trans hz hg.size⟩
    cases b with
    | true =>
      gi_wp2_with (gi_at_call 48; refine (HCALL.out _).mono ?_; rintro e w1 ⟨rfl, hb1, hg1⟩)
      obtain ⟨f1, f2, f3, f4, f5⟩ := fin.out _ hg1
      exact ⟨f1, f2, ⟨_, hb1, _, rfl, hct.more HB.out, by simp; omega, by simp; omega⟩, ⟨_, f3, rfl⟩, f4, f5⟩
    | false =>
      gi_wp2_with (gi_at_call 48; refine (HCALL.out _).mono ?_; rintro e w1 ⟨rfl, hb1, hg1⟩)
      obtain ⟨f1, f2, f3, f4, f5⟩ := fin.out _ hg1
      exact ⟨f1, ⟨_, hb1, _, rfl, rfl, hct.over HB.out⟩, f4, f5⟩
  case done =>
    rintro D ys U hD rfl ⟨⟨o, ho, st, rfl, hct, hp, hd⟩, -, hB, hz⟩ hK
    have hrun : runF st0 (pcB 10 [] l) = st := by have h := hct []; rw [List.append_nil] at h; exact h
    clear hct hp hd
    obtain ⟨e1, e2, e3⟩ := st_end hrun
    obtain ⟨l1, l2⟩ := st_small (st := st0) HSM.out (by show ([] : Ln).length ≤ _; simp) (by show ([] : Ln).length ≤ _; simp)
    rw [hrun] at l1 l2
    obtain ⟨pa, da, inn, np, nd⟩ := st
    simp only [] at e1 e2 e3 l1 l2
    have hst : Has U w.heap.size (.cells (cellsS ⟨pa, da, inn, np, nd⟩) 86 (0, 0)) := ho
    have HC : Hid (∀ U', Ext U U' → U'.cell? ⟨w.heap.size, 0, none⟩ = some (.string (bs pa)) ∧ U'.cell? ⟨w.heap.size, 1, none⟩ = some (.string (bs da)) ∧ U'.cell? ⟨w.heap.size, 3, none⟩ = some (.int .i64 np)) := fun U' hE => by
      have h := hst.ext hE
      exact ⟨h.cell 0, h.cell 1, h.cell 3⟩
    have HK : Hid (∀ U', Ext U U' → U'.heap[D]? = some (.deferred (some []))) := fun U' hE => Ext.block hE hK
    obtain ⟨c0, -, c3⟩ := HC.out U (Ext.refl _)
    have hDD : w.heap.size ≤ D := by omega
    clear ho hst hrun hK
    by_cases hn0 : np = 0
    · have q0 : ((np : Int) == 0) = true := by rw [hn0]; rfl
      have HN := Lib.hid (e1 hn0)
      clear e1 e2 e3 hn0
      gi_wp2
      refine ⟨by simp, .inl ⟨_, _, rfl, run_takeDeferred (HK.out _ (Ext.refl _)), ?_⟩⟩
      refine ⟨.tuple #[.string (⟨#[]⟩), .int .i64 (0), .int .i64 2], by simp [results, Tryd.results25, go_sem], [], 0, 2, .inl ⟨HN.out, rfl, rfl, rfl⟩, rfl, ?_⟩
      exact (Below.trans hB (Below.mono (Ext.refl _) (by have := hB.size; omega))).trans (belowK_b (w := w) (Nat.le_refl _) _ D _ _ hDD (HK.out _ (Ext.refl _)) rfl rfl)
    · have q0 : ((np : Int) == 0) = false := beq_eq_false_iff_ne.2 (by omega)
      have hpath := e2 hn0
      have HDY := Lib.hid e3
      clear e1 e2 e3 hn0
      cases hd : decL pa with
      | none =>
        have HN : Hid (pathO l = none) := by show _ = _; rw [hpath, hd]; rfl
        have HD := Lib.hid (fun m w' => G3.out m pa _ w' (decV_h0 hd) l1)
        clear hpath hd
        gi_wp2_with (gi_at_call 50; refine (HD.out _ _).mono ?_; rintro e w2 ⟨rfl, b2⟩; have hc2 := (HC.out _ b2).2.1)
        refine ⟨by simp, .inl ⟨_, _, rfl, run_takeDeferred (HK.out _ b2), ?_⟩⟩
        refine ⟨.tuple #[.string (⟨#[]⟩), .int .i64 (0), .int .i64 2], by simp [results, Tryd.results25, go_sem], [], 0, 2, .inl ⟨HN.out, rfl, rfl, rfl⟩, rfl, ?_⟩
        exact (Below.trans hB (Below.mono b2 (by have := hB.size; omega))).trans (belowK_b (w := w) (Nat.le_refl _) _ D _ _ hDD (HK.out _ b2) rfl rfl)
      | some p =>
        have HD := Lib.hid (fun m w' => G3.out m pa _ w' (decV_h hd) l1)
        have hpath2 : pathO l = if p = [] ∨ 0 ∈ p then none else some p := by rw [hpath, hd]; rfl
        clear hpath hd
        by_cases hp0 : p = []
        · subst hp0
          have HN : Hid (pathO l = none) := by show _ = _; rw [hpath2, if_pos (.inl rfl)]
          have hem : (bs []).toList.isEmpty = true := by rw [bs_toList]; rfl
          clear hpath2
          gi_wp2_with (gi_at_call 50; refine (HD.out _ _).mono ?_; rintro e w2 ⟨rfl, b2⟩; have hc2 := (HC.out _ b2).2.1)
          refine ⟨by simp, .inl ⟨_, _, rfl, run_takeDeferred (HK.out _ b2), ?_⟩⟩
          refine ⟨.tuple #[.string (⟨#[]⟩), .int .i64 (0), .int .i64 2], by simp [results, Tryd.results25, go_sem], [], 0, 2, .inl ⟨HN.out, rfl, rfl, rfl⟩, rfl, ?_⟩
          exact (Below.trans hB (Below.mono b2 (by have := hB.size; omega))).trans (belowK_b (w := w) (Nat.le_refl _) _ D _ _ hDD (HK.out _ b2) rfl rfl)
        · have hem : (bs p).toList.isEmpty = false := by rw [bs_toList, List.isEmpty_eq_false_iff]; exact hp0
          obtain ⟨hb, hhb⟩ : ∃ hb, hb = hasB p 0 := ⟨_, rfl⟩
          have HH := Lib.hid (fun m w' => G4.out m p hb w' hhb)
          cases hb with
          | true =>
            have HN : Hid (pathO l = none) := by show _ = _; rw [hpath2, if_pos (.inr (of_decide_eq_true hhb.symm))]
            clear hpath2 hhb hp0
            gi_wp2_with (first
              | (gi_at_call 50; refine (HD.out _ _).mono ?_; rintro e w2 ⟨rfl, b2⟩)
              | (gi_at_call 43; refine (HH.out _ _).mono ?_; rintro e w3 ⟨rfl, b3⟩; have b23 := b2.trans b3))
            refine ⟨by simp, .inl ⟨_, _, rfl, run_takeDeferred (HK.out _ b23), ?_⟩⟩
            refine ⟨.tuple #[.string (⟨#[]⟩), .int .i64 (0), .int .i64 2], by simp [results, Tryd.results25, go_sem], [], 0, 2, .inl ⟨HN.out, rfl, rfl, rfl⟩, rfl, ?_⟩
            exact (Below.trans hB (Below.mono b23 (by have := hB.size; omega))).trans (belowK_b (w := w) (Nat.le_refl _) _ D _ _ hDD (HK.out _ b23) rfl rfl)
          | false =>
            have HS : Hid (pathO l = some p) := by
              show _ = _
              rw [hpath2, if_neg (by
                rintro (h | h)
                · exact hp0 h
                · exact absurd (decide_eq_true h) (by rw [show decide ((0 : UInt8) ∈ p) = false from hhb.symm]; simp))]
            have HPR := Lib.hid (fun m w' => G5.out m da w' l2)
            clear hpath2 hhb hp0
            gi_wp2_with (first
              | (gi_at_call 50; refine (HD.out _ _).mono ?_; rintro e w2 ⟨rfl, b2⟩)
              | (gi_at_call 43; refine (HH.out _ _).mono ?_; rintro e w3 ⟨rfl, b3⟩; have b23 := b2.trans b3; have hc3 := (HC.out _ b23).2.1)
              | (gi_at_call 51; refine (HPR.out _ _).mono ?_; rintro e w4 ⟨m, f, hz2, rfl, b4⟩; have b24 := b23.trans b4; have HZ := Lib.hid hz2; clear hz2; obtain ⟨g, hg⟩ : ∃ g, g = (f == 0) := ⟨_, rfl⟩; cases g <;> have hg2 := hg.symm <;> have HG := Lib.hid hg2 <;> clear hg))
            · have hf : ¬ f = 0 := beq_eq_false_iff_ne.1 HG.out
              refine ⟨by simp, .inl ⟨_, _, rfl, run_takeDeferred (HK.out _ b24), ?_⟩⟩
              refine ⟨.tuple #[.string (bs p), .int .i64 (-1), .int .i64 0], by simp [results, Tryd.results25, go_sem], p, -1, 0, .inr ⟨m, f, HS.out, rfl, by rw [HDY.out]; exact HZ.out, by rw [if_neg hf]⟩, rfl, ?_⟩
              exact (Below.trans hB (Below.mono b24 (by have := hB.size; omega))).trans (belowK_b (w := w) (Nat.le_refl _) _ D _ _ hDD (HK.out _ b24) rfl rfl)
            · have hf : f = 0 := eq_of_beq HG.out
              refine ⟨by simp, .inl ⟨_, _, rfl, run_takeDeferred (HK.out _ b24), ?_⟩⟩
              refine ⟨.tuple #[.string (bs p), .int .i64 (m), .int .i64 0], by simp [results, Tryd.results25, go_sem], p, m, 0, .inr ⟨m, f, HS.out, rfl, by rw [HDY.out]; exact HZ.out, by rw [if_pos hf]⟩, rfl, ?_⟩
              exact (Below.trans hB (Below.mono b24 (by have := hB.size; omega))).trans (belowK_b (w := w) (Nat.le_refl _) _ D _ _ hDD (HK.out _ b24) rfl rfl)
  case stop =>
    rintro D c pre U hD hpre ⟨⟨o, ho, st, rfl, rfl, hrun⟩, hB, hz⟩ hK
    have hrun : runF st0 (pcB 10 [] l) = st := by obtain ⟨t, ht⟩ := hpre; rw [← ht]; exact hrun t
    clear hpre
    obtain ⟨e1, e2, e3⟩ := st_end hrun
    obtain ⟨l1, l2⟩ := st_small (st := st0) HSM.out (by show ([] : Ln).length ≤ _; simp) (by show ([] : Ln).length ≤ _; simp)
    rw [hrun] at l1 l2
    obtain ⟨pa, da, inn, np, nd⟩ := st
    simp only [] at e1 e2 e3 l1 l2
    have hst : Has U w.heap.size (.cells (cellsS ⟨pa, da, inn, np, nd⟩) 86 (0, 0)) := ho
    have HC : Hid (∀ U', Ext U U' → U'.cell? ⟨w.heap.size, 0, none⟩ = some (.string (bs pa)) ∧ U'.cell? ⟨w.heap.size, 1, none⟩ = some (.string (bs da)) ∧ U'.cell? ⟨w.heap.size, 3, none⟩ = some (.int .i64 np)) := fun U' hE => by
      have h := hst.ext hE
      exact ⟨h.cell 0, h.cell 1, h.cell 3⟩
    have HK : Hid (∀ U', Ext U U' → U'.heap[D]? = some (.deferred (some []))) := fun U' hE => Ext.block hE hK
    obtain ⟨c0, -, c3⟩ := HC.out U (Ext.refl _)
    have hDD : w.heap.size ≤ D := by omega
    clear ho hst hrun hK
    by_cases hn0 : np = 0
    · have q0 : ((np : Int) == 0) = true := by rw [hn0]; rfl
      have HN := Lib.hid (e1 hn0)
      clear e1 e2 e3 hn0
      gi_wp2
      refine ⟨by simp, .inl ⟨_, _, rfl, run_takeDeferred (HK.out _ (Ext.refl _)), ?_⟩⟩
      refine ⟨.tuple #[.string (⟨#[]⟩), .int .i64 (0), .int .i64 2], by simp [results, Tryd.results25, go_sem], [], 0, 2, .inl ⟨HN.out, rfl, rfl, rfl⟩, rfl, ?_⟩
      exact (Below.trans hB (Below.mono (Ext.refl _) (by have := hB.size; omega))).trans (belowK_b (w := w) (Nat.le_refl _) _ D _ _ hDD (HK.out _ (Ext.refl _)) rfl rfl)
    · have q0 : ((np : Int) == 0) = false := beq_eq_false_iff_ne.2 (by omega)
      have hpath := e2 hn0
      have HDY := Lib.hid e3
      clear e1 e2 e3 hn0
      cases hd : decL pa with
      | none =>
        have HN : Hid (pathO l = none) := by show _ = _; rw [hpath, hd]; rfl
        have HD := Lib.hid (fun m w' => G3.out m pa _ w' (decV_h0 hd) l1)
        clear hpath hd
        gi_wp2_with (gi_at_call 50; refine (HD.out _ _).mono ?_; rintro e w2 ⟨rfl, b2⟩; have hc2 := (HC.out _ b2).2.1)
        refine ⟨by simp, .inl ⟨_, _, rfl, run_takeDeferred (HK.out _ b2), ?_⟩⟩
        refine ⟨.tuple #[.string (⟨#[]⟩), .int .i64 (0), .int .i64 2], by simp [results, Tryd.results25, go_sem], [], 0, 2, .inl ⟨HN.out, rfl, rfl, rfl⟩, rfl, ?_⟩
        exact (Below.trans hB (Below.mono b2 (by have := hB.size; omega))).trans (belowK_b (w := w) (Nat.le_refl _) _ D _ _ hDD (HK.out _ b2) rfl rfl)
      | some p =>
        have HD := Lib.hid (fun m w' => G3.out m pa _ w' (decV_h hd) l1)
        have hpath2 : pathO l = if p = [] ∨ 0 ∈ p then none else some p := by rw [hpath, hd]; rfl
        clear hpath hd
        by_cases hp0 : p = []
        · subst hp0
          have HN : Hid (pathO l = none) := by show _ = _; rw [hpath2, if_pos (.inl rfl)]
          have hem : (bs []).toList.isEmpty = true := by rw [bs_toList]; rfl
          clear hpath2
          gi_wp2_with (gi_at_call 50; refine (HD.out _ _).mono ?_; rintro e w2 ⟨rfl, b2⟩; have hc2 := (HC.out _ b2).2.1)
          refine ⟨by simp, .inl ⟨_, _, rfl, run_takeDeferred (HK.out _ b2), ?_⟩⟩
          refine ⟨.tuple #[.string (⟨#[]⟩), .int .i64 (0), .int .i64 2], by simp [results, Tryd.results25, go_sem], [], 0, 2, .inl ⟨HN.out, rfl, rfl, rfl⟩, rfl, ?_⟩
          exact (Below.trans hB (Below.mono b2 (by have := hB.size; omega))).trans (belowK_b (w := w) (Nat.le_refl _) _ D _ _ hDD (HK.out _ b2) rfl rfl)
        · have hem : (bs p).toList.isEmpty = false := by rw [bs_toList, List.isEmpty_eq_false_iff]; exact hp0
          obtain ⟨hb, hhb⟩ : ∃ hb, hb = hasB p 0 := ⟨_, rfl⟩
          have HH := Lib.hid (fun m w' => G4.out m p hb w' hhb)
          cases hb with
          | true =>
            have HN : Hid (pathO l = none) := by show _ = _; rw [hpath2, if_pos (.inr (of_decide_eq_true hhb.symm))]
            clear hpath2 hhb hp0
            gi_wp2_with (first
              | (gi_at_call 50; refine (HD.out _ _).mono ?_; rintro e w2 ⟨rfl, b2⟩)
              | (gi_at_call 43; refine (HH.out _ _).mono ?_; rintro e w3 ⟨rfl, b3⟩; have b23 := b2.trans b3))
            refine ⟨by simp, .inl ⟨_, _, rfl, run_takeDeferred (HK.out _ b23), ?_⟩⟩
            refine ⟨.tuple #[.string (⟨#[]⟩), .int .i64 (0), .int .i64 2], by simp [results, Tryd.results25, go_sem], [], 0, 2, .inl ⟨HN.out, rfl, rfl, rfl⟩, rfl, ?_⟩
            exact (Below.trans hB (Below.mono b23 (by have := hB.size; omega))).trans (belowK_b (w := w) (Nat.le_refl _) _ D _ _ hDD (HK.out _ b23) rfl rfl)
          | false =>
            have HS : Hid (pathO l = some p) := by
              show _ = _
              rw [hpath2, if_neg (by
                rintro (h | h)
                · exact hp0 h
                · exact absurd (decide_eq_true h) (by rw [show decide ((0 : UInt8) ∈ p) = false from hhb.symm]; simp))]
            have HPR := Lib.hid (fun m w' => G5.out m da w' l2)
            clear hpath2 hhb hp0
            gi_wp2_with (first
              | (gi_at_call 50; refine (HD.out _ _).mono ?_; rintro e w2 ⟨rfl, b2⟩)
              | (gi_at_call 43; refine (HH.out _ _).mono ?_; rintro e w3 ⟨rfl, b3⟩; have b23 := b2.trans b3; have hc3 := (HC.out _ b23).2.1)
              | (gi_at_call 51; refine (HPR.out _ _).mono ?_; rintro e w4 ⟨m, f, hz2, rfl, b4⟩; have b24 := b23.trans b4; have HZ := Lib.hid hz2; clear hz2; obtain ⟨g, hg⟩ : ∃ g, g = (f == 0) := ⟨_, rfl⟩; cases g <;> have hg2 := hg.symm <;> have HG := Lib.hid hg2 <;> clear hg))
            · have hf : ¬ f = 0 := beq_eq_false_iff_ne.1 HG.out
              refine ⟨by simp, .inl ⟨_, _, rfl, run_takeDeferred (HK.out _ b24), ?_⟩⟩
              refine ⟨.tuple #[.string (bs p), .int .i64 (-1), .int .i64 0], by simp [results, Tryd.results25, go_sem], p, -1, 0, .inr ⟨m, f, HS.out, rfl, by rw [HDY.out]; exact HZ.out, by rw [if_neg hf]⟩, rfl, ?_⟩
              exact (Below.trans hB (Below.mono b24 (by have := hB.size; omega))).trans (belowK_b (w := w) (Nat.le_refl _) _ D _ _ hDD (HK.out _ b24) rfl rfl)
            · have hf : f = 0 := eq_of_beq HG.out
              refine ⟨by simp, .inl ⟨_, _, rfl, run_takeDeferred (HK.out _ b24), ?_⟩⟩
              refine ⟨.tuple #[.string (bs p), .int .i64 (m), .int .i64 0], by simp [results, Tryd.results25, go_sem], p, m, 0, .inr ⟨m, f, HS.out, rfl, by rw [HDY.out]; exact HZ.out, by rw [if_pos hf]⟩, rfl, ?_⟩
              exact (Below.trans hB (Below.mono b24 (by have := hB.size; omega))).trans (belowK_b (w := w) (Nat.le_refl _) _ D _ _ hDD (HK.out _ b24) rfl rfl)
end Go.Proofs.YtanaifobmkjpaaaDoor
