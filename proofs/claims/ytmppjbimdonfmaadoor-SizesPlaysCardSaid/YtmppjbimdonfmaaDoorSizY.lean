/- Layer 7 (sizes): Parse of the program: the walk. -/
import Derived.Test.YtmppjbimdonfmaaDoorSizX
namespace Go.Proofs.YtmppjbimdonfmaaDoor
open Go.ChangeShapes Go.WideShapes Go.ChangeAt Go.RowKit Go.Shelf
attribute [local go_sem] Oper.semAt_some

theorem eql_seq_nil (f : Fn) (ts cs : Array Value) (w : World) : (binOp .eql 72 (.func f ts cs) .nilFunc).run Tryd.prog w = .ok (.bool false) w := by
  have hu := Tryd.underlying72
  have h : ∀ d : Nat, (Op.equalIn (d + 1) 72 (.func f ts cs) .nilFunc).run Tryd.prog w = .ok false w := fun d => by simp [Op.equalIn, run_underlying hu]
  simp only [binOp]
  simp [Op.equal, Op.maxDepth, h 9999]
/-- A row as the program's own calls leave it. -/
def RowV (w : World) (v : Value) (l : List EntD) : Prop := (v = .slice none 0 0 ∧ l = []) ∨ ∃ b o cap, v = .slice (some ⟨b, o, none⟩) l.length cap ∧ EntsAt w (some ⟨b, o, none⟩) l ∧ l.length ≤ cap ∧ cap ≤ maxLen
theorem RowV.of {w : World} {base : Nat} {v : Value} {l : List EntD} (h : OwnE w base v l) : RowV w v l := by
  have h0 := h
  unfold OwnE at h
  rcases h.2 with ⟨rfl, h1⟩ | ⟨g, cap, cur, rfl, _, hg, hn, hm, hsz, htake⟩
  · exact .inl ⟨rfl, List.eq_nil_of_length_eq_zero h1⟩
  · obtain ⟨A, cap', hv, h1, h2, h3⟩ := h0.at_
    injection hv with e1 e2 e3
    subst e1; subst e3
    exact .inr ⟨g, 0, cap, rfl, h3, h1, h2⟩
theorem RowV.ext {w w' : World} {v : Value} {l : List EntD} (h : RowV w v l) (hE : Ext w w') : RowV w' v l := by
  rcases h with h | ⟨b, o, cap, h1, h2, h3⟩
  · exact .inl h
  · exact .inr ⟨b, o, cap, h1, h2.ext hE, h3⟩
theorem sput_any (v : Value) (l : List EntD) (x : EntD) (w : World) (h : RowV w v l) (hr : Rise l) (hlen : l.length ≤ 1000) : Calls Tryd.prog 53 #[v, lineA x] w (OwnR w (putF l x)) := by
  rw [← putP_putF l x hr]
  rcases h with ⟨rfl, rfl⟩ | ⟨b, o, cap, rfl, h, h1, h2⟩
  · exact sput_none x w
  · exact sput_some b o cap l x w h hr h1 h2 hlen
set_option maxRecDepth 100000 in
set_option maxHeartbeats 4000000 in
theorem sparse_any (l : List UInt8) (w : World) (hM : HasMax w) (hlen : l.length ≤ 100000) (hpc : (pcB 10 [] l).length ≤ 1000) : Calls Tryd.prog 47 #[.string (bs l)] w (OwnR w (parseL (pcB 10 [] l))) := by
  refine (callsIn_wide (n := 3)).1 ?_
  obtain ⟨F, hF⟩ : ∃ F, F = Fence.wide := ⟨_, rfl⟩
  have hro : F.round = none := by rw [hF]; rfl
  have hf0 : F.fn 47 := by rw [hF]; trivial
  have hf1 : F.fn 89 := by rw [hF]; trivial
  have hf2 : F.fn 136 := by rw [hF]; trivial
  have hf3 : F.fn 90 := by rw [hF]; trivial
  have hf4 : F.fn 53 := by rw [hF]; trivial
  obtain ⟨X, hX⟩ : ∃ X, X = bs l := ⟨_, rfl⟩
  have g1 : ∀ (m : Nat) (w' : World), CallsIn F m Tryd.prog 89 #[.string X, .string ⟨#[10]⟩] w' (fun e w2 => e = .returned (.func (.func 136) #[] #[.pointer (some ⟨w'.heap.size + 1, 0, none⟩), .pointer (some ⟨w'.heap.size, 0, none⟩), .pointer (some ⟨w'.heap.size + 1 + 1, 0, none⟩)]) ∧ w2 = splitW w' X 10) := fun m w' => by
    rw [hF]; exact callsIn_wide.2 (splitSeq_any X 10 w')
  have g2 : ∀ (lb m : Nat) (x : List UInt8) (w' : World), HasMax w' → x.length ≤ 100000 → CallsIn (F.inRound lb) m Tryd.prog 90 #[.string (bs x)] w' (LineR w' x) := fun lb m x w' h1 h2 => by
    rw [hF]; exact CallsIn.inRound lb (callsIn_wide.2 (pline_any x w' h1 h2))
  have g3 : ∀ (lb m : Nat) (v : Value) (q : List EntD) (x : EntD) (w' : World), RowV w' v q → Rise q → q.length ≤ 1000 → CallsIn (F.inRound lb) m Tryd.prog 53 #[v, lineA x] w' (OwnR w' (putF q x)) := fun lb m v q x w' h1 h2 h3 => by
    rw [hF]; exact CallsIn.inRound lb (callsIn_wide.2 (sput_any v q x w' h1 h2 h3))
  have G1 := Lib.hid g1
  have G2 := Lib.hid g2
  have G3 := Lib.hid g3
  rw [← hF]
  have HF := Lib.hid hF
  clear hF g1 g2 g3
  rw [← hX]
  have HX := Lib.hid hX
  clear hX
  refine callsIn_of_wp_marks Tryd.func47 rfl hf0 ?_ hro
  simp only [Tryd.ntmps47, List.size_toArray, List.length_cons, List.length_nil, Nat.reduceAdd, Nat.reduceSub, Array.replicate_succ, Array.replicate_zero, List.push_toArray, List.append_toArray, List.nil_append, List.cons_append]
  gi_wp2_with (gi_at_call 89; refine (G1.out _ _).mono ?_; rintro e w' ⟨rfl, rfl⟩)
  obtain ⟨w0, hw0⟩ : ∃ w0, w0 = w.alloc (.cells #[.slice none 0 0] 40) := ⟨_, rfl⟩
  have z0 : w0.heap.size = w.heap.size + 1 := by rw [hw0]; simp
  have bO : Boxed w0 w.heap.size 40 (.slice none 0 0) := by rw [hw0]; exact Boxed.new w _ _
  have E0 : Ext w w0 := by rw [hw0]; exact (Ext.refl _).alloc _
  rw [← hw0]
  clear hw0
  obtain ⟨W0, hW0⟩ : ∃ W0, W0 = splitW w0 X 10 := ⟨_, rfl⟩
  obtain ⟨s1, s2, s3, s4, s5⟩ := splitW_boxes w0 X 10
  rw [← hW0] at s1 s2 s3 s4 s5
  rw [← hW0]
  have bO1 : Boxed W0 w.heap.size 40 (.slice none 0 0) := (s4.block (show w0.heap[w.heap.size]? = some _ from bO))
  have E1 : Ext w W0 := E0.trans s4
  rw [z0] at s1 s2 s3 s5
  clear hW0 E0 s4 bO
  refine wpIn_range_box (w0 := W0) (B := w.heap.size + 1) (L := [w.heap.size + 1 + 1, w.heap.size + 1, w.heap.size + 1 + 1 + 1]) hro (by omega) (gf := 136) (lb := #[.pointer (some ⟨w.heap.size + 1 + 1, 0, none⟩), .pointer (some ⟨w.heap.size + 1, 0, none⟩), .pointer (some ⟨w.heap.size + 1 + 1 + 1, 0, none⟩)]) rfl hf2 (enters_of Tryd.func136 (by kernel_rfl) rfl)
    (by omega) (by intro b hb; simp at hb; omega)
    (split_seqB F (3 - 1) HF.out (by omega) (w.heap.size + 1 + 1) (w.heap.size + 1) (w.heap.size + 1 + 1 + 1) 10 l (by omega) (by omega) (by omega) W0 s1 (by rw [← HX.out]; exact s2) s3) (Below.refl _ _) (fun _ => rfl)
    (fun pre W => (∃ v, Boxed W w.heap.size 40 v ∧ W.ownsRow (w.heap.size + 4) 48 3 v (parseL pre).length (entCells (parseL pre)) ∧ True) ∧ (Below w.heap.size w W ∧ W0.heap.size ≤ W.heap.size))
    (fun _ _ _ => False)
    (OwnFrom.and (Own.from (holdsRow_own (w.heap.size + 4) w.heap.size 40 48 3 (fun pre => (parseL pre).length) (fun pre => entCells (parseL pre)) (fun _ _ => True)) _) (OwnFrom.and (ownFrom_below (Nat.le_refl _) (by omega)) (fun _ _ _ _ hs hg _ => Nat.le_trans hs hg.size)))
    (fun _ _ _ _ _ hs _ _ => hs)
    ?st ⟨⟨_, bO1, World.ownsRow_nil _ _ _ _, trivial⟩, E1, Nat.le_refl _⟩
    (fun x => { tmps := #[.string X, undef, .slice none 0 0, .pointer (some ⟨w.heap.size, 0, none⟩), .string (bs x), undef, undef, .string X, .func (.func 136) #[] #[.pointer (some ⟨w.heap.size + 1 + 1, 0, none⟩), .pointer (some ⟨w.heap.size + 1, 0, none⟩), .pointer (some ⟨w.heap.size + 1 + 1 + 1, 0, none⟩)], .string (bs x), undef, undef, undef, undef, undef, undef, undef, undef, undef, undef], defers := [] })
    ?assign ?body ?done ?stop
  case st =>
    rintro pre V v ⟨⟨u, hu, hrow, _⟩, hB, hz⟩
    refine ⟨⟨u, hu.other (by omega) _, World.ownsRow.kept hrow (grownBy_setCell' V (w.heap.size + 1) v) ?_, trivial⟩, hB.setCell (p := ⟨w.heap.size + 1, 0, none⟩) (by show w.heap.size ≤ w.heap.size + 1; omega) v, by simpa using hz⟩
    refine .inr fun e => ?_
    have := (hrow.lt (w.heap.size + 1) e).1
    omega
  case assign =>
    intro lb x W K hK
    gi_wp2
    exact hK
  case body =>
    rintro lb pre x W ⟨⟨v, hv, hrow, _⟩, hB, hz⟩ hpl
    have hc := hv.cell
    have hxl : x.length ≤ 100000 := by
      obtain ⟨t, ht⟩ := hpl
      have := pcB_small 10 l [] x (by rw [← ht]; simp)
      simp at this; omega
    have hpn : (parseL pre).length ≤ 999 := by
      have h1 := parseL_len pre
      have h2 := hpl.length_le
      simp at h2; omega
    have HML := Lib.hid (hM.ext hB)
    have HPL := Lib.hid hpl
    clear hpl
    have HPN := Lib.hid hpn
    have HR := Lib.hid (RowV.of (show OwnE W (w.heap.size + 4) v (parseL pre) from hrow))
    have HROW := Lib.hid hrow
    have HV := Lib.hid hv
    have HKP : Hid (∀ W', Ext W W' → KeepsFrom W0.heap.size W W' ∧ KeepB [w.heap.size + 1 + 1, w.heap.size + 1, w.heap.size + 1 + 1 + 1] W W') := fun W' hE => ⟨⟨hE.size, fun k o _ hk ho => by
      have hkl := (Array.getElem?_eq_some_iff.1 hk).1
      exact (Below.block hE k hkl).trans hk⟩, fun b hb => by
      simp at hb
      exact Below.block hE b (by omega)⟩
    clear hrow hv
    gi_wp2_with (first
      | (gi_at_call 90; refine (G2.out _ _ _ _ HML.out hxl).mono ?_; rintro e w1 ⟨⟨ynm, ysz, ytm⟩, b, rfl, r1, r2, b1⟩; have hv1 : Boxed w1 w.heap.size 40 v := b1.block (show W.heap[w.heap.size]? = some _ from HV.out); have hc1 := hv1.cell; have hl1 := hv1.lt; have R1 := Lib.hid r1; have R2 := Lib.hid r2; clear r1 r2; dsimp only [lineA])
      | (gi_at_call 53; refine (G3.out _ _ v (parseL pre) (ynm, ysz, ytm) _ (HR.out.ext (b1.alloc _)) (parseL_rise _) (by have := HPN.out; omega)).mono ?_; rintro e w2 ⟨v2, rfl, ho2, b2⟩; obtain ⟨A2, k2, hve, _⟩ := ho2.at_; subst hve; have hv2 : Boxed w2 w.heap.size 40 v := Ext.block ((b1.alloc _).trans b2) (show W.heap[w.heap.size]? = some _ from HV.out); have hc2 := hv2.cell; have hf2 := hv2.frozen; have HO2 := Lib.hid ho2; have HE2 := Lib.hid ((b1.alloc _).trans b2); clear ho2 b2))
    · have hst : parseL (pre ++ [x]) = putF (parseL pre) (ynm, ysz, ytm) := by rw [parseL_snoc, stepF_some (R1.out (by assumption))]
      have hE := HE2.out
      have hk := HKP.out _ hE
      have hO : OwnE w2 (w.heap.size + 4) (.slice A2 (putF (parseL pre) (ynm, ysz, ytm)).length k2) (putF (parseL pre) (ynm, ysz, ytm)) := HO2.out.base (by have := b1.size; simp; omega)
      refine ⟨hk.1.trans ((KeepsOthers.setCell _ _ _).from _), fun b hb => ?_, ⟨_, boxed_set hv2, ?_, trivial⟩, (Below.trans hB (Below.mono hE (by omega))).setCell (p := ⟨w.heap.size, 0, none⟩) (Nat.le_refl _) _, ?_⟩
      · have hb' := hb
        simp at hb'
        exact (setCell_other _ _ _ _ (by show b ≠ w.heap.size; omega)).trans (hk.2 b hb)
      · rw [hst]
        refine World.ownsRow.kept hO (grownBy_setCell' w2 w.heap.size _) (.inr fun e => ?_)
        have := (World.ownsRow.lt hO w.heap.size e).1
        omega
      · have := hE.size
        simp; omega
    · have hb : b = false := by assumption
      have hst : parseL (pre ++ [x]) = parseL pre := by rw [parseL_snoc, stepF_none (R2.out hb)]
      have hE : Ext W (w1.alloc (.cells #[.int .i64 ysz, .int .i64 ytm, .string (bs ynm)] 48)) := b1.alloc _
      have hk := HKP.out _ hE
      have hO : OwnE W (w.heap.size + 4) v (parseL pre) := HROW.out
      refine ⟨hk.1, hk.2, ⟨v, Ext.block hE (show W.heap[w.heap.size]? = some _ from HV.out), ?_, trivial⟩, Below.trans hB (Below.mono hE (by omega)), by have := hE.size; omega⟩
      rw [hst]
      exact OwnE.keep hO hE
  case done =>
    rintro D ys W hD rfl ⟨⟨v, hv, hrow, _⟩, hB, hz⟩ hK
    have hc := hv.cell
    have hO : OwnE W (w.heap.size + 4) v (parseL (pcB 10 [] l)) := hrow
    gi_wp2
    refine ⟨by simp, .inl ⟨_, _, rfl, run_takeDeferred hK, ?_⟩⟩
    refine ⟨v, by simp [results, Tryd.results47, go_sem], v, rfl, ?_, hB.trans (belowK_b (w := w) (Nat.le_refl _) W D _ _ (by omega) hK rfl rfl)⟩
    exact OwnE.base (ownsRow_putObj hrow _ hK rfl) (by omega)
  case stop =>
    rintro D c pre W hD hp hx hK
    exact hx.elim
end Go.Proofs.YtmppjbimdonfmaaDoor
