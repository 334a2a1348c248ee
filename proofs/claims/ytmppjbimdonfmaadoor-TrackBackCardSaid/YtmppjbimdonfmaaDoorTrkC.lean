/- Layer 3 (track): the program's Clean. -/
import Derived.Test.YtmppjbimdonfmaaDoorNamU
import Derived.Test.YtmppjbimdonfmaaDoorTrkQ
import Derived.WalkSmall
namespace Go.Proofs.YtmppjbimdonfmaaDoor
open Go.ChangeShapes Go.WideShapes Go.ChangeAt Go.RowKit Go.Shelf
attribute [local go_sem] Oper.semAt_some

theorem join_lib (l : List Txt) : Lib.join l [47] = joinS l := by
  unfold Lib.join
  induction l with
  | nil => rfl
  | cons p l ih =>
    cases l with
    | nil => simp [joinS, List.intercalate]
    | cons q l =>
      rw [joinS_cons _ _ (by simp), ← ih]
      simp [List.intercalate, List.intersperse]
def outN (whole : Bool) (pre : List Txt) : List Txt := pre.foldl (cstep whole) []
theorem outN_snoc (whole : Bool) (pre : List Txt) (x : Txt) : outN whole (pre ++ [x]) = cstep whole (outN whole pre) x := by
  unfold outN; rw [List.foldl_append]; rfl
theorem cstep_len (whole : Bool) (L : List Txt) (x : Txt) : (cstep whole L x).length ≤ L.length + 1 := by
  unfold cstep
  split
  · simp
  · split
    · simp; omega
    · split <;> simp
theorem outN_len (whole : Bool) (pre : List Txt) : (outN whole pre).length ≤ pre.length := by
  unfold outN
  have : ∀ (l : List Txt) (L : List Txt), (l.foldl (cstep whole) L).length ≤ L.length + l.length := by
    intro l
    induction l with
    | nil => intro L; simp
    | cons x l ih =>
      intro L
      have := ih (cstep whole L x)
      have := cstep_len whole L x
      simp
      omega
  simpa using this pre []
theorem normL_outN (l : List UInt8) : normL l = outN (wholeB l) (partsN l) := rfl
/-- A row is kept by a store into a box of another kind. -/
theorem row_other {W : World} {B b : Nat} {t e : TypeId} {u v : Value} {size k : Nat} {xs : List Value} (h : W.ownsRow b e size v k xs) (hb : Boxed W B t u) (hte : t ≠ e) (u' : Value) : (W.setCell ⟨B, 0, none⟩ u').ownsRow b e size v k xs :=
  h.kept (grownBy_setCell' W B u') (.inr (fun e' => hb.not_row hte h e'.symm))
/-- The step's three ways. -/
theorem cstep_put {whole : Bool} {L : List Txt} {x : Txt} (h : x ≠ dd) : cstep whole L x = L ++ [x] := by unfold cstep; rw [if_pos h]
theorem cstep_drop {whole : Bool} {L : List Txt} {q : Txt} (h : q ≠ dd) : cstep whole (L ++ [q]) dd = L := by
  unfold cstep
  rw [if_neg (by simp), if_pos ⟨by simp, by rw [last_app]; intro e; exact h (Option.some.inj e)⟩, List.dropLast_concat]
theorem cstep_nil {whole : Bool} : cstep whole [] dd = if whole = true then [] else [dd] := by
  unfold cstep
  rw [if_neg (by simp), if_neg (by simp)]; rfl
theorem cstep_dd {whole : Bool} {L : List Txt} : cstep whole (L ++ [dd]) dd = if whole = true then L ++ [dd] else (L ++ [dd]) ++ [dd] := by
  unfold cstep
  rw [if_neg (by simp), if_neg (by rintro ⟨_, h⟩; exact h (last_app _ _))]
theorem snocT (l : List Txt) : l = [] ∨ ∃ a c, l = a ++ [c] := by
  rcases List.eq_nil_or_concat l with h | ⟨a, c, h⟩
  · exact .inl h
  · exact .inr ⟨a, c, by rw [h, List.concat_eq_append]⟩
theorem row_base {W : World} {b b' : Nat} {e : TypeId} {size k : Nat} {v : Value} {xs : List Value} (h : W.ownsRow b e size v k xs) (hb : b' ≤ b) : W.ownsRow b' e size v k xs := by
  obtain ⟨h1, h2⟩ := h
  refine ⟨h1, ?_⟩
  rcases h2 with h2 | ⟨g, cap, cur, hv, hg, hr⟩
  · exact .inl h2
  · exact .inr ⟨g, cap, cur, hv, Nat.le_trans hb hg, hr⟩
/-- strings.Join of texts in a row of the call's own, by a slash. -/
theorem join_any (L : List Txt) (base : Nat) (v : Value) (w : World) (h : OwnT w base v L) (hN : L.length ≤ 1000000) (hlen : (joinS L).length ≤ 10000000) : Calls Tryd.prog 78 #[v, .string ⟨#[47]⟩] w (Ret w (.string (bs (joinS L)))) := by
  obtain ⟨A, cap, rfl, hle, hcm, hat, hAn⟩ := h.at_
  rcases hat with hn | ⟨b, o, rfl, hb, hc⟩
  · subst hn
    exact (Tryd.strings_Join_none _ _ _ _).mono (by rintro e w' ⟨rfl, rfl⟩; exact Ret.mk rfl (Ext.refl _))
  · have hm : (L.map bs).map (·.data.toList) = L := by
      rw [List.map_map]
      conv => rhs; rw [← List.map_id L]
      exact List.map_congr_left fun x _ => bs_list x
    have hj : Lib.join ((L.map bs).map (·.data.toList)) (⟨#[47]⟩ : ByteArray).data.toList = joinS L := by rw [hm]; exact join_lib L
    have := Tryd.strings_Join b o cap (L.map bs) ⟨#[47]⟩ w (fun j x hj => by
        rw [List.getElem?_map] at hj
        cases hx : L[j]? with
        | none => rw [hx] at hj; cases hj
        | some y =>
          rw [hx] at hj
          obtain ⟨hj', rfl⟩ := List.getElem?_eq_some_iff.1 hx
          rw [hc j hj']
          injection hj with hj
          rw [hj]) hb (by rw [List.length_map]; omega) (by rw [List.length_map]; exact hle) (by rw [hj]; omega)
    rw [List.length_map, hj] at this
    exact this.mono (by rintro e w' ⟨rfl, h2⟩; exact Ret.mk rfl h2)
theorem hasPrefix_slash (l : List UInt8) : Lib.hasPrefix l [47] = wholeB l := by
  unfold Lib.hasPrefix wholeB
  cases l with
  | nil => rfl
  | cons c l =>
    rw [List.isPrefixOf_cons_cons, Bool.eq_iff_iff]
    simp
    exact ⟨fun h => h.symm, fun h => h.symm⟩
set_option maxRecDepth 100000 in
set_option maxHeartbeats 4000000 in
theorem pclean_any (l : List UInt8) (w : World) (hlen : l.length ≤ 100000) : Calls Tryd.prog 30 #[.string (bs l)] w (Ret w (.string (bs (cleanN l)))) := by
  obtain ⟨i0, hi, hz0, hz1, hz2⟩ := info_parts infoStr
  refine (callsIn_wide (n := 3)).1 ?_
  obtain ⟨F, hF⟩ : ∃ F, F = Fence.wide := ⟨_, rfl⟩
  have hro : F.round = none := by rw [hF]; rfl
  have h14 : F.fn 30 := by rw [hF]; trivial
  have h42 : F.fn 72 := by rw [hF]; trivial
  have h50 : F.fn 104 := by rw [hF]; trivial
  have h77 : F.fn 77 := by rw [hF]; trivial
  have h78 : F.fn 78 := by rw [hF]; trivial
  have hHP : ∀ (n : Nat) (s p : ByteArray) (w : World), CallsIn F n Tryd.prog 77 #[.string s, .string p] w fun e w' => e = .returned (.bool (Lib.hasPrefix s.data.toList p.data.toList)) ∧ w = w' := by rw [hF]; exact fun n s p w => callsIn_wide.2 ((Tryd.strings_HasPrefix s p w).mono fun _ _ h => ⟨h.1, h.2.symm⟩)
  have hJN : ∀ (n : Nat) (L : List Txt) (base : Nat) (v : Value) (w : World), OwnT w base v L → L.length ≤ 1000000 → (joinS L).length ≤ 10000000 → CallsIn F n Tryd.prog 78 #[v, .string ⟨#[47]⟩] w (Ret w (.string (bs (joinS L)))) := by rw [hF]; exact fun n L base v w h h2 h3 => callsIn_wide.2 (join_any L base v w h h2 h3)
  rw [← hF]
  clear hF
  obtain ⟨X, hX⟩ : ∃ X, X = bs l := ⟨_, rfl⟩
  obtain ⟨whole, hwh⟩ : ∃ whole, whole = wholeB l := ⟨_, rfl⟩
  have hpre : Hid (Lib.hasPrefix X.data.toList (⟨#[47]⟩ : ByteArray).data.toList = whole) := by show _ = _; rw [hX, bs_list, hwh]; exact hasPrefix_slash l
  have hpl0 := parts_len l
  have hnl : Hid (normL l = outN whole (partsN l)) := by show _ = _; rw [hwh]; exact normL_outN l
  have hcl : Hid (cleanN l = render whole (normL l)) := by show _ = _; rw [hwh]; rfl
  have hw1 := norm_weight l
  have hw2 := parts_weight l
  have hw3 := join_len (normL l)
  rw [← hX]
  have HX := Lib.hid hX
  clear hX hwh
  refine callsIn_of_wp_marks Tryd.func30 rfl h14 ?_ hro
  simp only [Tryd.ntmps30, List.size_toArray, List.length_cons, List.length_nil, Nat.reduceAdd, Nat.reduceSub, Array.replicate_succ, Array.replicate_zero, List.push_toArray, List.append_toArray, List.nil_append, List.cons_append]
  gi_wp2_with first | (gi_at_call 77; refine (hHP _ _ _ _).mono ?_; rintro e w' ⟨rfl, rfl⟩; rw [hpre.out]) | (gi_at_call 72; refine (parts_in F _ h42 hro _ _).mono ?_; rintro e w' ⟨rfl, rfl⟩)
  obtain ⟨W0, hW0⟩ : ∃ W0, W0 = ((w.alloc (.cells #[.bool whole] 4)).alloc (.cells #[.slice none 0 0] 24)).alloc (.cells #[.string X] 9) := ⟨_, rfl⟩
  have bW : Boxed W0 w.heap.size 4 (.bool whole) := by rw [hW0]; exact ((Boxed.new w _ _).alloc _).alloc _
  have bO : Boxed W0 (w.heap.size + 1) 24 (.slice none 0 0) := by rw [hW0]; have := Boxed.new (w.alloc (.cells #[.bool whole] 4)) 24 (.slice none 0 0); rw [World.size_alloc] at this; exact this.alloc _
  have bS : Boxed W0 (w.heap.size + 1 + 1) 9 (.string X) := by rw [hW0]; have := Boxed.new ((w.alloc (.cells #[.bool whole] 4)).alloc (.cells #[.slice none 0 0] 24)) 9 (.string X); rw [World.size_alloc, World.size_alloc] at this; exact this
  have E0 : Ext w W0 := by rw [hW0]; exact (((Ext.refl _).alloc _).alloc _).alloc _
  have hz : W0.heap.size = w.heap.size + 3 := by rw [hW0]; simp
  rw [← hW0]
  clear hW0
  refine wpIn_rangeFunc_ownG (w0 := W0) hro (by omega) (gf := 104) (lb := #[.pointer (some ⟨w.heap.size + 1 + 1, 0, none⟩)]) rfl h50 (enters_of Tryd.func104 (by kernel_rfl) rfl)
    (parts_stops_box F (3 - 1) h50 hro (by omega) (w.heap.size + 1 + 1) l (by omega) W0 (by rw [← HX.out]; exact bS)) keepsBox_t (fun W l o o' _ hl ho _ => keepsBox_b W l o o' hl ho) (Below.refl _ _) (fun _ => rfl)
    (fun pre W => (∃ v, Boxed W (w.heap.size + 1) 24 v ∧ W.ownsRow (w.heap.size + 3) 9 1 v (outN whole pre).length (txtCells (outN whole pre)) ∧ True) ∧ Boxed W w.heap.size 4 (.bool whole) ∧ Below w.heap.size w W)
    (fun _ _ _ => False)
    (OwnFrom.and (Own.from (holdsRow_own (w.heap.size + 3) (w.heap.size + 1) 24 9 1 (fun pre => (outN whole pre).length) (fun pre => txtCells (outN whole pre)) (fun _ _ => True)) _) (OwnFrom.and (Own.from (boxed_own _ _ _) _) (ownFrom_below (Nat.le_refl _) (by omega))))
    (fun _ _ _ _ _ hs _ _ => hs)
    ⟨⟨_, bO, World.ownsRow_nil _ _ _ _, trivial⟩, bW, E0⟩
    (fun x => { tmps := #[.string X, undef, .string ⟨#[]⟩, .pointer (some ⟨w.heap.size, 0, none⟩), .pointer (some ⟨w.heap.size + 1, 0, none⟩), .string (bs x), undef, .string X, .bool whole, .string X, .func (.func 104) #[] #[.pointer (some ⟨w.heap.size + 1 + 1, 0, none⟩)], .string (bs x), undef, undef, undef, undef, undef, undef, undef, undef, undef, undef, undef, undef, undef, undef, undef, undef, undef, undef, undef, undef, undef, undef, undef, undef, undef, undef, undef, undef, undef, undef, undef, undef, undef, undef, undef, undef, undef, undef, undef, undef, undef, undef], defers := [] }) ?assign ?body ?done ?stop
  case assign =>
    intro l x W K hK
    gi_wp2
    exact hK
  case body =>
    rintro l pre x W ⟨⟨v, hv, hrow, -⟩, hb, hB⟩ hpl
    have hc := hv.cell
    have hcb := hb.cell
    have hsz := hB.size
    have hol := outN_len whole pre
    obtain ⟨M, hM⟩ : ∃ M, M = outN whole pre := ⟨_, rfl⟩
    rw [← hM] at hrow hol
    have HM := Lib.hid hM
    clear hM
    obtain ⟨_, _, t2, _⟩ := txt_tests (p := x)
    by_cases hx : x = dd
    · have t2' : ((bs x).toList == [46, 46]) = true := by rw [t2, hx]; rfl
      have hxd := Lib.hid hx
      clear t2 hx
      rcases snocT M with hn | ⟨L, q, hn⟩
      · rw [hn] at hrow hol
        have Hn := Lib.hid hn
        clear hn
        have hrow : W.ownsRow (w.heap.size + 3) 9 1 v 0 [] := hrow
        obtain ⟨A, cap, rfl, _, _, _, _⟩ := OwnT.at_ (l := []) hrow
        cases whole with
        | true =>
          have hr4 : W.ownsRow (w.heap.size + 3) 9 1 (.slice A 0 cap) (outN true (pre ++ [x])).length (txtCells (outN true (pre ++ [x]))) := by
            rw [outN_snoc, ← HM.out, hxd.out, Hn.out, cstep_nil, if_pos rfl]; exact hrow
          have HR4 := Lib.hid hr4
          clear hr4
          gi_wp2
          exact ⟨KeepsFrom.refl _ _, fun _ _ h => h, ⟨_, hv, HR4.out, trivial⟩, hb, hB⟩
        | false =>
          gi_wp2_with (gi_at_builtin; refine wpListIn_append_own _ rfl _ _ 24 rfl (w.heap.size + 3) 9 i0 (.string ⟨#[]⟩) 1 16 Tryd.underlying24 hi hz0 hz1 hz2 rfl (by decide) _ _ _ rfl (hrow.alloc _) ⟨W.heap.size, 0, none⟩ 1 1 (txtCells [x]) rfl rfl (txt_news W x) (txtCells_one [x]) (by unfold maxLen; omega) (by omega) (by have := hv.lt; simp; omega) ?_; intro v' w1 hown' hgrow _; obtain ⟨g', cap', rfl⟩ := ownsRow_succ hown'; obtain ⟨hv1, hv2, _, hk2, hb2⟩ := hv.appended (n₀ := w.heap.size + 1) (by decide) (row_base hrow (by omega)) (by have := hv.lt; omega) (by omega) (row_base hown' (by omega)) hgrow; have hb3 := ((hb.alloc (.cells #[.string (bs x)] 9)).kept hgrow (hb.not_row (by decide) hrow)).other (show w.heap.size ≠ w.heap.size + 1 by omega) (.slice (some ⟨g', 0, none⟩) (0 + 1) cap'); have hr3 := row_other hown' hv1 (by decide) (.slice (some ⟨g', 0, none⟩) (0 + 1) cap'); have hkb : KeepsBox (w.heap.size + 1 + 1) W (w1.setCell ⟨w.heap.size + 1, 0, none⟩ (.slice (some ⟨g', 0, none⟩) (0 + 1) cap')) := fun t u hu => ((hu.alloc (.cells #[.string (bs x)] 9)).kept hgrow (fun e => by have := (hrow.lt _ e.symm).1; omega)).other (by omega) _; have hc1 := hv1.cell; have hf1 := hv1.frozen)
          have hr4 : (w1.setCell ⟨w.heap.size + 1, 0, none⟩ (.slice (some ⟨g', 0, none⟩) (0 + 1) cap')).ownsRow (w.heap.size + 3) 9 1 (.slice (some ⟨g', 0, none⟩) (0 + 1) cap') (outN false (pre ++ [x])).length (txtCells (outN false (pre ++ [x]))) := by
            rw [outN_snoc, ← HM.out, Hn.out, hxd.out, cstep_nil, if_neg (by decide), ← hxd.out]; exact hr3
          exact ⟨hk2.from _, hkb, ⟨_, hv2, hr4, trivial⟩, hb3, hB.trans (hb2.mono (by omega))⟩
      · obtain ⟨n, hl⟩ : ∃ n, n = L.length := ⟨_, rfl⟩
        have hM1 : M.length = n + 1 := by rw [hn, hl]; simp
        rw [hM1] at hrow hol
        obtain ⟨g, cap, rfl⟩ := ownsRow_succ hrow
        have hq : W.cell? ⟨g, n, none⟩ = some (.string (bs q)) := by
          rw [hrow.cellAt n (by omega), txtCells_get M n (by omega)]
          simp [hn, hl]
        obtain ⟨_, _, s2, _⟩ := txt_tests (p := q)
        have hw1 : IntKind.i64.wrap (n : Int) = n := wrap_i64_in (by omega) (by omega)
        have hn0 : (0 : Int) ≤ (n : Int) := Int.natCast_nonneg _
        have hnl : (n : Int) < (n : Int) + 1 := by omega
        have hnc : n ≤ cap := by
          rcases hrow.2 with ⟨h0, _⟩ | ⟨g2, c2, cur, hv2, _, _, hle2, _⟩
          · cases h0
          · injection hv2 with _ _ e3; omega
        have hnp : (0 : Int) < (n : Int) + 1 := by omega
        by_cases hqd : q = dd
        · have s2' : ((bs q).toList == [46, 46]) = true := by rw [s2, hqd]; rfl
          rw [hqd] at hn
          have Hn := Lib.hid hn
          have HM1 := Lib.hid hM1
          clear s2 hl hn hqd hM1
          cases whole with
          | true =>
            have hr4 : W.ownsRow (w.heap.size + 3) 9 1 (.slice (some ⟨g, 0, none⟩) (n + 1) cap) (outN true (pre ++ [x])).length (txtCells (outN true (pre ++ [x]))) := by
              rw [outN_snoc, ← HM.out, hxd.out, Hn.out, cstep_dd, if_pos rfl, ← Hn.out, HM1.out]; exact hrow
            have HR4 := Lib.hid hr4
            clear hr4
            gi_wp2
            exact ⟨KeepsFrom.refl _ _, fun _ _ h => h, ⟨_, hv, HR4.out, trivial⟩, hb, hB⟩
          | false =>
            gi_wp2_with (gi_at_builtin; refine wpListIn_append_own _ rfl _ _ 24 rfl (w.heap.size + 3) 9 i0 (.string ⟨#[]⟩) 1 16 Tryd.underlying24 hi hz0 hz1 hz2 rfl (by decide) _ _ _ rfl (hrow.alloc _) ⟨W.heap.size, 0, none⟩ 1 1 (txtCells [x]) rfl rfl (txt_news W x) (txtCells_one [x]) (by unfold maxLen; omega) (by omega) (by have := hv.lt; simp; omega) ?_; intro v' w1 hown' hgrow _; obtain ⟨g', cap', rfl⟩ := ownsRow_succ hown'; obtain ⟨hv1, hv2, _, hk2, hb2⟩ := hv.appended (n₀ := w.heap.size + 1) (by decide) (row_base hrow (by omega)) (by have := hv.lt; omega) (by omega) (row_base hown' (by omega)) hgrow; have hb3 := ((hb.alloc (.cells #[.string (bs x)] 9)).kept hgrow (hb.not_row (by decide) hrow)).other (show w.heap.size ≠ w.heap.size + 1 by omega) (.slice (some ⟨g', 0, none⟩) ((n + 1) + 1) cap'); have hr3 := row_other hown' hv1 (by decide) (.slice (some ⟨g', 0, none⟩) ((n + 1) + 1) cap'); have hkb : KeepsBox (w.heap.size + 1 + 1) W (w1.setCell ⟨w.heap.size + 1, 0, none⟩ (.slice (some ⟨g', 0, none⟩) ((n + 1) + 1) cap')) := fun t u hu => ((hu.alloc (.cells #[.string (bs x)] 9)).kept hgrow (fun e => by have := (hrow.lt _ e.symm).1; omega)).other (by omega) _; have hc1 := hv1.cell; have hf1 := hv1.frozen)
            have hr4 : (w1.setCell ⟨w.heap.size + 1, 0, none⟩ (.slice (some ⟨g', 0, none⟩) ((n + 1) + 1) cap')).ownsRow (w.heap.size + 3) 9 1 (.slice (some ⟨g', 0, none⟩) ((n + 1) + 1) cap') (outN false (pre ++ [x])).length (txtCells (outN false (pre ++ [x]))) := by
              rw [outN_snoc, ← HM.out, Hn.out, hxd.out, cstep_dd, if_neg (by decide), ← Hn.out, ← hxd.out, txtCells_append, List.length_append, HM1.out]; exact hr3
            exact ⟨hk2.from _, hkb, ⟨_, hv2, hr4, trivial⟩, hb3, hB.trans (hb2.mono (by omega))⟩
        · have s2' : ((bs q).toList == [46, 46]) = false := by rw [s2]; exact beq_eq_false_iff_ne.2 hqd
          have hrp : W.ownsRow (w.heap.size + 3) 9 1 (.slice (some ⟨g, 0, none⟩) n cap) n (txtCells L) := by
            rw [hn, txtCells_append] at hrow
            exact ownsRow_pop (by rw [txtCells_len, hl]; omega) hrow
          have hrq := row_other hrp hv (by decide) (.slice (some ⟨g, 0, none⟩) n cap)
          have hr4 : (W.setCell ⟨w.heap.size + 1, 0, none⟩ (.slice (some ⟨g, 0, none⟩) n cap)).ownsRow (w.heap.size + 3) 9 1 (.slice (some ⟨g, 0, none⟩) n cap) (outN whole (pre ++ [x])).length (txtCells (outN whole (pre ++ [x]))) := by
            rw [outN_snoc, ← HM.out, hxd.out, hn, cstep_drop hqd, ← hl]; exact hrq
          have HR4 := Lib.hid hr4
          have hfr := hv.frozen
          have hb3 := hb.other (show w.heap.size ≠ w.heap.size + 1 by omega) (.slice (some ⟨g, 0, none⟩) n cap)
          have hkb : KeepsBox (w.heap.size + 1 + 1) W (W.setCell ⟨w.heap.size + 1, 0, none⟩ (.slice (some ⟨g, 0, none⟩) n cap)) := fun t u hu => hu.other (by omega) _
          clear s2 hM1 hl hqd hrp hrq hrow hr4 hn
          gi_wp2
          exact ⟨(KeepsOthers.setCell _ _ _).from _, hkb, ⟨_, hv.set _, HR4.out, trivial⟩, hb3, hB.setCell (p := ⟨w.heap.size + 1, 0, none⟩) (by show w.heap.size ≤ w.heap.size + 1; omega) _⟩
    · have t2' : ((bs x).toList == [46, 46]) = false := by rw [t2]; exact beq_eq_false_iff_ne.2 hx
      have hxd := Lib.hid hx
      clear t2 hx
      gi_wp2_with (gi_at_builtin; refine wpListIn_append_own _ rfl _ _ 24 rfl (w.heap.size + 3) 9 i0 (.string ⟨#[]⟩) 1 16 Tryd.underlying24 hi hz0 hz1 hz2 rfl (by decide) _ _ _ rfl (hrow.alloc _) ⟨W.heap.size, 0, none⟩ 1 1 (txtCells [x]) rfl rfl (txt_news W x) (txtCells_one [x]) (by unfold maxLen; omega) (by omega) (by have := hv.lt; simp; omega) ?_; intro v' w1 hown' hgrow _; obtain ⟨g', cap', rfl⟩ := ownsRow_succ hown'; obtain ⟨hv1, hv2, _, hk2, hb2⟩ := hv.appended (n₀ := w.heap.size + 1) (by decide) (row_base hrow (by omega)) (by have := hv.lt; omega) (by omega) (row_base hown' (by omega)) hgrow; have hb3 := ((hb.alloc (.cells #[.string (bs x)] 9)).kept hgrow (hb.not_row (by decide) hrow)).other (show w.heap.size ≠ w.heap.size + 1 by omega) (.slice (some ⟨g', 0, none⟩) (M.length + 1) cap'); have hr3 := row_other hown' hv1 (by decide) (.slice (some ⟨g', 0, none⟩) (M.length + 1) cap'); have hkb : KeepsBox (w.heap.size + 1 + 1) W (w1.setCell ⟨w.heap.size + 1, 0, none⟩ (.slice (some ⟨g', 0, none⟩) (M.length + 1) cap')) := fun t u hu => ((hu.alloc (.cells #[.string (bs x)] 9)).kept hgrow (fun e => by have := (hrow.lt _ e.symm).1; omega)).other (by omega) _; have hc1 := hv1.cell; have hf1 := hv1.frozen)
      have hr4 : (w1.setCell ⟨w.heap.size + 1, 0, none⟩ (.slice (some ⟨g', 0, none⟩) (M.length + 1) cap')).ownsRow (w.heap.size + 3) 9 1 (.slice (some ⟨g', 0, none⟩) (M.length + 1) cap') (outN whole (pre ++ [x])).length (txtCells (outN whole (pre ++ [x]))) := by
        rw [outN_snoc, ← HM.out, cstep_put hxd.out, txtCells_append, List.length_append]; exact hr3
      exact ⟨hk2.from _, hkb, ⟨_, hv2, hr4, trivial⟩, hb3, hB.trans (hb2.mono (by omega))⟩
  case done =>
    rintro D ys W hD rfl ⟨⟨v, hv, hrow, -⟩, hb, hB⟩ hK
    have hc := hv.cell
    have hcb := hb.cell
    have how : OwnT W (w.heap.size + 3) v (normL l) := by rw [hnl.out]; exact hrow
    have HOW := Lib.hid how
    have hnn : Hid ((normL l).length ≤ 1000000) := by
      have := outN_len whole (partsN l)
      show _ ≤ _
      rw [hnl.out]; omega
    have hjl : Hid ((joinS (normL l)).length ≤ 10000000) := by show _ ≤ _; omega
    have hjl2 : (joinS (normL l)).length ≤ 10000000 := hjl.out
    obtain ⟨T, hT⟩ : ∃ T, T = joinS (normL l) := ⟨_, rfl⟩
    rw [← hT] at hjl2
    have z1 : (bs T).size = T.length := bs_size T
    have hbig : ¬ 9223372036854775807 < 1 + T.length := by omega
    have hcat : (⟨#[47]⟩ : ByteArray) ++ bs T = bs (47 :: T) := bs_append [47] T
    obtain ⟨t0, _, _, t3⟩ := txt_tests (p := T)
    have hren : Hid (cleanN l = if whole = true then 47 :: T else if T = [] then [46] else T) := by show _ = _; rw [hcl.out, hT]; rfl
    have HT := Lib.hid hT
    clear hT how hw1 hw2 hw3
    have hsz := hB.size
    cases whole with
    | true =>
      rw [if_pos rfl] at hren
      clear t0 t3
      gi_wp2_with (gi_at_call 78; refine (hJN _ _ _ _ _ HOW.out hnn.out hjl.out).mono ?_; rintro e w' ⟨rfl, hE9⟩; rw [← HT.out]; have hcb9 := (hE9.cell (o := 0) hb.lt).trans hcb; have hK9 := hE9.block hK)
      refine ⟨by simp, .inl ⟨_, _, rfl, run_takeDeferred hK9, ?_⟩⟩
      refine ⟨.string (bs (cleanN l)), ?_, rfl, (hB.trans (hE9.mono hsz)).trans (belowK_b (w := w) (Nat.le_refl _) _ D _ _ (by omega) hK9 rfl rfl)⟩
      rw [hren.out]
      simp [results, Tryd.results30, go_sem]
      all_goals rfl
    | false =>
      rw [if_neg (by decide)] at hren
      by_cases hTn : T = []
      · rw [if_pos hTn] at hren
        rw [show (T == []) = true from by rw [hTn]; rfl] at t3 t0
        clear hTn
        gi_wp2_with (gi_at_call 78; refine (hJN _ _ _ _ _ HOW.out hnn.out hjl.out).mono ?_; rintro e w' ⟨rfl, hE9⟩; rw [← HT.out]; have hcb9 := (hE9.cell (o := 0) hb.lt).trans hcb; have hK9 := hE9.block hK)
        refine ⟨by simp, .inl ⟨_, _, rfl, run_takeDeferred hK9, ?_⟩⟩
        refine ⟨.string (bs (cleanN l)), ?_, rfl, (hB.trans (hE9.mono hsz)).trans (belowK_b (w := w) (Nat.le_refl _) _ D _ _ (by omega) hK9 rfl rfl)⟩
        rw [hren.out]
        simp [results, Tryd.results30, go_sem]
        all_goals rfl
      · rw [if_neg hTn] at hren
        rw [show (T == []) = false from beq_eq_false_iff_ne.2 hTn] at t3 t0
        clear hTn
        gi_wp2_with (gi_at_call 78; refine (hJN _ _ _ _ _ HOW.out hnn.out hjl.out).mono ?_; rintro e w' ⟨rfl, hE9⟩; rw [← HT.out]; have hcb9 := (hE9.cell (o := 0) hb.lt).trans hcb; have hK9 := hE9.block hK)
        refine ⟨by simp, .inl ⟨_, _, rfl, run_takeDeferred hK9, ?_⟩⟩
        refine ⟨.string (bs (cleanN l)), ?_, rfl, (hB.trans (hE9.mono hsz)).trans (belowK_b (w := w) (Nat.le_refl _) _ D _ _ (by omega) hK9 rfl rfl)⟩
        rw [hren.out]
        simp [results, Tryd.results30, go_sem]
        all_goals rfl
  case stop =>
    rintro D c pre W _ _ h _
    exact h.elim
end Go.Proofs.YtmppjbimdonfmaaDoor
