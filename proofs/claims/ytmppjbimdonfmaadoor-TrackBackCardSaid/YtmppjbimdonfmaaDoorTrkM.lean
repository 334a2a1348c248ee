/- Layer 3 (track): the walk of TrackBack; the laws' walks from the row's own arguments. -/
import Derived.Test.YtmppjbimdonfmaaDoorTrkL
namespace Go.Proofs.YtmppjbimdonfmaaDoor
open Go.ChangeShapes Go.WideShapes Go.ChangeAt Go.RowKit

theorem relT_len (a b : List UInt8) : (relT a b).length ≤ b.length + 2 := by
  have := clean_len1 b
  unfold relT
  split
  · split
    · simp
    · rw [List.length_drop]; omega
  · simp
theorem split_len (t : List UInt8) : (splitA t).length ≤ t.length + 1 ∧ (splitB t).length ≤ t.length := by
  unfold splitA splitB
  split
  · constructor <;> simp
  · split
    · constructor <;> simp
    · split
      · constructor <;> simp
      · constructor
        · rw [List.length_take]; omega
        · rw [List.length_drop]; omega
theorem split_below {b : List UInt8} (hw : wholeB (cleanN b) = true) (hn : splitB (cleanN b) ≠ []) : belowN (splitA (cleanN b)) (splitB (cleanN b)) = cleanN b := by
  have hb : wholeB b = true := by rw [← wholeB_clean]; exact hw
  unfold splitA
  unfold splitB at hn ⊢
  by_cases h : cleanN b = [47] ∨ cleanN b = [46]
  · rw [if_pos h] at hn; exact absurd rfl hn
  · rw [if_neg h] at hn ⊢
    rw [if_neg h]
    rcases lastI_cases (cleanN b) with ⟨_, h2⟩ | ⟨i, hi, h1, h2, _⟩
    · obtain ⟨t, ht⟩ := wholeB_iff.1 hw
      rw [ht] at h2
      exact absurd (List.mem_cons_self ..) h2
    · rw [h1] at hn ⊢
      have f0 : ¬ (i : Int) < 0 := by omega
      simp only [if_neg f0] at hn ⊢
      by_cases h0 : i = 0
      · subst h0
        exact below_top hw
      · have f1 : ¬ (i : Int) = 0 := by omega
        simp only [if_neg f1] at hn ⊢
        exact below_split hb h2
theorem inside_self (c : List UInt8) : insideN c c = true := by unfold insideN; rw [beq_self_eq_true]; rfl
theorem take_one_whole (c : List UInt8) : (c.take 1 == [47]) = wholeB c := by
  unfold wholeB
  cases c with
  | nil => rfl
  | cons x t => rw [Bool.eq_iff_iff]; simp
set_option maxRecDepth 100000 in
set_option maxHeartbeats 4000000 in
theorem trackBack_any (a b : List UInt8) (w : World) : Calls Tryd.prog 8 #[.string (bs a), .string (bs b)] w (Ret w (.bool true)) := by
  have z0 : (bs a).size = a.length := bs_size a
  have z1 : (bs b).size = b.length := bs_size b
  by_cases hl : a.length ≤ 200 ∧ b.length ≤ 200
  · obtain ⟨ha, hb⟩ := hl
    have hai : ¬ (200 : Int) < (a.length : Int) := by omega
    have hbi : ¬ (200 : Int) < (b.length : Int) := by omega
    have hrl := relT_len a b
    have hjr := join_rel (a := a) (b := b)
    have hsl := split_len (cleanN b)
    have hbel := split_below (b := b)
    have hcl := clean_len1 b
    have hne := clean_ne b
    obtain ⟨R, hR⟩ : ∃ R, R = relT a b := ⟨_, rfl⟩
    obtain ⟨Q, hQ⟩ : ∃ Q, Q = relB a b := ⟨_, rfl⟩
    have hrv : Hid (relV a b = .tuple #[.string (bs R), .bool Q]) := by show _ = _; rw [hR, hQ]; rfl
    rw [← hR] at hrl hjr
    rw [← hQ] at hjr
    obtain ⟨t, ht⟩ : ∃ t, t = cleanN b := ⟨_, rfl⟩
    rw [← ht] at hjr hsl hbel hcl hne
    obtain ⟨D, hD⟩ : ∃ D, D = splitA t := ⟨_, rfl⟩
    obtain ⟨E, hE⟩ : ∃ E, E = splitB t := ⟨_, rfl⟩
    have hsv : Hid (splitV (cleanN b) = .tuple #[.string (bs D), .string (bs E)]) := by show _ = _; rw [← ht, hD, hE]; rfl
    rw [← hD, ← hE] at hsl hbel
    have HT := Lib.hid ht
    have zt : (bs t).size = t.length := bs_size t
    have hmin : min (1 : Int) (t.length : Int) = 1 := by have := List.length_pos_iff.2 hne; omega
    have hpos : 1 ≤ t.length := List.length_pos_iff.2 hne
    have hcut := slice_to (P := Tryd.prog) Tryd.underlying9 (bs t) (1 : Int) 1 rfl (by omega) (bs (t.take 1)) (bs_to t 1)
    have htw : ((bs (t.take 1)).toList == [47]) = wholeB t := by rw [bs_toList]; exact take_one_whole t
    obtain ⟨t0, _, _, t3⟩ := txt_tests (p := t)
    rw [show (t == []) = false from beq_eq_false_iff_ne.2 hne] at t0 t3
    obtain ⟨e0, _, _, e3⟩ := txt_tests (p := E)
    have hin := Lib.hid (inside_self t)
    obtain ⟨T1, hT1⟩ : ∃ T1, T1 = bs (t.take 1) := ⟨_, rfl⟩
    rw [← hT1] at hcut htw
    clear hR hQ hD hE ht hne hT1
    obtain ⟨hs1, hs2⟩ := hsl
    cases Q with
    | true =>
      have HJ := Lib.hid (hjr rfl)
      clear hjr
      cases hw : wholeB t with
      | false =>
        rw [hw] at htw
        clear hw hbel e0 e3
        go_enter Tryd.func8, Tryd.ntmps8
        go_wp2_with fail
        refine (prel_any a b _ (by omega) (by omega)).mono ?_
        rintro e w1 ⟨rfl, hE1⟩
        rw [hrv.out]
        go_wp2_with fail
        refine (pjoin_any a R _ (by omega) (by omega)).mono ?_
        rintro e w2 ⟨rfl, hE2⟩
        rw [HJ.out]
        go_wp2_with fail
        refine (pclean_any b _ (by omega)).mono ?_
        rintro e w3 ⟨rfl, hE3⟩
        rw [← HT.out]
        have hF := hE1.trans (hE2.trans hE3)
        go_wp2_with fail
        refine (pclean_any b _ (by omega)).mono ?_
        rintro e w4 ⟨rfl, hE4⟩
        rw [← HT.out]
        go_wp2_with fail
        refine (psplit_any b _ (by omega)).mono ?_
        rintro e w5 ⟨rfl, hE5⟩
        rw [hsv.out]
        have hG := hF.trans (hE4.trans hE5)
        go_wp2_with fail
        have hH := hG
        refine (pinside_any t t _ (by omega) (by omega)).mono ?_
        rintro e w7 ⟨rfl, hE7⟩
        rw [hin.out]
        go_wp2_with fail
        refine (awake3 _).mono ?_
        rintro e w8 ⟨rfl, hE8⟩
        go_wp2_with fail
        go_ret
        exact Ret.mk rfl (hH.trans (hE7.trans hE8))
      | true =>
        rw [hw] at htw
        by_cases hE : E = []
        · rw [show (E == []) = true from by rw [hE]; rfl] at e0 e3
          clear hw hbel hE
          go_enter Tryd.func8, Tryd.ntmps8
          go_wp2_with fail
          refine (prel_any a b _ (by omega) (by omega)).mono ?_
          rintro e w1 ⟨rfl, hE1⟩
          rw [hrv.out]
          go_wp2_with fail
          refine (pjoin_any a R _ (by omega) (by omega)).mono ?_
          rintro e w2 ⟨rfl, hE2⟩
          rw [HJ.out]
          go_wp2_with fail
          refine (pclean_any b _ (by omega)).mono ?_
          rintro e w3 ⟨rfl, hE3⟩
          rw [← HT.out]
          have hF := hE1.trans (hE2.trans hE3)
          go_wp2_with fail
          refine (pclean_any b _ (by omega)).mono ?_
          rintro e w4 ⟨rfl, hE4⟩
          rw [← HT.out]
          go_wp2_with fail
          refine (psplit_any b _ (by omega)).mono ?_
          rintro e w5 ⟨rfl, hE5⟩
          rw [hsv.out]
          have hG := hF.trans (hE4.trans hE5)
          go_wp2_with fail
          have hH := hG
          refine (pinside_any t t _ (by omega) (by omega)).mono ?_
          rintro e w7 ⟨rfl, hE7⟩
          rw [hin.out]
          go_wp2_with fail
          refine (awake3 _).mono ?_
          rintro e w8 ⟨rfl, hE8⟩
          go_wp2_with fail
          go_ret
          exact Ret.mk rfl (hH.trans (hE7.trans hE8))
        · rw [show (E == []) = false from beq_eq_false_iff_ne.2 hE] at e0 e3
          have HB := Lib.hid (hbel hw hE)
          clear hw hbel hE
          go_enter Tryd.func8, Tryd.ntmps8
          go_wp2_with fail
          refine (prel_any a b _ (by omega) (by omega)).mono ?_
          rintro e w1 ⟨rfl, hE1⟩
          rw [hrv.out]
          go_wp2_with fail
          refine (pjoin_any a R _ (by omega) (by omega)).mono ?_
          rintro e w2 ⟨rfl, hE2⟩
          rw [HJ.out]
          go_wp2_with fail
          refine (pclean_any b _ (by omega)).mono ?_
          rintro e w3 ⟨rfl, hE3⟩
          rw [← HT.out]
          have hF := hE1.trans (hE2.trans hE3)
          go_wp2_with fail
          refine (pclean_any b _ (by omega)).mono ?_
          rintro e w4 ⟨rfl, hE4⟩
          rw [← HT.out]
          go_wp2_with fail
          refine (psplit_any b _ (by omega)).mono ?_
          rintro e w5 ⟨rfl, hE5⟩
          rw [hsv.out]
          have hG := hF.trans (hE4.trans hE5)
          go_wp2_with fail
          refine (pbelow_any D E _ (by omega) (by omega)).mono ?_
          rintro e w6 ⟨rfl, hE6⟩
          rw [HB.out]
          have hH := hG.trans hE6
          go_wp2_with fail
          refine (pinside_any t t _ (by omega) (by omega)).mono ?_
          rintro e w7 ⟨rfl, hE7⟩
          rw [hin.out]
          go_wp2_with fail
          refine (awake3 _).mono ?_
          rintro e w8 ⟨rfl, hE8⟩
          go_wp2_with fail
          go_ret
          exact Ret.mk rfl (hH.trans (hE7.trans hE8))
    | false =>
      clear hjr
      cases hw : wholeB t with
      | false =>
        rw [hw] at htw
        clear hw hbel e0 e3
        go_enter Tryd.func8, Tryd.ntmps8
        go_wp2_with fail
        refine (prel_any a b _ (by omega) (by omega)).mono ?_
        rintro e w1 ⟨rfl, hE1⟩
        rw [hrv.out]
        go_wp2_with fail
        have hF := hE1
        refine (pclean_any b _ (by omega)).mono ?_
        rintro e w4 ⟨rfl, hE4⟩
        rw [← HT.out]
        go_wp2_with fail
        refine (psplit_any b _ (by omega)).mono ?_
        rintro e w5 ⟨rfl, hE5⟩
        rw [hsv.out]
        have hG := hF.trans (hE4.trans hE5)
        go_wp2_with fail
        have hH := hG
        refine (pinside_any t t _ (by omega) (by omega)).mono ?_
        rintro e w7 ⟨rfl, hE7⟩
        rw [hin.out]
        go_wp2_with fail
        refine (awake3 _).mono ?_
        rintro e w8 ⟨rfl, hE8⟩
        go_wp2_with fail
        go_ret
        exact Ret.mk rfl (hH.trans (hE7.trans hE8))
      | true =>
        rw [hw] at htw
        by_cases hE : E = []
        · rw [show (E == []) = true from by rw [hE]; rfl] at e0 e3
          clear hw hbel hE
          go_enter Tryd.func8, Tryd.ntmps8
          go_wp2_with fail
          refine (prel_any a b _ (by omega) (by omega)).mono ?_
          rintro e w1 ⟨rfl, hE1⟩
          rw [hrv.out]
          go_wp2_with fail
          have hF := hE1
          refine (pclean_any b _ (by omega)).mono ?_
          rintro e w4 ⟨rfl, hE4⟩
          rw [← HT.out]
          go_wp2_with fail
          refine (psplit_any b _ (by omega)).mono ?_
          rintro e w5 ⟨rfl, hE5⟩
          rw [hsv.out]
          have hG := hF.trans (hE4.trans hE5)
          go_wp2_with fail
          have hH := hG
          refine (pinside_any t t _ (by omega) (by omega)).mono ?_
          rintro e w7 ⟨rfl, hE7⟩
          rw [hin.out]
          go_wp2_with fail
          refine (awake3 _).mono ?_
          rintro e w8 ⟨rfl, hE8⟩
          go_wp2_with fail
          go_ret
          exact Ret.mk rfl (hH.trans (hE7.trans hE8))
        · rw [show (E == []) = false from beq_eq_false_iff_ne.2 hE] at e0 e3
          have HB := Lib.hid (hbel hw hE)
          clear hw hbel hE
          go_enter Tryd.func8, Tryd.ntmps8
          go_wp2_with fail
          refine (prel_any a b _ (by omega) (by omega)).mono ?_
          rintro e w1 ⟨rfl, hE1⟩
          rw [hrv.out]
          go_wp2_with fail
          have hF := hE1
          refine (pclean_any b _ (by omega)).mono ?_
          rintro e w4 ⟨rfl, hE4⟩
          rw [← HT.out]
          go_wp2_with fail
          refine (psplit_any b _ (by omega)).mono ?_
          rintro e w5 ⟨rfl, hE5⟩
          rw [hsv.out]
          have hG := hF.trans (hE4.trans hE5)
          go_wp2_with fail
          refine (pbelow_any D E _ (by omega) (by omega)).mono ?_
          rintro e w6 ⟨rfl, hE6⟩
          rw [HB.out]
          have hH := hG.trans hE6
          go_wp2_with fail
          refine (pinside_any t t _ (by omega) (by omega)).mono ?_
          rintro e w7 ⟨rfl, hE7⟩
          rw [hin.out]
          go_wp2_with fail
          refine (awake3 _).mono ?_
          rintro e w8 ⟨rfl, hE8⟩
          go_wp2_with fail
          go_ret
          exact Ret.mk rfl (hH.trans (hE7.trans hE8))
  · have g := long_two hl
    clear hl
    rcases g with g | ⟨g, g2⟩
    all_goals
      go_enter Tryd.func8, Tryd.ntmps8
      go_wp2_with fail
      refine (awake3 _).mono ?_
      rintro e w3 ⟨rfl, hE3⟩
      go_wp2_with fail
      go_ret
      exact Ret.mk rfl hE3
set_option maxRecDepth 100000 in
theorem trackOnce_walk {H : Type} {enc : TypeId × Value → H} (W : World) (base : Nat) (v0 : Value) (d0 : DataW H) (p0 : List MemPlace)
    (_ : W.ShapedOpen Tryd.prog)
    (k0 : Value.okWide Tryd.prog W .any base 9 v0) (h0 : DataW.Trod enc Tryd.prog W 0 (fun _ => true) true 9 v0 d0 p0)
    : Calls Tryd.prog 6 #[v0] W (Ret W (.bool true)) := by
  obtain ⟨a0, rfl, rfl, rfl, w0⟩ := Go.ChangeMaps.open_string Tryd.underlying9 k0 h0
  obtain ⟨l, rfl⟩ : ∃ l, a0 = bs l := ⟨_, (bs_self a0).symm⟩
  exact trackOnce_any l W
set_option maxRecDepth 100000 in
theorem trackTells_walk {H : Type} {enc : TypeId × Value → H} (W : World) (base : Nat) (v0 v1 : Value) (d0 d1 : DataW H) (p0 p1 : List MemPlace)
    (_ : W.ShapedOpen Tryd.prog)
    (k0 : Value.okWide Tryd.prog W .any base 9 v0) (h0 : DataW.Trod enc Tryd.prog W 0 (fun _ => true) true 9 v0 d0 p0)
    (k1 : Value.okWide Tryd.prog W .any base 9 v1) (h1 : DataW.Trod enc Tryd.prog W 0 (fun _ => true) true 9 v1 d1 p1)
    : Calls Tryd.prog 7 #[v0, v1] W (Ret W (.bool true)) := by
  obtain ⟨a0, rfl, rfl, rfl, w0⟩ := Go.ChangeMaps.open_string Tryd.underlying9 k0 h0
  obtain ⟨a1, rfl, rfl, rfl, w1⟩ := Go.ChangeMaps.open_string Tryd.underlying9 k1 h1
  obtain ⟨l, rfl⟩ : ∃ l, a0 = bs l := ⟨_, (bs_self a0).symm⟩
  obtain ⟨m, rfl⟩ : ∃ m, a1 = bs m := ⟨_, (bs_self a1).symm⟩
  exact trackTells_any l m W
set_option maxRecDepth 100000 in
theorem trackBack_walk {H : Type} {enc : TypeId × Value → H} (W : World) (base : Nat) (v0 v1 : Value) (d0 d1 : DataW H) (p0 p1 : List MemPlace)
    (_ : W.ShapedOpen Tryd.prog)
    (k0 : Value.okWide Tryd.prog W .any base 9 v0) (h0 : DataW.Trod enc Tryd.prog W 0 (fun _ => true) true 9 v0 d0 p0)
    (k1 : Value.okWide Tryd.prog W .any base 9 v1) (h1 : DataW.Trod enc Tryd.prog W 0 (fun _ => true) true 9 v1 d1 p1)
    : Calls Tryd.prog 8 #[v0, v1] W (Ret W (.bool true)) := by
  obtain ⟨a0, rfl, rfl, rfl, w0⟩ := Go.ChangeMaps.open_string Tryd.underlying9 k0 h0
  obtain ⟨a1, rfl, rfl, rfl, w1⟩ := Go.ChangeMaps.open_string Tryd.underlying9 k1 h1
  obtain ⟨l, rfl⟩ : ∃ l, a0 = bs l := ⟨_, (bs_self a0).symm⟩
  obtain ⟨m, rfl⟩ : ∃ m, a1 = bs m := ⟨_, (bs_self a1).symm⟩
  exact trackBack_any l m W
end Go.Proofs.YtmppjbimdonfmaaDoor
