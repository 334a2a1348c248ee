/- Layer 3 (track): awake; the walks of the laws TrackOnce, TrackTells, TrackBack. -/
import Derived.Test.YtmppjbimdonfmaaDoorTrkW
namespace Go.Proofs.YtmppjbimdonfmaaDoor
open Go.ChangeShapes Go.WideShapes Go.ChangeAt Go.RowKit

set_option maxRecDepth 100000 in
set_option maxHeartbeats 2000000 in
theorem awake3 (w : World) : Calls Tryd.prog 29 #[] w (Ret w (.bool true)) := by
  have q1 : Hid (relV [47, 97] [47, 97, 47, 98, 47, 99] = .tuple #[.string ⟨#[98, 47, 99]⟩, .bool true]) := by
    show _ = _; unfold relV
    rw [show relT [47, 97] [47, 97, 47, 98, 47, 99] = [98, 47, 99] by decide, show relB [47, 97] [47, 97, 47, 98, 47, 99] = true by decide]; rfl
  have q2 : Hid (relV [47, 97] [47, 97, 98] = .tuple #[.string ⟨#[]⟩, .bool false]) := relV_no (by decide)
  have q3 : Hid (splitV (cleanN [47, 97]) = .tuple #[.string ⟨#[47]⟩, .string ⟨#[97]⟩]) := by
    show _ = _
    rw [show cleanN [47, 97] = [47, 97] by decide]
    exact splitV_top (t := [47, 97]) (by decide) (by unfold lastI; decide)
  have q4 : Hid (bs (cleanN [47, 97, 47, 46, 46, 47, 46, 46, 47, 98, 47, 46]) = ⟨#[47, 98]⟩) := by show _ = _; rw [show cleanN [47, 97, 47, 46, 46, 47, 46, 46, 47, 98, 47, 46] = [47, 98] by decide]; rfl
  have q5 : Hid (bs (cleanN [97, 47, 46, 46, 47, 46, 46]) = ⟨#[46, 46]⟩) := by show _ = _; rw [show cleanN [97, 47, 46, 46, 47, 46, 46] = [46, 46] by decide]; rfl
  go_enter Tryd.func29, Tryd.ntmps29
  go_wp2_with fail
  refine (prel_any [47, 97] [47, 97, 47, 98, 47, 99] _ (by decide) (by decide)).mono ?_
  rintro e w1 ⟨rfl, hE1⟩
  rw [q1.out]
  go_wp2_with fail
  refine (prel_any [47, 97] [47, 97, 98] _ (by decide) (by decide)).mono ?_
  rintro e w2 ⟨rfl, hE2⟩
  rw [q2.out]
  go_wp2_with fail
  refine (psplit_any [47, 97] _ (by decide)).mono ?_
  rintro e w3 ⟨rfl, hE3⟩
  rw [q3.out]
  go_wp2_with fail
  refine (pclean_any [47, 97, 47, 46, 46, 47, 46, 46, 47, 98, 47, 46] _ (by decide)).mono ?_
  rintro e w4 ⟨rfl, hE4⟩
  rw [q4.out]
  go_wp2_with fail
  refine (pclean_any [97, 47, 46, 46, 47, 46, 46] _ (by decide)).mono ?_
  rintro e w5 ⟨rfl, hE5⟩
  rw [q5.out]
  go_wp2_with fail
  go_ret
  exact Ret.mk rfl (hE1.trans (hE2.trans (hE3.trans (hE4.trans hE5))))
set_option maxRecDepth 100000 in
set_option maxHeartbeats 2000000 in
theorem trackOnce_any (l : List UInt8) (w : World) : Calls Tryd.prog 6 #[.string (bs l)] w (Ret w (.bool true)) := by
  have z0 : (bs l).size = l.length := bs_size l
  by_cases hl : l.length ≤ 200
  · have hli : ¬ (200 : Int) < (l.length : Int) := by omega
    have hcc : Hid (cleanN (cleanN l) = cleanN l) := clean_clean l
    have hln := clean_len l
    have hl1 := clean_len1 l
    have hne := clean_ne l
    obtain ⟨t, ht⟩ : ∃ t, t = cleanN l := ⟨_, rfl⟩
    rw [← ht] at hcc hln hl1 hne
    have HT := Lib.hid ht
    have zt : (bs t).size = t.length := bs_size t
    obtain ⟨t0, t1, _, t3⟩ := txt_tests (p := t)
    rw [show (t == []) = false from beq_eq_false_iff_ne.2 hne] at t0 t3
    clear ht hne
    by_cases hle : t.length ≤ l.length
    · have hle2 : (t.length : Int) ≤ (l.length : Int) := by omega
      clear t1 hln
      go_enter Tryd.func6, Tryd.ntmps6
      go_wp2_with fail
      refine (pclean_any l _ (by omega)).mono ?_
      rintro e w1 ⟨rfl, hE1⟩
      rw [← HT.out]
      go_wp2_with fail
      refine (pclean_any t _ (by omega)).mono ?_
      rintro e w2 ⟨rfl, hE2⟩
      rw [hcc.out]
      go_wp2_with fail
      refine (awake3 _).mono ?_
      rintro e w3 ⟨rfl, hE3⟩
      go_wp2_with fail
      go_ret
      exact Ret.mk rfl (hE1.trans (hE2.trans hE3))
    · have hle2 : ¬ (t.length : Int) ≤ (l.length : Int) := by omega
      rw [show (t == [46]) = true from by rw [hln.resolve_left hle]; rfl] at t1
      clear hln
      go_enter Tryd.func6, Tryd.ntmps6
      go_wp2_with fail
      refine (pclean_any l _ (by omega)).mono ?_
      rintro e w1 ⟨rfl, hE1⟩
      rw [← HT.out]
      go_wp2_with fail
      refine (pclean_any t _ (by omega)).mono ?_
      rintro e w2 ⟨rfl, hE2⟩
      rw [hcc.out]
      go_wp2_with fail
      refine (awake3 _).mono ?_
      rintro e w3 ⟨rfl, hE3⟩
      go_wp2_with fail
      go_ret
      exact Ret.mk rfl (hE1.trans (hE2.trans hE3))
  · have hli : (200 : Int) < (l.length : Int) := by omega
    clear hl
    go_enter Tryd.func6, Tryd.ntmps6
    go_wp2_with fail
    refine (awake3 _).mono ?_
    rintro e w3 ⟨rfl, hE3⟩
    go_wp2_with fail
    go_ret
    exact Ret.mk rfl hE3
theorem long_two {a b : List UInt8} (h : ¬ (a.length ≤ 200 ∧ b.length ≤ 200)) : (200 : Int) < (a.length : Int) ∨ (¬ (200 : Int) < (a.length : Int) ∧ (200 : Int) < (b.length : Int)) := by omega
set_option maxRecDepth 100000 in
set_option maxHeartbeats 2000000 in
theorem trackTells_any (a b : List UInt8) (w : World) : Calls Tryd.prog 7 #[.string (bs a), .string (bs b)] w (Ret w (.bool true)) := by
  have z0 : (bs a).size = a.length := bs_size a
  have z1 : (bs b).size = b.length := bs_size b
  by_cases hl : a.length ≤ 200 ∧ b.length ≤ 200
  · obtain ⟨ha, hb⟩ := hl
    have hai : ¬ (200 : Int) < (a.length : Int) := by omega
    have hbi : ¬ (200 : Int) < (b.length : Int) := by omega
    obtain ⟨R, hR⟩ : ∃ R, R = bs (relT a b) := ⟨_, rfl⟩
    obtain ⟨Q, hQ⟩ : ∃ Q, Q = relB a b := ⟨_, rfl⟩
    have hrv : Hid (relV a b = .tuple #[.string R, .bool Q]) := by show _ = _; rw [hR, hQ]; rfl
    obtain ⟨D, hD⟩ : ∃ D, D = bs (splitA (cleanN a)) := ⟨_, rfl⟩
    obtain ⟨E, hE⟩ : ∃ E, E = bs (splitB (cleanN a)) := ⟨_, rfl⟩
    have hsv : Hid (splitV (cleanN a) = .tuple #[.string D, .string E]) := by show _ = _; rw [hD, hE]; rfl
    clear hR hQ hD hE
    go_enter Tryd.func7, Tryd.ntmps7
    go_wp2_with fail
    refine (prel_any a b _ (by omega) (by omega)).mono ?_
    rintro e w1 ⟨rfl, hE1⟩
    rw [hrv.out]
    go_wp2_with fail
    refine (rrel_any a b _ (by omega) (by omega)).mono ?_
    rintro e w2 ⟨rfl, hE2⟩
    rw [hrv.out]
    go_wp2_with fail
    refine (psplit_any a _ (by omega)).mono ?_
    rintro e w3 ⟨rfl, hE3⟩
    rw [hsv.out]
    go_wp2_with fail
    refine (rsplit_any a _ (by omega)).mono ?_
    rintro e w4 ⟨rfl, hE4⟩
    rw [hsv.out]
    have hF := hE1.trans (hE2.trans (hE3.trans hE4))
    go_wp2_with fail
    refine (pclean_any a _ (by omega)).mono ?_
    rintro e w5 ⟨rfl, hE5⟩
    go_wp2_with fail
    refine (rclean_any a _ (by omega)).mono ?_
    rintro e w6 ⟨rfl, hE6⟩
    go_wp2_with fail
    refine (pjoin_any a b _ (by omega) (by omega)).mono ?_
    rintro e w7 ⟨rfl, hE7⟩
    go_wp2_with fail
    refine (rjoin_any a b _ (by omega) (by omega)).mono ?_
    rintro e w8 ⟨rfl, hE8⟩
    have hG := hF.trans (hE5.trans (hE6.trans (hE7.trans hE8)))
    go_wp2_with fail
    refine (pinside_any a b _ (by omega) (by omega)).mono ?_
    rintro e w9 ⟨rfl, hE9⟩
    go_wp2_with fail
    refine (rinside_any a b _ (by omega) (by omega)).mono ?_
    rintro e w10 ⟨rfl, hE10⟩
    go_wp2_with fail
    refine (pbelow_any a b _ (by omega) (by omega)).mono ?_
    rintro e w11 ⟨rfl, hE11⟩
    go_wp2_with fail
    refine (rbelow_any a b _ (by omega) (by omega)).mono ?_
    rintro e w12 ⟨rfl, hE12⟩
    go_wp2_with fail
    refine (awake3 _).mono ?_
    rintro e w13 ⟨rfl, hE13⟩
    go_wp2_with fail
    go_ret
    exact Ret.mk rfl (hG.trans (hE9.trans (hE10.trans (hE11.trans (hE12.trans hE13)))))
  · have g := long_two hl
    clear hl
    rcases g with g | ⟨g, g2⟩
    all_goals
      go_enter Tryd.func7, Tryd.ntmps7
      go_wp2_with fail
      refine (awake3 _).mono ?_
      rintro e w3 ⟨rfl, hE3⟩
      go_wp2_with fail
      go_ret
      exact Ret.mk rfl hE3
end Go.Proofs.YtmppjbimdonfmaaDoor
