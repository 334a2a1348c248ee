/- Layer 46 (args): awake; the walks of ArgsTells and ArgsBack. -/
import Derived.Test.YtmppjbimdonfmaaDoorArgL
import Derived.Test.YtmppjbimdonfmaaDoorArgO
namespace Go.Proofs.YtmppjbimdonfmaaDoor
open Go.ChangeShapes Go.WideShapes Go.ChangeAt Go.RowKit

theorem aw_words : wordsN [109, 118, 32, 39, 97, 32, 98, 39, 32, 99, 92, 39, 100] = some [[109, 118], [97, 32, 98], [99, 39, 100]] := by decide
theorem aw_parse : parseC [[109, 118], [45, 98], [45, 45], [45, 120], [121]] = some ⟨7, [[45, 120], [121]], true, false, 0, 0⟩ :=
  parseC_some (s := [109, 118]) (by decide) (by decide) (by decide) (by decide)
theorem aw_rm : parseC [[114, 109], [47, 97]] = none := parseC_few (s := [114, 109]) (ps := [[47, 97]]) (b := false) (d := false) (by decide) (by decide) (by decide)
set_option maxRecDepth 100000 in
set_option maxHeartbeats 8000000 in
theorem awake46 (w : World) (hN : NamesAt w) (hM : HasMax w) : Calls Tryd.prog 56 #[] w (Ret w (.bool true)) := by
  have PW := Lib.hid aw_words
  have PP := Lib.hid aw_parse
  have PM := Lib.hid aw_rm
  go_enter Tryd.func56, Tryd.ntmps56
  go_wp2_with fail
  refine (pwords_any [109, 118, 32, 39, 97, 32, 98, 39, 32, 99, 92, 39, 100] w (by decide)).mono ?_
  rintro e w1 (⟨h, _⟩ | ⟨L, v1, hL, rfl, hO1, hE1⟩)
  · rw [PW.out] at h; cases h
  rw [PW.out] at hL
  obtain rfl : [[109, 118], [97, 32, 98], [99, 39, 100]] = L := Option.some.inj hL
  clear hL
  go_wp2_with fail
  refine (pparseC_any _ 5 [[109, 118], [45, 98], [45, 45], [45, 120], [121]] _ (made_at w1 _) ((hN.ext hE1).ext ((Ext.refl _).alloc _)) (by decide) (by decide)).mono ?_
  rw [PP.out]
  rintro e w2 ⟨v2, rfl, hO2, hE2⟩
  have hF2 : Ext w w2 := hE1.trans (((Ext.refl _).alloc _).trans hE2)
  obtain ⟨A1, k1, rfl, _, _, t1, _⟩ := hO1.at_
  obtain ⟨A2, k2, rfl, _, _, t2, _⟩ := hO2.at_
  obtain ⟨V, hV⟩ : ∃ V, V = w2.alloc (.cells (cmdC 7 (.slice A2 2 k2) true false 0 0) 62) := ⟨_, rfl⟩
  have hC : CmdAt V w2.heap.size 7 (.slice A2 2 k2) true false 0 0 := by rw [hV]; exact Has.new _ _
  have hFV : Ext w V := by rw [hV]; exact hF2.alloc _
  have h1V : Ext w1 V := by rw [hV]; exact ((((Ext.refl w1).alloc _).trans hE2).alloc _)
  have T1 := Lib.hid (TxtAt.ext t1 h1V)
  have T2 := Lib.hid (TxtAt.ext t2 (show Ext w2 V by rw [hV]; exact (Ext.refl _).alloc _))
  unfold cmdC at hV
  have HV := Lib.hid hV
  have HC := Lib.hid hC
  clear hV hO1 hO2 t1 t2 hC
  unfold cmdC
  go_wp2_with (rw [← HV.out])
  refine (pparseC_any _ 2 [[114, 109], [47, 97]] _ (made_at V _) ((hN.ext hFV).ext ((Ext.refl _).alloc _)) (by decide) (by decide)).mono ?_
  rw [PM.out]
  rintro e w3 ⟨rfl, hE3⟩
  obtain ⟨U, hU⟩ : ∃ U, U = w3.alloc (.cells (cmdC 0 (.slice none 0 0) false false 0 0) 62) := ⟨_, rfl⟩
  have hVU : Ext V U := by rw [hU]; exact (((Ext.refl _).alloc _).trans hE3).alloc _
  have hFU := hFV.trans hVU
  have HUz : Hid (U.heap.size = w3.heap.size + 1) := by show _ = _; rw [hU, World.size_alloc]
  unfold cmdC at hU
  have HU := Lib.hid hU
  clear hU hE1 hE2 hE3 hF2 hFV h1V
  unfold cmdC
  go_wp2_with fail
  rw [← HU.out]
  refine (rsame_any A1 _ k1 3 [[109, 118], [97, 32, 98], [99, 39, 100]] _ ((T1.out.ext hVU).ext ((Ext.refl _).alloc _)) (made_at2 U _ _ HUz.out) (by decide)).mono ?_
  rintro e w4 ⟨rfl, hE4⟩
  have hV4 : Ext V w4 := hVU.trans (((Ext.refl _).alloc _).trans hE4)
  obtain ⟨c0, c1, c2, c3, c4, c5⟩ := CmdAt.cells (Has.ext HC.out hV4)
  go_wp2_with fail
  refine (same46_any 7 A2 _ k2 2 [[45, 120], [121]] true false 0 0 _ ((T2.out.ext hV4).ext ((Ext.refl _).alloc _)) (made_at w4 _) (by decide)).mono ?_
  rintro e w5 ⟨rfl, hE5⟩
  have hF5 : Ext w w5 := (hFU.trans (((Ext.refl _).alloc _).trans hE4)).trans (((Ext.refl _).alloc _).trans hE5)
  clear c0 c1 c2 c3 c4 c5
  go_wp2_with fail
  refine (pquote_any [] w5 (hM.ext hF5) (by decide)).mono ?_
  rintro e w6 ⟨rfl, hE6⟩
  rw [show quoteN [] = [39, 39] by decide]
  have hb : (bs [39, 39]).toList = [39, 39] := bs_toList _
  go_wp2_with fail
  go_ret
  exact Ret.mk rfl (hF5.trans hE6)
/-- What two readers of one line answer, side by side. -/
theorem words_cases (o : Option (List Txt)) : o = none ∨ ∃ L, o = some L := by cases o with | none => exact .inl rfl | some L => exact .inr ⟨L, rfl⟩
theorem not46 {n : Nat} {L : List Txt} (h : ¬ (n ≤ 600 ∧ few46B L = true)) : ((600 : Int) < (n : Int)) ∨ (¬ (600 : Int) < (n : Int) ∧ few46B L = false) := by
  by_cases h1 : n ≤ 600
  · exact .inr ⟨by omega, by simpa using fun h2 => h ⟨h1, h2⟩⟩
  · exact .inl (by omega)
set_option maxRecDepth 100000 in
set_option maxHeartbeats 8000000 in
theorem argsTells_any (l : Txt) (A : Option Addr) (cap : Nat) (L : List Txt) (w : World) (hat : TxtAt w A L) (hlen : L.length ≤ 9223372036854775807) (hN : NamesAt w) (hM : HasMax w) :
    Calls Tryd.prog 12 #[.string (bs l), .slice A L.length cap] w (Ret w (.bool true)) := by
  have z0 : (bs l).size = l.length := bs_size l
  by_cases hl : l.length ≤ 600 ∧ few46B L = true
  · obtain ⟨h6, hfew⟩ := hl
    have h6i : ¬ (600 : Int) < (l.length : Int) := by omega
    obtain ⟨h12, h200⟩ := few46_yes hfew
    have H200 := Lib.hid h200
    have HFEW := Lib.hid hfew
    clear hfew h200
    obtain ⟨n, hn⟩ : ∃ n, n = L.length := ⟨_, rfl⟩
    have HNL := Lib.hid hn
    have hf := few46_any A cap L w hat hlen
    rw [HFEW.out, ← hn] at hf
    have HF := Lib.hid hf
    have HL1 := Lib.hid (fun w' (hE : Ext w w') => pline_any A cap L w' (hat.ext hE) (hM.ext hE) (by omega) (fun s hs => by have := H200.out s hs; omega))
    have HL2 := Lib.hid (fun w' (hE : Ext w w') => rline_any A cap L w' (hat.ext hE) (by omega) (fun s hs => by have := H200.out s hs; omega))
    rw [← hn] at HL1 HL2
    obtain ⟨X, hX⟩ : ∃ X, X = bs (lineN L) := ⟨_, rfl⟩
    obtain ⟨Y, hY⟩ : ∃ Y, Y = bs (quoteN l) := ⟨_, rfl⟩
    have HX := Lib.hid hX
    have HY := Lib.hid hY
    rw [← hn]
    clear hn hf hat hlen hX hY
    rcases words_cases (wordsN l) with hw | ⟨M, hw⟩
    all_goals
      have HW := Lib.hid hw
      clear hw
      go_enter Tryd.func12, Tryd.ntmps12
      go_wp2_with fail
      refine (HF.out).mono ?_
      clear HF
      rintro e w0 ⟨rfl, hE0⟩
      go_wp2_with fail
      refine (pwords_any l _ (by omega)).mono ?_
    · rintro e w1 (⟨_, rfl, hE1⟩ | ⟨L1, v1, h1, _⟩)
      rotate_left
      · rw [HW.out] at h1; cases h1
      go_wp2_with fail
      refine (rwords_any l _ (by omega)).mono ?_
      rintro e w2 (⟨_, rfl, hE2⟩ | ⟨L2, v2, h2, _⟩)
      rotate_left
      · rw [HW.out] at h2; cases h2
      have hF := hE0.trans (hE1.trans hE2)
      go_wp2_with fail
      refine (rsame_any none none 0 0 [] _ (.inl rfl) (.inl rfl) (by decide)).mono ?_
      rintro e w3 ⟨rfl, hE3⟩
      go_wp2_with fail
      refine (HL1.out _ (hF.trans hE3)).mono ?_
      rintro e w4 ⟨rfl, hE4⟩
      rw [← HX.out]
      go_wp2_with fail
      refine (HL2.out _ ((hF.trans hE3).trans hE4)).mono ?_
      rintro e w5 ⟨rfl, hE5⟩
      rw [← HX.out]
      have hG := ((hF.trans hE3).trans hE4).trans hE5
      go_wp2_with fail
      refine (pquote_any l _ (hM.ext hG) (by omega)).mono ?_
      rintro e w6 ⟨rfl, hE6⟩
      rw [← HY.out]
      go_wp2_with fail
      refine (rquote_any l _ (by omega)).mono ?_
      rintro e w7 ⟨rfl, hE7⟩
      rw [← HY.out]
      have hI := (hG.trans hE6).trans hE7
      go_wp2_with fail
      refine (awake46 _ (hN.ext hI) (hM.ext hI)).mono ?_
      rintro e w8 ⟨rfl, hE8⟩
      go_wp2_with fail
      go_ret
      exact Ret.mk rfl (hI.trans hE8)
    · rintro e w1 (⟨h1, _⟩ | ⟨L1, v1, h1, rfl, hO1, hE1⟩)
      · rw [HW.out] at h1; cases h1
      rw [HW.out] at h1
      obtain rfl : M = L1 := Option.some.inj h1
      clear h1
      obtain ⟨A1, c1, rfl, _, hm1, t1, _⟩ := hO1.at_
      have T1 := Lib.hid t1
      clear hO1 t1
      go_wp2_with fail
      refine (rwords_any l _ (by omega)).mono ?_
      rintro e w2 (⟨h2, _⟩ | ⟨L2, v2, h2, rfl, hO2, hE2⟩)
      · rw [HW.out] at h2; cases h2
      rw [HW.out] at h2
      obtain rfl : M = L2 := Option.some.inj h2
      clear h2
      obtain ⟨A2, c2, rfl, _, hm2, t2, _⟩ := hO2.at_
      have T2 := Lib.hid t2
      clear hO2 t2
      have hF := hE0.trans (hE1.trans hE2)
      have hml : M.length ≤ 1000000 := words_few HW.out (by omega)
      go_wp2_with fail
      refine (rsame_any A1 A2 c1 c2 M _ (T1.out.ext hE2) T2.out hml).mono ?_
      rintro e w3 ⟨rfl, hE3⟩
      go_wp2_with fail
      refine (HL1.out _ (hF.trans hE3)).mono ?_
      rintro e w4 ⟨rfl, hE4⟩
      rw [← HX.out]
      go_wp2_with fail
      refine (HL2.out _ ((hF.trans hE3).trans hE4)).mono ?_
      rintro e w5 ⟨rfl, hE5⟩
      rw [← HX.out]
      have hG := ((hF.trans hE3).trans hE4).trans hE5
      go_wp2_with fail
      refine (pquote_any l _ (hM.ext hG) (by omega)).mono ?_
      rintro e w6 ⟨rfl, hE6⟩
      rw [← HY.out]
      go_wp2_with fail
      refine (rquote_any l _ (by omega)).mono ?_
      rintro e w7 ⟨rfl, hE7⟩
      rw [← HY.out]
      have hI := (hG.trans hE6).trans hE7
      go_wp2_with fail
      refine (awake46 _ (hN.ext hI) (hM.ext hI)).mono ?_
      rintro e w8 ⟨rfl, hE8⟩
      go_wp2_with fail
      go_ret
      exact Ret.mk rfl (hI.trans hE8)
  · have g := not46 hl
    clear hl
    rcases g with g | ⟨g, g2⟩
    · go_enter Tryd.func12, Tryd.ntmps12
      go_wp2_with fail
      refine (awake46 _ hN hM).mono ?_
      rintro e w3 ⟨rfl, hE3⟩
      go_wp2_with fail
      go_ret
      exact Ret.mk rfl hE3
    · have hf := few46_any A cap L w hat hlen
      rw [g2] at hf
      have HF := Lib.hid hf
      clear hf g2
      go_enter Tryd.func12, Tryd.ntmps12
      go_wp2_with fail
      refine (HF.out).mono ?_
      clear HF
      rintro e w0 ⟨rfl, hE0⟩
      go_wp2_with fail
      refine (awake46 _ (hN.ext hE0) (hM.ext hE0)).mono ?_
      rintro e w3 ⟨rfl, hE3⟩
      go_wp2_with fail
      go_ret
      exact Ret.mk rfl (hE0.trans hE3)
end Go.Proofs.YtmppjbimdonfmaaDoor
