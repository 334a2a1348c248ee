/- Layer 6 (info): the law InfoFirst. -/
import Derived.Test.YtanaifobmkjpaaaDoorInfA
import Derived.OpenShut
namespace Go.Proofs.YtanaifobmkjpaaaDoor
open Go.ChangeShapes Go.WideShapes Go.ChangeAt Go.RowKit

set_option maxRecDepth 100000 in
set_option maxHeartbeats 4000000 in
theorem infoFirst_any (p r : Ln) (a : Int) (h0 : 0 ≤ a) (h1 : a < 18446744073709551616) (w : World) (hM : HasMax w) : Calls Tryd.prog 8 #[.string (bs p), .string (bs r), .int .u64 a] w (Ret w (.bool true)) := by
  have HAW := Lib.hid (fun w' (hE : Ext w w') => awake06 w' (hM.ext hE))
  have z1 : ((bs p).size : Int) = p.length := by rw [bs_size]
  have z2 : ((bs r).size : Int) = r.length := by rw [bs_size]
  obtain ⟨np, hnp⟩ : ∃ n, n = p.length := ⟨_, rfl⟩
  obtain ⟨nr, hnr⟩ : ∃ n, n = r.length := ⟨_, rfl⟩
  rw [← hnp] at z1
  rw [← hnr] at z2
  have HNP := Lib.hid hnp
  have HNR := Lib.hid hnr
  clear hnp hnr
  by_cases hp0 : p = []
  · subst hp0
    have hem : (bs []).toList.isEmpty = true := by rw [bs_toList]; rfl
    go_enter Tryd.func8, Tryd.ntmps8
    go_wp2_with fail
    refine (HAW.out _ (Ext.refl _)).mono ?_
    rintro e wx ⟨rfl, bx⟩
    go_wp2_with fail
    go_ret
    exact Ret.mk rfl bx
  have hem : (bs p).toList.isEmpty = false := by rw [bs_toList, List.isEmpty_eq_false_iff]; exact hp0
  by_cases hr0 : r = []
  · subst hr0
    have hem2 : (bs []).toList.isEmpty = true := by rw [bs_toList]; rfl
    go_enter Tryd.func8, Tryd.ntmps8
    go_wp2_with fail
    refine (HAW.out _ (Ext.refl _)).mono ?_
    rintro e wx ⟨rfl, bx⟩
    go_wp2_with fail
    go_ret
    exact Ret.mk rfl bx
  have hem2 : (bs r).toList.isEmpty = false := by rw [bs_toList, List.isEmpty_eq_false_iff]; exact hr0
  by_cases h300 : 200 < np
  · have q1 : (200 : Int) < np := by omega
    go_enter Tryd.func8, Tryd.ntmps8
    go_wp2_with fail
    refine (HAW.out _ (Ext.refl _)).mono ?_
    rintro e wx ⟨rfl, bx⟩
    go_wp2_with fail
    go_ret
    exact Ret.mk rfl bx
  have q1 : ¬ (200 : Int) < np := by omega
  by_cases h301 : 200 < nr
  · have q2 : (200 : Int) < nr := by omega
    go_enter Tryd.func8, Tryd.ntmps8
    go_wp2_with fail
    refine (HAW.out _ (Ext.refl _)).mono ?_
    rintro e wx ⟨rfl, bx⟩
    go_wp2_with fail
    go_ret
    exact Ret.mk rfl bx
  have q2 : ¬ (200 : Int) < nr := by omega
  obtain ⟨hb, hhb⟩ : ∃ hb, hb = hasB p 0 := ⟨_, rfl⟩
  have hh := fun w' => rhas_any (bs p) 0 0 (by rfl) (by rw [bs_size]; have := HNP.out; omega) w'
  simp only [bs_list] at hh
  rw [← hhb] at hh
  have HH := Lib.hid hh
  clear hh
  cases hb with
  | true =>
    clear hhb
    go_enter Tryd.func8, Tryd.ntmps8
    go_wp2_with fail
    refine (HH.out _).mono ?_
    rintro e w1 ⟨rfl, b1⟩
    go_wp2_with fail
    refine (HAW.out _ b1).mono ?_
    rintro e wx ⟨rfl, bx⟩
    go_wp2_with fail
    go_ret
    exact Ret.mk rfl (b1.trans bx)
  | false =>
    obtain ⟨hc, hhc⟩ : ∃ hb, hb = hasB r 0 := ⟨_, rfl⟩
    have hh2 := fun w' => rhas_any (bs r) 0 0 (by rfl) (by rw [bs_size]; have := HNR.out; omega) w'
    simp only [bs_list] at hh2
    rw [← hhc] at hh2
    have HH2 := Lib.hid hh2
    clear hh2
    cases hc with
    | true =>
      clear hhb hhc
      go_enter Tryd.func8, Tryd.ntmps8
      go_wp2_with fail
      refine (HH.out _).mono ?_
      rintro e w1 ⟨rfl, b1⟩
      go_wp2_with fail
      refine (HH2.out _).mono ?_
      rintro e w0 ⟨rfl, b0⟩
      have b10 := b1.trans b0
      go_wp2_with fail
      refine (HAW.out _ b10).mono ?_
      rintro e wx ⟨rfl, bx⟩
      go_wp2_with fail
      go_ret
      exact Ret.mk rfl (b10.trans bx)
    | false =>
      obtain ⟨sec, hsec⟩ : ∃ sec : Nat, a % 253402300800 = (sec : Int) := ⟨(a % 253402300800).toNat, by omega⟩
      have hs1 : sec ≤ 253402300799 := by omega
      have HHB := Lib.hid hhb.symm
      have HP0 := Lib.hid hp0
      have hp3 : p.length ≤ 200 := by have := HNP.out; omega
      have hr3 : r.length ≤ 200 := by have := HNR.out; omega
      have H1 : Hid (∀ w', Calls Tryd.prog 23 #[.string (bs p), .int .i64 sec] w' (fun e w2 => ∃ D : Ln, TxtZ sec (bs D) ∧ Vis D ∧ D.length = 19 ∧ e = .returned (.tuple #[.string (bs (writeF p D)), .int .i64 0]) ∧ Ext w' w2)) := fun w' =>
        (piwrite_any p sec w' (by omega)).mono fun e w2 ⟨t, er, hz, he, hE⟩ => by
          obtain ⟨D, hz2, hv, hl, rfl, rfl⟩ := wr_good hp0 hhb.symm hs1 hz
          exact ⟨D, hz2, hv, hl, he, hE⟩
      have H2 : Hid (∀ w', Calls Tryd.prog 23 #[.string (bs r), .int .i64 0] w' (fun e w2 => ∃ D : Ln, D.length = 19 ∧ e = .returned (.tuple #[.string (bs (writeF r D)), .int .i64 0]) ∧ Ext w' w2)) := fun w' =>
        (piwrite_any r (0 : Nat) w' (by omega)).mono fun e w2 ⟨t, er, hz, he, hE⟩ => by
          obtain ⟨D, _, _, hl, rfl, rfl⟩ := wr_good hr0 hhc.symm (by decide) hz
          exact ⟨D, hl, he, hE⟩
      have HEL : Hid ((encL p).length ≤ 600 ∧ (encL r).length ≤ 600) := by
        have h3 := encL_le p
        have h4 := encL_le r
        exact ⟨by omega, by omega⟩
      clear hhb hhc hp0 hr0 hs1 h300 h301
      go_enter Tryd.func8, Tryd.ntmps8
      go_wp2_with fail
      refine (HH.out _).mono ?_
      rintro e w1 ⟨rfl, b1⟩
      go_wp2_with fail
      refine (HH2.out _).mono ?_
      rintro e w0 ⟨rfl, b0⟩
      have b10 := b1.trans b0
      go_wp2_with fail
      refine (H1.out _).mono ?_
      rintro e w2 ⟨D, hz, hv, hl, rfl, b2⟩
      have b12 := b10.trans b2
      obtain ⟨T, hT⟩ : ∃ T, T = writeF p D := ⟨_, rfl⟩
      rw [← hT]
      have hTl : T.length ≤ 700 := by
        have h2 := HEL.out.1
        rw [hT, writeF_len]
        omega
      have HT := Lib.hid hT
      have HTL := Lib.hid hTl
      have HZ := Lib.hid hz
      have HV := Lib.hid hv
      clear hT hTl hz hv hl
      go_wp2_with fail
      refine (H2.out _).mono ?_
      rintro e w3 ⟨D2, hl2, rfl, b3⟩
      have b13 := b12.trans b3
      obtain ⟨U, hU⟩ : ∃ U, U = writeF r D2 := ⟨_, rfl⟩
      rw [← hU]
      obtain ⟨nU, hnU⟩ : ∃ n, n = U.length := ⟨_, rfl⟩
      have hUl : nU ≤ 700 ∧ 13 ≤ nU := by
        have h2 := HEL.out.2
        rw [hnU, hU, writeF_len]
        omega
      have zU : ((bs U).size : Int) = nU := by rw [bs_size, hnU]
      have hU13 : ¬ (nU : Int) < 13 := by omega
      have hs2 : ∀ w', (Instr.slice 9 (.string (bs U)) (some (.int .i64 13)) none none).run Tryd.prog w' = .ok (.string (bs (U.drop 13))) w' := fun w' => by
        have h := run_slice_string_from_if (P := Tryd.prog) w' 9 (bs U) .i64 13 Tryd.underlying9
        have h13 : (13 : Int).toNat = 13 := rfl
        rw [h, if_pos (by omega), h13]
        have : (bs U).extract 13 (bs U).size = bs (U.drop 13) := by rw [bs_extract, bs_size, List.take_of_length_le (by rw [List.length_drop]; omega)]
        rw [this]
      obtain ⟨R, hR⟩ : ∃ R, R = U.drop 13 := ⟨_, rfl⟩
      rw [← hR] at hs2
      obtain ⟨A1, hA1⟩ : ∃ L : Ln, L = T ++ R := ⟨_, rfl⟩
      have cat1 : bs T ++ bs R = bs A1 := cat_h hA1
      obtain ⟨nT, hnT⟩ : ∃ n, n = T.length := ⟨_, rfl⟩
      obtain ⟨nR, hnR⟩ : ∃ n, n = R.length := ⟨_, rfl⟩
      have zT : (bs T).size = nT := by rw [bs_size, hnT]
      have zR : (bs R).size = nR := by rw [bs_size, hnR]
      have hRl : nR ≤ 700 := by rw [hnR, hR, List.length_drop]; omega
      have u1 : ¬ 9223372036854775807 < nT + nR := by have := HTL.out; omega
      have hA1l : A1.length ≤ 1400 := by have := HTL.out; rw [hA1, List.length_append]; omega
      have ra := read_write HV.out R HP0.out (of_decide_eq_false HHB.out)
      have P1 : Hid (∀ w', Ext w w' → Calls Tryd.prog 25 #[.string (bs A1)] w' (Ret w' (.tuple #[.string (bs p), .int .i64 sec, .int .i64 0]))) := fun w' hE =>
        (pparse6_any A1 w' (hM.ext hE) (by omega)).mono fun e w3 ⟨q, n, er, hz3, he, hE3⟩ => by
          rw [hA1, HT.out] at hz3
          obtain ⟨rfl, rfl, rfl⟩ := inf_good ra.1 ra.2 HZ.out hz3
          exact ⟨he, hE3⟩
      clear hU hnU hUl hR hA1 hnT hnR hRl hA1l ra hl2
      go_wp2_with fail
      refine (P1.out _ b13).mono ?_
      rintro e w4 ⟨rfl, b4⟩
      have b14 := b13.trans b4
      go_wp2_with fail
      refine (HAW.out _ b14).mono ?_
      rintro e wx ⟨rfl, bx⟩
      go_wp2_with fail
      go_ret
      exact Ret.mk rfl (b14.trans bx)
set_option maxRecDepth 100000 in
theorem infoFirst_walk {H : Type} {enc : TypeId × Value → H} (W : World) (base : Nat) (v0 v1 v2 : Value) (d0 d1 d2 : DataW H) (p0 p1 p2 : List MemPlace)
    (hs : W.ShapedOpen Tryd.prog)
    (k0 : Value.okWide Tryd.prog W .any base 9 v0) (h0 : DataW.Trod enc Tryd.prog W 0 (fun _ => true) true 9 v0 d0 p0)
    (k1 : Value.okWide Tryd.prog W .any base 9 v1) (h1 : DataW.Trod enc Tryd.prog W 0 (fun _ => true) true 9 v1 d1 p1)
    (k2 : Value.okWide Tryd.prog W .any base 54 v2) (h2 : DataW.Trod enc Tryd.prog W 0 (fun _ => true) true 54 v2 d2 p2)
    : Calls Tryd.prog 8 #[v0, v1, v2] W (Ret W (.bool true)) := by
  obtain ⟨a0, rfl, rfl, rfl, w0⟩ := Go.ChangeMaps.open_string Tryd.underlying9 k0 h0
  obtain ⟨a1, rfl, rfl, rfl, w1⟩ := Go.ChangeMaps.open_string Tryd.underlying9 k1 h1
  obtain ⟨a2, rfl, rfl, rfl, w2⟩ := open_int Tryd.underlying54 k2 h2
  have hb := bounds_u64 w2
  have hb0 : 0 ≤ a2 := hb.1
  have hb1 : a2 < 18446744073709551616 := by omega
  have h := infoFirst_any a0.data.toList a1.data.toList a2 hb0 hb1 W (HasMax.of hs)
  rw [bs_self, bs_self] at h
  exact h
end Go.Proofs.YtanaifobmkjpaaaDoor
