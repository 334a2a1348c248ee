/- Layer 6 (info): plain, and the law InfoBack. -/
import Derived.Test.YtanaifobmkjpaaaDoorInfA
import Derived.OpenShut
namespace Go.Proofs.YtanaifobmkjpaaaDoor
open Go.ChangeShapes Go.WideShapes Go.ChangeAt Go.RowKit

def noNl (l : Ln) : Ln := l.filter (· != 10)
set_option maxRecDepth 100000 in
set_option maxHeartbeats 4000000 in
theorem plain6_any (l : Ln) (w : World) (hlen : l.length ≤ 1000000) : Calls Tryd.prog 28 #[.string (bs l)] w (Ret w (.string (bs (noNl l)))) := by
  have hsz : ((bs l).size : Int) = l.length := by rw [bs_size]
  obtain ⟨nl, hnl⟩ : ∃ n, n = l.length := ⟨_, rfl⟩
  rw [← hnl] at hsz
  have hl1 : nl ≤ l.length := by omega
  have hl2 : l.length ≤ nl := by omega
  clear hnl
  go_enter Tryd.func28, Tryd.ntmps28
  go_wp2_with fail
  go_loopw [3, 4] (fun u v wr => ∃ (k : Nat) (o : Ln), k ≤ nl ∧ v = .int .i64 k ∧ u = .string (bs o) ∧ Hid (o = noNl (l.take k)) ∧ o.length ≤ k ∧ wr = w) (fun _ v _ => nl - (intOf v).toNat)
  case atStart => exact ⟨0, [], Nat.zero_le _, rfl, rfl, rfl, Nat.le_refl _, rfl⟩
  case round =>
    obtain ⟨k, o, hk, rfl, rfl, ho, hol, hwr⟩ := hrel
    have hwr2 := hwr.symm
    subst hwr2
    by_cases hlt : (k : Int) < nl
    · have hkl : k < l.length := by omega
      have hks : k < (bs l).size := by rw [bs_size]; exact hkl
      obtain ⟨c, hc⟩ : ∃ c, c = l[k] := ⟨_, rfl⟩
      have hg : (bs l)[k] = c := by rw [bs_get l k hks hkl]; exact hc.symm
      have hw1 : IntKind.i64.wrap ((k : Int) + 1) = k + 1 := wrap_i64_in (by omega) (by omega)
      have hx1 : (bs l).extract k (k + 1) = bs [c] := by rw [ext_one (bs l) k hks, hg]
      have htk : Hid (l.take (k + 1) = l.take k ++ [c]) := by show _ = _; rw [List.take_succ_eq_append_getElem hkl, hc]; all_goals rfl
      clear hc
      by_cases h10 : c = 10
      · have q1 : ((c.toNat : Int) == 10) = true := beqYl h10
        have q2 : ((c.toNat : Int) != 10) = false := by unfold bne; rw [q1]; rfl
        have HO : Hid (o = noNl (l.take (k + 1))) := by show _ = _; rw [htk.out, ho.out]; unfold noNl; rw [List.filter_append, h10]; simp
        clear h10 q1 hx1
        go_wp2_with fail
        go_roundw
        case rel => exact ⟨k + 1, o, by omega, by go_num, rfl, HO, by omega, by trivial⟩
        case measure => simp [intOf]; omega
      · have q1 : ((c.toNat : Int) == 10) = false := beqNl h10
        have q2 : ((c.toNat : Int) != 10) = true := by unfold bne; rw [q1]; rfl
        have HO : Hid (o ++ [c] = noNl (l.take (k + 1))) := by
          show _ = _
          rw [htk.out, ho.out]
          unfold noNl
          rw [List.filter_append]
          congr 1
          rw [List.filter_cons, if_pos (by simpa using h10)]
          rfl
        have hk0 : (0 : Int) ≤ (k : Int) := Int.natCast_nonneg _
        have hk1 : ((k : Int) + 1).toNat = k + 1 := by omega
        have hk2 : k + 1 ≤ (bs l).size := hks
        have hsl := slice_str (P := Tryd.prog) Tryd.underlying9 (bs l) (k : Int) ((k : Int) + 1) k (k + 1) rfl (by omega) (by omega) hk2 (bs [c]) hx1
        obtain ⟨no, hno⟩ : ∃ n, n = o.length := ⟨_, rfl⟩
        have z1 : (bs o).size = no := by rw [bs_size, hno]
        have z2 : (bs [c]).size = 1 := bs_size _
        have hbig : ¬ 9223372036854775807 < no + 1 := by omega
        have hcat : bs o ++ bs [c] = bs (o ++ [c]) := bs_append _ _
        clear h10 q1 hno
        go_wp2_with fail
        go_roundw
        case rel => exact ⟨k + 1, o ++ [c], by omega, by go_num, rfl, HO, by simp; omega, by trivial⟩
        case measure => simp [intOf]; omega
    · have hkn : k = l.length := by omega
      have HO : Hid (o = noNl l) := by show _ = _; rw [ho.out, hkn, List.take_length]
      clear hkn
      go_wp2_with fail
      go_ret
      exact Ret.mk (by rw [HO.out]; all_goals rfl) (Ext.refl _)
theorem noNl_no (l : Ln) : (10 : UInt8) ∉ noNl l := fun h => by
  have := (List.mem_filter.1 h).2
  simp at this
theorem noNl_len (l : Ln) : (noNl l).length ≤ l.length := List.length_filter_le _ _
set_option maxRecDepth 100000 in
set_option maxHeartbeats 4000000 in
theorem infoBack_any (p M : Ln) (a : Int) (h0 : 0 ≤ a) (h1 : a < 18446744073709551616) (w : World) (hM : HasMax w) (hpl : p.length ≤ 9223372036854775807) (hml : M.length ≤ 9223372036854775807) : Calls Tryd.prog 7 #[.string (bs p), .int .u64 a, .string (bs M)] w (Ret w (.bool true)) := by
  have HAW := Lib.hid (fun w' (hE : Ext w w') => awake06 w' (hM.ext hE))
  have z1 : ((bs p).size : Int) = p.length := by rw [bs_size]
  have z2 : ((bs M).size : Int) = M.length := by rw [bs_size]
  obtain ⟨np, hnp⟩ : ∃ n, n = p.length := ⟨_, rfl⟩
  obtain ⟨nM, hnM⟩ : ∃ n, n = M.length := ⟨_, rfl⟩
  rw [← hnp] at z1
  rw [← hnM] at z2
  have HNP := Lib.hid hnp
  have HNM := Lib.hid hnM
  clear hnp hnM hpl hml
  by_cases hp0 : p = []
  · subst hp0
    have hem : (bs []).toList.isEmpty = true := by rw [bs_toList]; rfl
    go_enter Tryd.func7, Tryd.ntmps7
    go_wp2_with fail
    refine (HAW.out _ (Ext.refl _)).mono ?_
    rintro e wx ⟨rfl, bx⟩
    go_wp2_with fail
    go_ret
    exact Ret.mk rfl bx
  have hem : (bs p).toList.isEmpty = false := by rw [bs_toList, List.isEmpty_eq_false_iff]; exact hp0
  by_cases h300 : 300 < np
  · have q1 : (300 : Int) < np := by omega
    go_enter Tryd.func7, Tryd.ntmps7
    go_wp2_with fail
    refine (HAW.out _ (Ext.refl _)).mono ?_
    rintro e wx ⟨rfl, bx⟩
    go_wp2_with fail
    go_ret
    exact Ret.mk rfl bx
  have q1 : ¬ (300 : Int) < np := by omega
  by_cases h301 : 300 < nM
  · have q2 : (300 : Int) < nM := by omega
    go_enter Tryd.func7, Tryd.ntmps7
    go_wp2_with fail
    refine (HAW.out _ (Ext.refl _)).mono ?_
    rintro e wx ⟨rfl, bx⟩
    go_wp2_with fail
    go_ret
    exact Ret.mk rfl bx
  have q2 : ¬ (300 : Int) < nM := by omega
  obtain ⟨hb, hhb⟩ : ∃ hb, hb = hasB p 0 := ⟨_, rfl⟩
  have hh := fun w' => rhas_any (bs p) 0 0 (by rfl) (by rw [bs_size]; have := HNP.out; omega) w'
  simp only [bs_list] at hh
  rw [← hhb] at hh
  have HH := Lib.hid hh
  clear hh
  cases hb with
  | true =>
    clear hhb
    go_enter Tryd.func7, Tryd.ntmps7
    go_wp2_with fail
    refine (HH.out _).mono ?_
    rintro e w1 ⟨rfl, b1⟩
    go_wp2_with fail
    refine (HAW.out _ b1).mono ?_
    rintro e wx ⟨rfl, bx⟩
    go_wp2_with fail
    go_ret
    exact Ret.mk rfl (b1.trans bx)
  | false =>
    obtain ⟨sec, hsec⟩ : ∃ sec : Nat, a % 253402300800 = (sec : Int) := ⟨(a % 253402300800).toNat, by omega⟩
    have hs1 : sec ≤ 253402300799 := by omega
    have HHB := Lib.hid hhb.symm
    have HP0 := Lib.hid hp0
    have hp3 : p.length ≤ 300 := by have := HNP.out; omega
    have hM3 : M.length ≤ 300 := by have := HNM.out; omega
    have H1 : Hid (∀ w', Calls Tryd.prog 23 #[.string (bs p), .int .i64 sec] w' (fun e w2 => ∃ D : Ln, TxtZ sec (bs D) ∧ Vis D ∧ D.length = 19 ∧ e = .returned (.tuple #[.string (bs (writeF p D)), .int .i64 0]) ∧ Ext w' w2)) := fun w' =>
      (piwrite_any p sec w' (by omega)).mono fun e w2 ⟨t, er, hz, he, hE⟩ => by
        obtain ⟨D, hz2, hv, hl, rfl, rfl⟩ := wr_good hp0 hhb.symm hs1 hz
        exact ⟨D, hz2, hv, hl, he, hE⟩
    have HPL := Lib.hid (fun w' => plain6_any M w' (by omega))
    obtain ⟨Q, hQ⟩ : ∃ Q, Q = noNl M := ⟨_, rfl⟩
    have hQl : Q.length ≤ 300 := by have := noNl_len M; rw [hQ]; omega
    have HQ : Hid ((10 : UInt8) ∉ Q) := by show _ ∉ _; rw [hQ]; exact noNl_no M
    rw [← hQ] at HPL
    have hEl : (encL p).length ≤ 900 := by have := encL_le p; omega
    have HEL := Lib.hid hEl
    clear hhb hp0 hQ hEl hs1 h300 h301
    go_enter Tryd.func7, Tryd.ntmps7
    go_wp2_with fail
    refine (HH.out _).mono ?_
    rintro e w1 ⟨rfl, b1⟩
    go_wp2_with fail
    refine (H1.out _).mono ?_
    rintro e w2 ⟨D, hz, hv, hl, rfl, b2⟩
    have b12 := b1.trans b2
    obtain ⟨T, hT⟩ : ∃ T, T = writeF p D := ⟨_, rfl⟩
    rw [← hT]
    have hTl : T.length ≤ 1000 := by
      have h2 := HEL.out
      rw [hT, writeF_len]
      omega
    obtain ⟨nT, hnT⟩ : ∃ n, n = T.length := ⟨_, rfl⟩
    have zT : (bs T).size = nT := by rw [bs_size, hnT]
    obtain ⟨nQ, hnQ⟩ : ∃ n, n = Q.length := ⟨_, rfl⟩
    have zQ : (bs Q).size = nQ := by rw [bs_size, hnQ]
    have zM : (bs M).size = nM := by have := HNM.out; rw [bs_size, this]
    have hnM := HNM.out
    have v1 : (⟨#[91, 120, 93, 10]⟩ : ByteArray).size = 4 := rfl
    have v2 : (⟨#[10, 35, 32]⟩ : ByteArray).size = 3 := rfl
    have v3 : (⟨#[10]⟩ : ByteArray).size = 1 := rfl
    have v4 : (⟨#[35]⟩ : ByteArray).size = 1 := rfl
    obtain ⟨A1, hA1⟩ : ∃ L : Ln, L = T ++ [91, 120, 93, 10] := ⟨_, rfl⟩
    have catA1 : bs T ++ (⟨#[91, 120, 93, 10]⟩ : ByteArray) = bs A1 := cat_h hA1
    obtain ⟨nA1, hnA1⟩ : ∃ n, n = A1.length := ⟨_, rfl⟩
    have zA1 : (bs A1).size = nA1 := by rw [bs_size, hnA1]
    have leA1 : nA1 = nT + 4 := by rw [hnA1, hA1, List.length_append]; (try simp only [List.length_cons, List.length_nil]); omega
    have uA1 : ¬ 9223372036854775807 < nT + 4 := by omega
    obtain ⟨A2, hA2⟩ : ∃ L : Ln, L = A1 ++ M := ⟨_, rfl⟩
    have catA2 : bs A1 ++ bs M = bs A2 := cat_h hA2
    obtain ⟨nA2, hnA2⟩ : ∃ n, n = A2.length := ⟨_, rfl⟩
    have zA2 : (bs A2).size = nA2 := by rw [bs_size, hnA2]
    have leA2 : nA2 = nA1 + nM := by rw [hnA2, hA2, List.length_append]; (try simp only [List.length_cons, List.length_nil]); omega
    have uA2 : ¬ 9223372036854775807 < nA1 + nM := by omega
    obtain ⟨B1, hB1⟩ : ∃ L : Ln, L = [10, 35, 32] ++ Q := ⟨_, rfl⟩
    have catB1 : (⟨#[10, 35, 32]⟩ : ByteArray) ++ bs Q = bs B1 := cat_h hB1
    obtain ⟨nB1, hnB1⟩ : ∃ n, n = B1.length := ⟨_, rfl⟩
    have zB1 : (bs B1).size = nB1 := by rw [bs_size, hnB1]
    have leB1 : nB1 = 3 + nQ := by rw [hnB1, hB1, List.length_append]; (try simp only [List.length_cons, List.length_nil]); omega
    have uB1 : ¬ 9223372036854775807 < 3 + nQ := by omega
    obtain ⟨B2, hB2⟩ : ∃ L : Ln, L = B1 ++ [10] := ⟨_, rfl⟩
    have catB2 : bs B1 ++ (⟨#[10]⟩ : ByteArray) = bs B2 := cat_h hB2
    obtain ⟨nB2, hnB2⟩ : ∃ n, n = B2.length := ⟨_, rfl⟩
    have zB2 : (bs B2).size = nB2 := by rw [bs_size, hnB2]
    have leB2 : nB2 = nB1 + 1 := by rw [hnB2, hB2, List.length_append]; (try simp only [List.length_cons, List.length_nil]); omega
    have uB2 : ¬ 9223372036854775807 < nB1 + 1 := by omega
    obtain ⟨B3, hB3⟩ : ∃ L : Ln, L = B2 ++ T := ⟨_, rfl⟩
    have catB3 : bs B2 ++ bs T = bs B3 := cat_h hB3
    obtain ⟨nB3, hnB3⟩ : ∃ n, n = B3.length := ⟨_, rfl⟩
    have zB3 : (bs B3).size = nB3 := by rw [bs_size, hnB3]
    have leB3 : nB3 = nB2 + nT := by rw [hnB3, hB3, List.length_append]; (try simp only [List.length_cons, List.length_nil]); omega
    have uB3 : ¬ 9223372036854775807 < nB2 + nT := by omega
    obtain ⟨B4, hB4⟩ : ∃ L : Ln, L = B3 ++ [35] := ⟨_, rfl⟩
    have catB4 : bs B3 ++ (⟨#[35]⟩ : ByteArray) = bs B4 := cat_h hB4
    obtain ⟨nB4, hnB4⟩ : ∃ n, n = B4.length := ⟨_, rfl⟩
    have zB4 : (bs B4).size = nB4 := by rw [bs_size, hnB4]
    have leB4 : nB4 = nB3 + 1 := by rw [hnB4, hB4, List.length_append]; (try simp only [List.length_cons, List.length_nil]); omega
    have uB4 : ¬ 9223372036854775807 < nB3 + 1 := by omega
    obtain ⟨B5, hB5⟩ : ∃ L : Ln, L = B4 ++ M := ⟨_, rfl⟩
    have catB5 : bs B4 ++ bs M = bs B5 := cat_h hB5
    obtain ⟨nB5, hnB5⟩ : ∃ n, n = B5.length := ⟨_, rfl⟩
    have zB5 : (bs B5).size = nB5 := by rw [bs_size, hnB5]
    have leB5 : nB5 = nB4 + nM := by rw [hnB5, hB5, List.length_append]; (try simp only [List.length_cons, List.length_nil]); omega
    have uB5 : ¬ 9223372036854775807 < nB4 + nM := by omega
    have HA2 : Hid (A2 = writeF p D ++ ([91, 120, 93, 10] ++ M)) := by show _ = _; rw [hA2, hA1, hT]; simp
    have HB5 : Hid (B5 = 10 :: 35 :: 32 :: (Q ++ 10 :: (writeF p D ++ (35 :: M)))) := by show _ = _; rw [hB5, hB4, hB3, hB2, hB1, hT]; simp
    have ra := read_write hv ([91, 120, 93, 10] ++ M) HP0.out (of_decide_eq_false HHB.out)
    have rb := read_write hv (35 :: M) HP0.out (of_decide_eq_false HHB.out)
    have rs := skip2 Q (writeF p D ++ (35 :: M)) HQ.out
    have P1 : Hid (∀ w', Ext w w' → Calls Tryd.prog 25 #[.string (bs A2)] w' (Ret w' (.tuple #[.string (bs p), .int .i64 sec, .int .i64 0]))) := fun w' hE =>
      (pparse6_any A2 w' (hM.ext hE) (by omega)).mono fun e w3 ⟨q, n, er, hz3, he, hE3⟩ => by
        rw [HA2.out] at hz3
        obtain ⟨rfl, rfl, rfl⟩ := inf_good ra.1 ra.2 hz hz3
        exact ⟨he, hE3⟩
    have P2 : Hid (∀ w', Ext w w' → Calls Tryd.prog 25 #[.string (bs B5)] w' (Ret w' (.tuple #[.string (bs p), .int .i64 sec, .int .i64 0]))) := fun w' hE =>
      (pparse6_any B5 w' (hM.ext hE) (by omega)).mono fun e w3 ⟨q, n, er, hz3, he, hE3⟩ => by
        rw [HB5.out] at hz3
        obtain ⟨rfl, rfl, rfl⟩ := inf_good (rs.1.trans rb.1) (rs.2.trans rb.2) hz hz3
        exact ⟨he, hE3⟩
    clear hT hTl hnT hnQ hnM hz hv hl ra rb rs hA1 hA2 hB1 hB2 hB3 hB4 hB5 hnA1 hnA2 hnB1 hnB2 hnB3 hnB4 hnB5 leA1 leA2 leB1 leB2 leB3 leB4 leB5
    go_wp2_with fail
    refine (P1.out _ b12).mono ?_
    rintro e w3 ⟨rfl, b3⟩
    have b13 := b12.trans b3
    go_wp2_with fail
    refine (HPL.out _).mono ?_
    rintro e w4 ⟨rfl, b4⟩
    have b14 := b13.trans b4
    go_wp2_with fail
    refine (P2.out _ b14).mono ?_
    rintro e w5 ⟨rfl, b5⟩
    have b15 := b14.trans b5
    go_wp2_with fail
    refine (HAW.out _ b15).mono ?_
    rintro e wx ⟨rfl, bx⟩
    go_wp2_with fail
    go_ret
    exact Ret.mk rfl (b15.trans bx)
set_option maxRecDepth 100000 in
theorem infoBack_walk {H : Type} {enc : TypeId × Value → H} (W : World) (base : Nat) (v0 v1 v2 : Value) (d0 d1 d2 : DataW H) (p0 p1 p2 : List MemPlace)
    (hs : W.ShapedOpen Tryd.prog)
    (k0 : Value.okWide Tryd.prog W .any base 9 v0) (h0 : DataW.Trod enc Tryd.prog W 0 (fun _ => true) true 9 v0 d0 p0)
    (k1 : Value.okWide Tryd.prog W .any base 54 v1) (h1 : DataW.Trod enc Tryd.prog W 0 (fun _ => true) true 54 v1 d1 p1)
    (k2 : Value.okWide Tryd.prog W .any base 9 v2) (h2 : DataW.Trod enc Tryd.prog W 0 (fun _ => true) true 9 v2 d2 p2)
    : Calls Tryd.prog 7 #[v0, v1, v2] W (Ret W (.bool true)) := by
  obtain ⟨a0, rfl, rfl, rfl, w0⟩ := Go.ChangeMaps.open_string Tryd.underlying9 k0 h0
  obtain ⟨a1, rfl, rfl, rfl, w1⟩ := open_int Tryd.underlying54 k1 h1
  have hb := bounds_u64 w1
  have hb0 : 0 ≤ a1 := hb.1
  have hb1 : a1 < 18446744073709551616 := by omega
  obtain ⟨a2, rfl, rfl, rfl, w2⟩ := Go.ChangeMaps.open_string Tryd.underlying9 k2 h2
  unfold maxLen at w0 w2
  have l0 : a0.data.toList.length ≤ 9223372036854775807 := by
    have : a0.data.toList.length = a0.size := by simp
    omega
  have l2 : a2.data.toList.length ≤ 9223372036854775807 := by
    have : a2.data.toList.length = a2.size := by simp
    omega
  have h := infoBack_any a0.data.toList a2.data.toList a1 hb0 hb1 W (HasMax.of hs) l0 l2
  rw [bs_self, bs_self] at h
  exact h
end Go.Proofs.YtanaifobmkjpaaaDoor
