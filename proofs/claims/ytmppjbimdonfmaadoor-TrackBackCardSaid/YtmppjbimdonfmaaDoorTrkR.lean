/- Layer 3 (track): the reference's Clean, Cut, Below. -/
import Derived.Test.YtmppjbimdonfmaaDoorTrkC
namespace Go.Proofs.YtmppjbimdonfmaaDoor
open Go.ChangeShapes Go.WideShapes Go.ChangeAt Go.RowKit

theorem joinS_take (Q : List Txt) (j : Nat) (h : j < Q.length) : joinS (Q.take (j + 1)) = if j = 0 then Q[j] else joinS (Q.take j) ++ 47 :: Q[j] := by
  rw [List.take_succ_eq_append_getElem h, joinS_snoc]
  by_cases hj : j = 0
  · subst hj; rw [if_pos (by simp), if_pos rfl]
  · rw [if_neg, if_neg hj]
    intro e
    have h2 : (Q.take j).length = 0 := by rw [e]; rfl
    rw [List.length_take] at h2
    omega
theorem weight_take (Q : List (List UInt8)) (j : Nat) : weight (Q.take j) ≤ weight Q := by
  have := weight_append (Q.take j) (Q.drop j)
  rw [List.take_append_drop] at this
  omega
theorem weight_mem {Q : List (List UInt8)} {p : List UInt8} (h : p ∈ Q) : p.length ≤ weight Q := by
  induction Q with
  | nil => simp at h
  | cons q Q ih =>
    rcases List.mem_cons.1 h with rfl | h
    · simp [weight]; omega
    · have := ih h
      simp [weight]; omega
set_option maxRecDepth 100000 in
set_option maxHeartbeats 4000000 in
theorem rclean_some (l : List UInt8) (hne : l ≠ []) (w : World) (hlen : l.length ≤ 100000) : Calls Tryd.prog 35 #[.string (bs l)] w (Ret w (.string (bs (cleanN l)))) := by
  obtain ⟨i0, hi, hz0, hz1, hz2⟩ := info_parts infoStr
  obtain ⟨whole, hwh⟩ : ∃ whole, whole = wholeB l := ⟨_, rfl⟩
  have hpl0 := parts_len l
  have hnl : Hid (normL l = outN whole (partsN l)) := by show _ = _; rw [hwh]; exact normL_outN l
  have hcl : Hid (cleanN l = render whole (normL l)) := by show _ = _; rw [hwh]; rfl
  have hw1 := norm_weight l
  have hw2 := parts_weight l
  have z0 : (bs l).size = l.length := bs_size l
  have hfirst : ∃ h : 0 < (bs l).size, 0 < l.length ∧ (((bs l)[0].toNat : Int) == 47) = whole := by
    cases l with
    | nil => exact absurd rfl hne
    | cons c t =>
      refine ⟨by rw [bs_size]; simp, by simp, ?_⟩
      rw [hwh]
      have : (bs (c :: t))[0]'(by rw [bs_size]; simp) = c := rfl
      rw [this]
      refine (u8_eq (c := c) (d := 47)).trans ?_
      unfold wholeB
      rw [Bool.eq_iff_iff]
      simp
  obtain ⟨L, hL⟩ : ∃ L, L = partsN l := ⟨_, rfl⟩
  rw [← hL] at hpl0 hnl hw1 hw2
  obtain ⟨Q, hQ⟩ : ∃ Q, Q = normL l := ⟨_, rfl⟩
  rw [← hQ] at hnl hcl hw1
  have HL := Lib.hid hL
  clear hL hQ hwh
  go_enter Tryd.func35, Tryd.ntmps35
  obtain ⟨hks, hl0, hwh2⟩ := hfirst
  go_wp2_with fail
  clear hwh2
  refine (rparts_any l _ (by omega)).mono ?_
  rintro e w1 ⟨v, rfl, hv, hE1⟩
  rw [← HL.out] at hv
  obtain ⟨A, cap0, rfl, hle0, hcm0, hat, hAn0⟩ := hv.at_
  clear hv hAn0
  go_wp2_with fail
  go_loopw [4, 6] (fun u i wr => ∃ k : Nat, k ≤ L.length ∧ i = .int .i64 k ∧ OwnT wr w1.heap.size u (outN whole (L.take k)) ∧ Ext w1 wr) (fun _ i _ => L.length - (intOf i).toNat)
  case atStart => exact ⟨0, Nat.zero_le _, rfl, World.ownsRow_nil _ _ _ _, Ext.refl _⟩
  case round =>
    obtain ⟨k, hk, rfl, hown, hE⟩ := hrel
    by_cases hlt : (k : Int) < L.length
    · have hkl : k < L.length := by omega
      obtain ⟨b, o, rfl, hb, hcx⟩ := hat.at_ hE k hkl
      have htk : Hid (L.take (k + 1) = L.take k ++ [L[k]]) := List.take_succ_eq_append_getElem hkl
      obtain ⟨x, hx⟩ : ∃ x, x = L[k] := ⟨_, rfl⟩
      rw [← hx] at hcx htk
      obtain ⟨_, _, t2, _⟩ := txt_tests (p := x)
      obtain ⟨Y, hY⟩ : ∃ Y, Y = bs x := ⟨_, rfl⟩
      rw [← hY] at hcx t2
      have HY := Lib.hid hY
      have hol := outN_len whole (L.take k)
      rw [List.length_take] at hol
      obtain ⟨M, hM⟩ : ∃ M, M = outN whole (L.take k) := ⟨_, rfl⟩
      rw [← hM] at hown hol
      have hrow : wr.ownsRow w1.heap.size 9 1 u4 M.length (txtCells M) := hown
      have HM := Lib.hid hM
      clear hx hY hM hown
      by_cases hxd : x = dd
      · have t2' : (Y.toList == [46, 46]) = true := by rw [t2, hxd]; rfl
        have HX := Lib.hid hxd
        clear t2 hxd
        rcases snocT M with hn | ⟨L2, q, hn⟩
        · rw [hn] at hrow hol
          have Hn := Lib.hid hn
          clear hn
          have hrow : wr.ownsRow w1.heap.size 9 1 u4 0 [] := hrow
          obtain ⟨A2, cap, rfl, _, _, _, _⟩ := OwnT.at_ (l := []) hrow
          cases whole with
          | true =>
            have ho2 : OwnT wr w1.heap.size (.slice A2 0 cap) (outN true (L.take (k + 1))) := by
              rw [htk.out, outN_snoc, ← HM.out, HX.out, Hn.out, cstep_nil, if_pos rfl]
              exact hrow
            have HO2 := Lib.hid ho2
            clear ho2 hrow
            go_wp2_with fail
            go_roundw
            case rel => exact ⟨k + 1, by omega, by go_num, HO2.out, hE⟩
            case measure => simp [intOf]; omega
          | false =>
            have hnew : ∀ j u, (txtCells [x])[j]? = some u → (wr.alloc (.cells #[.string Y] 9)).cell? ((⟨wr.heap.size, 0, none⟩ : Addr).add j) = some u := by rw [HY.out]; exact txt_news wr x
            go_wp2_with (at_builtin; refine wpList_append_own _ rfl _ _ 24 rfl w1.heap.size 9 i0 (.string ⟨#[]⟩) 1 16 Tryd.underlying24 hi hz0 hz1 hz2 rfl (by decide) _ _ _ rfl (hrow.alloc _) ⟨wr.heap.size, 0, none⟩ 1 1 (txtCells [x]) rfl rfl hnew (txtCells_one [x]) (by unfold maxLen; omega) (by omega) (by have := hE.size; simp; omega) ?_)
            intro v' w2 hown2 hgrow _
            have hE2 : Ext w1 w2 := (hE.alloc _).grown hgrow (fun g hv => (hrow.lt g hv).1)
            have ho2 : OwnT w2 w1.heap.size v' (outN false (L.take (k + 1))) := by
              rw [htk.out, outN_snoc, ← HM.out, HX.out, Hn.out, cstep_nil, if_neg (by decide), ← HX.out]
              exact hown2
            have HO2 := Lib.hid ho2
            clear hown2 hgrow hnew ho2 hrow
            go_wp2_with fail
            go_roundw
            case rel => exact ⟨k + 1, by omega, by go_num, HO2.out, hE2⟩
            case measure => simp [intOf]; omega
        · obtain ⟨n, hl⟩ : ∃ n, n = L2.length := ⟨_, rfl⟩
          have hM1 : M.length = n + 1 := by rw [hn, hl]; simp
          rw [hM1] at hrow hol
          obtain ⟨g, cap, rfl⟩ := ownsRow_succ hrow
          have hq : wr.cell? ⟨g, n, none⟩ = some (.string (bs q)) := by
            rw [hrow.cellAt n (by omega), txtCells_get M n (by omega)]
            simp [hn, hl]
          obtain ⟨_, _, s2, _⟩ := txt_tests (p := q)
          have hw1 : IntKind.i64.wrap (n : Int) = n := wrap_i64_in (by omega) (by omega)
          have hn0 : (0 : Int) ≤ (n : Int) := Int.natCast_nonneg _
          have hnl : (n : Int) < (n : Int) + 1 := by omega
          have hnc : n ≤ cap := by
            rcases hrow.2 with ⟨h0, _⟩ | ⟨g2, c2, cur, hv2, _, _, hle2, _⟩
            · cases h0
            · injection hv2 with _ _ e3; omega
          have hnp : (0 : Int) < (n : Int) + 1 := by omega
          by_cases hqd : q = dd
          · have s2' : ((bs q).toList == [46, 46]) = true := by rw [s2, hqd]; rfl
            rw [hqd] at hn
            have Hn := Lib.hid hn
            have HM1 := Lib.hid hM1
            clear s2 hl hn hqd hM1
            cases whole with
            | true =>
              have ho2 : OwnT wr w1.heap.size (.slice (some ⟨g, 0, none⟩) (n + 1) cap) (outN true (L.take (k + 1))) := by
                rw [htk.out, outN_snoc, ← HM.out, HX.out, Hn.out, cstep_dd, if_pos rfl, ← Hn.out]
                unfold OwnT
                rw [HM1.out]; exact hrow
              have HO2 := Lib.hid ho2
              clear ho2 hrow
              go_wp2_with fail
              go_roundw
              case rel => exact ⟨k + 1, by omega, by go_num, HO2.out, hE⟩
              case measure => simp [intOf]; omega
            | false =>
              have hnew : ∀ j u, (txtCells [x])[j]? = some u → (wr.alloc (.cells #[.string Y] 9)).cell? ((⟨wr.heap.size, 0, none⟩ : Addr).add j) = some u := by rw [HY.out]; exact txt_news wr x
              go_wp2_with (at_builtin; refine wpList_append_own _ rfl _ _ 24 rfl w1.heap.size 9 i0 (.string ⟨#[]⟩) 1 16 Tryd.underlying24 hi hz0 hz1 hz2 rfl (by decide) _ _ _ rfl (hrow.alloc _) ⟨wr.heap.size, 0, none⟩ 1 1 (txtCells [x]) rfl rfl hnew (txtCells_one [x]) (by unfold maxLen; omega) (by omega) (by have := hE.size; simp; omega) ?_)
              intro v' w2 hown2 hgrow _
              have hE2 : Ext w1 w2 := (hE.alloc _).grown hgrow (fun g hv => (hrow.lt g hv).1)
              have ho2 : OwnT w2 w1.heap.size v' (outN false (L.take (k + 1))) := by
                rw [htk.out, outN_snoc, ← HM.out, HX.out, Hn.out, cstep_dd, if_neg (by decide), ← Hn.out, ← HX.out]
                unfold OwnT
                rw [txtCells_append, List.length_append, HM1.out]; exact hown2
              have HO2 := Lib.hid ho2
              clear hown2 hgrow hnew ho2 hrow
              go_wp2_with fail
              go_roundw
              case rel => exact ⟨k + 1, by omega, by go_num, HO2.out, hE2⟩
              case measure => simp [intOf]; omega
          · have s2' : ((bs q).toList == [46, 46]) = false := by rw [s2]; exact beq_eq_false_iff_ne.2 hqd
            have hrp : wr.ownsRow w1.heap.size 9 1 (.slice (some ⟨g, 0, none⟩) n cap) n (txtCells L2) := by
              rw [hn, txtCells_append] at hrow
              exact ownsRow_pop (by rw [txtCells_len, hl]; omega) hrow
            have ho2 : OwnT wr w1.heap.size (.slice (some ⟨g, 0, none⟩) n cap) (outN whole (L.take (k + 1))) := by
              rw [htk.out, outN_snoc, ← HM.out, HX.out, hn, cstep_drop hqd]
              unfold OwnT
              rw [← hl]; exact hrp
            have HO2 := Lib.hid ho2
            clear s2 hM1 hl hqd hrp hrow ho2 hn
            go_wp2_with fail
            go_roundw
            case rel => exact ⟨k + 1, by omega, by go_num, HO2.out, hE⟩
            case measure => simp [intOf]; omega
      · have t2' : (Y.toList == [46, 46]) = false := by rw [t2]; exact beq_eq_false_iff_ne.2 hxd
        have HX := Lib.hid hxd
        clear t2 hxd
        have hnew : ∀ j u, (txtCells [x])[j]? = some u → (wr.alloc (.cells #[.string Y] 9)).cell? ((⟨wr.heap.size, 0, none⟩ : Addr).add j) = some u := by rw [HY.out]; exact txt_news wr x
        go_wp2_with (at_builtin; refine wpList_append_own _ rfl _ _ 24 rfl w1.heap.size 9 i0 (.string ⟨#[]⟩) 1 16 Tryd.underlying24 hi hz0 hz1 hz2 rfl (by decide) _ _ _ rfl (hrow.alloc _) ⟨wr.heap.size, 0, none⟩ 1 1 (txtCells [x]) rfl rfl hnew (txtCells_one [x]) (by unfold maxLen; omega) (by omega) (by have := hE.size; simp; omega) ?_)
        intro v' w2 hown2 hgrow _
        have hE2 : Ext w1 w2 := (hE.alloc _).grown hgrow (fun g hv => (hrow.lt g hv).1)
        have ho2 : OwnT w2 w1.heap.size v' (outN whole (L.take (k + 1))) := by
          rw [htk.out, outN_snoc, ← HM.out, cstep_put HX.out]
          unfold OwnT
          rw [txtCells_append, List.length_append]; exact hown2
        have HO2 := Lib.hid ho2
        clear hown2 hgrow hnew ho2 hrow
        go_wp2_with fail
        go_roundw
        case rel => exact ⟨k + 1, by omega, by go_num, HO2.out, hE2⟩
        case measure => simp [intOf]; omega
    · obtain rfl : k = L.length := by omega
      rw [List.take_length, ← hnl.out] at hown
      obtain ⟨A3, cap3, rfl, hle3, hcm3, hat3, _⟩ := hown.at_
      have hE9 := hE1.trans hE
      have hQl : Q.length ≤ weight Q := by
        have : ∀ X : List (List UInt8), X.length ≤ weight X := fun X => by
          induction X with
          | nil => simp
          | cons x X ih => simp [weight]; omega
        exact this Q
      clear hown hE hle3
      obtain ⟨w5, hw5⟩ : ∃ w5, w5 = wr := ⟨_, rfl⟩
      rw [← hw5] at hat3 hE9 ⊢
      clear hw5
      go_wp2_with fail
      go_loopw [7, 8] (fun u i wr => ∃ j : Nat, j ≤ Q.length ∧ i = .int .i64 j ∧ u = .string (bs (joinS (Q.take j))) ∧ wr = w5) (fun _ i _ => Q.length - (intOf i).toNat)
      case atStart => exact ⟨0, Nat.zero_le _, rfl, rfl, rfl⟩
      case round =>
        obtain ⟨j, hj, rfl, rfl, rfl⟩ := hrel
        by_cases hlt : (j : Int) < Q.length
        · have hjl : j < Q.length := by omega
          obtain ⟨b3, o3, rfl, hb3, hc3⟩ := hat3.at_ (Ext.refl _) j hjl
          have hjt := joinS_take Q j hjl
          have hx2 := weight_mem (List.getElem_mem hjl)
          have hx3 := join_len (Q.take j)
          have hx4 := weight_take Q j
          obtain ⟨x, hx⟩ : ∃ x, x = Q[j] := ⟨_, rfl⟩
          obtain ⟨T, hT⟩ : ∃ T, T = joinS (Q.take j) := ⟨_, rfl⟩
          rw [← hx] at hc3 hjt hx2
          rw [← hT] at hjt hx3 ⊢
          have z1 : (bs T).size = T.length := bs_size T
          have z2 : (bs x).size = x.length := bs_size x
          have z3 : (bs (T ++ [47])).size = T.length + 1 := by rw [bs_size]; simp
          by_cases hj0 : j = 0
          · have hT0 : Hid (T = []) := by show _ = _; rw [hT, hj0]; rfl
            have hj1 : ¬ (0 : Int) < (j : Int) := by omega
            have hc4 : bs T ++ bs x = bs x := by rw [hT0.out]; exact bs_append [] x
            have hbig : ¬ 9223372036854775807 < T.length + x.length := by omega
            rw [if_pos hj0] at hjt
            have HJ := Lib.hid hjt
            clear hjt hj0 hx hT
            go_wp2_with fail
            go_roundw
            case rel => exact ⟨j + 1, by omega, by go_num, by rw [HJ.out], by first | rfl | trivial⟩
            case measure => simp [intOf]; omega
          · have hj1 : (0 : Int) < (j : Int) := by omega
            have hc3' : bs T ++ (⟨#[47]⟩ : ByteArray) = bs (T ++ [47]) := bs_append T [47]
            have hc4 : bs (T ++ [47]) ++ bs x = bs (T ++ 47 :: x) := by rw [bs_append]; simp
            have hbig1 : ¬ 9223372036854775807 < T.length + 1 := by omega
            have hbig : ¬ 9223372036854775807 < T.length + 1 + x.length := by omega
            rw [if_neg hj0] at hjt
            have HJ := Lib.hid hjt
            clear hjt hj0 hx hT
            go_wp2_with fail
            go_roundw
            case rel => exact ⟨j + 1, by omega, by go_num, by rw [HJ.out], by first | rfl | trivial⟩
            case measure => simp [intOf]; omega
        · obtain rfl : j = Q.length := by omega
          rw [List.take_length]
          have hjl2 := join_len Q
          obtain ⟨T, hT⟩ : ∃ T, T = joinS Q := ⟨_, rfl⟩
          rw [← hT] at hjl2 ⊢
          have z1 : (bs T).size = T.length := bs_size T
          have hbig : ¬ 9223372036854775807 < 1 + T.length := by omega
          have hcat : (⟨#[47]⟩ : ByteArray) ++ bs T = bs (47 :: T) := bs_append [47] T
          obtain ⟨t0, _, _, t3⟩ := txt_tests (p := T)
          have hren : Hid (cleanN l = if whole = true then 47 :: T else if T = [] then [46] else T) := by show _ = _; rw [hcl.out, hT]; rfl
          clear hT hlt
          cases whole with
          | true =>
            rw [if_pos rfl] at hren
            clear t0 t3
            go_wp2_with fail
            go_ret
            exact Ret.mk (ret_str (by rw [hren.out])) hE9
          | false =>
            rw [if_neg (by decide)] at hren
            by_cases hTn : T = []
            · rw [if_pos hTn] at hren
              rw [show (T == []) = true from by rw [hTn]; rfl] at t3 t0
              clear hTn
              go_wp2_with fail
              go_ret
              exact Ret.mk (ret_str (by rw [hren.out]; rfl)) hE9
            · rw [if_neg hTn] at hren
              rw [show (T == []) = false from beq_eq_false_iff_ne.2 hTn] at t3 t0
              clear hTn
              go_wp2_with fail
              go_ret
              exact Ret.mk (ret_str (by rw [hren.out])) hE9
set_option maxRecDepth 100000 in
set_option maxHeartbeats 4000000 in
theorem rclean_nil (w : World) : Calls Tryd.prog 35 #[.string (bs [])] w (Ret w (.string (bs (cleanN [])))) := by
  have hc : Hid (bs (cleanN []) = ⟨#[46]⟩) := by show _ = _; rw [show cleanN [] = [46] by decide]; rfl
  have z0 : (bs []).size = 0 := rfl
  go_enter Tryd.func35, Tryd.ntmps35
  go_wp2_with fail
  refine (rparts_any [] _ (by decide)).mono ?_
  rintro e w1 ⟨v, rfl, hv, hE1⟩
  rw [parts_nil] at hv
  obtain ⟨A, cap0, rfl, hle0, hcm0, hat, hAn0⟩ := hv.at_
  clear hv hAn0 hat
  go_wp2_with fail
  go_loopw [4, 6] (fun u i wr => u = .slice none 0 0 ∧ i = .int .i64 0 ∧ wr = w1) (fun _ _ _ => 0)
  case atStart => exact ⟨rfl, rfl, rfl⟩
  case round =>
    obtain ⟨rfl, rfl, rfl⟩ := hrel
    go_wp2_with fail
    go_loopw [7, 8] (fun u i wr => u = .string ⟨#[]⟩ ∧ i = .int .i64 0 ∧ Ext w wr) (fun _ _ _ => 0)
    case atStart => exact ⟨rfl, rfl, hE1⟩
    case round =>
      obtain ⟨rfl, rfl, hE2⟩ := hrel
      go_wp2_with fail
      go_ret
      exact Ret.mk (by rw [hc.out]; rfl) hE2
theorem rclean_any (l : List UInt8) (w : World) (hlen : l.length ≤ 100000) : Calls Tryd.prog 35 #[.string (bs l)] w (Ret w (.string (bs (cleanN l)))) := by
  by_cases h : l = []
  · subst h; exact rclean_nil w
  · exact rclean_some l h w hlen
end Go.Proofs.YtmppjbimdonfmaaDoor
