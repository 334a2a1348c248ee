/- Layer 8 (tilde): the chapter's examples; the walk of the law TildeTells. -/
import Derived.Test.YtegiknfnhgjhfaaTilM
namespace Go.Proofs.Ytegiknfnhgjhfaa
open Go.ChangeShapes Go.WideShapes Go.ChangeAt Go.RowKit

theorem dec_2 : decI 2 = [50] := by kernel_rfl
theorem dec_3 : decI 3 = [51] := by kernel_rfl
theorem ix_1 : indexI [97] [97] = 0 := indexI_short (by decide)
theorem ix_2 : indexI [97] [97, 46, 126, 50, 126] = 2 := by
  refine (indexI_yes (m := [50]) (by decide) rfl).trans ?_
  exact idxV_yes (by decide) (by decide) dec_2
theorem ix_3 : indexI [97] [97, 46, 126, 120, 126] = 0 := by
  refine (indexI_yes (m := [120]) (by decide) rfl).trans ?_
  exact idxV_no fun n a1 a2 h => pos_no (by decide) (.inl (by decide)) n ⟨by omega, by omega⟩ h
theorem ix_4 : indexI [97] [97, 46, 126, 48, 50, 126] = 0 := by
  refine (indexI_yes (m := [48, 50]) (by decide) rfl).trans ?_
  exact idxV_no fun n a1 a2 h => pos_no (by decide) (.inr (fun h => h (by decide) rfl)) n ⟨by omega, by omega⟩ h
def ex8 : List ByteArray := [⟨#[97]⟩, ⟨#[97, 46, 126, 50, 126]⟩, ⟨#[97, 46, 126, 120, 126]⟩]
theorem most_8 : mostI [97] ex8 = 2 := by
  show max (max (max 0 (indexI [97] [97])) (indexI [97] [97, 46, 126, 50, 126])) (indexI [97] [97, 46, 126, 120, 126]) = 2
  rw [ix_1, ix_2, ix_3]; decide
theorem checkN_97 : checkN [97] = 0 := by decide
theorem ex8_1 : tilV [97] (mostI [97] ex8 + 1) = .tuple #[.string ⟨#[97, 46, 126, 51, 126]⟩, .int .i64 0] := by
  rw [most_8]
  have e : tilL [97] 3 = [97, 46, 126, 51, 126] := by unfold tilL; rw [dec_3]; rfl
  have h : tilE [97] 3 = 0 := by
    unfold tilE
    rw [if_pos checkN_97, if_neg (by decide), e, if_neg (by decide)]
  show tilV [97] 3 = _
  rw [tilV_ok h, e]; rfl
theorem ex8_2 : tilV [97] 0 = .tuple #[.string ⟨#[]⟩, .int .i64 3] := tilV_bad (by unfold tilE; rw [if_pos checkN_97, if_pos (by decide)]) (by decide)
theorem ex8_3 : indexI [97] (⟨#[97, 46, 126, 48, 50, 126]⟩ : ByteArray).data.toList = 0 := ix_4
set_option maxRecDepth 100000 in
set_option maxHeartbeats 4000000 in
theorem awake8 (w : World) : Calls Try.prog 31 #[] w (Ret w (.bool true)) := by
  go_enter Try.func31, Try.ntmps31
  go_wp2_with fail
  refine (pnext_row [97] ex8 _ (by decide) (by decide) (by decide) _ ?_).mono ?_
  · refine TextRow.some w.heap.size 0 3 (by simp) ?_
    intro i hi
    match i, hi with
    | 0, _ => simp [ex8]
    | 1, _ => simp [ex8]
    | 2, _ => simp [ex8]
  rintro e w1 ⟨rfl, b1⟩
  rw [ex8_1]
  go_wp2_with fail
  refine (pname_any [97] 0 (by decide) ⟨by decide, by decide⟩ _).mono ?_
  rintro e w2 ⟨rfl, b2⟩
  rw [ex8_2]
  go_wp2_with fail
  refine (pindex_any [97] _ (by decide) (by decide) _).mono ?_
  rintro e w3 ⟨rfl, b3⟩
  rw [ex8_3]
  go_wp2_with fail
  refine (pmost_nil [97] _).mono ?_
  rintro e w4 ⟨rfl, b4⟩
  go_wp2_with fail
  go_ret
  exact Ret.mk rfl ((((Ext.refl _).alloc _).trans b1).trans (b2.trans (b3.trans b4)))

theorem checkN_cases (l : List UInt8) : checkN l = 0 ∨ checkN l = 1 ∨ checkN l = 13 := by
  unfold checkN
  split
  · exact .inr (.inl rfl)
  · split
    · exact .inr (.inr rfl)
    · exact .inl rfl
theorem checkN_ne {l : List UInt8} (h : checkN l = 0) : l ≠ [] := by
  rintro rfl; revert h; decide
theorem index_name {l : List UInt8} {n : Int} (h : l ≠ []) (h1 : ¬ n < 1) (h2 : ¬ 999999999 < n) : indexI l (tilL l n) = n := by
  refine (indexI_yes (m := decI n) h rfl).trans ?_
  exact idxV_yes (by omega) (by omega) rfl
set_option maxRecDepth 100000 in
set_option maxHeartbeats 4000000 in
theorem tildeTells_core (l : List UInt8) (s : ByteArray) (n : Int) (hn : I64 n) (w : World) : Calls Try.prog 8 #[.string (bs l), .string s, .int .i64 n] w (Ret w (.bool true)) := by
  have z0 : (bs l).size = l.length := bs_size _
  by_cases hls : l.length ≤ 300 ∧ s.size ≤ 300
  · obtain ⟨hl3, hs3⟩ := hls
    have hl : l.length ≤ 1000000 := by omega
    have hs : s.size ≤ 1000000 := by omega
    have g1 : ¬ ((300 : Int) < (l.length : Int)) := by omega
    have g2 : ¬ ((300 : Int) < (s.size : Int)) := by omega
    have h64 := Lib.hid hn
    have HZ : Hid ((bs l).size ≤ 1000000) := by show _ ≤ _; omega
    obtain ⟨y, hy⟩ : ∃ y, y = indexI l s.data.toList := ⟨_, rfl⟩
    have HY := Lib.hid hy
    have hd := decI_len n
    have hlen : (tilL l n).length = l.length + 2 + (decI n).length + 1 := by unfold tilL; simp; omega
    have hV0 : tilL l n = l ++ [46, 126] ++ decI n ++ [126] := by unfold tilL; simp
    obtain ⟨A, hA⟩ : ∃ A, A = l ++ [46, 126] := ⟨_, rfl⟩
    obtain ⟨D, hD⟩ : ∃ D, D = decI n := ⟨_, rfl⟩
    obtain ⟨B, hB⟩ : ∃ B, B = A ++ D := ⟨_, rfl⟩
    obtain ⟨T, hT⟩ : ∃ T, T = tilL l n := ⟨_, rfl⟩
    have hE : checkN l = 0 → ¬ n < 1 → ¬ 999999999 < n → tilE l n = if 255 < T.length then 13 else 0 := fun h0 h1 h2 => by unfold tilE; rw [if_pos h0, if_neg (by omega), hT]
    rw [← hD] at hd hlen
    have a1 : bs l ++ ⟨#[46, 126]⟩ = bs A := by rw [hA]; exact bs_append l [46, 126]
    have a2 : bs A ++ bs D = bs B := by rw [hB]; exact bs_append A D
    have a3 : bs B ++ ⟨#[126]⟩ = bs T := by rw [hT, hV0, hB, hA, hD]; exact bs_append _ [126]
    have zA : (bs A).size = l.length + 2 := by rw [bs_size, hA]; simp
    have zD : (bs D).size = D.length := bs_size _
    have zB : (bs B).size = l.length + 2 + D.length := by rw [bs_size, hB, hA]; simp; omega
    rw [← hT] at hlen
    have zT : (bs T).size = l.length + 2 + D.length + 1 := by rw [bs_size, hlen]
    have HTs : Hid ((bs T).size ≤ 1000000) := by show _ ≤ _; omega
    rw [hlen] at hE
    have HE := Lib.hid hE
    have HD := Lib.hid hD
    have HT := Lib.hid hT
    clear hy hA hD hB hT hV0 hlen hE hn
    rcases checkN_cases l with h0 | h0 | h0
    · have hc : Hid (checkN (bs l).data.toList = 0) := by show _ = _; rw [bs_list]; exact h0
      by_cases h1 : n < 1
      · have hv := Lib.hid (tilV_bad (base := l) (n := n) (c := 3) (by unfold tilE; rw [if_pos h0, if_pos (.inl h1)]) (by decide))
        clear h0
        go_enter Try.func8, Try.ntmps8
        go_wp2_with fail
        refine (pname_any l n hl h64.out _).mono ?_
        rintro e w1 ⟨rfl, b1⟩
        rw [hv.out]
        go_wp2_with fail
        refine (rdec_any _ _ h64.out).mono ?_
        rintro e w2 ⟨rfl, b2⟩
        rw [← HD.out]
        go_wp2_with fail
        refine (rcheck_any _ HZ.out _).mono ?_
        rintro e w3 ⟨rfl, b3⟩
        rw [hc.out]
        go_wp2_with fail
        refine (pindex_any l s hl hs _).mono ?_
        rintro e w4 ⟨rfl, b4⟩
        rw [← HY.out]
        go_wp2_with fail
        refine (rindex_any l s hl hs _).mono ?_
        rintro e w5 ⟨rfl, b5⟩
        rw [← HY.out]
        go_wp2_with fail
        refine (awake8 _).mono ?_
        rintro e w7 ⟨rfl, b7⟩
        go_wp2_with fail
        go_ret
        exact Ret.mk rfl ((((b1.trans b2).trans b3).trans (b4.trans b5)).trans b7)
      · by_cases h2 : 999999999 < n
        · have hv := Lib.hid (tilV_bad (base := l) (n := n) (c := 3) (by unfold tilE; rw [if_pos h0, if_pos (.inr h2)]) (by decide))
          clear h0
          go_enter Try.func8, Try.ntmps8
          go_wp2_with fail
          refine (pname_any l n hl h64.out _).mono ?_
          rintro e w1 ⟨rfl, b1⟩
          rw [hv.out]
          go_wp2_with fail
          refine (rdec_any _ _ h64.out).mono ?_
          rintro e w2 ⟨rfl, b2⟩
          rw [← HD.out]
          go_wp2_with fail
          refine (rcheck_any _ HZ.out _).mono ?_
          rintro e w3 ⟨rfl, b3⟩
          rw [hc.out]
          go_wp2_with fail
          refine (pindex_any l s hl hs _).mono ?_
          rintro e w4 ⟨rfl, b4⟩
          rw [← HY.out]
          go_wp2_with fail
          refine (rindex_any l s hl hs _).mono ?_
          rintro e w5 ⟨rfl, b5⟩
          rw [← HY.out]
          go_wp2_with fail
          refine (awake8 _).mono ?_
          rintro e w7 ⟨rfl, b7⟩
          go_wp2_with fail
          go_ret
          exact Ret.mk rfl ((((b1.trans b2).trans b3).trans (b4.trans b5)).trans b7)
        · by_cases h3 : 255 < l.length + 2 + D.length + 1
          · have hv := Lib.hid (tilV_bad (base := l) (n := n) (c := 13) (by rw [HE.out h0 h1 h2, if_pos h3]) (by decide))
            clear h0
            go_enter Try.func8, Try.ntmps8
            go_wp2_with fail
            refine (pname_any l n hl h64.out _).mono ?_
            rintro e w1 ⟨rfl, b1⟩
            rw [hv.out]
            go_wp2_with fail
            refine (rdec_any _ _ h64.out).mono ?_
            rintro e w2 ⟨rfl, b2⟩
            rw [← HD.out]
            go_wp2_with fail
            refine (rcheck_any _ HZ.out _).mono ?_
            rintro e w3 ⟨rfl, b3⟩
            rw [hc.out]
            go_wp2_with fail
            refine (pindex_any l s hl hs _).mono ?_
            rintro e w4 ⟨rfl, b4⟩
            rw [← HY.out]
            go_wp2_with fail
            refine (rindex_any l s hl hs _).mono ?_
            rintro e w5 ⟨rfl, b5⟩
            rw [← HY.out]
            go_wp2_with fail
            refine (awake8 _).mono ?_
            rintro e w7 ⟨rfl, b7⟩
            go_wp2_with fail
            go_ret
            exact Ret.mk rfl ((((b1.trans b2).trans b3).trans (b4.trans b5)).trans b7)
          · have hv := tilV_ok (base := l) (n := n) (by rw [HE.out h0 h1 h2, if_neg h3])
            have hi := index_name (checkN_ne h0) h1 h2
            rw [← HT.out] at hv hi
            have hv := Lib.hid hv
            have hix : Hid (indexI l (bs T).data.toList = n) := by show _ = _; rw [bs_list]; exact hi
            clear h0 hi
            go_enter Try.func8, Try.ntmps8
            go_wp2_with fail
            refine (pname_any l n hl h64.out _).mono ?_
            rintro e w1 ⟨rfl, b1⟩
            rw [hv.out]
            go_wp2_with fail
            refine (rdec_any _ _ h64.out).mono ?_
            rintro e w2 ⟨rfl, b2⟩
            rw [← HD.out]
            go_wp2_with fail
            refine (rcheck_any _ HZ.out _).mono ?_
            rintro e w3 ⟨rfl, b3⟩
            rw [hc.out]
            go_wp2_with fail
            refine (pindex_any l s hl hs _).mono ?_
            rintro e w4 ⟨rfl, b4⟩
            rw [← HY.out]
            go_wp2_with fail
            refine (rindex_any l s hl hs _).mono ?_
            rintro e w5 ⟨rfl, b5⟩
            rw [← HY.out]
            go_wp2_with fail
            refine (pindex_any l (bs T) hl HTs.out _).mono ?_
            rintro e w6 ⟨rfl, b6⟩
            rw [hix.out]
            go_wp2_with fail
            refine (awake8 _).mono ?_
            rintro e w7 ⟨rfl, b7⟩
            go_wp2_with fail
            go_ret
            exact Ret.mk rfl ((((b1.trans b2).trans b3).trans (b4.trans b5)).trans (b6.trans b7))
    · have hc : Hid (checkN (bs l).data.toList = 1) := by show _ = _; rw [bs_list]; exact h0
      have hv := Lib.hid (tilV_bad (base := l) (n := n) (c := 1) (by unfold tilE; rw [if_neg (by rw [h0]; decide), h0]) (by decide))
      clear h0
      go_enter Try.func8, Try.ntmps8
      go_wp2_with fail
      refine (pname_any l n hl h64.out _).mono ?_
      rintro e w1 ⟨rfl, b1⟩
      rw [hv.out]
      go_wp2_with fail
      refine (rdec_any _ _ h64.out).mono ?_
      rintro e w2 ⟨rfl, b2⟩
      rw [← HD.out]
      go_wp2_with fail
      refine (rcheck_any _ HZ.out _).mono ?_
      rintro e w3 ⟨rfl, b3⟩
      rw [hc.out]
      go_wp2_with fail
      refine (pindex_any l s hl hs _).mono ?_
      rintro e w4 ⟨rfl, b4⟩
      rw [← HY.out]
      go_wp2_with fail
      refine (rindex_any l s hl hs _).mono ?_
      rintro e w5 ⟨rfl, b5⟩
      rw [← HY.out]
      go_wp2_with fail
      refine (awake8 _).mono ?_
      rintro e w7 ⟨rfl, b7⟩
      go_wp2_with fail
      go_ret
      exact Ret.mk rfl ((((b1.trans b2).trans b3).trans (b4.trans b5)).trans b7)
    · have hc : Hid (checkN (bs l).data.toList = 13) := by show _ = _; rw [bs_list]; exact h0
      have hv := Lib.hid (tilV_bad (base := l) (n := n) (c := 13) (by unfold tilE; rw [if_neg (by rw [h0]; decide), h0]) (by decide))
      clear h0
      go_enter Try.func8, Try.ntmps8
      go_wp2_with fail
      refine (pname_any l n hl h64.out _).mono ?_
      rintro e w1 ⟨rfl, b1⟩
      rw [hv.out]
      go_wp2_with fail
      refine (rdec_any _ _ h64.out).mono ?_
      rintro e w2 ⟨rfl, b2⟩
      rw [← HD.out]
      go_wp2_with fail
      refine (rcheck_any _ HZ.out _).mono ?_
      rintro e w3 ⟨rfl, b3⟩
      rw [hc.out]
      go_wp2_with fail
      refine (pindex_any l s hl hs _).mono ?_
      rintro e w4 ⟨rfl, b4⟩
      rw [← HY.out]
      go_wp2_with fail
      refine (rindex_any l s hl hs _).mono ?_
      rintro e w5 ⟨rfl, b5⟩
      rw [← HY.out]
      go_wp2_with fail
      refine (awake8 _).mono ?_
      rintro e w7 ⟨rfl, b7⟩
      go_wp2_with fail
      go_ret
      exact Ret.mk rfl ((((b1.trans b2).trans b3).trans (b4.trans b5)).trans b7)
  · have g : (300 : Int) < (l.length : Int) ∨ (¬ (300 : Int) < (l.length : Int) ∧ (300 : Int) < (s.size : Int)) := by omega
    clear hls
    rcases g with g | ⟨g, g2⟩
    all_goals
      go_enter Try.func8, Try.ntmps8
      go_wp2_with fail
      refine (awake8 _).mono ?_
      rintro e w7 ⟨rfl, b7⟩
      go_wp2_with fail
      go_ret
      exact Ret.mk rfl b7
theorem tildeTells_walk {H : Type} {enc : TypeId × Value → H} (W : World) (base : Nat) (v0 v1 v2 : Value) (d0 d1 d2 : DataW H) (p0 p1 p2 : List MemPlace)
    (k0 : Value.okWide Try.prog W .any base 9 v0) (h0 : DataW.Trod enc Try.prog W 0 (fun _ => true) true 9 v0 d0 p0)
    (k1 : Value.okWide Try.prog W .any base 9 v1) (h1 : DataW.Trod enc Try.prog W 0 (fun _ => true) true 9 v1 d1 p1)
    (k2 : Value.okWide Try.prog W .any base 3 v2) (h2 : DataW.Trod enc Try.prog W 0 (fun _ => true) true 3 v2 d2 p2)
    : Calls Try.prog 8 #[v0, v1, v2] W (Ret W (.bool true)) := by
  obtain ⟨a0, rfl, rfl, rfl, w0⟩ := Go.ChangeMaps.open_string Try.underlying9 k0 h0
  obtain ⟨a1, rfl, rfl, rfl, w1⟩ := Go.ChangeMaps.open_string Try.underlying9 k1 h1
  obtain ⟨a2, rfl, rfl, rfl, w2⟩ := open_int Try.underlying3 k2 h2
  have hb := bounds_i64 w2
  have := tildeTells_core a0.data.toList a1 a2 ⟨by omega, by omega⟩ W
  rw [bs_self] at this
  exact this
end Go.Proofs.Ytegiknfnhgjhfaa
