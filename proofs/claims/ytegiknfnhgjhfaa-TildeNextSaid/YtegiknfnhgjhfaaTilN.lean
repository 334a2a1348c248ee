/- Layers 2 and 8 (name, tilde): Check of the program; Name of a backup. -/
import Derived.Test.YtegiknfnhgjhfaaTilP
import Derived.Test.YtegiknfnhgjhfaaNumS
import Derived.Lib.IndexAny
namespace Go.Proofs.Ytegiknfnhgjhfaa
open Go.ChangeShapes Go.WideShapes Go.ChangeAt Go.RowKit

theorem hasB_index (l : List UInt8) (c : UInt8) : decide (0 ≤ Lib.indexByte l c) = hasB l c := by
  rw [← Lib.contains_iff_indexByte, Bool.eq_iff_iff]
  simp [hasB]
set_option maxRecDepth 100000 in
set_option maxHeartbeats 2000000 in
theorem pcheck_any (s : ByteArray) (w : World) : Calls Try.prog 58 #[.string s] w (Ret w (.int .i64 (checkN s.data.toList))) := by
  by_cases h0 : s.data.toList = []
  · have hf : Hid (checkN s.data.toList = 1) := by show _ = _; unfold checkN; rw [if_pos (.inl h0)]
    have e : s.toList = [] := by rw [ByteArray.toList_eq]; exact h0
    clear h0
    go_enter Try.func58, Try.ntmps58
    go_wp2_with fail
    go_ret
    exact Ret.mk (ret_int (by rw [hf.out])) (Ext.refl _)
  · by_cases h1 : s.data.toList = [46]
    · have hf : Hid (checkN s.data.toList = 1) := by show _ = _; unfold checkN; rw [if_pos (.inr (.inl h1))]
      have e : s.toList = [46] := by rw [ByteArray.toList_eq]; exact h1
      clear h0 h1
      go_enter Try.func58, Try.ntmps58
      go_wp2_with fail
      go_ret
      exact Ret.mk (ret_int (by rw [hf.out])) (Ext.refl _)
    · by_cases h2 : s.data.toList = [46, 46]
      · have hf : Hid (checkN s.data.toList = 1) := by show _ = _; unfold checkN; rw [if_pos (.inr (.inr (.inl h2)))]
        have e : s.toList = [46, 46] := by rw [ByteArray.toList_eq]; exact h2
        clear h0 h1 h2
        go_enter Try.func58, Try.ntmps58
        go_wp2_with fail
        go_ret
        exact Ret.mk (ret_int (by rw [hf.out])) (Ext.refl _)
      · have hk := checkN_no h0 h1 h2
        have e0 : s.toList.isEmpty = false := by rw [ByteArray.toList_eq, List.isEmpty_eq_false_iff]; exact h0
        have e1 : (s.toList == [46]) = false := by rw [ByteArray.toList_eq]; exact beq_eq_false_iff_ne.2 h1
        have e2 : (s.toList == [46, 46]) = false := by rw [ByteArray.toList_eq]; exact beq_eq_false_iff_ne.2 h2
        clear h0 h1 h2
        have hsz : s.data.toList.length = s.size := by simp
        rw [hsz] at hk
        have hx : ∀ c, Hid (decide (0 ≤ Lib.indexByte s.data.toList c) = hasB s.data.toList c) := fun c => hasB_index _ c
        cases hb : hasB s.data.toList 47 with
        | true =>
          have hf : Hid (checkN s.data.toList = 1) := by show _ = _; rw [hk, if_pos (.inl hb)]
          have HB := Lib.hid hb
          clear hk hb hsz
          go_enter Try.func58, Try.ntmps58
          go_wp2_with fail
          refine (Try.strings_Contains_one _ 47 _).mono ?_
          rintro e w1 ⟨rfl, rfl⟩
          rw [(hx 47).out, HB.out]
          go_wp2_with fail
          go_ret
          exact Ret.mk (ret_int (by rw [hf.out])) (Ext.refl _)
        | false =>
          cases hc : hasB s.data.toList 0 with
          | true =>
            have hf : Hid (checkN s.data.toList = 1) := by show _ = _; rw [hk, if_pos (.inr hc)]
            have HB := Lib.hid hb
            have HC := Lib.hid hc
            clear hk hb hc hsz
            go_enter Try.func58, Try.ntmps58
            go_wp2_with fail
            refine (Try.strings_Contains_one _ 47 _).mono ?_
            rintro e w1 ⟨rfl, rfl⟩
            rw [(hx 47).out, HB.out]
            go_wp2_with fail
            refine (Try.strings_Contains_one _ 0 _).mono ?_
            rintro e w1 ⟨rfl, rfl⟩
            rw [(hx 0).out, HC.out]
            go_wp2_with fail
            go_ret
            exact Ret.mk (ret_int (by rw [hf.out])) (Ext.refl _)
          | false =>
            have hf : Hid (checkN s.data.toList = if 255 < s.size then 13 else 0) := by show _ = _; rw [hk, if_neg (by rw [hb, hc]; simp)]
            have HB := Lib.hid hb
            have HC := Lib.hid hc
            clear hk hb hc hsz
            by_cases h : 255 < s.size
            · rw [if_pos h] at hf
              go_enter Try.func58, Try.ntmps58
              go_wp2_with fail
              refine (Try.strings_Contains_one _ 47 _).mono ?_
              rintro e w1 ⟨rfl, rfl⟩
              rw [(hx 47).out, HB.out]
              go_wp2_with fail
              refine (Try.strings_Contains_one _ 0 _).mono ?_
              rintro e w1 ⟨rfl, rfl⟩
              rw [(hx 0).out, HC.out]
              go_wp2_with fail
              go_ret
              exact Ret.mk (ret_int (by rw [hf.out])) (Ext.refl _)
            · rw [if_neg h] at hf
              go_enter Try.func58, Try.ntmps58
              go_wp2_with fail
              refine (Try.strings_Contains_one _ 47 _).mono ?_
              rintro e w1 ⟨rfl, rfl⟩
              rw [(hx 47).out, HB.out]
              go_wp2_with fail
              refine (Try.strings_Contains_one _ 0 _).mono ?_
              rintro e w1 ⟨rfl, rfl⟩
              rw [(hx 0).out, HC.out]
              go_wp2_with fail
              go_ret
              exact Ret.mk (ret_int (by rw [hf.out])) (Ext.refl _)

/-! ### tilde.Name -/
def tilL (base : List UInt8) (n : Int) : List UInt8 := base ++ ([46, 126] ++ (decI n ++ [126]))
def tilE (base : List UInt8) (n : Int) : Int := if checkN base = 0 then (if n < 1 ∨ 999999999 < n then 3 else if 255 < (tilL base n).length then 13 else 0) else checkN base
def tilV (base : List UInt8) (n : Int) : Value := .tuple #[.string (bs (if tilE base n = 0 then tilL base n else [])), .int .i64 (tilE base n)]
theorem tilV_bad {base : List UInt8} {n c : Int} (h : tilE base n = c) (h0 : ¬ c = 0) : tilV base n = .tuple #[.string ⟨#[]⟩, .int .i64 c] := by
  unfold tilV; rw [h, if_neg h0]; rfl
theorem tilV_ok {base : List UInt8} {n : Int} (h : tilE base n = 0) : tilV base n = .tuple #[.string (bs (tilL base n)), .int .i64 0] := by
  unfold tilV; rw [h, if_pos rfl]
set_option maxRecDepth 100000 in
set_option maxHeartbeats 2000000 in
theorem pname_any (l : List UInt8) (n : Int) (hl : l.length ≤ 1000000) (hn : I64 n) (w : World) : Calls Try.prog 32 #[.string (bs l), .int .i64 n] w (Ret w (tilV l n)) := by
  have HN := Lib.hid hn
  clear hn
  have hc : Hid (checkN (bs l).data.toList = checkN l) := by show _ = _; rw [bs_list]
  by_cases h0 : checkN l = 0
  · by_cases h1 : n < 1
    · have hf := Lib.hid (tilV_bad (base := l) (n := n) (c := 3) (by unfold tilE; rw [if_pos h0, if_pos (.inl h1)]) (by decide))
      have H0 := Lib.hid h0
      clear h0
      go_enter Try.func32, Try.ntmps32
      go_wp2_with fail
      refine (pcheck_any _ _).mono ?_
      rintro e w1 ⟨rfl, b1⟩
      rw [hc.out, H0.out]
      go_wp2_with fail
      go_ret2
      exact Ret.mk (by rw [hf.out]; rfl) b1
    · by_cases h2 : 999999999 < n
      · have hf := Lib.hid (tilV_bad (base := l) (n := n) (c := 3) (by unfold tilE; rw [if_pos h0, if_pos (.inr h2)]) (by decide))
        have H0 := Lib.hid h0
        clear h0
        go_enter Try.func32, Try.ntmps32
        go_wp2_with fail
        refine (pcheck_any _ _).mono ?_
        rintro e w1 ⟨rfl, b1⟩
        rw [hc.out, H0.out]
        go_wp2_with fail
        go_ret2
        exact Ret.mk (by rw [hf.out]; rfl) b1
      · have hE : tilE l n = if 255 < (tilL l n).length then 13 else 0 := by unfold tilE; rw [if_pos h0, if_neg (by omega)]
        have hV0 : tilL l n = l ++ [46, 126] ++ decI n ++ [126] := by unfold tilL; simp
        have H0 := Lib.hid h0
        have hd := decI_len n
        have hlen : (tilL l n).length = l.length + 2 + (decI n).length + 1 := by unfold tilL; simp; omega
        obtain ⟨A, hA⟩ : ∃ A, A = l ++ [46, 126] := ⟨_, rfl⟩
        obtain ⟨D, hD⟩ : ∃ D, D = decI n := ⟨_, rfl⟩
        obtain ⟨B, hB⟩ : ∃ B, B = A ++ D := ⟨_, rfl⟩
        obtain ⟨T, hT⟩ : ∃ T, T = tilL l n := ⟨_, rfl⟩
        rw [← hD] at hd hlen
        have a1 : bs l ++ ⟨#[46, 126]⟩ = bs A := by rw [hA]; exact bs_append l [46, 126]
        have a2 : bs A ++ bs D = bs B := by rw [hB]; exact bs_append A D
        have a3 : bs B ++ ⟨#[126]⟩ = bs T := by rw [hT, hV0, hB, hA, hD]; exact bs_append _ [126]
        have z0 : (bs l).size = l.length := bs_size _
        have zA : (bs A).size = l.length + 2 := by rw [bs_size, hA]; simp
        have zD : (bs D).size = D.length := bs_size _
        have zB : (bs B).size = l.length + 2 + D.length := by rw [bs_size, hB, hA]; simp; omega
        have zT : (bs T).size = l.length + 2 + D.length + 1 := by rw [bs_size, hT, hlen]
        rw [hlen] at hE
        have HD := Lib.hid hD
        have HT := Lib.hid hT
        have HE := Lib.hid hE
        clear hA hD hB hT hV0 hlen hE h0
        by_cases h3 : 255 < l.length + 2 + D.length + 1
        · have hf := Lib.hid (tilV_bad (base := l) (n := n) (c := 13) (by rw [HE.out, if_pos h3]) (by decide))
          go_enter Try.func32, Try.ntmps32
          go_wp2_with fail
          refine (pcheck_any _ _).mono ?_
          rintro e w1 ⟨rfl, b1⟩
          rw [hc.out, H0.out]
          go_wp2_with fail
          refine (pdec_any _ _ HN.out).mono ?_
          rintro e w2 ⟨rfl, b2⟩
          rw [← HD.out]
          go_wp2_with fail
          go_ret2
          exact Ret.mk (by rw [hf.out]; rfl) (b1.trans b2)
        · have hf := Lib.hid (tilV_ok (base := l) (n := n) (by rw [HE.out, if_neg h3]))
          go_enter Try.func32, Try.ntmps32
          go_wp2_with fail
          refine (pcheck_any _ _).mono ?_
          rintro e w1 ⟨rfl, b1⟩
          rw [hc.out, H0.out]
          go_wp2_with fail
          refine (pdec_any _ _ HN.out).mono ?_
          rintro e w2 ⟨rfl, b2⟩
          rw [← HD.out]
          go_wp2_with fail
          go_ret2
          exact Ret.mk (by rw [hf.out, ← HT.out]; rfl) (b1.trans b2)
  · have hf := Lib.hid (tilV_bad (base := l) (n := n) (c := checkN l) (by unfold tilE; rw [if_neg h0]) h0)
    have h0' : (checkN l == 0) = false := beq_eq_false_iff_ne.2 h0
    obtain ⟨C, hC⟩ : ∃ C, C = checkN l := ⟨_, rfl⟩
    rw [← hC] at hc hf h0'
    clear h0 hC
    go_enter Try.func32, Try.ntmps32
    go_wp2_with fail
    refine (pcheck_any _ _).mono ?_
    rintro e w1 ⟨rfl, b1⟩
    rw [hc.out]
    go_wp2_with fail
    go_ret2
    exact Ret.mk (by rw [hf.out]; rfl) b1
end Go.Proofs.Ytegiknfnhgjhfaa
