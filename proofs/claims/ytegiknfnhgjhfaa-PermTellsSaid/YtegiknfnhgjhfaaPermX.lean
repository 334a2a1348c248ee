/- Layer 10: the reference's Text. -/
import Derived.Test.YtegiknfnhgjhfaaPermS
namespace Go.Proofs.Ytegiknfnhgjhfaa
open Go.ChangeShapes Go.WideShapes Go.ChangeAt Go.RowKit

def refLetter (kind mode : Int) (j : Nat) : Int := if j = 9 ∧ bitOn mode 9 = true then (if bitOn mode 0 = true then 116 else 84) else letterAt kind mode 9 j
def refLetters (kind mode : Int) (k : Nat) : List Int := (List.range (k + 1)).map (refLetter kind mode)
theorem refLetters_9 (kind mode : Int) : refLetters kind mode 9 = lettersOf kind mode := by
  unfold refLetters lettersOf
  by_cases h : bitOn mode 9 = true
  · rw [if_pos h]; simp [lettersAt, refLetter, h, List.range, List.range.loop]
  · rw [if_neg h]; simp [lettersAt, refLetter, h]
theorem refLetters_len (kind mode : Int) (k : Nat) : (refLetters kind mode k).length = k + 1 := by simp [refLetters]
theorem refLetters_succ (kind mode : Int) (k : Nat) : refLetters kind mode (k + 1) = refLetters kind mode k ++ [refLetter kind mode (k + 1)] := by simp [refLetters, List.range_succ]
theorem strOfNums_append (a b : List Int) : strOfNums a ++ strOfNums b = strOfNums (a ++ b) := by
  unfold strOfNums; rw [ByteArray.mk_append_mk, List.map_append]
theorem ref_cat (kind mode : Int) (k : Nat) (x : Int) (h : refLetter kind mode (k + 1) = x) : strOfNums (refLetters kind mode k) ++ strOfNums [x] = strOfNums (refLetters kind mode (k + 1)) := by
  rw [strOfNums_append, refLetters_succ, h]
theorem rwx_ext (k : Nat) (h : k < 9) : (⟨#[114, 119, 120, 114, 119, 120, 114, 119, 120]⟩ : ByteArray).extract k (k + 1) = strOfNums [rwx k] := by
  have : ∀ k : Fin 9, (⟨#[114, 119, 120, 114, 119, 120, 114, 119, 120]⟩ : ByteArray).extract k.val (k.val + 1) = strOfNums [rwx k.val] := by decide +kernel
  exact this ⟨k, h⟩
theorem refLetter_off (kind mode : Int) (k : Nat) (hk : k < 9) (h8 : ¬ (k = 8 ∧ bitOn mode 9 = true)) (h : bitOn mode (8 - k) = false) : refLetter kind mode (k + 1) = 45 := by
  unfold refLetter
  rw [if_neg (fun hh => h8 ⟨by omega, hh.2⟩)]
  unfold letterAt
  rw [if_neg (by omega), if_neg]
  rw [show 9 - (k + 1) = 8 - k from by omega, h]; simp
theorem refLetter_on (kind mode : Int) (k : Nat) (hk : k < 9) (h8 : ¬ (k = 8 ∧ bitOn mode 9 = true)) (h : bitOn mode (8 - k) = true) : refLetter kind mode (k + 1) = rwx k := by
  unfold refLetter
  rw [if_neg (fun hh => h8 ⟨by omega, hh.2⟩)]
  unfold letterAt
  rw [if_neg (by omega), if_pos ⟨by omega, by rw [show 9 - (k + 1) = 8 - k from by omega]; exact h⟩]; rfl
theorem refLetter_T (kind mode : Int) (h : bitOn mode 9 = true) : refLetter kind mode 9 = if bitOn mode 0 = true then 116 else 84 := by unfold refLetter; rw [if_pos ⟨rfl, h⟩]

set_option maxRecDepth 100000 in
set_option maxHeartbeats 4000000 in
theorem rtext_any (kind mode : Int) (w : World) :
    Calls Try.prog 24 #[.int .i64 kind, .int .i64 mode] w (Ret w (.string (strOfNums (lettersOf kind mode)))) := by
  by_cases h1 : kind = 1
  · have hstart : Hid (refLetters kind mode 0 = [100]) := by show _ = _; simp [refLetters, refLetter, letterAt, kindLetter, h1]
    have c1 : (kind == 1) = true := beq_iff_eq.2 h1
    have c2 : (kind == 2) = false := beq_eq_false_iff_ne.2 (by omega)
    have c3 : (kind == 3) = false := beq_eq_false_iff_ne.2 (by omega)
    clear h1
    go_enter Try.func24, Try.ntmps24
    go_wp2_with fail
    clear c1 c2 c3
    go_loopw [5, 7] (fun s i wr => ∃ k : Nat, k ≤ 9 ∧ i = .int .i64 k ∧ s = .string (strOfNums (refLetters kind mode k)) ∧ Ext w wr) (fun _ i _ => 9 - (intOf i).toNat)
    case atStart => exact ⟨0, by omega, rfl, by rw [hstart.out]; rfl, Ext.refl _⟩
    case round =>
      obtain ⟨k, hk, rfl, rfl, hx⟩ := hrel
      by_cases hlt : k < 9
      · have hsz : (strOfNums (refLetters kind mode k)).size = k + 1 := by rw [strOfNums_size, refLetters_len]
        have hsl := fun w => slice_str (P := Try.prog) Try.underlying9 ⟨#[114, 119, 120, 114, 119, 120, 114, 119, 120]⟩ (k : Int) ((k : Int) + 1) k (k + 1) rfl (by omega) (by omega) (by show k + 1 ≤ 9; omega) _ (rwx_ext k hlt) w
        have hs1 : (strOfNums [rwx k]).size = 1 := by rw [strOfNums_size]; rfl
        go_wp2_with fail
        refine (rbit_any _ _ _ (by omega) (by omega)).mono ?_
        rintro e w1 ⟨rfl, b1⟩
        rw [show (8 - (k : Int)).toNat = 8 - k from by omega]
        by_cases h8 : k = 8
        · subst h8
          cases hb : bitOn mode (8 - 8) with
          | false =>
            have hb0 : Hid (bitOn mode 0 = false) := hb
            clear hb
            have hext := rwx_ext 8 (by omega)
            go_wp2_with fail
            refine (rbit_any _ _ _ (by omega) (by omega)).mono ?_
            rintro e w2 ⟨rfl, b2⟩
            rw [show (9 : Int).toNat = 9 from rfl]
            cases h9 : bitOn mode 9 with
            | false =>
              have hcat : strOfNums (refLetters kind mode 8) ++ ⟨#[45]⟩ = _ := ref_cat kind mode 8 45 (refLetter_off kind mode 8 (by omega) (by rw [h9]; simp) hb0.out)
              clear h9
              go_wp2_with fail
              go_roundw
              case rel => exact ⟨9, by omega, by go_num, rfl, (hx.trans b1).trans b2⟩
              case measure => simp [intOf]
            | true =>
              have hcat : strOfNums (refLetters kind mode 8) ++ ⟨#[84]⟩ = _ := ref_cat kind mode 8 84 (by rw [refLetter_T kind mode h9, hb0.out]; rfl)
              clear h9
              go_wp2_with fail
              refine (rbit_any _ _ _ (by omega) (by omega)).mono ?_
              rintro e w3 ⟨rfl, b3⟩
              rw [show (0 : Int).toNat = 0 from rfl, hb0.out]
              go_wp2_with fail
              go_roundw
              case rel => exact ⟨9, by omega, by go_num, rfl, ((hx.trans b1).trans b2).trans b3⟩
              case measure => simp [intOf]
          | true =>
            have hb0 : Hid (bitOn mode 0 = true) := hb
            clear hb
            have hext := rwx_ext 8 (by omega)
            go_wp2_with fail
            refine (rbit_any _ _ _ (by omega) (by omega)).mono ?_
            rintro e w2 ⟨rfl, b2⟩
            rw [show (9 : Int).toNat = 9 from rfl]
            cases h9 : bitOn mode 9 with
            | false =>
              have hcat := ref_cat kind mode 8 (rwx 8) (refLetter_on kind mode 8 (by omega) (by rw [h9]; simp) hb0.out)
              clear h9
              go_wp2_with fail
              go_roundw
              case rel => exact ⟨9, by omega, by go_num, rfl, (hx.trans b1).trans b2⟩
              case measure => simp [intOf]
            | true =>
              have hcat : strOfNums (refLetters kind mode 8) ++ ⟨#[116]⟩ = _ := ref_cat kind mode 8 116 (by rw [refLetter_T kind mode h9, hb0.out]; rfl)
              clear h9
              go_wp2_with fail
              refine (rbit_any _ _ _ (by omega) (by omega)).mono ?_
              rintro e w3 ⟨rfl, b3⟩
              rw [show (0 : Int).toNat = 0 from rfl, hb0.out]
              go_wp2_with fail
              go_roundw
              case rel => exact ⟨9, by omega, by go_num, rfl, ((hx.trans b1).trans b2).trans b3⟩
              case measure => simp [intOf]
        · have hk8 : ((k : Int) == 8) = false := beq_eq_false_iff_ne.2 (by omega)
          cases hb : bitOn mode (8 - k) with
          | false =>
            have hcat : strOfNums (refLetters kind mode k) ++ ⟨#[45]⟩ = _ := ref_cat kind mode k 45 (refLetter_off kind mode k hlt (fun hh => h8 hh.1) hb)
            clear hb h8
            go_wp2_with fail
            go_roundw
            case rel => exact ⟨k + 1, by omega, by go_num, rfl, hx.trans b1⟩
            case measure => simp [intOf]; omega
          | true =>
            have hcat := ref_cat kind mode k (rwx k) (refLetter_on kind mode k hlt (fun hh => h8 hh.1) hb)
            clear hb h8
            go_wp2_with fail
            go_roundw
            case rel => exact ⟨k + 1, by omega, by go_num, rfl, hx.trans b1⟩
            case measure => simp [intOf]; omega
      · obtain rfl : k = 9 := by omega
        have hfin := Lib.hid (refLetters_9 kind mode)
        go_wp2_with fail
        go_ret
        exact Ret.mk (by rw [← hfin.out]; rfl) hx
  · have c1 : (kind == 1) = false := beq_eq_false_iff_ne.2 h1
    by_cases h2 : kind = 2
    · have hstart : Hid (refLetters kind mode 0 = [45]) := by show _ = _; simp [refLetters, refLetter, letterAt, kindLetter, h2]
      have c2 : (kind == 2) = true := beq_iff_eq.2 h2
      have c3 : (kind == 3) = false := beq_eq_false_iff_ne.2 (by omega)
      clear h1 h2
      go_enter Try.func24, Try.ntmps24
      go_wp2_with fail
      clear c1 c2 c3
      go_loopw [5, 7] (fun s i wr => ∃ k : Nat, k ≤ 9 ∧ i = .int .i64 k ∧ s = .string (strOfNums (refLetters kind mode k)) ∧ Ext w wr) (fun _ i _ => 9 - (intOf i).toNat)
      case atStart => exact ⟨0, by omega, rfl, by rw [hstart.out]; rfl, Ext.refl _⟩
      case round =>
        obtain ⟨k, hk, rfl, rfl, hx⟩ := hrel
        by_cases hlt : k < 9
        · have hsz : (strOfNums (refLetters kind mode k)).size = k + 1 := by rw [strOfNums_size, refLetters_len]
          have hsl := fun w => slice_str (P := Try.prog) Try.underlying9 ⟨#[114, 119, 120, 114, 119, 120, 114, 119, 120]⟩ (k : Int) ((k : Int) + 1) k (k + 1) rfl (by omega) (by omega) (by show k + 1 ≤ 9; omega) _ (rwx_ext k hlt) w
          have hs1 : (strOfNums [rwx k]).size = 1 := by rw [strOfNums_size]; rfl
          go_wp2_with fail
          refine (rbit_any _ _ _ (by omega) (by omega)).mono ?_
          rintro e w1 ⟨rfl, b1⟩
          rw [show (8 - (k : Int)).toNat = 8 - k from by omega]
          by_cases h8 : k = 8
          · subst h8
            cases hb : bitOn mode (8 - 8) with
            | false =>
              have hb0 : Hid (bitOn mode 0 = false) := hb
              clear hb
              have hext := rwx_ext 8 (by omega)
              go_wp2_with fail
              refine (rbit_any _ _ _ (by omega) (by omega)).mono ?_
              rintro e w2 ⟨rfl, b2⟩
              rw [show (9 : Int).toNat = 9 from rfl]
              cases h9 : bitOn mode 9 with
              | false =>
                have hcat : strOfNums (refLetters kind mode 8) ++ ⟨#[45]⟩ = _ := ref_cat kind mode 8 45 (refLetter_off kind mode 8 (by omega) (by rw [h9]; simp) hb0.out)
                clear h9
                go_wp2_with fail
                go_roundw
                case rel => exact ⟨9, by omega, by go_num, rfl, (hx.trans b1).trans b2⟩
                case measure => simp [intOf]
              | true =>
                have hcat : strOfNums (refLetters kind mode 8) ++ ⟨#[84]⟩ = _ := ref_cat kind mode 8 84 (by rw [refLetter_T kind mode h9, hb0.out]; rfl)
                clear h9
                go_wp2_with fail
                refine (rbit_any _ _ _ (by omega) (by omega)).mono ?_
                rintro e w3 ⟨rfl, b3⟩
                rw [show (0 : Int).toNat = 0 from rfl, hb0.out]
                go_wp2_with fail
                go_roundw
                case rel => exact ⟨9, by omega, by go_num, rfl, ((hx.trans b1).trans b2).trans b3⟩
                case measure => simp [intOf]
            | true =>
              have hb0 : Hid (bitOn mode 0 = true) := hb
              clear hb
              have hext := rwx_ext 8 (by omega)
              go_wp2_with fail
              refine (rbit_any _ _ _ (by omega) (by omega)).mono ?_
              rintro e w2 ⟨rfl, b2⟩
              rw [show (9 : Int).toNat = 9 from rfl]
              cases h9 : bitOn mode 9 with
              | false =>
                have hcat := ref_cat kind mode 8 (rwx 8) (refLetter_on kind mode 8 (by omega) (by rw [h9]; simp) hb0.out)
                clear h9
                go_wp2_with fail
                go_roundw
                case rel => exact ⟨9, by omega, by go_num, rfl, (hx.trans b1).trans b2⟩
                case measure => simp [intOf]
              | true =>
                have hcat : strOfNums (refLetters kind mode 8) ++ ⟨#[116]⟩ = _ := ref_cat kind mode 8 116 (by rw [refLetter_T kind mode h9, hb0.out]; rfl)
                clear h9
                go_wp2_with fail
                refine (rbit_any _ _ _ (by omega) (by omega)).mono ?_
                rintro e w3 ⟨rfl, b3⟩
                rw [show (0 : Int).toNat = 0 from rfl, hb0.out]
                go_wp2_with fail
                go_roundw
                case rel => exact ⟨9, by omega, by go_num, rfl, ((hx.trans b1).trans b2).trans b3⟩
                case measure => simp [intOf]
          · have hk8 : ((k : Int) == 8) = false := beq_eq_false_iff_ne.2 (by omega)
            cases hb : bitOn mode (8 - k) with
            | false =>
              have hcat : strOfNums (refLetters kind mode k) ++ ⟨#[45]⟩ = _ := ref_cat kind mode k 45 (refLetter_off kind mode k hlt (fun hh => h8 hh.1) hb)
              clear hb h8
              go_wp2_with fail
              go_roundw
              case rel => exact ⟨k + 1, by omega, by go_num, rfl, hx.trans b1⟩
              case measure => simp [intOf]; omega
            | true =>
              have hcat := ref_cat kind mode k (rwx k) (refLetter_on kind mode k hlt (fun hh => h8 hh.1) hb)
              clear hb h8
              go_wp2_with fail
              go_roundw
              case rel => exact ⟨k + 1, by omega, by go_num, rfl, hx.trans b1⟩
              case measure => simp [intOf]; omega
        · obtain rfl : k = 9 := by omega
          have hfin := Lib.hid (refLetters_9 kind mode)
          go_wp2_with fail
          go_ret
          exact Ret.mk (by rw [← hfin.out]; rfl) hx
    · have c2 : (kind == 2) = false := beq_eq_false_iff_ne.2 h2
      by_cases h3 : kind = 3
      · have hstart : Hid (refLetters kind mode 0 = [108]) := by show _ = _; simp [refLetters, refLetter, letterAt, kindLetter, h3]
        have c3 : (kind == 3) = true := beq_iff_eq.2 h3
        clear h1 h2 h3
        go_enter Try.func24, Try.ntmps24
        go_wp2_with fail
        clear c1 c2 c3
        go_loopw [5, 7] (fun s i wr => ∃ k : Nat, k ≤ 9 ∧ i = .int .i64 k ∧ s = .string (strOfNums (refLetters kind mode k)) ∧ Ext w wr) (fun _ i _ => 9 - (intOf i).toNat)
        case atStart => exact ⟨0, by omega, rfl, by rw [hstart.out]; rfl, Ext.refl _⟩
        case round =>
          obtain ⟨k, hk, rfl, rfl, hx⟩ := hrel
          by_cases hlt : k < 9
          · have hsz : (strOfNums (refLetters kind mode k)).size = k + 1 := by rw [strOfNums_size, refLetters_len]
            have hsl := fun w => slice_str (P := Try.prog) Try.underlying9 ⟨#[114, 119, 120, 114, 119, 120, 114, 119, 120]⟩ (k : Int) ((k : Int) + 1) k (k + 1) rfl (by omega) (by omega) (by show k + 1 ≤ 9; omega) _ (rwx_ext k hlt) w
            have hs1 : (strOfNums [rwx k]).size = 1 := by rw [strOfNums_size]; rfl
            go_wp2_with fail
            refine (rbit_any _ _ _ (by omega) (by omega)).mono ?_
            rintro e w1 ⟨rfl, b1⟩
            rw [show (8 - (k : Int)).toNat = 8 - k from by omega]
            by_cases h8 : k = 8
            · subst h8
              cases hb : bitOn mode (8 - 8) with
              | false =>
                have hb0 : Hid (bitOn mode 0 = false) := hb
                clear hb
                have hext := rwx_ext 8 (by omega)
                go_wp2_with fail
                refine (rbit_any _ _ _ (by omega) (by omega)).mono ?_
                rintro e w2 ⟨rfl, b2⟩
                rw [show (9 : Int).toNat = 9 from rfl]
                cases h9 : bitOn mode 9 with
                | false =>
                  have hcat : strOfNums (refLetters kind mode 8) ++ ⟨#[45]⟩ = _ := ref_cat kind mode 8 45 (refLetter_off kind mode 8 (by omega) (by rw [h9]; simp) hb0.out)
                  clear h9
                  go_wp2_with fail
                  go_roundw
                  case rel => exact ⟨9, by omega, by go_num, rfl, (hx.trans b1).trans b2⟩
                  case measure => simp [intOf]
                | true =>
                  have hcat : strOfNums (refLetters kind mode 8) ++ ⟨#[84]⟩ = _ := ref_cat kind mode 8 84 (by rw [refLetter_T kind mode h9, hb0.out]; rfl)
                  clear h9
                  go_wp2_with fail
                  refine (rbit_any _ _ _ (by omega) (by omega)).mono ?_
                  rintro e w3 ⟨rfl, b3⟩
                  rw [show (0 : Int).toNat = 0 from rfl, hb0.out]
                  go_wp2_with fail
                  go_roundw
                  case rel => exact ⟨9, by omega, by go_num, rfl, ((hx.trans b1).trans b2).trans b3⟩
                  case measure => simp [intOf]
              | true =>
                have hb0 : Hid (bitOn mode 0 = true) := hb
                clear hb
                have hext := rwx_ext 8 (by omega)
                go_wp2_with fail
                refine (rbit_any _ _ _ (by omega) (by omega)).mono ?_
                rintro e w2 ⟨rfl, b2⟩
                rw [show (9 : Int).toNat = 9 from rfl]
                cases h9 : bitOn mode 9 with
                | false =>
                  have hcat := ref_cat kind mode 8 (rwx 8) (refLetter_on kind mode 8 (by omega) (by rw [h9]; simp) hb0.out)
                  clear h9
                  go_wp2_with fail
                  go_roundw
                  case rel => exact ⟨9, by omega, by go_num, rfl, (hx.trans b1).trans b2⟩
                  case measure => simp [intOf]
                | true =>
                  have hcat : strOfNums (refLetters kind mode 8) ++ ⟨#[116]⟩ = _ := ref_cat kind mode 8 116 (by rw [refLetter_T kind mode h9, hb0.out]; rfl)
                  clear h9
                  go_wp2_with fail
                  refine (rbit_any _ _ _ (by omega) (by omega)).mono ?_
                  rintro e w3 ⟨rfl, b3⟩
                  rw [show (0 : Int).toNat = 0 from rfl, hb0.out]
                  go_wp2_with fail
                  go_roundw
                  case rel => exact ⟨9, by omega, by go_num, rfl, ((hx.trans b1).trans b2).trans b3⟩
                  case measure => simp [intOf]
            · have hk8 : ((k : Int) == 8) = false := beq_eq_false_iff_ne.2 (by omega)
              cases hb : bitOn mode (8 - k) with
              | false =>
                have hcat : strOfNums (refLetters kind mode k) ++ ⟨#[45]⟩ = _ := ref_cat kind mode k 45 (refLetter_off kind mode k hlt (fun hh => h8 hh.1) hb)
                clear hb h8
                go_wp2_with fail
                go_roundw
                case rel => exact ⟨k + 1, by omega, by go_num, rfl, hx.trans b1⟩
                case measure => simp [intOf]; omega
              | true =>
                have hcat := ref_cat kind mode k (rwx k) (refLetter_on kind mode k hlt (fun hh => h8 hh.1) hb)
                clear hb h8
                go_wp2_with fail
                go_roundw
                case rel => exact ⟨k + 1, by omega, by go_num, rfl, hx.trans b1⟩
                case measure => simp [intOf]; omega
          · obtain rfl : k = 9 := by omega
            have hfin := Lib.hid (refLetters_9 kind mode)
            go_wp2_with fail
            go_ret
            exact Ret.mk (by rw [← hfin.out]; rfl) hx
      · have hstart : Hid (refLetters kind mode 0 = [63]) := by show _ = _; simp [refLetters, refLetter, letterAt, kindLetter, h1, h2, h3]
        have c3 : (kind == 3) = false := beq_eq_false_iff_ne.2 h3
        clear h1 h2 h3
        go_enter Try.func24, Try.ntmps24
        go_wp2_with fail
        clear c1 c2 c3
        go_loopw [5, 7] (fun s i wr => ∃ k : Nat, k ≤ 9 ∧ i = .int .i64 k ∧ s = .string (strOfNums (refLetters kind mode k)) ∧ Ext w wr) (fun _ i _ => 9 - (intOf i).toNat)
        case atStart => exact ⟨0, by omega, rfl, by rw [hstart.out]; rfl, Ext.refl _⟩
        case round =>
          obtain ⟨k, hk, rfl, rfl, hx⟩ := hrel
          by_cases hlt : k < 9
          · have hsz : (strOfNums (refLetters kind mode k)).size = k + 1 := by rw [strOfNums_size, refLetters_len]
            have hsl := fun w => slice_str (P := Try.prog) Try.underlying9 ⟨#[114, 119, 120, 114, 119, 120, 114, 119, 120]⟩ (k : Int) ((k : Int) + 1) k (k + 1) rfl (by omega) (by omega) (by show k + 1 ≤ 9; omega) _ (rwx_ext k hlt) w
            have hs1 : (strOfNums [rwx k]).size = 1 := by rw [strOfNums_size]; rfl
            go_wp2_with fail
            refine (rbit_any _ _ _ (by omega) (by omega)).mono ?_
            rintro e w1 ⟨rfl, b1⟩
            rw [show (8 - (k : Int)).toNat = 8 - k from by omega]
            by_cases h8 : k = 8
            · subst h8
              cases hb : bitOn mode (8 - 8) with
              | false =>
                have hb0 : Hid (bitOn mode 0 = false) := hb
                clear hb
                have hext := rwx_ext 8 (by omega)
                go_wp2_with fail
                refine (rbit_any _ _ _ (by omega) (by omega)).mono ?_
                rintro e w2 ⟨rfl, b2⟩
                rw [show (9 : Int).toNat = 9 from rfl]
                cases h9 : bitOn mode 9 with
                | false =>
                  have hcat : strOfNums (refLetters kind mode 8) ++ ⟨#[45]⟩ = _ := ref_cat kind mode 8 45 (refLetter_off kind mode 8 (by omega) (by rw [h9]; simp) hb0.out)
                  clear h9
                  go_wp2_with fail
                  go_roundw
                  case rel => exact ⟨9, by omega, by go_num, rfl, (hx.trans b1).trans b2⟩
                  case measure => simp [intOf]
                | true =>
                  have hcat : strOfNums (refLetters kind mode 8) ++ ⟨#[84]⟩ = _ := ref_cat kind mode 8 84 (by rw [refLetter_T kind mode h9, hb0.out]; rfl)
                  clear h9
                  go_wp2_with fail
                  refine (rbit_any _ _ _ (by omega) (by omega)).mono ?_
                  rintro e w3 ⟨rfl, b3⟩
                  rw [show (0 : Int).toNat = 0 from rfl, hb0.out]
                  go_wp2_with fail
                  go_roundw
                  case rel => exact ⟨9, by omega, by go_num, rfl, ((hx.trans b1).trans b2).trans b3⟩
                  case measure => simp [intOf]
              | true =>
                have hb0 : Hid (bitOn mode 0 = true) := hb
                clear hb
                have hext := rwx_ext 8 (by omega)
                go_wp2_with fail
                refine (rbit_any _ _ _ (by omega) (by omega)).mono ?_
                rintro e w2 ⟨rfl, b2⟩
                rw [show (9 : Int).toNat = 9 from rfl]
                cases h9 : bitOn mode 9 with
                | false =>
                  have hcat := ref_cat kind mode 8 (rwx 8) (refLetter_on kind mode 8 (by omega) (by rw [h9]; simp) hb0.out)
                  clear h9
                  go_wp2_with fail
                  go_roundw
                  case rel => exact ⟨9, by omega, by go_num, rfl, (hx.trans b1).trans b2⟩
                  case measure => simp [intOf]
                | true =>
                  have hcat : strOfNums (refLetters kind mode 8) ++ ⟨#[116]⟩ = _ := ref_cat kind mode 8 116 (by rw [refLetter_T kind mode h9, hb0.out]; rfl)
                  clear h9
                  go_wp2_with fail
                  refine (rbit_any _ _ _ (by omega) (by omega)).mono ?_
                  rintro e w3 ⟨rfl, b3⟩
                  rw [show (0 : Int).toNat = 0 from rfl, hb0.out]
                  go_wp2_with fail
                  go_roundw
                  case rel => exact ⟨9, by omega, by go_num, rfl, ((hx.trans b1).trans b2).trans b3⟩
                  case measure => simp [intOf]
            · have hk8 : ((k : Int) == 8) = false := beq_eq_false_iff_ne.2 (by omega)
              cases hb : bitOn mode (8 - k) with
              | false =>
                have hcat : strOfNums (refLetters kind mode k) ++ ⟨#[45]⟩ = _ := ref_cat kind mode k 45 (refLetter_off kind mode k hlt (fun hh => h8 hh.1) hb)
                clear hb h8
                go_wp2_with fail
                go_roundw
                case rel => exact ⟨k + 1, by omega, by go_num, rfl, hx.trans b1⟩
                case measure => simp [intOf]; omega
              | true =>
                have hcat := ref_cat kind mode k (rwx k) (refLetter_on kind mode k hlt (fun hh => h8 hh.1) hb)
                clear hb h8
                go_wp2_with fail
                go_roundw
                case rel => exact ⟨k + 1, by omega, by go_num, rfl, hx.trans b1⟩
                case measure => simp [intOf]; omega
          · obtain rfl : k = 9 := by omega
            have hfin := Lib.hid (refLetters_9 kind mode)
            go_wp2_with fail
            go_ret
            exact Ret.mk (by rw [← hfin.out]; rfl) hx
end Go.Proofs.Ytegiknfnhgjhfaa
