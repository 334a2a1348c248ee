/- Layer 2 (name): the walks of NameParts and NameStops. -/
import Derived.Test.YtmppjbimdonfmaaDoorNamL
namespace Go.Proofs.YtmppjbimdonfmaaDoor
open Go.ChangeShapes Go.WideShapes Go.ChangeAt Go.RowKit

theorem total_take_succ (L : List (List UInt8)) (k : Nat) (h : k < L.length) : total (L.take (k + 1)) = total (L.take k) + (L[k]).length := by
  rw [List.take_succ_eq_append_getElem h, total_append]; simp [total]
theorem total_take_le (L : List (List UInt8)) (k : Nat) : total (L.take k) ≤ total L := by
  have := total_append (L.take k) (L.drop k)
  rw [List.take_append_drop] at this
  omega
/-- A part's error: none, unless it is two points, too long, or has a byte 0. -/
theorem check_part {p : List UInt8} (h : 47 ∉ p ∧ p ≠ [] ∧ p ≠ [46]) (h2 : p ≠ [46, 46]) : checkN p = if hasB p 0 = true then 1 else if 255 < p.length then 13 else 0 := by
  rw [checkN_no h.2.1 h.2.2 h2]
  have : hasB p 47 = false := decide_eq_false h.1
  rw [this]
  by_cases hz : hasB p 0 = true
  · rw [if_pos (.inr hz), if_pos hz]
  · rw [if_neg (by simp [hz]), if_neg hz]
set_option maxRecDepth 100000 in
set_option maxHeartbeats 4000000 in
theorem nameParts_any (l : List UInt8) (w : World) : Calls Tryd.prog 4 #[.string (bs l)] w (Ret w (.bool true)) := by
  have z0 : (bs l).size = l.length := bs_size l
  cases hb : fewB l.length with
  | false =>
    have HB := Lib.hid hb
    clear hb
    go_enter Tryd.func4, Tryd.ntmps4
    go_wp2_with fail
    refine (few_any l _).mono ?_
    rintro e w1 ⟨rfl, hE1⟩
    rw [HB.out]
    go_wp2_with fail
    refine (awake2 _).mono ?_
    rintro e w2 ⟨rfl, hE2⟩
    go_wp2_with fail
    go_ret
    exact Ret.mk rfl (hE1.trans hE2)
  | true =>
    have hn := fewB_len hb
    have hl : l.length ≤ 1000000 := by omega
    have hpl := parts_len l
    have hpt := parts_total l
    have hok : Hid (∀ p ∈ partsN l, 47 ∉ p ∧ p ≠ [] ∧ p ≠ [46]) := fun p h => parts_no h
    have ht : Hid ((partsN l).take 5000 = partsN l) := List.take_of_length_le (by omega)
    obtain ⟨L, hL⟩ : ∃ L, L = partsN l := ⟨_, rfl⟩
    rw [← hL] at hpl hpt hok ht
    have HL := Lib.hid hL
    have HB := Lib.hid hb
    clear hb hL
    go_enter Tryd.func4, Tryd.ntmps4
    go_wp2_with fail
    refine (few_any l _).mono ?_
    rintro e w1 ⟨rfl, hE1⟩
    rw [HB.out]
    go_wp2_with fail
    refine (all_any l 5000 _ hl (by decide) (by decide)).mono ?_
    rintro e w2 ⟨v, rfl, hv, hE2⟩
    rw [← HL.out, ht.out] at hv
    obtain ⟨A, cap, rfl, hle, hcm, hat, hAn⟩ := hv.at_
    clear hv hle hcm hAn
    go_wp2_with fail
    go_loopw [5, 6] (fun n i wr => ∃ k x : Nat, k ≤ L.length ∧ i = .int .i64 k ∧ n = .int .i64 x ∧ Hid (x = total (L.take k)) ∧ x ≤ l.length ∧ Ext w2 wr) (fun _ i _ => L.length - (intOf i).toNat)
    case atStart => exact ⟨0, 0, Nat.zero_le _, rfl, rfl, rfl, Nat.zero_le _, Ext.refl _⟩
    case round =>
      obtain ⟨k, x, hk, rfl, rfl, hx, hxl, hE⟩ := hrel
      by_cases hlt : (k : Int) < L.length
      · have hkl : k < L.length := by omega
        obtain ⟨b, o, rfl, hb, hcl⟩ := hat.at_ hE k hkl
        have htk := total_take_succ L k hkl
        have htl := total_take_le L (k + 1)
        have hp0 := hok.out L[k] (List.getElem_mem hkl)
        obtain ⟨p, hp⟩ : ∃ p, p = L[k] := ⟨_, rfl⟩
        rw [← hp] at hcl htk hp0
        have hnx : Hid (x + p.length = total (L.take (k + 1))) := by show _ = _; rw [htk, hx.out]
        have hnl : x + p.length ≤ l.length := by rw [hnx.out]; omega
        have zp : (bs p).size = p.length := bs_size p
        obtain ⟨_, _, t2, _⟩ := txt_tests (p := p)
        have hc2 : Hid (p ≠ [46, 46] → checkN p = if hasB p 0 = true then 1 else if 255 < p.length then 13 else 0) := fun h => check_part hp0 h
        have hlp : Hid ((bs p).data.toList = p) := bs_list p
        have hsp : (bs p).size ≤ 1000000 := by omega
        obtain ⟨X, hX⟩ : ∃ X, X = bs p := ⟨_, rfl⟩
        rw [← hX] at hcl zp t2 hlp hsp
        have hw : IntKind.i64.wrap ((x : Int) + p.length) = ((x + p.length : Nat) : Int) := by rw [wrap_i64_in (by omega) (by omega)]; omega
        have hlt5 : (p.length : Int) ≤ 255 ∨ ¬ (p.length : Int) ≤ 255 := by omega
        clear hX htk hp hp0 htl
        by_cases hd : p = [46, 46]
        · have hv : Hid (checkN p = 1) := by show _ = _; rw [hd]; decide
          rw [show (p == [46, 46]) = true from by rw [hd]; rfl] at t2
          clear hd
          go_wp2_with fail
          refine (pcheck_any X _).mono ?_
          rintro e w3 ⟨rfl, hE3⟩
          rw [hlp.out, hv.out]
          have hcl2 := (hE3.cell (o := o + k) (by have := hE.size; omega)).trans hcl
          go_wp2_with fail
          go_roundw
          case rel => exact ⟨k + 1, x + p.length, by omega, by go_num, by first | rfl | (congr 1), hnx, hnl, hE.trans hE3⟩
          case measure => simp [intOf]; omega
        · have t2' : (X.toList == [46, 46]) = false := by rw [t2]; exact beq_eq_false_iff_ne.2 hd
          have hv := hc2.out hd
          clear hd t2
          cases hz : hasB p 0 with
          | true =>
            rw [hz, if_pos rfl] at hv
            have HV := Lib.hid hv
            have HZ := Lib.hid hz
            clear hz hv
            rcases hlt5 with h5 | h5
            · go_wp2_with fail
              refine (pcheck_any X _).mono ?_
              rintro e w3 ⟨rfl, hE3⟩
              rw [hlp.out, HV.out]
              have hcl2 := (hE3.cell (o := o + k) (by have := hE.size; omega)).trans hcl
              go_wp2_with fail
              refine (rhas_any X 0 _ (by rfl) hsp _).mono ?_
              rintro e w4 ⟨rfl, hE4⟩
              rw [hlp.out, HZ.out]
              go_wp2_with fail
              go_roundw
              case rel => exact ⟨k + 1, x + p.length, by omega, by go_num, by first | rfl | (congr 1), hnx, hnl, hE.trans (hE3.trans hE4)⟩
              case measure => simp [intOf]; omega
            · go_wp2_with fail
              refine (pcheck_any X _).mono ?_
              rintro e w3 ⟨rfl, hE3⟩
              rw [hlp.out, HV.out]
              have hcl2 := (hE3.cell (o := o + k) (by have := hE.size; omega)).trans hcl
              go_wp2_with fail
              go_roundw
              case rel => exact ⟨k + 1, x + p.length, by omega, by go_num, by first | rfl | (congr 1), hnx, hnl, hE.trans hE3⟩
              case measure => simp [intOf]; omega
          | false =>
            rw [hz, if_neg (by decide)] at hv
            have HZ := Lib.hid hz
            clear hz
            rcases hlt5 with h5 | h5
            · rw [if_neg (by omega)] at hv
              have HV := Lib.hid hv
              clear hv
              go_wp2_with fail
              refine (pcheck_any X _).mono ?_
              rintro e w3 ⟨rfl, hE3⟩
              rw [hlp.out, HV.out]
              go_wp2_with fail
              go_roundw
              case rel => exact ⟨k + 1, x + p.length, by omega, by go_num, by first | rfl | (congr 1), hnx, hnl, hE.trans hE3⟩
              case measure => simp [intOf]; omega
            · rw [if_pos (by omega)] at hv
              have HV := Lib.hid hv
              clear hv
              go_wp2_with fail
              refine (pcheck_any X _).mono ?_
              rintro e w3 ⟨rfl, hE3⟩
              rw [hlp.out, HV.out]
              have hcl2 := (hE3.cell (o := o + k) (by have := hE.size; omega)).trans hcl
              go_wp2_with fail
              go_roundw
              case rel => exact ⟨k + 1, x + p.length, by omega, by go_num, by first | rfl | (congr 1), hnx, hnl, hE.trans hE3⟩
              case measure => simp [intOf]; omega
      · obtain rfl : k = L.length := by omega
        have hle : (x : Int) ≤ l.length := by omega
        go_wp2_with fail
        refine (awake2 _).mono ?_
        rintro e w3 ⟨rfl, hE3⟩
        go_wp2_with fail
        go_ret
        exact Ret.mk rfl (hE1.trans (hE2.trans (hE.trans hE3)))
end Go.Proofs.YtmppjbimdonfmaaDoor
