/- Layer 7 (sizes): a row of lines in memory; BinarySearchFunc. -/
import Derived.Test.YtmppjbimdonfmaaDoorSizW
import Derived.Deep.RegionHeld3
import Derived.Outline
namespace Go.Proofs.YtmppjbimdonfmaaDoor
open Go.ChangeShapes Go.WideShapes Go.ChangeAt Go.RowKit

/-- Lines as they lie from an address on. -/
def EntsAt (w : World) (A : Option Addr) (l : List EntD) : Prop :=
  l = [] ∨ ∃ b o, A = some ⟨b, o, none⟩ ∧ b < w.heap.size ∧ ∀ k, (h : k < l.length) → w.cell? ⟨b, o + k * 3, none⟩ = some (.int .i64 l[k].2.1) ∧ w.cell? ⟨b, o + k * 3 + 1, none⟩ = some (.int .i64 l[k].2.2) ∧ w.cell? ⟨b, o + k * 3 + 2, none⟩ = some (.string (bs l[k].1))
theorem EntsAt.ext {w w' : World} {A : Option Addr} {l : List EntD} (h : EntsAt w A l) (k : Ext w w') : EntsAt w' A l := by
  rcases h with h | ⟨b, o, hA, hb, hc⟩
  · exact .inl h
  · refine .inr ⟨b, o, hA, by have := k.size; omega, fun i hi => ?_⟩
    rw [k.cell hb, k.cell hb, k.cell hb]; exact hc i hi
theorem EntsAt.at_ {w wr : World} {A : Option Addr} {l : List EntD} (h : EntsAt w A l) (hE : Ext w wr) (k : Nat) (hk : k < l.length) :
    ∃ b o, A = some ⟨b, o, none⟩ ∧ b < wr.heap.size ∧ wr.cell? ⟨b, o + k * 3, none⟩ = some (.int .i64 l[k].2.1) ∧ wr.cell? ⟨b, o + k * 3 + 1, none⟩ = some (.int .i64 l[k].2.2) ∧ wr.cell? ⟨b, o + k * 3 + 2, none⟩ = some (.string (bs l[k].1)) := by
  rcases h.ext hE with h0 | ⟨b, o, hA, hb, hc⟩
  · rw [h0] at hk; simp at hk
  · exact ⟨b, o, hA, hb, hc k hk⟩
theorem lt_trans_rise {l : List EntD} {nm : List UInt8} (hr : Rise l) {i k : Nat} (hik : i < k) (hk : k < l.length) (h : lt l[k] nm = true) : lt (l[i]'(by omega)) nm = true :=
  bl_trans (List.pairwise_iff_getElem.1 hr i k (by omega) hk hik) h
set_option maxRecDepth 100000 in
set_option maxHeartbeats 1000000 in
theorem search_any (A : Option Addr) (l : List EntD) (cap : Nat) (nm : List UInt8) (w : World) (h : EntsAt w A l) (hr : Rise l) (hlen : l.length ≤ 1000000) : Calls Tryd.prog 93 #[.slice A l.length cap, .string (bs nm), .func (Fn.func 94) #[] #[]] w (Ret w (.tuple #[.int .i64 (pos l nm), .bool (has l nm)])) := by
  obtain ⟨n, hn⟩ : ∃ n, n = l.length := ⟨_, rfl⟩
  rw [← hn] at hlen ⊢
  have HN := Lib.hid hn
  clear hn
  go_enter Tryd.func93, Tryd.ntmps93
  go_wp2_with fail
  go_loopw [9, 10] (fun iv jv wr => ∃ i j : Nat, iv = .int .i64 i ∧ jv = .int .i64 j ∧ i ≤ j ∧ j ≤ n ∧ Hid (∀ k, (h : k < l.length) → k < i → lt l[k] nm = true) ∧ Hid (∀ k, (h : k < l.length) → j ≤ k → lt l[k] nm = false) ∧ Ext w wr) (fun iv jv _ => (intOf jv).toNat - (intOf iv).toNat)
  case atStart => exact ⟨0, n, rfl, rfl, by omega, Nat.le_refl _, fun k _ h => absurd h (by omega), fun k h h2 => absurd h2 (by have := HN.out; omega), Ext.refl _⟩
  case round =>
    obtain ⟨i, j, rfl, rfl, hij, hjn, ha, hb, hE⟩ := hrel
    by_cases hlt : (i : Int) < j
    · obtain ⟨m, hm⟩ : ∃ m, m = (i + j) / 2 := ⟨_, rfl⟩
      have hm1 : i ≤ m := by omega
      have hm2 : m < j := by omega
      have hml : m < l.length := by have := HN.out; omega
      have e1 : ((i : Int) + (j : Int)) / 2 = (m : Int) := by omega
      have hmn : (m : Int) < (n : Int) := by omega
      have hm0 : (0 : Int) ≤ (m : Int) := by omega
      clear hm
      obtain ⟨b, o, rfl, hbw, hc⟩ := h.at_ hE m hml
      obtain ⟨ca, cb, cc⟩ := hc
      generalize hx1 : l[m] = x at ca cb cc
      have h1 := Lib.hid hx1
      clear hx1
      go_wp2_with fail
      refine (by_any _ _ _ _ _).mono ?_
      rintro e w1 ⟨rfl, b1⟩
      by_cases hl : lt x nm = true
      · have e : cmpL x.1 nm = -1 := cmpL_lt hl
        rw [e]
        have ha2 : Hid (∀ k, (h : k < l.length) → k < m + 1 → lt l[k] nm = true) := fun k h3 h4 => by
          by_cases hk : k = m
          · subst hk
            have q := h1.out
            rw [q]; exact hl
          · exact lt_trans_rise hr (show k < m by omega) hml (by have q := h1.out; rw [q]; exact hl)
        clear e hl
        go_wp2_with fail
        go_roundw
        case rel => exact ⟨m + 1, j, by go_num, rfl, by omega, hjn, ha2, hb, hE.trans b1⟩
        case measure => simp [intOf]; omega
      · have hl2 : lt x nm = false := by simpa using hl
        have e : decide (cmpL x.1 nm < 0) = false := by
          rcases bl_tri x.1 nm with g | g | g
          · exact absurd g hl
          · rw [g, cmpL_eq]; rfl
          · rw [cmpL_gt g]; rfl
        have hb2 : Hid (∀ k, (h : k < l.length) → m ≤ k → lt l[k] nm = false) := fun k h3 h4 => by
          cases hv : lt l[k] nm
          · rfl
          · by_cases hk : m = k
            · subst hk
              have q := h1.out
              rw [q, hl2] at hv; cases hv
            · have := lt_trans_rise hr (show m < k by omega) h3 hv
              rw [h1.out, hl2] at this; cases this
        clear hl hl2
        go_wp2_with fail
        go_roundw
        case rel => exact ⟨i, m, rfl, rfl, by omega, by omega, ha, hb2, hE.trans b1⟩
        case measure => simp [intOf]; omega
    · have hij2 : i = j := by omega
      subst hij2
      have hp : i = pos l nm := pos_unique l nm hr i (by have := HN.out; omega) ha.out hb.out
      have hh := has_pos l nm hr
      rw [← hp] at hh
      have HP := Lib.hid hp
      clear hp hlt
      by_cases hin : (i : Int) < n
      · have hil : i < l.length := by have := HN.out; omega
        rw [dif_pos hil] at hh
        obtain ⟨b, o, rfl, hbw, hc⟩ := h.at_ hE i hil
        obtain ⟨ca, cb, cc⟩ := hc
        generalize hx1 : l[i] = x at ca cb cc hh
        have hq : (cmpL x.1 nm == 0) = has l nm := by
          rw [hh]
          rcases bl_tri x.1 nm with g | g | g
          · rw [cmpL_lt g]; symm; rw [beq_eq_false_iff_ne.2]; · rfl
            intro e; rw [e, bl_irrefl] at g; cases g
          · rw [g, cmpL_eq]; simp
          · rw [cmpL_gt g]; symm; rw [beq_eq_false_iff_ne.2]; · rfl
            intro e; rw [e, bl_irrefl] at g; cases g
        have HQ := Lib.hid hq
        clear hx1 hh hq
        go_wp2_with fail
        refine (by_any _ _ _ _ _).mono ?_
        rintro e w1 ⟨rfl, b1⟩
        go_wp2_with fail
        go_ret2
        exact Ret.mk (by rw [HQ.out, ← HP.out]; rfl) (hE.trans b1)
      · rw [dif_neg (by have := HN.out; omega)] at hh
        have HH := Lib.hid hh
        clear hh
        go_wp2_with fail
        go_ret2
        exact Ret.mk (by rw [HH.out, ← HP.out]; rfl) hE
end Go.Proofs.YtmppjbimdonfmaaDoor
