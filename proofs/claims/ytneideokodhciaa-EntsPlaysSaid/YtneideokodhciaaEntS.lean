/- Layer 11 (ents): a list of entries in memory; IsSortedFunc, BinarySearchFunc. -/
import Derived.Test.YtneideokodhciaaEntW
import Derived.Deep.RegionHeld3
import Derived.Outline
namespace Go.Proofs.Ytneideokodhciaa
open Go.ChangeShapes Go.WideShapes Go.ChangeAt Go.RowKit

/-- Entries as they lie from an address on. -/
def EntsAt (w : World) (A : Option Addr) (l : List EntD) : Prop :=
  l = [] ∨ ∃ b o, A = some ⟨b, o, none⟩ ∧ b < w.heap.size ∧ ∀ k, (h : k < l.length) → w.cell? ⟨b, o + k * 2, none⟩ = some (.string (bs l[k].1)) ∧ w.cell? ⟨b, o + k * 2 + 1, none⟩ = some (.int .i64 l[k].2)
theorem EntsAt.ext {w w' : World} {A : Option Addr} {l : List EntD} (h : EntsAt w A l) (k : Ext w w') : EntsAt w' A l := by
  rcases h with h | ⟨b, o, hA, hb, hc⟩
  · exact .inl h
  · refine .inr ⟨b, o, hA, by have := k.size; omega, fun i hi => ?_⟩
    rw [k.cell hb, k.cell hb]; exact hc i hi
def Adj (l : List EntD) : Prop := ∀ k, (h : k + 1 < l.length) → bl (l[k]'(by omega)).1 l[k + 1].1 = true
def riseB : List EntD → Bool
  | x :: y :: l => bl x.1 y.1 && riseB (y :: l)
  | _ => true
theorem adj_tail {x : EntD} {l : List EntD} (h : Adj (x :: l)) : Adj l := fun k hk => h (k + 1) (by simp; omega)
theorem riseB_iff : ∀ l : List EntD, riseB l = true ↔ Adj l
  | [] => ⟨fun _ k h => absurd h (by simp), fun _ => rfl⟩
  | [x] => ⟨fun _ k h => absurd h (by simp), fun _ => rfl⟩
  | x :: y :: l => by
    rw [riseB, Bool.and_eq_true, riseB_iff (y :: l)]
    constructor
    · rintro ⟨h1, h2⟩ k hk
      cases k with
      | zero => exact h1
      | succ k => exact h2 k (by simpa using hk)
    · intro h
      exact ⟨h 0 (by simp), adj_tail h⟩
theorem riseB_true {l : List EntD} (h : Adj l) : riseB l = true := (riseB_iff l).2 h
theorem riseB_false {l : List EntD} (h : ¬ Adj l) : riseB l = false := by
  cases hr : riseB l
  · rfl
  · exact absurd ((riseB_iff l).1 hr) h
theorem keep4 {w0 w w' : World} {b o1 o2 o3 o4 : Nat} {v1 v2 v3 v4 : Value} (hb : Ext w w') (h : (b < w.heap.size ∧ Ext w0 w) ∧ w.cell? ⟨b, o1, none⟩ = some v1 ∧ w.cell? ⟨b, o2, none⟩ = some v2 ∧ w.cell? ⟨b, o3, none⟩ = some v3 ∧ w.cell? ⟨b, o4, none⟩ = some v4) :
    (b < w'.heap.size ∧ Ext w0 w') ∧ w'.cell? ⟨b, o1, none⟩ = some v1 ∧ w'.cell? ⟨b, o2, none⟩ = some v2 ∧ w'.cell? ⟨b, o3, none⟩ = some v3 ∧ w'.cell? ⟨b, o4, none⟩ = some v4 := by
  obtain ⟨⟨h0, hx⟩, h1, h2, h3, h4⟩ := h
  refine ⟨⟨by have := hb.size; omega, hx.trans hb⟩, ?_, ?_, ?_, ?_⟩
  all_goals (rw [hb.cell h0]; assumption)
set_option maxRecDepth 100000 in
set_option maxHeartbeats 1000000 in
theorem sorted_any (A : Option Addr) (l : List EntD) (cap : Nat) (w : World) (h : EntsAt w A l) (hlen : l.length ≤ 1000000) : Calls Try.prog 33 #[.slice A l.length cap, .func (Fn.func 34) #[] #[]] w (Ret w (.bool (riseB l))) := by
  obtain ⟨n, hn⟩ : ∃ n, n = l.length := ⟨_, rfl⟩
  rw [← hn] at hlen ⊢
  have HN := Lib.hid hn
  clear hn
  go_enter Try.func33, Try.ntmps33
  go_wp2_with fail
  go_loopw [5] (fun i wr => ∃ z : Int, i = .int .i64 z ∧ -1 ≤ z ∧ z < n ∧ Hid (∀ k : Nat, z ≤ k → (h : k + 1 < l.length) → bl (l[k]'(by omega)).1 l[k + 1].1 = true) ∧ Ext w wr) (fun i _ => (intOf i).toNat)
  case atStart => exact ⟨(n : Int) - 1, rfl, by omega, by omega, fun k h1 h2 => absurd h2 (by have := HN.out; omega), Ext.refl _⟩
  case round =>
    obtain ⟨z, rfl, hz0, hz1, ha, hE⟩ := hrel
    by_cases hpos : 0 < z
    · obtain ⟨k, rfl⟩ : ∃ k : Nat, z = k + 1 := ⟨(z - 1).toNat, by omega⟩
      have hkl : k + 1 < l.length := by have := HN.out; omega
      obtain ⟨b, o, rfl, hb, hc⟩ : ∃ b o, A = some ⟨b, o, none⟩ ∧ b < wr.heap.size ∧ ∀ k, (h : k < l.length) → wr.cell? ⟨b, o + k * 2, none⟩ = some (.string (bs l[k].1)) ∧ wr.cell? ⟨b, o + k * 2 + 1, none⟩ = some (.int .i64 l[k].2) := by
        rcases h.ext hE with h0 | h0
        · rw [h0] at hkl; simp at hkl
        · exact h0
      obtain ⟨ca, cb⟩ := hc k (by omega)
      obtain ⟨cc, cd⟩ := hc (k + 1) hkl
      clear hc
      generalize hx1 : l[k] = x1 at ca cb
      generalize hx2 : l[k + 1] = x2 at cc cd
      have h1 := Lib.hid hx1
      have h2 := Lib.hid hx2
      clear hx1 hx2
      have g1 : IntKind.i64.wrap (k : Int) = (k : Int) := wrap_i64_in (by omega) (by omega)
      have g2 : (0 : Int) ≤ (k : Int) := by omega
      have g3 : (k : Int) < (n : Int) := by omega
      have g4 : ((k : Int) + 1).toNat = k + 1 := by omega
      have g5 : (0 : Int) ≤ (k : Int) + 1 := by omega
      have S0 : (b < wr.drew.heap.size ∧ Ext w wr.drew) ∧ wr.drew.cell? ⟨b, o + (k + 1) * 2, none⟩ = some (.string (bs x2.1)) ∧ wr.drew.cell? ⟨b, o + (k + 1) * 2 + 1, none⟩ = some (.int .i64 x2.2) ∧ wr.drew.cell? ⟨b, o + k * 2, none⟩ = some (.string (bs x1.1)) ∧ wr.drew.cell? ⟨b, o + k * 2 + 1, none⟩ = some (.int .i64 x1.2) := ⟨⟨hb, hE.drew⟩, cc, cd, ca, cb⟩
      clear ca cb cc cd
      go_wp2_with fail
      go_region_held3 (fun w' => (b < w'.heap.size ∧ Ext w w') ∧ w'.cell? ⟨b, o + (k + 1) * 2, none⟩ = some (.string (bs x2.1)) ∧ w'.cell? ⟨b, o + (k + 1) * 2 + 1, none⟩ = some (.int .i64 x2.2) ∧ w'.cell? ⟨b, o + k * 2, none⟩ = some (.string (bs x1.1)) ∧ w'.cell? ⟨b, o + k * 2 + 1, none⟩ = some (.int .i64 x1.2))
        ((first
          | exact S0
          | (refine keep4 hb' ?_; assumption)))
        ((go_at_call 34; refine (checkfn_any _ _ _ _ _).mono ?_; rintro e w1 ⟨rfl, hb'⟩))
      rename_i hS
      obtain ⟨⟨-, hE2⟩, -⟩ := hS
      clear S0
      by_cases hlt : bl x1.1 x2.1 = true
      · have e : or2 (cmpL x2.1 x1.1) = 1 := by rw [cmpL_gt hlt]; rfl
        rw [e]
        have ha2 : Hid (∀ j : Nat, (k : Int) ≤ j → (h : j + 1 < l.length) → bl (l[j]'(by omega)).1 l[j + 1].1 = true) := fun j h3 h4 => by
          by_cases hj : j = k
          · subst hj
            have q1 := h1.out
            have q2 := h2.out
            rw [q1, q2]; exact hlt
          · exact ha.out j (by omega) h4
        clear e hlt
        go_wp2_with fail
        go_roundw
        case rel => exact ⟨k, rfl, by omega, by omega, ha2, hE2⟩
        case measure => simp [intOf]
      · have e : or2 (cmpL x2.1 x1.1) = -1 := by
          rcases bl_tri x1.1 x2.1 with g | g | g
          · exact absurd g hlt
          · rw [g, cmpL_eq]; rfl
          · rw [cmpL_lt g]; rfl
        have hr : Hid (riseB l = false) := riseB_false fun h => hlt (by have := h k hkl; rw [h1.out, h2.out] at this; exact this)
        rw [e]
        clear e hlt
        go_wp2_with fail
        go_ret
        exact Ret.mk (ret_bool (by rw [hr.out])) hE2
    · have hr : Hid (riseB l = true) := riseB_true fun k hk => ha.out k (by omega) hk
      go_wp2_with fail
      go_ret
      exact Ret.mk (ret_bool (by rw [hr.out])) hE
set_option maxRecDepth 100000 in
set_option maxHeartbeats 1000000 in
theorem check_any (A : Option Addr) (l : List EntD) (cap : Nat) (w : World) (h : EntsAt w A l) (hlen : l.length ≤ 1000000) : Calls Try.prog 10 #[.slice A l.length cap] w (Ret w (.bool (riseB l))) := by
  go_enter Try.func10, Try.ntmps10
  go_wp2_with fail
  refine (sorted_any A l cap _ h hlen).mono ?_
  rintro e w1 ⟨rfl, b1⟩
  go_wp2_with fail
  go_ret
  exact Ret.mk rfl b1
end Go.Proofs.Ytneideokodhciaa
