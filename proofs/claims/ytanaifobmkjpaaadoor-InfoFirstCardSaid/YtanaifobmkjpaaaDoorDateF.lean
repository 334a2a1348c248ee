/- Layer 5 (date): the program's Of; both Of's outside the range. -/
import Derived.Test.YtanaifobmkjpaaaDoorDateO
import Derived.Test.YtanaifobmkjpaaaDoorDateR
namespace Go.Proofs.YtanaifobmkjpaaaDoor
open Go.ChangeShapes Go.WideShapes Go.ChangeAt Go.RowKit

theorem held1 {w0 w w' : World} {b1 : Nat} {C1 : Array Value} {t1 : TypeId}
    (hb : Ext w w') (h : (Has w b1 (.cells C1 t1) ∧ Ext w0 w) ∧ (∀ i, w.cell? ⟨b1, i, none⟩ = C1[i]?)) :
    (Has w' b1 (.cells C1 t1) ∧ Ext w0 w') ∧ (∀ i, w'.cell? ⟨b1, i, none⟩ = C1[i]?) := by
  obtain ⟨⟨hA, hX⟩, _⟩ := h
  exact ⟨⟨hA.ext hb, hX.trans hb⟩, fun i => (hA.ext hb).cell i⟩
def OfOut (w : World) (e : Ending) (w' : World) : Prop := e = .returned (.tuple #[six 0 0 0 0 0 0, .int .i64 3]) ∧ Ext w w'
set_option maxRecDepth 100000 in
set_option maxHeartbeats 4000000 in
theorem rof_out (sec : Int) (w : World) (h : sec < 0 ∨ 253402300799 < sec) : Calls Tryd.prog 77 #[.int .i64 sec] w (OfOut w) := by
  by_cases h0 : sec < 0
  all_goals
    have h1 : sec < 0 ∨ 253402300799 < sec := h
    clear h
    first | (have h2 : ¬ sec < 0 := h0; have h3 : 253402300799 < sec := by omega) | skip
    clear h1
    go_enter Tryd.func77, Tryd.ntmps77
    go_wp2_with fail
    go_returns
    exact ⟨rfl, by unfold Ext; go_grown⟩
set_option maxRecDepth 100000 in
set_option maxHeartbeats 4000000 in
theorem pof_out (sec : Int) (w : World) (h : sec < 0 ∨ 253402300799 < sec) : Calls Tryd.prog 74 #[.int .i64 sec] w (OfOut w) := by
  by_cases h0 : sec < 0
  all_goals
    have h1 : sec < 0 ∨ 253402300799 < sec := h
    clear h
    first | (have h2 : ¬ sec < 0 := h0; have h3 : 253402300799 < sec := by omega) | skip
    clear h1
    go_enter Tryd.func74, Tryd.ntmps74
    go_wp2_with fail
    go_returns
    exact ⟨rfl, by unfold Ext; go_grown⟩
theorem OfRet.mk' {w : World} {sec N M C Y D : Nat} {e : Ending} {w' : World} (HN : Hid (N = sec / 86400 + 719468))
    (H : ∀ y m : Nat, (m = if M + 3 ≤ 12 then M + 3 else M - 9) → (y = if M + 3 ≤ 12 then 400 * C + Y else 400 * C + Y + 1) → Valid y m D ∧ dayN y m D = N ∧ 1970 ≤ y ∧ y ≤ 9999)
    (m y : Nat) (hm : m = if M + 3 ≤ 12 then M + 3 else M - 9) (hy : y = if M + 3 ≤ 12 then 400 * C + Y else 400 * C + Y + 1)
    (he : e = .returned (.tuple #[six y m D ((sec : Int) % 86400 / 3600) ((sec : Int) % 86400 / 60 % 60) ((sec : Int) % 60), .int .i64 0])) (k : Ext w w') : OfRet w sec e w' := by
  obtain ⟨a, b, c, d⟩ := H y m hm hy
  exact ⟨_, ⟨y, m, D, a, c, d, by have := HN.out; omega, rfl⟩, he, k⟩
set_option maxRecDepth 100000 in
set_option maxHeartbeats 4000000 in
theorem pof_any (sec : Nat) (w : World) (hs : sec ≤ 253402300799) : Calls Tryd.prog 74 #[.int .i64 sec] w (OfRet w sec) := by
  obtain ⟨N, hN⟩ : ∃ N : Nat, N = sec / 86400 + 719468 := ⟨_, rfl⟩
  obtain ⟨C, hC⟩ : ∃ C : Nat, C = N / 146097 := ⟨_, rfl⟩
  obtain ⟨R, hR⟩ : ∃ R : Nat, R = N % 146097 := ⟨_, rfl⟩
  obtain ⟨Y, hY⟩ : ∃ Y : Nat, Y = fday R / 365 := ⟨_, rfl⟩
  obtain ⟨P, hP⟩ : ∃ P : Nat, P = R - start Y := ⟨_, rfl⟩
  obtain ⟨M, hM⟩ : ∃ M : Nat, M = (5 * P + 2) / 153 := ⟨_, rfl⟩
  obtain ⟨D, hD⟩ : ∃ D : Nat, D = P - (153 * M + 2) / 5 + 1 := ⟨_, rfl⟩
  have y1 := yoe R (by omega)
  rw [← hY] at y1
  have m1 := mon P (by omega)
  rw [← hM] at m1
  have e1 : (sec : Int) / 86400 + 719468 = (N : Int) := by omega
  have e2 : (N : Int) / 146097 = (C : Int) := by omega
  have e3 : (N : Int) % 146097 = (R : Int) := by omega
  have e4 : ((R : Int) - (R : Int) / 1460 + (R : Int) / 36524 - (R : Int) / 146096) / 365 = (Y : Int) := by unfold fday at hY; omega
  have e5 : (R : Int) - (365 * (Y : Int) + (Y : Int) / 4 - (Y : Int) / 100) = (P : Int) := by unfold start at hP y1; omega
  have e6 : (5 * (P : Int) + 2) / 153 = (M : Int) := by omega
  have e7 : (P : Int) - (153 * (M : Int) + 2) / 5 + 1 = (D : Int) := by omega
  have bN : N ≤ 3652364 := by omega
  have bC : C ≤ 24 := by omega
  have bR : R ≤ 146096 := by omega
  have bY : Y ≤ 399 := y1.1
  have bP : P ≤ 365 := by omega
  have bM : M ≤ 11 := m1.1
  have H : Hid (∀ y m : Nat, (m = if M + 3 ≤ 12 then M + 3 else M - 9) → (y = if M + 3 ≤ 12 then 400 * C + Y else 400 * C + Y + 1) → Valid y m D ∧ dayN y m D = N ∧ 1970 ≤ y ∧ y ≤ 9999) := fun y m hm hy => prog_day hC hR hY hP hM hD hm hy (by omega) bN
  have HN := Lib.hid hN
  clear hN hC hR hY hP hM hD y1 m1
  by_cases h12 : 12 < (M : Int) + 3
  · go_enter Tryd.func74, Tryd.ntmps74
    go_wp2_with fail
    go_returns
    refine OfRet.mk' HN H.out (M - 9) (400 * C + Y + 1) ?_ ?_ ?_ ?_
    · rw [if_neg (by omega)]
    · rw [if_neg (by omega)]
    · have a : ((M - 9 : Nat) : Int) = (M : Int) + 3 - 12 := by omega
      rw [a]; rfl
    · unfold Ext; go_grown
  · go_enter Tryd.func74, Tryd.ntmps74
    go_wp2_with fail
    go_returns
    refine OfRet.mk' HN H.out (M + 3) (400 * C + Y) ?_ ?_ ?_ ?_
    · rw [if_pos (by omega)]
    · rw [if_pos (by omega)]
    · rfl
    · unfold Ext; go_grown
end Go.Proofs.YtanaifobmkjpaaaDoor
