/- Layer 5 (date): the reference's Of. -/
import Derived.Test.YtanaifobmkjpaaaDoorDateY
import Derived.Test.YtanaifobmkjpaaaDoorDateP
namespace Go.Proofs.YtanaifobmkjpaaaDoor
open Go.ChangeShapes Go.WideShapes Go.ChangeAt Go.RowKit

def cells6 : Array Value := #[.int .i64 0, .int .i64 0, .int .i64 0, .int .i64 0, .int .i64 0, .int .i64 0]
/-- A time of the reference: an array of six numbers. -/
def six (a b c d e f : Int) : Value := .agg #[.int .i64 a, .int .i64 b, .int .i64 c, .int .i64 d, .int .i64 e, .int .i64 f]
/-- What Of gives: the day, valid, told by its number, and the time of the day. -/
def OfZ (sec : Nat) (v : Value) : Prop := ∃ y m d : Nat, Valid y m d ∧ 1970 ≤ y ∧ y ≤ 9999 ∧ dayN y m d = 719468 + sec / 86400 ∧ v = six y m d ((sec : Int) % 86400 / 3600) ((sec : Int) % 86400 / 60 % 60) ((sec : Int) % 60)
def OfRet (w : World) (sec : Nat) (e : Ending) (w' : World) : Prop := ∃ v, OfZ sec v ∧ e = .returned (.tuple #[v, .int .i64 0]) ∧ Ext w w'
theorem OfRet.mk {w : World} {sec N : Nat} {e : Ending} {w' : World} {x Y M z : Nat} (HN : Hid (N = sec / 86400)) (hj : Hid (jan Y + x = 719468 + N)) (hc : Hid (mcum Y M + z = x)) (hY0 : 1970 ≤ Y) (hY1 : Y ≤ 9999) (hM1 : 1 ≤ M) (hM2 : M ≤ 12) (hgd : ¬ days Y M ≤ z)
    (he : e = .returned (.tuple #[six Y M ((z : Int) + 1) ((sec : Int) % 86400 / 3600) ((sec : Int) % 86400 / 60 % 60) ((sec : Int) % 60), .int .i64 0])) (k : Ext w w') : OfRet w sec e w' := by
  refine ⟨_, ⟨Y, M, z + 1, ⟨by omega, hM1, hM2, by omega, by omega⟩, hY0, hY1, ?_, rfl⟩, ?_, k⟩
  · have h1 := HN.out
    have h2 := hj.out
    have h3 := hc.out
    unfold dayN; omega
  · rw [he]; congr 4
def put6 (w : World) (b : Nat) (v0 v1 v2 v3 v4 v5 : Value) : World :=
  (((((w.setCell ⟨b, 0, none⟩ v0).setCell ⟨b, 1, none⟩ v1).setCell ⟨b, 2, none⟩ v2).setCell ⟨b, 3, none⟩ v3).setCell ⟨b, 4, none⟩ v4).setCell ⟨b, 5, none⟩ v5
theorem Has.set {w : World} {b : Nat} {C : Array Value} {t : TypeId} {fr : Nat × Nat} (h : Has w b (.cells C t fr)) (i : Nat) (v : Value) : Has (w.setCell ⟨b, i, none⟩ v) b (.cells (C.setIfInBounds i v) t fr) := by
  have hl := h.lt
  unfold Has at h ⊢
  unfold World.setCell
  rw [Array.getElem?_modify, if_pos rfl, h]; rfl
theorem Has.put6 {w : World} {b : Nat} {u0 u1 u2 u3 u4 u5 : Value} {t : TypeId} {fr : Nat × Nat} (h : Has w b (.cells #[u0, u1, u2, u3, u4, u5] t fr)) (v0 v1 v2 v3 v4 v5 : Value) : Has (put6 w b v0 v1 v2 v3 v4 v5) b (.cells #[v0, v1, v2, v3, v4, v5] t fr) :=
  (((((h.set 0 v0).set 1 v1).set 2 v2).set 3 v3).set 4 v4).set 5 v5
theorem Ext.put6 {a w : World} (h : Ext a w) {b : Nat} (hp : a.heap.size ≤ b) (v0 v1 v2 v3 v4 v5 : Value) : Ext a (put6 w b v0 v1 v2 v3 v4 v5) :=
  (((((h.setCell hp v0).setCell hp v1).setCell hp v2).setCell hp v3).setCell hp v4).setCell hp v5
theorem jan_10000 : jan 10000 = 3652365 := by decide
set_option maxRecDepth 100000 in
set_option maxHeartbeats 4000000 in
theorem rof_any (sec : Nat) (w : World) (hs : sec ≤ 253402300799) : Calls Tryd.prog 77 #[.int .i64 sec] w (OfRet w sec) := by
  obtain ⟨N, hN⟩ : ∃ N : Nat, N = sec / 86400 := ⟨_, rfl⟩
  have hdv : (sec : Int) / 86400 = (N : Int) := by omega
  have hNb : N ≤ 2932896 := by omega
  have HN := Lib.hid hN
  clear hN
  go_enter Tryd.func77, Tryd.ntmps77
  go_wp2_with fail
  go_loopw [4, 5] (fun n y wr => ∃ (x Y : Nat), n = .int .i64 x ∧ y = .int .i64 Y ∧ x ≤ 2932896 ∧ 1970 ≤ Y ∧ Y ≤ 9999 ∧ Hid (jan Y + x = 719468 + N) ∧ Ext (w.alloc (.cells cells6 121 (0, 0))) wr) (fun n _ _ => (intOf n).toNat)
  case atStart => exact ⟨N, 1970, rfl, rfl, hNb, by omega, by omega, by show _ = _; rw [jan_1970], Ext.refl _⟩
  case round =>
    obtain ⟨x, Y, rfl, rfl, hx, hY0, hY1, hj, hE⟩ := hrel
    obtain ⟨D, hD⟩ : ∃ D : Nat, D = if leap Y then 366 else 365 := ⟨_, rfl⟩
    have hyz := yearZ_nat Y
    rw [← hD] at hyz
    have hst := jan_step Y (by omega)
    rw [← hD] at hst
    have HDM : Hid (D = mcum Y 13) := by show _ = _; rw [mcum_year]; exact hD
    have hDb : 365 ≤ D ∧ D ≤ 366 := by rw [hD]; split <;> omega
    by_cases hge : D ≤ x
    · have hY2 : Y + 1 ≤ 9999 := by
        apply Nat.le_of_not_lt
        intro h
        have : Y = 9999 := by omega
        subst this
        have := hj.out
        have e : jan (9999 + 1) = 3652365 := jan_10000
        omega
      have hj2 : Hid (jan (Y + 1) + (x - D) = 719468 + N) := by show _ = _; have := hj.out; omega
      have HZ := Lib.hid hyz
      clear hD hst hyz
      go_wp2_with fail
      refine (ryear_any _ _).mono ?_
      rintro e w1 ⟨rfl, b1⟩
      rw [HZ.out]
      go_wp2_with fail
      refine (ryear_any _ _).mono ?_
      rintro e w2 ⟨rfl, b2⟩
      rw [HZ.out]
      go_wp2_with fail
      go_roundw
      case rel => exact ⟨x - D, Y + 1, by go_num, by go_num, by omega, by omega, hY2, hj2, hE.trans (b1.trans b2)⟩
      case measure => simp [intOf]; omega
    · have HZ := Lib.hid hyz
      clear hD hst hyz
      go_wp2_with fail
      refine (ryear_any _ _).mono ?_
      rintro e w1 ⟨rfl, b1⟩
      rw [HZ.out]
      have hsmall : x < D := by omega
      have hDy : Hid (D = mcum Y 13) := HDM
      obtain ⟨wo, hwo⟩ : ∃ wo : World, wo = w1 := ⟨_, rfl⟩
      have hE2 : Ext (w.alloc (.cells cells6 121 (0, 0))) wo := by rw [hwo]; exact hE.trans b1
      rw [← hwo]
      clear hwo
      go_wp2_with fail
      go_loopw [4, 6] (fun n m wr => ∃ (z M : Nat), n = .int .i64 z ∧ m = .int .i64 M ∧ z ≤ 366 ∧ 1 ≤ M ∧ M ≤ 12 ∧ Hid (mcum Y M + z = x) ∧ Ext (w.alloc (.cells cells6 121 (0, 0))) wr) (fun n _ _ => (intOf n).toNat)
      case atStart => exact ⟨x, 1, rfl, rfl, by omega, by omega, by omega, by show _ = _; unfold mcum; cases leap Y <;> simp, hE2⟩
      case round =>
        obtain ⟨z, M, rfl, rfl, hz, hM1, hM2, hc, hE3⟩ := hrel
        have hdz := daysZ_nat Y M
        have hms := mcum_step Y M hM1 hM2
        by_cases hgd : days Y M ≤ z
        · have hM12 : M + 1 ≤ 12 := by
            apply Nat.le_of_not_lt
            intro h
            have e : M = 12 := by omega
            subst e
            have := hc.out
            have := hDy.out
            have e : mcum Y (12 + 1) = mcum Y 13 := rfl
            omega
          have hc2 : Hid (mcum Y (M + 1) + (z - days Y M) = x) := by show _ = _; have := hc.out; omega
          have hd1 : 1 ≤ days Y M := by
            unfold days
            split
            · split <;> omega
            · split
              · omega
              · rw [if_pos ⟨hM1, hM2⟩]; omega
          obtain ⟨K, hK⟩ : ∃ K, K = days Y M := ⟨_, rfl⟩
          rw [← hK] at hdz hgd hc2 hd1
          have HZ := Lib.hid hdz
          clear hdz hms hK
          go_wp2_with fail
          refine (rdays_any _ _ _).mono ?_
          rintro e w3 ⟨rfl, b3⟩
          rw [HZ.out]
          go_wp2_with fail
          refine (rdays_any _ _ _).mono ?_
          rintro e w4 ⟨rfl, b4⟩
          rw [HZ.out]
          go_wp2_with fail
          go_roundw
          case rel => exact ⟨z - K, M + 1, by go_num, by go_num, by omega, by omega, hM12, hc2, hE3.trans (b3.trans b4)⟩
          case measure => simp [intOf]; omega
        · have HZ := Lib.hid hdz
          clear hdz hms
          go_wp2_with fail
          refine (rdays_any _ _ _).mono ?_
          rintro e w3 ⟨rfl, b3⟩
          rw [HZ.out]
          have hb : Has w3 w.heap.size (.cells cells6 121 (0, 0)) := (Has.new w _).ext (hE3.trans b3)
          have c0 : w3.cell? ⟨w.heap.size, 0, none⟩ = some (.int .i64 0) := hb.cell 0
          have c1 : w3.cell? ⟨w.heap.size, 1, none⟩ = some (.int .i64 0) := hb.cell 1
          have c2 : w3.cell? ⟨w.heap.size, 2, none⟩ = some (.int .i64 0) := hb.cell 2
          have c3 : w3.cell? ⟨w.heap.size, 3, none⟩ = some (.int .i64 0) := hb.cell 3
          have c4 : w3.cell? ⟨w.heap.size, 4, none⟩ = some (.int .i64 0) := hb.cell 4
          have c5 : w3.cell? ⟨w.heap.size, 5, none⟩ = some (.int .i64 0) := hb.cell 5
          have f0 : w3.frozen? ⟨w.heap.size, 0, none⟩ = false := hb.free 0
          have f1 : w3.frozen? ⟨w.heap.size, 1, none⟩ = false := hb.free 1
          have f2 : w3.frozen? ⟨w.heap.size, 2, none⟩ = false := hb.free 2
          have f3 : w3.frozen? ⟨w.heap.size, 3, none⟩ = false := hb.free 3
          have f4 : w3.frozen? ⟨w.heap.size, 4, none⟩ = false := hb.free 4
          have f5 : w3.frozen? ⟨w.heap.size, 5, none⟩ = false := hb.free 5
          go_wp2_with fail
          have hb' := hb.put6 (.int .i64 Y) (.int .i64 M) (.int .i64 ((z : Int) + 1)) (.int .i64 ((sec : Int) % 86400 / 3600)) (.int .i64 ((sec : Int) % 86400 / 60 % 60)) (.int .i64 ((sec : Int) % 60))
          have hX := ((((Ext.refl w).alloc _).trans (hE3.trans b3)).put6 (Nat.le_refl _) (.int .i64 Y) (.int .i64 M) (.int .i64 ((z : Int) + 1)) (.int .i64 ((sec : Int) % 86400 / 3600)) (.int .i64 ((sec : Int) % 86400 / 60 % 60)) (.int .i64 ((sec : Int) % 60)))
          refine bodyPost_ret (w := put6 w3 w.heap.size (.int .i64 Y) (.int .i64 M) (.int .i64 ((z : Int) + 1)) (.int .i64 ((sec : Int) % 86400 / 3600)) (.int .i64 ((sec : Int) % 86400 / 60 % 60)) (.int .i64 ((sec : Int) % 60))) (v := .tuple #[six Y M ((z : Int) + 1) ((sec : Int) % 86400 / 3600) ((sec : Int) % 86400 / 60 % 60) ((sec : Int) % 60), .int .i64 0]) ?_ rfl ?_
          · generalize put6 w3 w.heap.size (.int .i64 Y) (.int .i64 M) (.int .i64 ((z : Int) + 1)) (.int .i64 ((sec : Int) % 86400 / 3600)) (.int .i64 ((sec : Int) % 86400 / 60 % 60)) (.int .i64 ((sec : Int) % 60)) = W at hb'
            have c0 := hb'.cell 0
            have c1 := hb'.cell 1
            have c2 := hb'.cell 2
            have c3 := hb'.cell 3
            have c4 := hb'.cell 4
            have c5 := hb'.cell 5
            clear hX
            simp at c0 c1 c2 c3 c4 c5
            simp [results, Tryd.results77, go_sem, six, c0, c1, c2, c3, c4, c5]
          · exact OfRet.mk HN hj hc hY0 hY1 hM1 hM2 hgd rfl hX
end Go.Proofs.YtanaifobmkjpaaaDoor
