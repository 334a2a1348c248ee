/- Layer 5 (date): the reference's Text. -/
import Derived.Test.YtanaifobmkjpaaaDoorDateA
namespace Go.Proofs.YtanaifobmkjpaaaDoor
open Go.ChangeShapes Go.WideShapes Go.ChangeAt Go.RowKit

set_option maxRecDepth 100000 in
set_option maxHeartbeats 1000000 in
theorem rtext_any (sec : Nat) (w : World) (hs : sec ≤ 253402300799) : Calls Tryd.prog 46 #[.int .i64 sec] w (TxtRet w sec) := by
  go_enter Tryd.func46, Tryd.ntmps46
  go_wp2_with fail
  refine (rof_any _ _ hs).mono ?_
  rintro e w1 ⟨v, ⟨y, m, d, hv, hy0, hy1, hn, rfl⟩, rfl, b1⟩
  have hd31 : d ≤ 31 := Nat.le_trans hv.2.2.2.2 (days_le _ _)
  have hm12 : m ≤ 12 := hv.2.2.1
  obtain ⟨h, hh⟩ : ∃ h : Nat, h = sec % 86400 / 3600 := ⟨_, rfl⟩
  obtain ⟨mi, hmi⟩ : ∃ h : Nat, h = sec % 86400 / 60 % 60 := ⟨_, rfl⟩
  obtain ⟨s, hss⟩ : ∃ h : Nat, h = sec % 60 := ⟨_, rfl⟩
  have eh : (sec : Int) % 86400 / 3600 = (h : Int) := by omega
  have emi : (sec : Int) % 86400 / 60 % 60 = (mi : Int) := by omega
  have es : (sec : Int) % 60 = (s : Int) := by omega
  rw [eh, emi, es]
  have i1 : y < 10000 := by omega
  have i2 : m < 100 := by omega
  have j2 : m < 10000 := by omega
  have i3 : d < 100 := by omega
  have j3 : d < 10000 := by omega
  have i4 : h < 100 := by omega
  have j4 : h < 10000 := by omega
  have i5 : mi < 100 := by omega
  have j5 : mi < 10000 := by omega
  have i6 : s < 100 := by omega
  have j6 : s < 10000 := by omega
  have Hn := Lib.hid hn
  have Hh := Lib.hid hh
  have Hmi := Lib.hid hmi
  have Hs := Lib.hid hss
  clear hn hh hmi hss eh emi es
  obtain ⟨W0, hW0⟩ : ∃ W0, W0 = w1.alloc (.cells #[.int .i64 y, .int .i64 m, .int .i64 d, .int .i64 h, .int .i64 mi, .int .i64 s] 121) := ⟨_, rfl⟩
  have A1 : Has W0 w1.heap.size (.cells #[.int .i64 y, .int .i64 m, .int .i64 d, .int .i64 h, .int .i64 mi, .int .i64 s] 121) := by rw [hW0]; exact Has.new _ _
  have X1 : Ext w W0 := by rw [hW0]; exact b1.alloc _
  have HW := Lib.hid hW0
  clear hW0
  obtain ⟨P0, q0, g0, s0, k0⟩ := named4 y i1
  obtain ⟨P1, q1, g1, s1, k1⟩ := named2 m i2
  obtain ⟨P2, q2, g2, s2, k2⟩ := named2 d i3
  obtain ⟨P3, q3, g3, s3, k3⟩ := named2 h i4
  obtain ⟨P4, q4, g4, s4, k4⟩ := named2 mi i5
  obtain ⟨P5, q5, g5, s5, k5⟩ := named2 s i6
  obtain ⟨L1, h1, e1, z1, l1⟩ := piece P0 ⟨#[45]⟩ [45] 5 rfl (by rw [k0]; rfl)
  obtain ⟨L2, h2, e2, z2, l2⟩ := piece L1 (bs P1) P1 7 rfl (by rw [l1, k1])
  obtain ⟨L3, h3, e3, z3, l3⟩ := piece L2 ⟨#[45]⟩ [45] 8 rfl (by rw [l2]; rfl)
  obtain ⟨L4, h4, e4, z4, l4⟩ := piece L3 (bs P2) P2 10 rfl (by rw [l3, k2])
  obtain ⟨L5, h5, e5, z5, l5⟩ := piece L4 ⟨#[84]⟩ [84] 11 rfl (by rw [l4]; rfl)
  obtain ⟨L6, h6, e6, z6, l6⟩ := piece L5 (bs P3) P3 13 rfl (by rw [l5, k3])
  obtain ⟨L7, h7, e7, z7, l7⟩ := piece L6 ⟨#[58]⟩ [58] 14 rfl (by rw [l6]; rfl)
  obtain ⟨L8, h8, e8, z8, l8⟩ := piece L7 (bs P4) P4 16 rfl (by rw [l7, k4])
  obtain ⟨L9, h9, e9, z9, l9⟩ := piece L8 ⟨#[58]⟩ [58] 17 rfl (by rw [l8]; rfl)
  obtain ⟨L, h10, e10, z10, l10⟩ := piece L9 (bs P5) P5 19 rfl (by rw [l9, k5])
  clear l1 l2 l3 l4 l5 l6 l7 l8 l9 l10 k0 k1 k2 k3 k4 k5
  obtain ⟨Lf, f0, f1, f2, f3, f4, f5⟩ : ∃ Lf : Nat → List UInt8, Hid (Lf 0 = P0) ∧ Hid (Lf 1 = L2) ∧ Hid (Lf 2 = L4) ∧ Hid (Lf 3 = L6) ∧ Hid (Lf 4 = L8) ∧ Hid (Lf 5 = L) :=
    ⟨fun k => if k = 0 then P0 else if k = 1 then L2 else if k = 2 then L4 else if k = 3 then L6 else if k = 4 then L8 else L, rfl, rfl, rfl, rfl, rfl, rfl⟩
  unfold six
  go_wp2_with fail
  rw [← HW.out]
  clear HW
  have c0 := A1.cell 0
  simp at c0
  refine (rpad_h q0 _ i1).mono ?_
  rintro e w2 ⟨rfl, b2⟩
  go_wp2_with fail
  clear c0
  go_loopw [7, 8] (fun t i wr => ∃ k : Nat, k ≤ 5 ∧ i = .int .i64 k ∧ t = .string (bs (Lf k)) ∧ Ext W0 wr) (fun _ i _ => 5 - (intOf i).toNat)
  case atStart => exact ⟨0, by omega, rfl, by rw [f0.out], b2⟩
  case round =>
    obtain ⟨k, hk, rfl, rfl, hE⟩ := hrel
    have A3 := A1.ext hE
    have hk' : k = 0 ∨ k = 1 ∨ k = 2 ∨ k = 3 ∨ k = 4 ∨ k = 5 := by omega
    clear hk
    rcases hk' with rfl | rfl | rfl | rfl | rfl | rfl
    · rw [f0.out]
      rw [show ((0 : Nat) : Int) = 0 from rfl]
      have ws : IntKind.i64.wrap 1 = 1 := by decide
      have sl : ∀ w, (Instr.slice 9 (.string ⟨#[45, 45, 84, 58, 58]⟩) (some (.int .i64 0)) (some (.int .i64 1)) none).run Tryd.prog w = .ok (.string ⟨#[45]⟩) w := fun w => slice_str Tryd.underlying9 _ 0 1 0 1 rfl rfl (by decide) (by decide) _ rfl w
      go_wp2_with fail
      go_region_held3 (fun w' => (Has w' w1.heap.size (.cells #[.int .i64 y, .int .i64 m, .int .i64 d, .int .i64 h, .int .i64 mi, .int .i64 s] 121) ∧ Ext W0 w') ∧ (∀ i, w'.cell? ⟨w1.heap.size, i, none⟩ = (#[.int .i64 y, .int .i64 m, .int .i64 d, .int .i64 h, .int .i64 mi, .int .i64 s] : Array Value)[i]?))
        ((first
          | exact ⟨⟨A3.ext ((Ext.refl _).drew), hE.drew⟩, fun i => (A3.ext ((Ext.refl _).drew)).cell i⟩
          | (refine held1 hb ?_; assumption)))
        ((go_at_call 78; refine (rpad_h (by assumption) _ (by assumption)).mono ?_; rintro e w1 ⟨rfl, hb⟩))
      rename_i hS
      obtain ⟨⟨A4, X4⟩, -⟩ := hS
      clear ws sl
      go_wp2_with fail
      go_roundw
      case rel => exact ⟨1, by omega, rfl, by rw [f1.out], X4⟩
      case measure => simp [intOf]
    · rw [f1.out]
      rw [show ((1 : Nat) : Int) = 1 from rfl]
      have ws : IntKind.i64.wrap 2 = 2 := by decide
      have sl : ∀ w, (Instr.slice 9 (.string ⟨#[45, 45, 84, 58, 58]⟩) (some (.int .i64 1)) (some (.int .i64 2)) none).run Tryd.prog w = .ok (.string ⟨#[45]⟩) w := fun w => slice_str Tryd.underlying9 _ 1 2 1 2 rfl rfl (by decide) (by decide) _ rfl w
      go_wp2_with fail
      go_region_held3 (fun w' => (Has w' w1.heap.size (.cells #[.int .i64 y, .int .i64 m, .int .i64 d, .int .i64 h, .int .i64 mi, .int .i64 s] 121) ∧ Ext W0 w') ∧ (∀ i, w'.cell? ⟨w1.heap.size, i, none⟩ = (#[.int .i64 y, .int .i64 m, .int .i64 d, .int .i64 h, .int .i64 mi, .int .i64 s] : Array Value)[i]?))
        ((first
          | exact ⟨⟨A3.ext ((Ext.refl _).drew), hE.drew⟩, fun i => (A3.ext ((Ext.refl _).drew)).cell i⟩
          | (refine held1 hb ?_; assumption)))
        ((go_at_call 78; refine (rpad_h (by assumption) _ (by assumption)).mono ?_; rintro e w1 ⟨rfl, hb⟩))
      rename_i hS
      obtain ⟨⟨A4, X4⟩, -⟩ := hS
      clear ws sl
      go_wp2_with fail
      go_roundw
      case rel => exact ⟨2, by omega, rfl, by rw [f2.out], X4⟩
      case measure => simp [intOf]
    · rw [f2.out]
      rw [show ((2 : Nat) : Int) = 2 from rfl]
      have ws : IntKind.i64.wrap 3 = 3 := by decide
      have sl : ∀ w, (Instr.slice 9 (.string ⟨#[45, 45, 84, 58, 58]⟩) (some (.int .i64 2)) (some (.int .i64 3)) none).run Tryd.prog w = .ok (.string ⟨#[84]⟩) w := fun w => slice_str Tryd.underlying9 _ 2 3 2 3 rfl rfl (by decide) (by decide) _ rfl w
      go_wp2_with fail
      go_region_held3 (fun w' => (Has w' w1.heap.size (.cells #[.int .i64 y, .int .i64 m, .int .i64 d, .int .i64 h, .int .i64 mi, .int .i64 s] 121) ∧ Ext W0 w') ∧ (∀ i, w'.cell? ⟨w1.heap.size, i, none⟩ = (#[.int .i64 y, .int .i64 m, .int .i64 d, .int .i64 h, .int .i64 mi, .int .i64 s] : Array Value)[i]?))
        ((first
          | exact ⟨⟨A3.ext ((Ext.refl _).drew), hE.drew⟩, fun i => (A3.ext ((Ext.refl _).drew)).cell i⟩
          | (refine held1 hb ?_; assumption)))
        ((go_at_call 78; refine (rpad_h (by assumption) _ (by assumption)).mono ?_; rintro e w1 ⟨rfl, hb⟩))
      rename_i hS
      obtain ⟨⟨A4, X4⟩, -⟩ := hS
      clear ws sl
      go_wp2_with fail
      go_roundw
      case rel => exact ⟨3, by omega, rfl, by rw [f3.out], X4⟩
      case measure => simp [intOf]
    · rw [f3.out]
      rw [show ((3 : Nat) : Int) = 3 from rfl]
      have ws : IntKind.i64.wrap 4 = 4 := by decide
      have sl : ∀ w, (Instr.slice 9 (.string ⟨#[45, 45, 84, 58, 58]⟩) (some (.int .i64 3)) (some (.int .i64 4)) none).run Tryd.prog w = .ok (.string ⟨#[58]⟩) w := fun w => slice_str Tryd.underlying9 _ 3 4 3 4 rfl rfl (by decide) (by decide) _ rfl w
      go_wp2_with fail
      go_region_held3 (fun w' => (Has w' w1.heap.size (.cells #[.int .i64 y, .int .i64 m, .int .i64 d, .int .i64 h, .int .i64 mi, .int .i64 s] 121) ∧ Ext W0 w') ∧ (∀ i, w'.cell? ⟨w1.heap.size, i, none⟩ = (#[.int .i64 y, .int .i64 m, .int .i64 d, .int .i64 h, .int .i64 mi, .int .i64 s] : Array Value)[i]?))
        ((first
          | exact ⟨⟨A3.ext ((Ext.refl _).drew), hE.drew⟩, fun i => (A3.ext ((Ext.refl _).drew)).cell i⟩
          | (refine held1 hb ?_; assumption)))
        ((go_at_call 78; refine (rpad_h (by assumption) _ (by assumption)).mono ?_; rintro e w1 ⟨rfl, hb⟩))
      rename_i hS
      obtain ⟨⟨A4, X4⟩, -⟩ := hS
      clear ws sl
      go_wp2_with fail
      go_roundw
      case rel => exact ⟨4, by omega, rfl, by rw [f4.out], X4⟩
      case measure => simp [intOf]
    · rw [f4.out]
      rw [show ((4 : Nat) : Int) = 4 from rfl]
      have ws : IntKind.i64.wrap 5 = 5 := by decide
      have sl : ∀ w, (Instr.slice 9 (.string ⟨#[45, 45, 84, 58, 58]⟩) (some (.int .i64 4)) (some (.int .i64 5)) none).run Tryd.prog w = .ok (.string ⟨#[58]⟩) w := fun w => slice_str Tryd.underlying9 _ 4 5 4 5 rfl rfl (by decide) (by decide) _ rfl w
      go_wp2_with fail
      go_region_held3 (fun w' => (Has w' w1.heap.size (.cells #[.int .i64 y, .int .i64 m, .int .i64 d, .int .i64 h, .int .i64 mi, .int .i64 s] 121) ∧ Ext W0 w') ∧ (∀ i, w'.cell? ⟨w1.heap.size, i, none⟩ = (#[.int .i64 y, .int .i64 m, .int .i64 d, .int .i64 h, .int .i64 mi, .int .i64 s] : Array Value)[i]?))
        ((first
          | exact ⟨⟨A3.ext ((Ext.refl _).drew), hE.drew⟩, fun i => (A3.ext ((Ext.refl _).drew)).cell i⟩
          | (refine held1 hb ?_; assumption)))
        ((go_at_call 78; refine (rpad_h (by assumption) _ (by assumption)).mono ?_; rintro e w1 ⟨rfl, hb⟩))
      rename_i hS
      obtain ⟨⟨A4, X4⟩, -⟩ := hS
      clear ws sl
      go_wp2_with fail
      go_roundw
      case rel => exact ⟨5, by omega, rfl, by rw [f5.out], X4⟩
      case measure => simp [intOf]
    · rw [f5.out]
      go_wp2_with fail
      go_returns
      exact TxtRet.mk hv hy0 hy1 Hn Hh Hmi Hs (by rw [h10.out, h9.out, h8.out, h7.out, h6.out, h5.out, h4.out, h3.out, h2.out, h1.out, g0.out, g1.out, g2.out, g3.out, g4.out, g5.out]; rfl) rfl (X1.trans hE)
end Go.Proofs.YtanaifobmkjpaaaDoor
