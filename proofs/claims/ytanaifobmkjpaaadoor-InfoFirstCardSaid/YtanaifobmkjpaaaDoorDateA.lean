/- Layer 5 (date): both Text. -/
import Derived.Test.YtanaifobmkjpaaaDoorDateF
import Derived.Test.YtanaifobmkjpaaaDoorDateG
import Derived.Deep.RegionHeld3
namespace Go.Proofs.YtanaifobmkjpaaaDoor
open Go.ChangeShapes Go.WideShapes Go.ChangeAt Go.RowKit

def TxtZ (sec : Nat) (t : ByteArray) : Prop := ∃ y m d : Nat, Valid y m d ∧ 1970 ≤ y ∧ y ≤ 9999 ∧ dayN y m d = 719468 + sec / 86400 ∧ t = bs (txtL y m d (sec % 86400 / 3600) (sec % 86400 / 60 % 60) (sec % 60))
def TxtRet (w : World) (sec : Nat) (e : Ending) (w' : World) : Prop := ∃ t, TxtZ sec t ∧ e = .returned (.tuple #[.string t, .int .i64 0]) ∧ Ext w w'
def TxtOut (w : World) (e : Ending) (w' : World) : Prop := e = .returned (.tuple #[.string ⟨#[]⟩, .int .i64 3]) ∧ Ext w w'
theorem ppad_h {P : List UInt8} {n : Nat} {wide : Int} (hP : Hid (P = padI n wide)) (w : World) (h : n < 10000) : Calls Tryd.prog 75 #[.int .i64 n, .int .i64 wide] w (Ret w (.string (bs P))) := by
  rw [hP.out]; exact ppad_any n wide w ⟨by omega, by omega⟩
theorem rpad_h {P : List UInt8} {n : Nat} {wide : Int} (hP : Hid (P = padI n wide)) (w : World) (h : n < 10000) : Calls Tryd.prog 78 #[.int .i64 n, .int .i64 wide] w (Ret w (.string (bs P))) := by
  rw [hP.out]; exact rpad_any n wide w ⟨by omega, by omega⟩
theorem named2 (n : Nat) (h : n < 100) : ∃ P : List UInt8, Hid (P = padI n 2) ∧ Hid (P = pad2 n) ∧ (bs P).size = 2 ∧ P.length = 2 := ⟨pad2 n, (padI_2 n h).symm, rfl, rfl, rfl⟩
theorem named4 (n : Nat) (h : n < 10000) : ∃ P : List UInt8, Hid (P = padI n 4) ∧ Hid (P = pad4 n) ∧ (bs P).size = 4 ∧ P.length = 4 := ⟨pad4 n, (padI_4 n h).symm, rfl, rfl, rfl⟩
/-- A text with a piece more, by a name of its own. -/
theorem piece (a : List UInt8) (b : ByteArray) (l : List UInt8) (n : Nat) (hb : b = bs l) (hn : a.length + l.length = n) : ∃ L : List UInt8, Hid (L = a ++ l) ∧ bs a ++ b = bs L ∧ (bs L).size = n ∧ L.length = n := by
  subst hb
  exact ⟨a ++ l, rfl, bs_append a l, by rw [bs_size, List.length_append]; exact hn, by rw [List.length_append]; exact hn⟩
theorem days_le (y m : Nat) : days y m ≤ 31 := by
  unfold days
  split
  · split <;> omega
  · split
    · omega
    · split <;> omega
set_option maxRecDepth 100000 in
set_option maxHeartbeats 2000000 in
theorem ptext_out (sec : Int) (w : World) (h : sec < 0 ∨ 253402300799 < sec) : Calls Tryd.prog 44 #[.int .i64 sec] w (TxtOut w) := by
  have H := Lib.hid h
  clear h
  go_enter Tryd.func44, Tryd.ntmps44
  go_wp2_with fail
  refine (pof_out _ _ H.out).mono ?_
  rintro e w1 ⟨rfl, b1⟩
  unfold six
  go_wp2_with fail
  go_returns
  exact ⟨rfl, b1.alloc _⟩
set_option maxRecDepth 100000 in
set_option maxHeartbeats 2000000 in
theorem rtext_out (sec : Int) (w : World) (h : sec < 0 ∨ 253402300799 < sec) : Calls Tryd.prog 46 #[.int .i64 sec] w (TxtOut w) := by
  have H := Lib.hid h
  clear h
  go_enter Tryd.func46, Tryd.ntmps46
  go_wp2_with fail
  refine (rof_out _ _ H.out).mono ?_
  rintro e w1 ⟨rfl, b1⟩
  unfold six
  go_wp2_with fail
  go_returns
  exact ⟨rfl, b1.alloc _⟩
theorem TxtRet.mk {w w' : World} {sec y m d h mi s : Nat} {L : List UInt8} {e : Ending} (hv : Valid y m d) (hy0 : 1970 ≤ y) (hy1 : y ≤ 9999) (hn : Hid (dayN y m d = 719468 + sec / 86400)) (hh : Hid (h = sec % 86400 / 3600)) (hmi : Hid (mi = sec % 86400 / 60 % 60)) (hs : Hid (s = sec % 60))
    (hL : L = txtL y m d h mi s) (he : e = .returned (.tuple #[.string (bs L), .int .i64 0])) (k : Ext w w') : TxtRet w sec e w' :=
  ⟨_, ⟨y, m, d, hv, hy0, hy1, hn.out, by rw [hL, ← hh.out, ← hmi.out, ← hs.out]⟩, he, k⟩
set_option maxRecDepth 100000 in
set_option maxHeartbeats 2000000 in
theorem ptext_any (sec : Nat) (w : World) (hs : sec ≤ 253402300799) : Calls Tryd.prog 44 #[.int .i64 sec] w (TxtRet w sec) := by
  go_enter Tryd.func44, Tryd.ntmps44
  go_wp2_with fail
  refine (pof_any _ _ hs).mono ?_
  rintro e w1 ⟨v, ⟨y, m, d, hv, hy0, hy1, hn, rfl⟩, rfl, b1⟩
  have hd31 : d ≤ 31 := Nat.le_trans hv.2.2.2.2 (days_le _ _)
  have hm12 : m ≤ 12 := hv.2.2.1
  obtain ⟨h, hh⟩ : ∃ h : Nat, h = sec % 86400 / 3600 := ⟨_, rfl⟩
  obtain ⟨mi, hmi⟩ : ∃ h : Nat, h = sec % 86400 / 60 % 60 := ⟨_, rfl⟩
  obtain ⟨s, hss⟩ : ∃ h : Nat, h = sec % 60 := ⟨_, rfl⟩
  have eh : (sec : Int) % 86400 / 3600 = (h : Int) := by omega
  have emi : (sec : Int) % 86400 / 60 % 60 = (mi : Int) := by omega
  have es : (sec : Int) % 60 = (s : Int) := by omega
  rw [eh, emi, es]
  have i1 : y < 10000 := by omega
  have i2 : m < 100 := by omega
  have j2 : m < 10000 := by omega
  have i3 : d < 100 := by omega
  have j3 : d < 10000 := by omega
  have i4 : h < 100 := by omega
  have j4 : h < 10000 := by omega
  have i5 : mi < 100 := by omega
  have j5 : mi < 10000 := by omega
  have i6 : s < 100 := by omega
  have j6 : s < 10000 := by omega
  have Hn := Lib.hid hn
  have Hh := Lib.hid hh
  have Hmi := Lib.hid hmi
  have Hs := Lib.hid hss
  clear hn hh hmi hss eh emi es
  obtain ⟨W0, hW0⟩ : ∃ W0, W0 = w1.alloc (.cells #[.int .i64 y, .int .i64 m, .int .i64 d, .int .i64 h, .int .i64 mi, .int .i64 s] 115) := ⟨_, rfl⟩
  have A1 : Has W0 w1.heap.size (.cells #[.int .i64 y, .int .i64 m, .int .i64 d, .int .i64 h, .int .i64 mi, .int .i64 s] 115) := by rw [hW0]; exact Has.new _ _
  have X1 : Ext w W0 := by rw [hW0]; exact b1.alloc _
  have HW := Lib.hid hW0
  clear hW0
  unfold six
  go_wp2_with fail
  rw [← HW.out]
  clear HW
  obtain ⟨P0, q0, g0, s0, k0⟩ := named4 y i1
  obtain ⟨P1, q1, g1, s1, k1⟩ := named2 m i2
  obtain ⟨P2, q2, g2, s2, k2⟩ := named2 d i3
  obtain ⟨P3, q3, g3, s3, k3⟩ := named2 h i4
  obtain ⟨P4, q4, g4, s4, k4⟩ := named2 mi i5
  obtain ⟨P5, q5, g5, s5, k5⟩ := named2 s i6
  obtain ⟨L1, h1, e1, z1, l1⟩ := piece P0 ⟨#[45]⟩ [45] 5 rfl (by rw [k0]; rfl)
  obtain ⟨L2, h2, e2, z2, l2⟩ := piece L1 (bs P1) P1 7 rfl (by rw [l1, k1])
  obtain ⟨L3, h3, e3, z3, l3⟩ := piece L2 ⟨#[45]⟩ [45] 8 rfl (by rw [l2]; rfl)
  obtain ⟨L4, h4, e4, z4, l4⟩ := piece L3 (bs P2) P2 10 rfl (by rw [l3, k2])
  obtain ⟨L5, h5, e5, z5, l5⟩ := piece L4 ⟨#[84]⟩ [84] 11 rfl (by rw [l4]; rfl)
  obtain ⟨L6, h6, e6, z6, l6⟩ := piece L5 (bs P3) P3 13 rfl (by rw [l5, k3])
  obtain ⟨L7, h7, e7, z7, l7⟩ := piece L6 ⟨#[58]⟩ [58] 14 rfl (by rw [l6]; rfl)
  obtain ⟨L8, h8, e8, z8, l8⟩ := piece L7 (bs P4) P4 16 rfl (by rw [l7, k4])
  obtain ⟨L9, h9, e9, z9, l9⟩ := piece L8 ⟨#[58]⟩ [58] 17 rfl (by rw [l8]; rfl)
  obtain ⟨L, h10, e10, z10, l10⟩ := piece L9 (bs P5) P5 19 rfl (by rw [l9, k5])
  clear l1 l2 l3 l4 l5 l6 l7 l8 l9 l10 k0 k1 k2 k3 k4 k5
  go_region_held3 (fun w' => (Has w' w1.heap.size (.cells #[.int .i64 y, .int .i64 m, .int .i64 d, .int .i64 h, .int .i64 mi, .int .i64 s] 115) ∧ Ext w w') ∧ (∀ i, w'.cell? ⟨w1.heap.size, i, none⟩ = (#[.int .i64 y, .int .i64 m, .int .i64 d, .int .i64 h, .int .i64 mi, .int .i64 s] : Array Value)[i]?))
      ((first
        | exact ⟨⟨A1.ext ((Ext.refl _).drew), X1.drew⟩, fun i => (A1.ext ((Ext.refl _).drew)).cell i⟩
        | (refine held1 hb ?_; assumption)))
      ((go_at_call 75; refine (ppad_h (by assumption) _ (by assumption)).mono ?_; rintro e w1 ⟨rfl, hb⟩))
  rename_i hS
  obtain ⟨⟨A2, X2⟩, -⟩ := hS
  go_wp2_with fail
  go_ret2
  exact TxtRet.mk hv hy0 hy1 Hn Hh Hmi Hs (by rw [h10.out, h9.out, h8.out, h7.out, h6.out, h5.out, h4.out, h3.out, h2.out, h1.out, g0.out, g1.out, g2.out, g3.out, g4.out, g5.out]; rfl) rfl X2
end Go.Proofs.YtanaifobmkjpaaaDoor
