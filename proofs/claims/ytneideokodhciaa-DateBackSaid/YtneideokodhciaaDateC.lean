/- Layer 5 (date): the walks of the laws DateBack and DateOrder. -/
import Derived.Test.YtneideokodhciaaDateN
import Derived.Deep.RegionHeld3
namespace Go.Proofs.Ytneideokodhciaa
open Go.ChangeShapes Go.WideShapes Go.ChangeAt Go.RowKit

theorem txt_size {sec : Nat} {t : ByteArray} (h : TxtZ sec t) : t.size = 19 := by
  obtain ⟨y, m, d, _, _, _, _, rfl⟩ := h
  rw [bs_size]; rfl
/-- The text of a second is read back. -/
theorem prs_of_txt {sec : Nat} {t : ByteArray} {n e : Int} (h : TxtZ sec t) (hp : PrsZ t.data.toList n e) : n = sec ∧ e = 0 := by
  obtain ⟨y, m, d, hv, hy0, hy, hn, rfl⟩ := h
  have l1 := days_le y m
  have c1 := hv.2.2.1
  have c3 := hv.2.2.2.2
  rw [bs_list] at hp
  exact sec_of hv hy0 hy hn rfl rfl rfl (prs_txt (by omega) (by omega) (by omega) (by omega) (by omega) (by omega) hp)
theorem held2 {w0 w w' : World} {b1 b2 : Nat} {C1 C2 : Array Value} {t1 t2 : TypeId} (hb : Ext w w')
    (h : (Has w b1 (.cells C1 t1) ∧ Has w b2 (.cells C2 t2) ∧ Ext w0 w) ∧ (∀ i, w.cell? ⟨b1, i, none⟩ = C1[i]?) ∧ (∀ i, w.cell? ⟨b2, i, none⟩ = C2[i]?)) :
    (Has w' b1 (.cells C1 t1) ∧ Has w' b2 (.cells C2 t2) ∧ Ext w0 w') ∧ (∀ i, w'.cell? ⟨b1, i, none⟩ = C1[i]?) ∧ (∀ i, w'.cell? ⟨b2, i, none⟩ = C2[i]?) := by
  obtain ⟨⟨hA, hB, hX⟩, _, _⟩ := h
  exact ⟨⟨hA.ext hb, hB.ext hb, hX.trans hb⟩, fun i => (hA.ext hb).cell i, fun i => (hB.ext hb).cell i⟩
def six6 (a b c d e f : Int) : Array Value := #[.int .i64 a, .int .i64 b, .int .i64 c, .int .i64 d, .int .i64 e, .int .i64 f]
set_option maxRecDepth 100000 in
set_option maxHeartbeats 1000000 in
theorem dateBack_core (a : Int) (h0 : 0 ≤ a) (h1 : a < 18446744073709551616) (c0 c1 c2 c3 c4 c5 : Int) (w : World) :
    Calls Try.prog 7 #[.int .u64 a, six c0 c1 c2 c3 c4 c5] w (Ret w (.bool true)) := by
  obtain ⟨sec, hsec⟩ : ∃ sec : Nat, a % 253402300800 = (sec : Int) := ⟨(a % 253402300800).toNat, by omega⟩
  have hs1 : sec ≤ 253402300799 := by omega
  obtain ⟨W0, hW0⟩ : ∃ W0, W0 = w.alloc (.cells (six6 c0 c1 c2 c3 c4 c5) 38) := ⟨_, rfl⟩
  have A1 : Has W0 w.heap.size (.cells (six6 c0 c1 c2 c3 c4 c5) 38) := by rw [hW0]; exact Has.new _ _
  have X1 : Ext w W0 := by rw [hW0]; exact (Ext.refl _).alloc _
  have HW := Lib.hid hW0
  clear hW0
  unfold six
  go_enter Try.func7, Try.ntmps7
  go_wp2_with fail
  have hfold : Hid (w.alloc (.cells #[.int .i64 c0, .int .i64 c1, .int .i64 c2, .int .i64 c3, .int .i64 c4, .int .i64 c5] 38) = W0) := HW.out.symm
  rw [hfold.out]
  clear hfold HW
  refine (pof_any sec _ hs1).mono ?_
  rintro e w1 ⟨v, ⟨y, m, d, hv, hy0, hy1, hn, rfl⟩, rfl, b1⟩
  obtain ⟨h, hh⟩ : ∃ h : Nat, h = sec % 86400 / 3600 := ⟨_, rfl⟩
  obtain ⟨mi, hmi⟩ : ∃ h : Nat, h = sec % 86400 / 60 % 60 := ⟨_, rfl⟩
  obtain ⟨s, hss⟩ : ∃ h : Nat, h = sec % 60 := ⟨_, rfl⟩
  have eh : (sec : Int) % 86400 / 3600 = (h : Int) := by omega
  have emi : (sec : Int) % 86400 / 60 % 60 = (mi : Int) := by omega
  have es : (sec : Int) % 60 = (s : Int) := by omega
  rw [eh, emi, es]
  have Hn := Lib.hid hn
  have Hh := Lib.hid hh
  have Hmi := Lib.hid hmi
  have Hs := Lib.hid hss
  clear hn hh hmi hss eh emi es
  unfold six
  go_wp2_with fail
  refine (psec_any y m d h mi s _).mono ?_
  rintro e w2 ⟨n1, e1, hz, rfl, b2⟩
  obtain ⟨rfl, rfl⟩ := sec_of hv hy0 hy1 Hn.out Hh.out Hmi.out Hs.out hz
  clear hz
  go_wp2_with fail
  refine (ptext_any sec _ hs1).mono ?_
  rintro e w3 ⟨t, ht, rfl, b3⟩
  have Ht : Hid (t.size ≤ 1000000) := by show _ ≤ _; rw [txt_size ht]; decide
  go_wp2_with fail
  refine (pparse_any t _ Ht.out).mono ?_
  rintro e w4 ⟨n2, e2, hp, rfl, b4⟩
  obtain ⟨rfl, rfl⟩ := prs_of_txt ht hp
  clear hp
  have X4 := b1.trans (((Ext.refl w1).alloc (.cells #[.int .i64 y, .int .i64 m, .int .i64 d, .int .i64 h, .int .i64 mi, .int .i64 s] 40)).trans (b2.trans (b3.trans b4)))
  have A4 := A1.ext X4
  have E4 := X1.trans X4
  have HT := Lib.hid ht
  clear b1 b2 b3 b4 X4 A1 X1 ht hsec
  have ca0 := A4.cell 0
  have ca1 := A4.cell 1
  have ca2 := A4.cell 2
  have ca3 := A4.cell 3
  have ca4 := A4.cell 4
  have ca5 := A4.cell 5
  simp [six6] at ca0 ca1 ca2 ca3 ca4 ca5
  go_wp2_with fail
  refine (law_to c0 c1 c2 c3 c4 c5 _).mono ?_
  rintro e w5 ⟨rfl, b5⟩
  unfold six
  go_wp2_with fail
  refine (psec_any c0 c1 c2 c3 c4 c5 _).mono ?_
  rintro e w6 ⟨n3, e3, hz, rfl, b6⟩
  have X6 := b5.trans b6
  have A6 := A4.ext X6
  have E6 := E4.trans X6
  clear b5 b6 X6 A4 E4 ca0 ca1 ca2 ca3 ca4 ca5
  by_cases he : e3 = 0
  · subst he
    obtain ⟨sec2, rfl, hs2, hof⟩ := of_sec hz
    have HZ := Lib.hid hz
    clear hz
    go_wp2_with fail
    refine (pof_any sec2 _ hs2).mono ?_
    rintro e w7 ⟨v, hv2, rfl, b7⟩
    have hv3 := hof v hv2
    subst hv3
    clear hv2 hof
    have hlt := A6.lt
    have A7 := (A6.ext b7).alloc (.cells (six6 c0 c1 c2 c3 c4 c5) 40)
    have B7 := Has.new w7 (.cells (six6 c0 c1 c2 c3 c4 c5) 40)
    have E7 := (E6.trans b7).alloc (.cells (six6 c0 c1 c2 c3 c4 c5) 40)
    have hq := eq_six c0 c1 c2 c3 c4 c5
    obtain ⟨W7, hW7⟩ : ∃ W7, W7 = w7.alloc (.cells (six6 c0 c1 c2 c3 c4 c5) 40) := ⟨_, rfl⟩
    rw [← hW7] at A7 B7 E7
    have HW := Lib.hid hW7
    clear hW7
    unfold six
    go_wp2_with fail
    have hfold : Hid (w7.alloc (.cells #[.int .i64 c0, .int .i64 c1, .int .i64 c2, .int .i64 c3, .int .i64 c4, .int .i64 c5] 40) = W7) := HW.out.symm
    rw [hfold.out]
    clear hfold HW
    unfold six6 at A7 B7
    go_region_held3 (fun w' => (Has w' w.heap.size (.cells #[.int .i64 c0, .int .i64 c1, .int .i64 c2, .int .i64 c3, .int .i64 c4, .int .i64 c5] 38) ∧ Has w' w7.heap.size (.cells #[.int .i64 c0, .int .i64 c1, .int .i64 c2, .int .i64 c3, .int .i64 c4, .int .i64 c5] 40) ∧ Ext w w') ∧ (∀ i, w'.cell? ⟨w.heap.size, i, none⟩ = (#[.int .i64 c0, .int .i64 c1, .int .i64 c2, .int .i64 c3, .int .i64 c4, .int .i64 c5] : Array Value)[i]?) ∧ (∀ i, w'.cell? ⟨w7.heap.size, i, none⟩ = (#[.int .i64 c0, .int .i64 c1, .int .i64 c2, .int .i64 c3, .int .i64 c4, .int .i64 c5] : Array Value)[i]?))
      ((first
        | exact ⟨⟨A7.ext ((Ext.refl _).drew), B7.ext ((Ext.refl _).drew), E7.drew⟩, fun i => (A7.ext ((Ext.refl _).drew)).cell i, fun i => (B7.ext ((Ext.refl _).drew)).cell i⟩
        | (refine held2 hb ?_; assumption)))
      ((first
        | (go_at_call 28; refine (law_of _ _ _ _ _ _ _).mono ?_; rintro e w1 ⟨rfl, hb⟩; unfold six)
        | (go_at_call 18; refine (awake5 _).mono ?_; rintro e w1 ⟨rfl, hb⟩)))
    rename_i hS
    obtain ⟨⟨-, -, XE⟩, -⟩ := hS
    clear hq
    go_wp2_with fail
    go_ret
    exact Ret.mk rfl XE
  · have hx : n3 = 0 := by
      rcases hz with ⟨_, h, _⟩ | ⟨_, _, h, _⟩ | ⟨_, _, h, _⟩
      · exact h
      · exact h
      · exact absurd h he
    subst hx
    have hne : (e3 != 0) = true := by simpa using he
    clear he hz
    go_wp2_with fail
    refine (awake5 _).mono ?_
    rintro e w7 ⟨rfl, b7⟩
    go_wp2_with fail
    go_ret
    exact Ret.mk rfl (E6.trans b7)
set_option maxRecDepth 100000 in
theorem dateBack_walk {H : Type} {enc : TypeId × Value → H} (W : World) (base : Nat) (v0 v1 : Value) (d0 d1 : DataW H) (p0 p1 : List MemPlace)
    (k0 : Value.okWide Try.prog W .any base 61 v0) (h0 : DataW.Trod enc Try.prog W 0 (fun _ => true) true 61 v0 d0 p0)
    (k1 : Value.okWide Try.prog W .any base 38 v1) (h1 : DataW.Trod enc Try.prog W 0 (fun _ => true) true 38 v1 d1 p1)
    : Calls Try.prog 7 #[v0, v1] W (Ret W (.bool true)) := by
  obtain ⟨a0, rfl, rfl, rfl, w0⟩ := open_int Try.underlying61 k0 h0
  obtain ⟨c0, c1, c2, c3, c4, c5, rfl⟩ := open_six k1 h1
  have hb := bounds_u64 w0
  exact dateBack_core a0 (by omega) (by omega) c0 c1 c2 c3 c4 c5 W
set_option maxRecDepth 100000 in
set_option maxHeartbeats 1000000 in
theorem dateOrder_core (a b : Int) (h0 : 0 ≤ a) (h1 : a < 18446744073709551616) (h2 : 0 ≤ b) (h3 : b < 18446744073709551616) (w : World) :
    Calls Try.prog 8 #[.int .u64 a, .int .u64 b] w (Ret w (.bool true)) := by
  obtain ⟨m, hm⟩ : ∃ sec : Nat, a % 253402300800 = (sec : Int) := ⟨(a % 253402300800).toNat, by omega⟩
  obtain ⟨n, hn⟩ : ∃ sec : Nat, b % 253402300800 = (sec : Int) := ⟨(b % 253402300800).toNat, by omega⟩
  have hs1 : m ≤ 253402300799 := by omega
  have hs2 : n ≤ 253402300799 := by omega
  go_enter Try.func8, Try.ntmps8
  go_wp2_with fail
  clear hm hn
  refine (ptext_any m _ hs1).mono ?_
  rintro e w1 ⟨s, hs, rfl, b1⟩
  go_wp2_with fail
  refine (ptext_any n _ hs2).mono ?_
  rintro e w2 ⟨t, ht, rfl, b2⟩
  obtain ⟨z1, z2, z3, z4⟩ := txt_order hs ht hs1 hs2
  have e3 : Go.Op.bytesLess s.toList t.toList = decide ((m : Int) < n) := by rw [z3, decide_eq_decide]; omega
  have e4 : (s.toList == t.toList) = ((m : Int) == n) := by rw [z4, Bool.eq_iff_iff]; simp; omega
  clear z3 z4 hs ht
  go_wp2_with fail
  refine (awake5 _).mono ?_
  rintro e w3 ⟨rfl, b3⟩
  go_wp2_with fail
  go_ret
  exact Ret.mk rfl ((b1.trans b2).trans b3)
set_option maxRecDepth 100000 in
theorem dateOrder_walk {H : Type} {enc : TypeId × Value → H} (W : World) (base : Nat) (v0 v1 : Value) (d0 d1 : DataW H) (p0 p1 : List MemPlace)
    (k0 : Value.okWide Try.prog W .any base 61 v0) (h0 : DataW.Trod enc Try.prog W 0 (fun _ => true) true 61 v0 d0 p0)
    (k1 : Value.okWide Try.prog W .any base 61 v1) (h1 : DataW.Trod enc Try.prog W 0 (fun _ => true) true 61 v1 d1 p1)
    : Calls Try.prog 8 #[v0, v1] W (Ret W (.bool true)) := by
  obtain ⟨a0, rfl, rfl, rfl, w0⟩ := open_int Try.underlying61 k0 h0
  obtain ⟨a1, rfl, rfl, rfl, w1⟩ := open_int Try.underlying61 k1 h1
  have hb := bounds_u64 w0
  have hc := bounds_u64 w1
  exact dateOrder_core a0 a1 (by omega) (by omega) (by omega) (by omega) W
end Go.Proofs.Ytneideokodhciaa
