/- Layer 5 (date): the walk of the law DateTells. -/
import Derived.Test.YtneideokodhciaaDateN
import Derived.Deep.RegionHeld3
namespace Go.Proofs.Ytneideokodhciaa
open Go.ChangeShapes Go.WideShapes Go.ChangeAt Go.RowKit

def OfRes (n : Int) (a b c d e f er : Int) : Prop := (∃ sec : Nat, n = sec ∧ OfZ sec (six a b c d e f) ∧ er = 0 ∧ sec ≤ 253402300799) ∨ ((n < 0 ∨ 253402300799 < n) ∧ six a b c d e f = six 0 0 0 0 0 0 ∧ er = 3)
theorem six_inj {a b c d e f a' b' c' d' e' f' : Int} (h : six a b c d e f = six a' b' c' d' e' f') : a = a' ∧ b = b' ∧ c = c' ∧ d = d' ∧ e = e' ∧ f = f' := by
  unfold six at h
  simpa using h
theorem OfRes.same {n a b c d e f er a' b' c' d' e' f' er' : Int} (h : OfRes n a b c d e f er) (h' : OfRes n a' b' c' d' e' f' er') : (a' = a ∧ b' = b ∧ c' = c ∧ d' = d ∧ e' = e ∧ f' = f) ∧ er' = er := by
  rcases h with ⟨s, h1, h2, h3, h4⟩ | ⟨h1, h2, h3⟩
  · rcases h' with ⟨s', h1', h2', h3', h4'⟩ | ⟨h1', h2', h3'⟩
    · obtain rfl : s = s' := by omega
      exact ⟨six_inj (h2'.same h2), by omega⟩
    · omega
  · rcases h' with ⟨s', h1', h2', h3', h4'⟩ | ⟨h1', h2', h3'⟩
    · omega
    · exact ⟨six_inj (h2'.trans h2.symm), by omega⟩
theorem pof_all (n : Int) (w : World) : Calls Try.prog 19 #[.int .i64 n] w fun E w' => ∃ a b c d e f er, OfRes n a b c d e f er ∧ E = .returned (.tuple #[six a b c d e f, .int .i64 er]) ∧ Ext w w' := by
  by_cases h : n < 0 ∨ 253402300799 < n
  · exact (pof_out n w h).mono fun E w' ⟨hE, k⟩ => ⟨0, 0, 0, 0, 0, 0, 3, .inr ⟨h, rfl, rfl⟩, hE, k⟩
  · obtain ⟨s, rfl⟩ := Int.eq_ofNat_of_zero_le (show 0 ≤ n by omega)
    refine (pof_any s w (by omega)).mono fun E w' ⟨v, ⟨y, m, d, h1, h2, h3, h4, h5⟩, hE, k⟩ => ?_
    subst h5
    exact ⟨_, _, _, _, _, _, 0, .inl ⟨s, rfl, ⟨y, m, d, h1, h2, h3, h4, rfl⟩, rfl, by omega⟩, hE, k⟩
theorem rof_all (n : Int) (w : World) : Calls Try.prog 20 #[.int .i64 n] w fun E w' => ∃ a b c d e f er, OfRes n a b c d e f er ∧ E = .returned (.tuple #[six a b c d e f, .int .i64 er]) ∧ Ext w w' := by
  by_cases h : n < 0 ∨ 253402300799 < n
  · exact (rof_out n w h).mono fun E w' ⟨hE, k⟩ => ⟨0, 0, 0, 0, 0, 0, 3, .inr ⟨h, rfl, rfl⟩, hE, k⟩
  · obtain ⟨s, rfl⟩ := Int.eq_ofNat_of_zero_le (show 0 ≤ n by omega)
    refine (rof_any s w (by omega)).mono fun E w' ⟨v, ⟨y, m, d, h1, h2, h3, h4, h5⟩, hE, k⟩ => ?_
    subst h5
    exact ⟨_, _, _, _, _, _, 0, .inl ⟨s, rfl, ⟨y, m, d, h1, h2, h3, h4, rfl⟩, rfl, by omega⟩, hE, k⟩
def TxtRes (n : Int) (t : ByteArray) (er : Int) : Prop := (∃ sec : Nat, n = sec ∧ TxtZ sec t ∧ er = 0 ∧ sec ≤ 253402300799) ∨ ((n < 0 ∨ 253402300799 < n) ∧ t = ⟨#[]⟩ ∧ er = 3)
theorem TxtRes.same {n : Int} {t t' : ByteArray} {er er' : Int} (h : TxtRes n t er) (h' : TxtRes n t' er') : t' = t ∧ er' = er := by
  rcases h with ⟨s, h1, h2, h3, h4⟩ | ⟨h1, h2, h3⟩
  · rcases h' with ⟨s', h1', h2', h3', h4'⟩ | ⟨h1', h2', h3'⟩
    · obtain rfl : s = s' := by omega
      exact ⟨h2'.same h2, by omega⟩
    · omega
  · rcases h' with ⟨s', h1', h2', h3', h4'⟩ | ⟨h1', h2', h3'⟩
    · omega
    · exact ⟨h2'.trans h2.symm, by omega⟩
theorem ptext_all (n : Int) (w : World) : Calls Try.prog 24 #[.int .i64 n] w fun E w' => ∃ t er, TxtRes n t er ∧ E = .returned (.tuple #[.string t, .int .i64 er]) ∧ Ext w w' := by
  by_cases h : n < 0 ∨ 253402300799 < n
  · exact (ptext_out n w h).mono fun E w' ⟨hE, k⟩ => ⟨_, 3, .inr ⟨h, rfl, rfl⟩, hE, k⟩
  · obtain ⟨s, rfl⟩ := Int.eq_ofNat_of_zero_le (show 0 ≤ n by omega)
    exact (ptext_any s w (by omega)).mono fun E w' ⟨t, hz, hE, k⟩ => ⟨t, 0, .inl ⟨s, rfl, hz, rfl, by omega⟩, hE, k⟩
theorem rtext_all (n : Int) (w : World) : Calls Try.prog 25 #[.int .i64 n] w fun E w' => ∃ t er, TxtRes n t er ∧ E = .returned (.tuple #[.string t, .int .i64 er]) ∧ Ext w w' := by
  by_cases h : n < 0 ∨ 253402300799 < n
  · exact (rtext_out n w h).mono fun E w' ⟨hE, k⟩ => ⟨_, 3, .inr ⟨h, rfl, rfl⟩, hE, k⟩
  · obtain ⟨s, rfl⟩ := Int.eq_ofNat_of_zero_le (show 0 ≤ n by omega)
    exact (rtext_any s w (by omega)).mono fun E w' ⟨t, hz, hE, k⟩ => ⟨t, 0, .inl ⟨s, rfl, hz, rfl, by omega⟩, hE, k⟩
theorem held3 {w0 w w' : World} {b1 b2 b3 : Nat} {C1 C2 C3 : Array Value} {t1 t2 t3 : TypeId} (hb : Ext w w')
    (h : (Has w b1 (.cells C1 t1) ∧ Has w b2 (.cells C2 t2) ∧ Has w b3 (.cells C3 t3) ∧ Ext w0 w) ∧ (∀ i, w.cell? ⟨b1, i, none⟩ = C1[i]?) ∧ (∀ i, w.cell? ⟨b2, i, none⟩ = C2[i]?) ∧ (∀ i, w.cell? ⟨b3, i, none⟩ = C3[i]?)) :
    (Has w' b1 (.cells C1 t1) ∧ Has w' b2 (.cells C2 t2) ∧ Has w' b3 (.cells C3 t3) ∧ Ext w0 w') ∧ (∀ i, w'.cell? ⟨b1, i, none⟩ = C1[i]?) ∧ (∀ i, w'.cell? ⟨b2, i, none⟩ = C2[i]?) ∧ (∀ i, w'.cell? ⟨b3, i, none⟩ = C3[i]?) := by
  obtain ⟨⟨hA, hB, hC, hX⟩, _⟩ := h
  exact ⟨⟨hA.ext hb, hB.ext hb, hC.ext hb, hX.trans hb⟩, fun i => (hA.ext hb).cell i, fun i => (hB.ext hb).cell i, fun i => (hC.ext hb).cell i⟩
def sixA (a b c d e f : Int) : Array Value := #[.int .i64 a, .int .i64 b, .int .i64 c, .int .i64 d, .int .i64 e, .int .i64 f]
set_option maxRecDepth 100000 in
set_option maxHeartbeats 1000000 in
theorem dateTells_core (n : Int) (c0 c1 c2 c3 c4 c5 : Int) (s : ByteArray) (w : World) :
    Calls Try.prog 6 #[.int .i64 n, six c0 c1 c2 c3 c4 c5, .string s] w (Ret w (.bool true)) := by
  by_cases hlong : 100 < (s.size : Int)
  · unfold six
    go_enter Try.func6, Try.ntmps6
    go_wp2_with fail
    refine (awake5 _).mono ?_
    rintro e w1 ⟨rfl, b1⟩
    go_wp2_with fail
    go_ret
    exact Ret.mk rfl (((Ext.refl _).alloc _).trans b1)
  · obtain ⟨W0, hW0⟩ : ∃ W0, W0 = w.alloc (.cells (sixA c0 c1 c2 c3 c4 c5) 38) := ⟨_, rfl⟩
    have A1 : Has W0 w.heap.size (.cells (sixA c0 c1 c2 c3 c4 c5) 38) := by rw [hW0]; exact Has.new _ _
    have X1 : Ext w W0 := by rw [hW0]; exact (Ext.refl _).alloc _
    have HW := Lib.hid hW0
    clear hW0
    unfold six
    go_enter Try.func6, Try.ntmps6
    go_wp2_with fail
    have hfold : Hid (w.alloc (.cells #[.int .i64 c0, .int .i64 c1, .int .i64 c2, .int .i64 c3, .int .i64 c4, .int .i64 c5] 38) = W0) := HW.out.symm
    rw [hfold.out]
    clear hfold HW
    refine (pof_all n _).mono ?_
    rintro e w1 ⟨x0, x1, x2, x3, x4, x5, er, hof, rfl, b1⟩
    unfold six
    go_wp2_with fail
    refine (rof_all n _).mono ?_
    rintro e w2 ⟨y0, y1, y2, y3, y4, y5, er', hof', rfl, b2⟩
    obtain ⟨⟨q0, q1, q2, q3, q4, q5⟩, q6⟩ := hof.same hof'
    subst q0 q1 q2 q3 q4 q5 q6
    clear hof hof'
    have A2 := A1.ext (b1.trans (((Ext.refl _).alloc (.cells (sixA y0 y1 y2 y3 y4 y5) 40)).trans b2))
    have B2 : Has w2 w1.heap.size (.cells (sixA y0 y1 y2 y3 y4 y5) 40) := (Has.new _ _).ext b2
    have X2 : Ext w w2 := X1.trans (b1.trans (((Ext.refl _).alloc (.cells (sixA y0 y1 y2 y3 y4 y5) 40)).trans b2))
    have ltA := A2.lt
    have ca0 := A2.cell 0
    have ca1 := A2.cell 1
    have ca2 := A2.cell 2
    have ca3 := A2.cell 3
    have ca4 := A2.cell 4
    have ca5 := A2.cell 5
    simp [sixA] at ca0 ca1 ca2 ca3 ca4 ca5
    clear b1 b2
    unfold six
    go_wp2_with fail
    refine (law_to c0 c1 c2 c3 c4 c5 _).mono ?_
    rintro e w3 ⟨rfl, b3⟩
    unfold six
    go_wp2_with fail
    refine (psec_any c0 c1 c2 c3 c4 c5 _).mono ?_
    rintro e w4 ⟨n1, e1, hz, rfl, b4⟩
    have A4 := (A2.alloc (.cells (sixA y0 y1 y2 y3 y4 y5) 38)).ext (b3.trans b4)
    have B4 := (B2.alloc (.cells (sixA y0 y1 y2 y3 y4 y5) 38)).ext (b3.trans b4)
    have C4 : Has w4 w2.heap.size (.cells (sixA y0 y1 y2 y3 y4 y5) 38) := (Has.new _ _).ext (b3.trans b4)
    have X4 : Ext w w4 := (X2.alloc (.cells (sixA y0 y1 y2 y3 y4 y5) 38)).trans (b3.trans b4)
    clear b3 b4 ca0 ca1 ca2 ca3 ca4 ca5 ltA A2 B2 X2
    have cb0 := A4.cell 0
    have cb1 := A4.cell 1
    have cb2 := A4.cell 2
    have cb3 := A4.cell 3
    have cb4 := A4.cell 4
    have cb5 := A4.cell 5
    simp [sixA] at cb0 cb1 cb2 cb3 cb4 cb5
    go_wp2_with fail
    refine (rsec_any c0 c1 c2 c3 c4 c5 _).mono ?_
    rintro e w5 ⟨n2, e2, hz', rfl, b5⟩
    obtain ⟨q1, q2⟩ := hz.same hz'
    subst q1 q2
    clear hz hz'
    go_wp2_with fail
    refine (ptext_all n _).mono ?_
    rintro e w6 ⟨t1, te, ht, rfl, b6⟩
    go_wp2_with fail
    refine (rtext_all n _).mono ?_
    rintro e w7 ⟨t2, te2, ht', rfl, b7⟩
    obtain ⟨q1, q2⟩ := ht.same ht'
    subst q1 q2
    clear ht ht'
    go_wp2_with fail
    refine (pparse_any s _ (by omega)).mono ?_
    rintro e w8 ⟨n3, e3, hp, rfl, b8⟩
    go_wp2_with fail
    refine (rparse_any s _ (by omega)).mono ?_
    rintro e w9 ⟨n4, e4, hp', rfl, b9⟩
    obtain ⟨q1, q2⟩ := hp.same hp'
    subst q1 q2
    clear hp hp' cb0 cb1 cb2 cb3 cb4 cb5
    have X9 := b5.trans (b6.trans (b7.trans (b8.trans b9)))
    have A9 := A4.ext X9
    have B9 := B4.ext X9
    have C9 := C4.ext X9
    have E9 := X4.trans X9
    clear b5 b6 b7 b8 b9 X9 A4 B4 C4 X4 A1 X1
    unfold sixA at A9 B9 C9
    have hq := eq_six y0 y1 y2 y3 y4 y5
    go_wp2_with fail
    simp only [List.append_eq, List.cons_append, List.nil_append]
    go_region_held3 (fun w' => (Has w' w.heap.size (.cells #[.int .i64 c0, .int .i64 c1, .int .i64 c2, .int .i64 c3, .int .i64 c4, .int .i64 c5] 38) ∧ Has w' w1.heap.size (.cells #[.int .i64 y0, .int .i64 y1, .int .i64 y2, .int .i64 y3, .int .i64 y4, .int .i64 y5] 40) ∧ Has w' w2.heap.size (.cells #[.int .i64 y0, .int .i64 y1, .int .i64 y2, .int .i64 y3, .int .i64 y4, .int .i64 y5] 38) ∧ Ext w w') ∧ (∀ i, w'.cell? ⟨w.heap.size, i, none⟩ = (#[.int .i64 c0, .int .i64 c1, .int .i64 c2, .int .i64 c3, .int .i64 c4, .int .i64 c5] : Array Value)[i]?) ∧ (∀ i, w'.cell? ⟨w1.heap.size, i, none⟩ = (#[.int .i64 y0, .int .i64 y1, .int .i64 y2, .int .i64 y3, .int .i64 y4, .int .i64 y5] : Array Value)[i]?) ∧ (∀ i, w'.cell? ⟨w2.heap.size, i, none⟩ = (#[.int .i64 y0, .int .i64 y1, .int .i64 y2, .int .i64 y3, .int .i64 y4, .int .i64 y5] : Array Value)[i]?))
      ((first
        | exact ⟨⟨A9.ext ((Ext.refl _).drew), B9.ext ((Ext.refl _).drew), C9.ext ((Ext.refl _).drew), E9.drew⟩, fun i => (A9.ext ((Ext.refl _).drew)).cell i, fun i => (B9.ext ((Ext.refl _).drew)).cell i, fun i => (C9.ext ((Ext.refl _).drew)).cell i⟩
        | (refine held3 hb ?_; assumption)))
      ((first
        | (go_at_call 28; refine (law_of _ _ _ _ _ _ _).mono ?_; rintro e w1 ⟨rfl, hb⟩; unfold six)
        | (go_at_call 29; refine (pleap_any _ _).mono ?_; rintro e w1 ⟨rfl, hb⟩)
        | (go_at_call 30; refine (rleap_any _ _).mono ?_; rintro e w1 ⟨rfl, hb⟩)
        | (go_at_call 31; refine (pdays_any _ _ _).mono ?_; rintro e w1 ⟨rfl, hb⟩)
        | (go_at_call 32; refine (rdays_any _ _ _).mono ?_; rintro e w1 ⟨rfl, hb⟩)
        | (go_at_call 18; refine (awake5 _).mono ?_; rintro e w1 ⟨rfl, hb⟩)))
    rename_i hS
    obtain ⟨⟨-, -, -, XE⟩, -⟩ := hS
    clear hq
    go_wp2_with fail
    go_ret
    exact Ret.mk rfl XE
set_option maxRecDepth 100000 in
theorem dateTells_walk {H : Type} {enc : TypeId × Value → H} (W : World) (base : Nat) (v0 v1 v2 : Value) (d0 d1 d2 : DataW H) (p0 p1 p2 : List MemPlace)
    (k0 : Value.okWide Try.prog W .any base 3 v0) (h0 : DataW.Trod enc Try.prog W 0 (fun _ => true) true 3 v0 d0 p0)
    (k1 : Value.okWide Try.prog W .any base 38 v1) (h1 : DataW.Trod enc Try.prog W 0 (fun _ => true) true 38 v1 d1 p1)
    (k2 : Value.okWide Try.prog W .any base 9 v2) (h2 : DataW.Trod enc Try.prog W 0 (fun _ => true) true 9 v2 d2 p2)
    : Calls Try.prog 6 #[v0, v1, v2] W (Ret W (.bool true)) := by
  obtain ⟨a0, rfl, rfl, rfl, w0⟩ := open_int Try.underlying3 k0 h0
  obtain ⟨c0, c1, c2, c3, c4, c5, rfl⟩ := open_six k1 h1
  obtain ⟨a2, rfl, rfl, rfl, w2⟩ := Go.ChangeMaps.open_string Try.underlying9 k2 h2
  exact dateTells_core a0 c0 c1 c2 c3 c4 c5 a2 W
end Go.Proofs.Ytneideokodhciaa
