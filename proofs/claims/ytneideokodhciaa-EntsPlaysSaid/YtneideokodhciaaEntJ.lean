/- Layer 11 (ents): Put of a name that is there. -/
import Derived.Test.YtneideokodhciaaEntI
namespace Go.Proofs.Ytneideokodhciaa
open Go.ChangeShapes Go.WideShapes Go.ChangeAt Go.RowKit

theorem parts3 {W : World} {B : Nat} {A1 A2 A3 : Option Addr} {c1 c2 c3 : Nat} {l1 l2 l3 : List EntD} (h0 : W.cell? ⟨B, 0, none⟩ = some (.slice A1 l1.length c1)) (h1 : W.cell? ⟨B, 1, none⟩ = some (.slice A2 l2.length c2)) (h2 : W.cell? ⟨B, 2, none⟩ = some (.slice A3 l3.length c3)) (e1 : EntsAt W A1 l1) (e2 : EntsAt W A2 l2) (e3 : EntsAt W A3 l3) (hB : B < W.heap.size) (z1 : A1 = none → c1 = 0) (z2 : A2 = none → c2 = 0) (z3 : A3 = none → c3 = 0) :
    Parts W B [(A1, c1, l1), (A2, c2, l2), (A3, c3, l3)] := by
  refine ⟨hB, fun i hi => ?_⟩
  match i, hi with
  | 0, _ => exact ⟨h0, e1, z1⟩
  | 1, _ => exact ⟨h1, e2, z2⟩
  | 2, _ => exact ⟨h2, e3, z3⟩
theorem ents_one {W : World} {B : Nat} {nm : List UInt8} {no : Int} (h : Has W B (.cells #[.string (bs nm), .int .i64 no] 25)) : EntsAt W (some ⟨B, 0, none⟩) [(nm, no)] := by
  refine .inr ⟨B, 0, rfl, h.lt, fun k hk => ?_⟩
  obtain rfl : k = 0 := by simp at hk; omega
  exact ⟨h.cell 0, h.cell 1⟩
/-- Put, as the program does it. -/
def putP (l : List EntD) (nm : List UInt8) (no : Int) : List EntD := l.take (pos l nm) ++ (nm, no) :: l.drop (pos l nm + if has l nm = true then 1 else 0)
def OwnR (w : World) (l : List EntD) (e : Ending) (w' : World) : Prop := ∃ v, e = .returned v ∧ OwnE w' w.heap.size v l ∧ Ext w w'
set_option maxRecDepth 100000 in
set_option maxHeartbeats 1000000 in
theorem put_yes (A : Option Addr) (l : List EntD) (cap : Nat) (nm : List UInt8) (no : Int) (w : World) (h : EntsAt w A l) (hr : Rise l) (hcap : l.length ≤ cap) (hcap2 : cap ≤ maxLen) (hlen : l.length ≤ 999999) (hh : has l nm = true) : Calls Try.prog 12 #[.slice A l.length cap, .string (bs nm), .int .i64 no] w (OwnR w (putP l nm no)) := by
  obtain ⟨hp, -⟩ := has_lt hr hh
  obtain ⟨p, hpp⟩ : ∃ p, p = pos l nm := ⟨_, rfl⟩
  have HH := Lib.hid hh
  have hpl : p < l.length := by rw [hpp]; exact hp
  have hcut : Hid (putP l nm no = l.take p ++ (nm, no) :: l.drop (p + 1)) := by show _ = _; unfold putP; rw [hh, if_pos rfl, hpp]
  have HP := Lib.hid hpp
  clear hh hp hpp
  obtain ⟨n, hn⟩ : ∃ n, n = l.length := ⟨_, rfl⟩
  have hpn : (p : Int) < (n : Int) := by omega
  have hnc : n ≤ cap := by omega
  have hcm : cap ≤ 9223372036854775807 := by unfold maxLen at hcap2; omega
  have HN := Lib.hid hn
  obtain ⟨b, o, rfl, -⟩ := h.at_ (Ext.refl w) p hpl
  clear hn hcap hcap2
  go_enter Try.func12, Try.ntmps12
  rw [← HN.out]
  go_wp2_with fail
  rw [HN.out]
  refine (search_any _ l cap nm _ h hr (by omega)).mono ?_
  rintro e w1 ⟨rfl, b1⟩
  rw [HH.out, ← HP.out, ← HN.out]
  have g1 : IntKind.i64.wrap ((p : Int) + 1) = (p : Int) + 1 := wrap_i64_in (by omega) (by omega)
  have g2 : (0 : Int) ≤ (p : Int) + 1 := by omega
  have g3 : ((p : Int) + 1).toNat = p + 1 := by omega
  go_wp2_with fail
  have hpc : p ≤ cap := by omega
  have hpn1 : (p : Int) + 1 ≤ (n : Int) := by omega
  have lt : (l.take p).length = p := by rw [List.length_take]; omega
  have LT := Lib.hid lt
  clear lt
  by_cases hc1 : cap = p + 1
  · have hdr : l.drop (p + 1) = [] := by rw [List.drop_eq_nil_iff, ← HN.out]; omega
    obtain rfl : n = p + 1 := by omega
    subst hc1
    have HD := Lib.hid hdr
    clear hdr
    have hpp : (p : Int) ≤ (p : Int) + 1 := by omega
    have hfl : Hid (flatP [((some ⟨b, o, none⟩ : Option Addr), p + 1, l.take p), (some ⟨w1.heap.size, 0, none⟩, 1, [(nm, no)]), (some ⟨b, o, none⟩, 0, [])] = l.take p ++ (nm, no) :: l.drop (p + 1)) := by show _ = _; rw [HD.out]; unfold flatP; simp
    have hl2 : Hid ((flatP [((some ⟨b, o, none⟩ : Option Addr), p + 1, l.take p), (some ⟨w1.heap.size, 0, none⟩, 1, [(nm, no)]), (some ⟨b, o, none⟩, 0, [])]).length ≤ 1000000) := by show _ ≤ _; rw [hfl.out, List.length_append, LT.out, List.length_cons, List.length_drop]; have := HN.out; omega
    obtain ⟨W1, hW1⟩ : ∃ W1, W1 = w1.alloc (.cells #[.string (bs nm), .int .i64 no] 25) := ⟨_, rfl⟩
    have hB1 : Has W1 w1.heap.size (.cells #[.string (bs nm), .int .i64 no] 25) := by rw [hW1]; exact Has.new _ _
    have X1 : Ext w W1 := by rw [hW1]; exact b1.alloc _
    have z1 : W1.heap.size = w1.heap.size + 1 := by rw [hW1]; simp
    have HW := Lib.hid hW1
    have HZ := Lib.hid z1
    clear hW1 z1
    go_region_held3 (fun w' => Ext w w') ((first | exact b1.drew | exact (b1.alloc _).drew | exact ((b1.alloc _).alloc _).drew | exact b1'))
      ((go_at_call 39; rw [← HW.out, ← HZ.out]; refine (concat_any _ _ [((some ⟨b, o, none⟩ : Option Addr), p + 1, l.take p), (some ⟨w1.heap.size, 0, none⟩, 1, [(nm, no)]), (some ⟨b, o, none⟩, 0, [])] _ (parts3 (by rw [LT.out]; exact (Has.new W1 _).cell 0) ((Has.new W1 _).cell 1) (by exact (Has.new W1 _).cell 2) ((h.ext (X1.alloc _).drew).take p) (ents_one (hB1.ext ((Ext.refl _).alloc _).drew)) (.inl rfl) (Has.new W1 _).lt (by intro h; cases h) (by intro h; cases h) (by intro h; cases h)) hl2.out (by show 3 ≤ 1000000; omega)).mono ?_; rintro e w2 ⟨v, rfl, ho, b2⟩; have b1' := (X1.alloc _).drew.trans b2))
    go_wp2_with fail
    go_ret
    exact ⟨v, rfl, by rw [hcut.out, ← hfl.out]; exact ho.base (by have := X1.size; simp; omega), b1'⟩
  · have hc2 : decide (cap = p + 1) = false := decide_eq_false hc1
    have ld : (l.drop (p + 1)).length = n - (p + 1) := by rw [List.length_drop, ← HN.out]
    have LD := Lib.hid ld
    clear ld
    have hfl : Hid (flatP [((some ⟨b, o, none⟩ : Option Addr), cap, l.take p), (some ⟨w1.heap.size, 0, none⟩, 1, [(nm, no)]), (some ⟨b, o + (p + 1) * 2, none⟩, cap - (p + 1), l.drop (p + 1))] = l.take p ++ (nm, no) :: l.drop (p + 1)) := by show _ = _; unfold flatP; simp
    have hl2 : Hid ((flatP [((some ⟨b, o, none⟩ : Option Addr), cap, l.take p), (some ⟨w1.heap.size, 0, none⟩, 1, [(nm, no)]), (some ⟨b, o + (p + 1) * 2, none⟩, cap - (p + 1), l.drop (p + 1))]).length ≤ 1000000) := by show _ ≤ _; rw [hfl.out, List.length_append, LT.out, List.length_cons, List.length_drop]; have := HN.out; omega
    obtain ⟨W1, hW1⟩ : ∃ W1, W1 = w1.alloc (.cells #[.string (bs nm), .int .i64 no] 25) := ⟨_, rfl⟩
    have hB1 : Has W1 w1.heap.size (.cells #[.string (bs nm), .int .i64 no] 25) := by rw [hW1]; exact Has.new _ _
    have X1 : Ext w W1 := by rw [hW1]; exact b1.alloc _
    have z1 : W1.heap.size = w1.heap.size + 1 := by rw [hW1]; simp
    have HW := Lib.hid hW1
    have HZ := Lib.hid z1
    clear hW1 z1
    go_region_held3 (fun w' => Ext w w') ((first | exact b1.drew | exact (b1.alloc _).drew | exact ((b1.alloc _).alloc _).drew | exact b1'))
      ((go_at_call 39; rw [← HW.out, ← HZ.out]; refine (concat_any _ _ [((some ⟨b, o, none⟩ : Option Addr), cap, l.take p), (some ⟨w1.heap.size, 0, none⟩, 1, [(nm, no)]), (some ⟨b, o + (p + 1) * 2, none⟩, cap - (p + 1), l.drop (p + 1))] _ (parts3 (by rw [LT.out]; exact (Has.new W1 _).cell 0) ((Has.new W1 _).cell 1) (by rw [LD.out]; exact (Has.new W1 _).cell 2) ((h.ext (X1.alloc _).drew).take p) (ents_one (hB1.ext ((Ext.refl _).alloc _).drew)) ((h.ext (X1.alloc _).drew).drop (p + 1)) (Has.new W1 _).lt (by intro h; cases h) (by intro h; cases h) (by intro h; cases h)) hl2.out (by show 3 ≤ 1000000; omega)).mono ?_; rintro e w2 ⟨v, rfl, ho, b2⟩; have b1' := (X1.alloc _).drew.trans b2))
    go_wp2_with fail
    go_ret
    exact ⟨v, rfl, by rw [hcut.out, ← hfl.out]; exact ho.base (by have := X1.size; simp; omega), b1'⟩
end Go.Proofs.Ytneideokodhciaa
