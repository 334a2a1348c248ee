/- Layer 11 (ents): Drop. -/
import Derived.Test.YtneideokodhciaaEntH
namespace Go.Proofs.Ytneideokodhciaa
open Go.ChangeShapes Go.WideShapes Go.ChangeAt Go.RowKit

theorem EntsAt.take {w : World} {A : Option Addr} {l : List EntD} (h : EntsAt w A l) (k : Nat) : EntsAt w A (l.take k) := by
  rcases h with h | ⟨b, o, hA, hb, hc⟩
  · subst h; exact .inl (by simp)
  · refine .inr ⟨b, o, hA, hb, fun i hi => ?_⟩
    rw [List.length_take] at hi
    rw [List.getElem_take]; exact hc i (by omega)
theorem EntsAt.drop {w : World} {b o : Nat} {l : List EntD} (h : EntsAt w (some ⟨b, o, none⟩) l) (k : Nat) : EntsAt w (some ⟨b, o + k * 2, none⟩) (l.drop k) := by
  rcases h with h | ⟨b', o', hA, hb, hc⟩
  · subst h; exact .inl (by simp)
  · injection hA with hA
    injection hA with h1 h2
    subst h1 h2
    refine .inr ⟨b, o + k * 2, rfl, hb, fun i hi => ?_⟩
    rw [List.length_drop] at hi
    rw [List.getElem_drop]
    have := hc (k + i) (by omega)
    rw [show o + k * 2 + i * 2 = o + (k + i) * 2 by omega]
    exact this
theorem parts2 {W : World} {B : Nat} {A1 A2 : Option Addr} {c1 c2 : Nat} {l1 l2 : List EntD} (h0 : W.cell? ⟨B, 0, none⟩ = some (.slice A1 l1.length c1)) (h1 : W.cell? ⟨B, 1, none⟩ = some (.slice A2 l2.length c2)) (e1 : EntsAt W A1 l1) (e2 : EntsAt W A2 l2) (hB : B < W.heap.size) (z1 : A1 = none → c1 = 0) (z2 : A2 = none → c2 = 0) :
    Parts W B [(A1, c1, l1), (A2, c2, l2)] := by
  refine ⟨hB, fun i hi => ?_⟩
  match i, hi with
  | 0, _ => exact ⟨h0, e1, z1⟩
  | 1, _ => exact ⟨h1, e2, z2⟩
theorem OwnE.base {w : World} {B B' : Nat} {v : Value} {l : List EntD} (h : OwnE w B v l) (hB : B' ≤ B) : OwnE w B' v l := by
  refine ⟨h.1, ?_⟩
  rcases h.2 with h | ⟨g, cap, cur, h1, h2, h3⟩
  · exact .inl h
  · exact .inr ⟨g, cap, cur, h1, Nat.le_trans hB h2, h3⟩
def cutP (l : List EntD) (nm : List UInt8) : List EntD := l.take (pos l nm) ++ l.drop (pos l nm + 1)
def CutR (w : World) (l : List EntD) (e : Ending) (w' : World) : Prop := ∃ v, e = .returned (.tuple #[v, .bool true]) ∧ OwnE w' w.heap.size v l ∧ Ext w w'
set_option maxRecDepth 100000 in
set_option maxHeartbeats 1000000 in
theorem drop_yes (A : Option Addr) (l : List EntD) (cap : Nat) (nm : List UInt8) (w : World) (h : EntsAt w A l) (hr : Rise l) (hcap : l.length ≤ cap) (hcap2 : cap ≤ maxLen) (hlen : l.length ≤ 1000000) (hh : has l nm = true) : Calls Try.prog 13 #[.slice A l.length cap, .string (bs nm)] w (CutR w (cutP l nm)) := by
  obtain ⟨hp, -⟩ := has_lt hr hh
  obtain ⟨p, hpp⟩ : ∃ p, p = pos l nm := ⟨_, rfl⟩
  have HH := Lib.hid hh
  have hpl : p < l.length := by rw [hpp]; exact hp
  have hcut : Hid (cutP l nm = l.take p ++ l.drop (p + 1)) := by show _ = _; rw [hpp]; rfl
  have HP := Lib.hid hpp
  clear hh hp hpp
  obtain ⟨n, hn⟩ : ∃ n, n = l.length := ⟨_, rfl⟩
  have hpn : (p : Int) < (n : Int) := by omega
  have hnc : n ≤ cap := by omega
  have hcm : cap ≤ 9223372036854775807 := by unfold maxLen at hcap2; omega
  have HN := Lib.hid hn
  obtain ⟨b, o, rfl, -⟩ := h.at_ (Ext.refl w) p hpl
  clear hn hcap hcap2
  go_enter Try.func13, Try.ntmps13
  rw [← HN.out]
  go_wp2_with fail
  rw [HN.out]
  refine (search_any _ l cap nm _ h hr hlen).mono ?_
  rintro e w1 ⟨rfl, b1⟩
  rw [HH.out, ← HP.out, ← HN.out]
  have g1 : IntKind.i64.wrap ((p : Int) + 1) = (p : Int) + 1 := wrap_i64_in (by omega) (by omega)
  have g2 : (0 : Int) ≤ (p : Int) + 1 := by omega
  have g3 : ((p : Int) + 1).toNat = p + 1 := by omega
  go_wp2_with fail
  have hE1 := b1
  have hpc : p ≤ cap := by omega
  have hpn1 : (p : Int) + 1 ≤ (n : Int) := by omega
  have lt : (l.take p).length = p := by rw [List.length_take]; omega
  have ld : (l.drop (p + 1)).length = n - (p + 1) := by rw [List.length_drop, ← HN.out]
  have hlen2 : (flatP [((some ⟨b, o, none⟩ : Option Addr), cap, l.take p), (some ⟨b, o + (p + 1) * 2, none⟩, cap - (p + 1), l.drop (p + 1))]).length ≤ 1000000 := by
    unfold flatP
    simp only [List.flatMap_cons, List.flatMap_nil, List.append_nil, List.length_append, lt, ld]; have := HN.out; omega
  have hflat : flatP [((some ⟨b, o, none⟩ : Option Addr), cap, l.take p), (some ⟨b, o + (p + 1) * 2, none⟩, cap - (p + 1), l.drop (p + 1))] = l.take p ++ l.drop (p + 1) := by unfold flatP; simp
  have LT := Lib.hid lt
  have LD := Lib.hid ld
  have HL := Lib.hid hlen2
  have HF := Lib.hid hflat
  clear lt ld hlen2 hflat
  by_cases hc1 : cap = p + 1
  · have hdr : l.drop (p + 1) = [] := by rw [List.drop_eq_nil_iff, ← HN.out]; omega
    obtain rfl : n = p + 1 := by omega
    subst hc1
    have HD := Lib.hid hdr
    clear hdr
    have hpp : (p : Int) ≤ (p : Int) + 1 := by omega
    have hfl : Hid (flatP [((some ⟨b, o, none⟩ : Option Addr), p + 1, l.take p), (some ⟨b, o, none⟩, 0, [])] = l.take p ++ l.drop (p + 1)) := by show _ = _; rw [HD.out]; unfold flatP; simp
    have hl2 : Hid ((flatP [((some ⟨b, o, none⟩ : Option Addr), p + 1, l.take p), (some ⟨b, o, none⟩, 0, [])]).length ≤ 1000000) := by show _ ≤ _; rw [hfl.out, HD.out, List.append_nil, LT.out]; have := HN.out; omega
    clear HL HF LD
    go_region_held3 (fun w' => Ext w w') ((first | exact b1.drew | exact (b1.alloc _).drew | exact b1.drew.alloc _ | exact b1'))
      ((go_at_call 39; refine (concat_any _ _ [((some ⟨b, o, none⟩ : Option Addr), p + 1, l.take p), (some ⟨b, o, none⟩, 0, [])] _ (parts2 (by rw [LT.out]; exact (Has.new w1 _).cell 0) ((Has.new w1 _).cell 1) ((h.ext (b1.alloc _).drew).take p) (.inl rfl) (Has.new w1 _).lt (by intro h; cases h) (by intro h; cases h)) hl2.out (by show 2 ≤ 1000000; omega)).mono ?_; rintro e w2 ⟨v, rfl, ho, b2⟩; have b1' := (b1.alloc _).drew.trans b2))
    go_wp2_with fail
    go_ret2
    exact ⟨v, rfl, by rw [hcut.out, ← hfl.out]; exact ho.base (by have := b1.size; simp; omega), b1'⟩
  · have hc2 : decide (cap = p + 1) = false := decide_eq_false hc1
    go_region_held3 (fun w' => Ext w w') ((first | exact b1.drew | exact (b1.alloc _).drew | exact b1.drew.alloc _ | exact b1'))
      ((go_at_call 39; refine (concat_any _ _ [((some ⟨b, o, none⟩ : Option Addr), cap, l.take p), (some ⟨b, o + (p + 1) * 2, none⟩, cap - (p + 1), l.drop (p + 1))] _ (parts2 (by rw [LT.out]; exact (Has.new w1 _).cell 0) (by rw [LD.out]; exact (Has.new w1 _).cell 1) ((h.ext (b1.alloc _).drew).take p) ((h.ext (b1.alloc _).drew).drop (p + 1)) (Has.new w1 _).lt (by intro h; cases h) (by intro h; cases h)) HL.out (by show 2 ≤ 1000000; omega)).mono ?_; rintro e w2 ⟨v, rfl, ho, b2⟩; have b1' := (b1.alloc _).drew.trans b2))
    go_wp2_with fail
    go_ret2
    exact ⟨v, rfl, by rw [hcut.out, ← HF.out]; exact ho.base (by have := b1.size; simp; omega), b1'⟩
set_option maxRecDepth 100000 in
set_option maxHeartbeats 1000000 in
theorem drop_no (A : Option Addr) (l : List EntD) (cap : Nat) (nm : List UInt8) (w : World) (h : EntsAt w A l) (hr : Rise l) (hlen : l.length ≤ 1000000) (hh : has l nm = false) : Calls Try.prog 13 #[.slice A l.length cap, .string (bs nm)] w (Ret w (.tuple #[.slice A l.length cap, .bool false])) := by
  have HH := Lib.hid hh
  clear hh
  go_enter Try.func13, Try.ntmps13
  go_wp2_with fail
  refine (search_any _ l cap nm _ h hr hlen).mono ?_
  rintro e w1 ⟨rfl, b1⟩
  rw [HH.out]
  go_wp2_with fail
  go_ret2
  exact Ret.mk rfl b1
end Go.Proofs.Ytneideokodhciaa
