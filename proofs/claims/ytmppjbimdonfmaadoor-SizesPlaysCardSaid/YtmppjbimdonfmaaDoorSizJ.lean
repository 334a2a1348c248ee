/- Layer 7 (sizes): parts of rows; splice. -/
import Derived.Test.YtmppjbimdonfmaaDoorSizG
namespace Go.Proofs.YtmppjbimdonfmaaDoor
open Go.ChangeShapes Go.WideShapes Go.ChangeAt Go.RowKit

theorem EntsAt.take {w : World} {A : Option Addr} {l : List EntD} (h : EntsAt w A l) (k : Nat) : EntsAt w A (l.take k) := by
  rcases h with h | ⟨b, o, hA, hb, hc⟩
  · subst h; exact .inl (by simp)
  · refine .inr ⟨b, o, hA, hb, fun i hi => ?_⟩
    rw [List.length_take] at hi
    rw [List.getElem_take]; exact hc i (by omega)
theorem EntsAt.drop {w : World} {b o : Nat} {l : List EntD} (h : EntsAt w (some ⟨b, o, none⟩) l) (k : Nat) : EntsAt w (some ⟨b, o + k * 3, none⟩) (l.drop k) := by
  rcases h with h | ⟨b', o', hA, hb, hc⟩
  · subst h; exact .inl (by simp)
  · injection hA with hA
    injection hA with h1 h2
    subst h1 h2
    refine .inr ⟨b, o + k * 3, rfl, hb, fun i hi => ?_⟩
    rw [List.length_drop] at hi
    rw [List.getElem_drop]
    have := hc (k + i) (by omega)
    rw [show o + k * 3 + i * 3 = o + (k + i) * 3 by omega]
    exact this
theorem OwnE.base {w : World} {B B' : Nat} {v : Value} {l : List EntD} (h : OwnE w B v l) (hB : B' ≤ B) : OwnE w B' v l := by
  refine ⟨h.1, ?_⟩
  rcases h.2 with h | ⟨g, cap, cur, h1, h2, h3⟩
  · exact .inl h
  · exact .inr ⟨g, cap, cur, h1, Nat.le_trans hB h2, h3⟩
theorem parts3 {W : World} {B : Nat} {A1 A2 A3 : Option Addr} {c1 c2 c3 : Nat} {l1 l2 l3 : List EntD} (h0 : W.cell? ⟨B, 0, none⟩ = some (.slice A1 l1.length c1)) (h1 : W.cell? ⟨B, 1, none⟩ = some (.slice A2 l2.length c2)) (h2 : W.cell? ⟨B, 2, none⟩ = some (.slice A3 l3.length c3)) (e1 : EntsAt W A1 l1) (e2 : EntsAt W A2 l2) (e3 : EntsAt W A3 l3) (hB : B < W.heap.size) (z1 : A1 = none → c1 = 0) (z2 : A2 = none → c2 = 0) (z3 : A3 = none → c3 = 0) :
    Parts W B [(A1, c1, l1), (A2, c2, l2), (A3, c3, l3)] := by
  refine ⟨hB, fun i hi => ?_⟩
  match i, hi with
  | 0, _ => exact ⟨h0, e1, z1⟩
  | 1, _ => exact ⟨h1, e2, z2⟩
  | 2, _ => exact ⟨h2, e3, z3⟩
theorem ents_one {W : World} {B : Nat} {x : EntD} (h : Has W B (.cells #[.int .i64 x.2.1, .int .i64 x.2.2, .string (bs x.1)] 48)) : EntsAt W (some ⟨B, 0, none⟩) [x] := by
  refine .inr ⟨B, 0, rfl, h.lt, fun k hk => ?_⟩
  obtain rfl : k = 0 := by simp at hk; omega
  exact ⟨h.cell 0, h.cell 1, h.cell 2⟩
def OwnR (w : World) (l : List EntD) (e : Ending) (w' : World) : Prop := ∃ v, e = .returned v ∧ OwnE w' w.heap.size v l ∧ Ext w w'
def spl (l : List EntD) (f t : Nat) (ml : List EntD) : List EntD := l.take f ++ ml ++ l.drop t
theorem spl_len (l : List EntD) (f t : Nat) (ml : List EntD) : (spl l f t ml).length ≤ l.length + ml.length + l.length := by
  unfold spl
  simp only [List.length_append, List.length_take, List.length_drop]; omega
theorem spl_flat (l : List EntD) (f t : Nat) (ml : List EntD) (A B C : Option Addr) (a b c : Nat) : flatP [(A, a, l.take f), (B, b, ml), (C, c, l.drop t)] = spl l f t ml := by unfold flatP spl; simp
set_option maxRecDepth 100000 in
set_option maxHeartbeats 2000000 in
theorem splice_none (M : Option Addr) (mc : Nat) (ml : List EntD) (w : World) (hm : EntsAt w M ml) (hM0 : M = none → mc = 0) (hml : ml.length ≤ 1000) :
    Calls Tryd.prog 95 #[.slice none 0 0, .int .i64 0, .int .i64 0, .slice M ml.length mc] w (OwnR w ml) := by
  have hfl := spl_flat [] 0 0 ml none M none 0 mc 0
  have hl2 : (flatP [((none : Option Addr), 0, ([] : List EntD).take 0), (M, mc, ml), (none, 0, ([] : List EntD).drop 0)]).length ≤ 1000000 := by rw [hfl]; have := spl_len [] 0 0 ml; simp at this; omega
  have hs : spl [] 0 0 ml = ml := by unfold spl; simp
  rw [hs] at hfl
  have HF := Lib.hid hfl
  have HL := Lib.hid hl2
  obtain ⟨m, hm'⟩ : ∃ m, m = ml.length := ⟨_, rfl⟩
  rw [← hm']
  have HM := Lib.hid hm'
  clear hfl hl2 hs hm'
  go_enter Tryd.func95, Tryd.ntmps95
  go_wp2_with fail
  go_region_held3 (fun w' => Ext w w') ((first | exact (Ext.refl _).drew | exact ((Ext.refl _).alloc _).drew | exact (Ext.refl _).drew.alloc _ | exact b1'))
    ((go_at_call 124; refine (concat_any _ _ [((none : Option Addr), 0, ([] : List EntD).take 0), (M, mc, ml), (none, 0, ([] : List EntD).drop 0)] _ (parts3 (by exact (Has.new w _).cell 0) (by rw [← HM.out]; exact (Has.new w _).cell 1) (by exact (Has.new w _).cell 2) (.inl rfl) (hm.ext ((Ext.refl _).alloc _).drew) (.inl rfl) (Has.new w _).lt (fun _ => rfl) hM0 (fun _ => rfl)) HL.out (by show 3 ≤ 1000000; omega)).mono ?_; rintro e w2 ⟨v, rfl, ho, b2⟩; have b1' := ((Ext.refl _).alloc _).drew.trans b2))
  go_wp2_with fail
  go_ret
  exact ⟨v, rfl, by rw [← HF.out]; exact ho.base (by simp), b1'⟩
set_option maxRecDepth 100000 in
set_option maxHeartbeats 2000000 in
theorem splice_some (b o cap : Nat) (l : List EntD) (f t : Nat) (M : Option Addr) (mc : Nat) (ml : List EntD) (w : World) (h : EntsAt w (some ⟨b, o, none⟩) l) (hm : EntsAt w M ml) (hM0 : M = none → mc = 0) (hft : f ≤ t) (htl : t ≤ l.length) (hcap : l.length ≤ cap) (hcap2 : cap ≤ maxLen) (hlen : l.length ≤ 1000) (hml : ml.length ≤ 1000) :
    Calls Tryd.prog 95 #[.slice (some ⟨b, o, none⟩) l.length cap, .int .i64 f, .int .i64 t, .slice M ml.length mc] w (OwnR w (spl l f t ml)) := by
  have hl3 := spl_len l f t ml
  obtain ⟨n, hn⟩ : ∃ n, n = l.length := ⟨_, rfl⟩
  obtain ⟨m, hm'⟩ : ∃ m, m = ml.length := ⟨_, rfl⟩
  have ltf : (l.take f).length = f := by rw [List.length_take]; omega
  have ldt : (l.drop t).length = n - t := by rw [List.length_drop, ← hn]
  have hcm : cap ≤ 9223372036854775807 := by unfold maxLen at hcap2; omega
  rw [← hn] at htl hcap hlen ⊢
  rw [← hm'] at hml ⊢
  have HN := Lib.hid hn
  have HM := Lib.hid hm'
  have LT := Lib.hid ltf
  have LD := Lib.hid ldt
  have HL3 : Hid ((spl l f t ml).length ≤ 1000000) := by show _ ≤ _; omega
  have hfc : f ≤ cap := by omega
  have htc : t ≤ cap := by omega
  have g1 : (f : Int) ≤ (cap : Int) := by omega
  have g2 : (t : Int) ≤ (n : Int) := by omega
  have g3 : (n : Int) ≤ (cap : Int) := by omega
  have g4 : (0 : Int) ≤ (f : Int) := by omega
  have g5 : (0 : Int) ≤ (t : Int) := by omega
  clear hl3 hn hm' ltf ldt hcap2
  go_enter Tryd.func95, Tryd.ntmps95
  go_wp2_with fail
  by_cases hc : cap = t
  · have hdr : l.drop t = [] := by rw [List.drop_eq_nil_iff, ← HN.out]; omega
    obtain rfl : n = t := by omega
    subst hc
    have hfl := spl_flat l f cap ml (some ⟨b, o, none⟩) M (some ⟨b, o, none⟩) f mc 0
    have HFL := Lib.hid hfl
    have HD := Lib.hid hdr
    clear hdr hfl
    go_region_held3 (fun w' => Ext w w') ((first | exact (Ext.refl _).drew | exact ((Ext.refl _).alloc _).drew | exact (Ext.refl _).drew.alloc _ | exact b1'))
      ((go_at_call 124; refine (concat_any _ _ [((some ⟨b, o, none⟩ : Option Addr), f, l.take f), (M, mc, ml), (some ⟨b, o, none⟩, 0, l.drop cap)] _ (parts3 (by rw [LT.out]; exact (Has.new w _).cell 0) (by rw [← HM.out]; exact (Has.new w _).cell 1) (by rw [HD.out]; exact (Has.new w _).cell 2) ((h.ext ((Ext.refl _).alloc _).drew).take f) (hm.ext ((Ext.refl _).alloc _).drew) (.inl HD.out) (Has.new w _).lt (by intro h; cases h) hM0 (by intro h; cases h)) (by rw [HFL.out]; exact HL3.out) (by show 3 ≤ 1000000; omega)).mono ?_; rintro e w2 ⟨v, rfl, ho, b2⟩; have b1' := ((Ext.refl _).alloc _).drew.trans b2))
    go_wp2_with fail
    go_ret
    exact ⟨v, rfl, by rw [← HFL.out]; exact ho.base (by simp), b1'⟩
  · have hc2 : decide (cap = t) = false := decide_eq_false hc
    have hfl := spl_flat l f t ml (some ⟨b, o, none⟩) M (some ⟨b, o + t * 3, none⟩) f mc (cap - t)
    have HFL := Lib.hid hfl
    clear hfl
    go_region_held3 (fun w' => Ext w w') ((first | exact (Ext.refl _).drew | exact ((Ext.refl _).alloc _).drew | exact (Ext.refl _).drew.alloc _ | exact b1'))
      ((go_at_call 124; refine (concat_any _ _ [((some ⟨b, o, none⟩ : Option Addr), f, l.take f), (M, mc, ml), (some ⟨b, o + t * 3, none⟩, cap - t, l.drop t)] _ (parts3 (by rw [LT.out]; exact (Has.new w _).cell 0) (by rw [← HM.out]; exact (Has.new w _).cell 1) (by rw [LD.out]; exact (Has.new w _).cell 2) ((h.ext ((Ext.refl _).alloc _).drew).take f) (hm.ext ((Ext.refl _).alloc _).drew) ((h.ext ((Ext.refl _).alloc _).drew).drop t) (Has.new w _).lt (by intro h; cases h) hM0 (by intro h; cases h)) (by rw [HFL.out]; exact HL3.out) (by show 3 ≤ 1000000; omega)).mono ?_; rintro e w2 ⟨v, rfl, ho, b2⟩; have b1' := ((Ext.refl _).alloc _).drew.trans b2))
    go_wp2_with fail
    go_ret
    exact ⟨v, rfl, by rw [← HFL.out]; exact ho.base (by simp), b1'⟩
end Go.Proofs.YtmppjbimdonfmaaDoor
