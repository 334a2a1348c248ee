/- Layer 7 (sizes): Put, Drop, Find of the program. -/
import Derived.Test.YtmppjbimdonfmaaDoorSizK
import Derived.RangeFuncBox
namespace Go.Proofs.YtmppjbimdonfmaaDoor
open Go.ChangeShapes Go.WideShapes Go.ChangeAt Go.RowKit

def lineA (x : EntD) : Value := .agg #[.int .i64 x.2.1, .int .i64 x.2.2, .string (bs x.1)]
/-- Put, as the program does it. -/
def putP (l : List EntD) (x : EntD) : List EntD := if has l x.1 = true then l.set (pos l x.1) x else spl l (pos l x.1) (pos l x.1) [x]
theorem has_lt {l : List EntD} {nm : List UInt8} (hr : Rise l) (h : has l nm = true) : ∃ hp : pos l nm < l.length, (l[pos l nm]'hp).1 = nm := by
  rw [has_pos l nm hr] at h
  split at h
  · rename_i hp; exact ⟨hp, by simpa using h⟩
  · cases h
theorem entCells_set (x : EntD) : ∀ (l : List EntD) (p : Nat), p < l.length → (((entCells l).set (p * 3) (.int .i64 x.2.1)).set (p * 3 + 1) (.int .i64 x.2.2)).set (p * 3 + 2) (.string (bs x.1)) = entCells (l.set p x) := by
  intro l
  induction l with
  | nil => intro p h; cases h
  | cons y l ih =>
    intro p h
    have e : ∀ (z : EntD) (k : List EntD), entCells (z :: k) = .int .i64 z.2.1 :: .int .i64 z.2.2 :: .string (bs z.1) :: entCells k := fun z k => rfl
    cases p with
    | zero => rfl
    | succ p =>
      rw [e, List.set_cons_succ, e, ← ih p (by simpa using h), show (p + 1) * 3 = p * 3 + 1 + 1 + 1 by omega]
      rfl
set_option maxRecDepth 100000 in
set_option maxHeartbeats 2000000 in
theorem sput_none (x : EntD) (w : World) : Calls Tryd.prog 53 #[.slice none 0 0, lineA x] w (OwnR w [x]) := by
  obtain ⟨V, hV⟩ : ∃ V, V = w.alloc (.cells #[.int .i64 x.2.1, .int .i64 x.2.2, .string (bs x.1)] 48) := ⟨_, rfl⟩
  have hB : Has V w.heap.size (.cells #[.int .i64 x.2.1, .int .i64 x.2.2, .string (bs x.1)] 48) := by rw [hV]; exact Has.new _ _
  have E0 : Ext w V := by rw [hV]; exact (Ext.refl _).alloc _
  obtain ⟨c0, c1, c2⟩ : V.cell? ⟨w.heap.size, 0, none⟩ = some (.int .i64 x.2.1) ∧ V.cell? ⟨w.heap.size, 1, none⟩ = some (.int .i64 x.2.2) ∧ V.cell? ⟨w.heap.size, 2, none⟩ = some (.string (bs x.1)) := ⟨hB.cell 0, hB.cell 1, hB.cell 2⟩
  have hS := search_any none [] 0 x.1 V (.inl rfl) List.Pairwise.nil (by decide)
  rw [show pos [] x.1 = 0 from rfl, show has [] x.1 = false from rfl] at hS
  have HS := Lib.hid hS
  have HV := Lib.hid hV
  have HB := Lib.hid hB
  clear hS hV hB
  unfold lineA
  go_enter Tryd.func53, Tryd.ntmps53
  go_wp2_with (rw [← HV.out])
  refine (HS.out).mono ?_
  rintro e w1 ⟨rfl, b1⟩
  obtain ⟨d0, d1, d2⟩ : w1.cell? ⟨w.heap.size, 0, none⟩ = some (.int .i64 x.2.1) ∧ w1.cell? ⟨w.heap.size, 1, none⟩ = some (.int .i64 x.2.2) ∧ w1.cell? ⟨w.heap.size, 2, none⟩ = some (.string (bs x.1)) := ⟨(HB.out.ext b1).cell 0, (HB.out.ext b1).cell 1, (HB.out.ext b1).cell 2⟩
  clear c0 c1 c2
  go_wp2_with fail
  refine (splice_none (some ⟨w1.heap.size, 0, none⟩) 1 [x] _ (ents_one (Has.new w1 _)) (by intro h; cases h) (by show 1 ≤ 1000; omega)).mono ?_
  rintro e w2 ⟨v, rfl, ho, b2⟩
  have hE := (E0.trans b1).alloc (.cells #[.int .i64 x.2.1, .int .i64 x.2.2, .string (bs x.1)] 48)
  have hO := ho.base (B' := w.heap.size) (by have := hE.size; exact this)
  go_wp2_with fail
  go_ret
  exact ⟨v, rfl, hO, hE.trans b2⟩
set_option maxRecDepth 100000 in
set_option maxHeartbeats 4000000 in
theorem sput_some (b o cap : Nat) (l : List EntD) (x : EntD) (w : World) (h : EntsAt w (some ⟨b, o, none⟩) l) (hr : Rise l) (hcap : l.length ≤ cap) (hcap2 : cap ≤ maxLen) (hlen : l.length ≤ 1000) : Calls Tryd.prog 53 #[.slice (some ⟨b, o, none⟩) l.length cap, lineA x] w (OwnR w (putP l x)) := by
  obtain ⟨V, hV⟩ : ∃ V, V = w.alloc (.cells #[.int .i64 x.2.1, .int .i64 x.2.2, .string (bs x.1)] 48) := ⟨_, rfl⟩
  have hB : Has V w.heap.size (.cells #[.int .i64 x.2.1, .int .i64 x.2.2, .string (bs x.1)] 48) := by rw [hV]; exact Has.new _ _
  have E0 : Ext w V := by rw [hV]; exact (Ext.refl _).alloc _
  obtain ⟨c0, c1, c2⟩ : V.cell? ⟨w.heap.size, 0, none⟩ = some (.int .i64 x.2.1) ∧ V.cell? ⟨w.heap.size, 1, none⟩ = some (.int .i64 x.2.2) ∧ V.cell? ⟨w.heap.size, 2, none⟩ = some (.string (bs x.1)) := ⟨hB.cell 0, hB.cell 1, hB.cell 2⟩
  have hS := search_any (some ⟨b, o, none⟩) l cap x.1 V (h.ext E0) hr (by omega)
  obtain ⟨n, hn⟩ : ∃ n, n = l.length := ⟨_, rfl⟩
  obtain ⟨p, hp⟩ : ∃ p, p = pos l x.1 := ⟨_, rfl⟩
  have hpn : p ≤ n := by rw [hp, hn]; exact pos_le _ _
  rw [← hn] at hS hcap hlen ⊢
  rw [← hp] at hS
  have HN := Lib.hid hn
  have HV := Lib.hid hV
  have HB := Lib.hid hB
  cases hh : has l x.1
  · have hres : Hid (putP l x = spl l p p [x]) := by show _ = _; unfold putP; rw [hh, if_neg (by decide), hp]
    rw [hh] at hS
    have HS := Lib.hid hS
    clear hS hV hB hn hp hh
    unfold lineA
    go_enter Tryd.func53, Tryd.ntmps53
    go_wp2_with (rw [← HV.out])
    refine (HS.out).mono ?_
    rintro e w1 ⟨rfl, b1⟩
    obtain ⟨d0, d1, d2⟩ : w1.cell? ⟨w.heap.size, 0, none⟩ = some (.int .i64 x.2.1) ∧ w1.cell? ⟨w.heap.size, 1, none⟩ = some (.int .i64 x.2.2) ∧ w1.cell? ⟨w.heap.size, 2, none⟩ = some (.string (bs x.1)) := ⟨(HB.out.ext b1).cell 0, (HB.out.ext b1).cell 1, (HB.out.ext b1).cell 2⟩
    clear c0 c1 c2
    have hE := (E0.trans b1).alloc (.cells #[.int .i64 x.2.1, .int .i64 x.2.2, .string (bs x.1)] 48)
    have hSp := splice_some b o cap l p p (some ⟨w1.heap.size, 0, none⟩) 1 [x] _ (h.ext hE) (ents_one (Has.new w1 _)) (by intro h; cases h) (Nat.le_refl _) (by rw [← HN.out]; exact hpn) (by rw [← HN.out]; exact hcap) hcap2 (by rw [← HN.out]; exact hlen) (by show 1 ≤ 1000; omega)
    rw [← HN.out] at hSp
    have HSp := Lib.hid hSp
    clear hSp
    go_wp2_with fail
    refine (HSp.out).mono ?_
    rintro e w2 ⟨v, rfl, ho, b2⟩
    have hO := ho.base (B' := w.heap.size) (by have := hE.size; exact this)
    go_wp2_with fail
    go_ret
    exact ⟨v, rfl, by rw [hres.out]; exact hO, hE.trans b2⟩
  · have hres : Hid (putP l x = l.set p x) := by show _ = _; unfold putP; rw [hh, if_pos rfl, hp]
    have hpl : p < l.length := by rw [hp]; exact (has_lt hr hh).1
    rw [hh] at hS
    have HS := Lib.hid hS
    obtain ⟨m, hm⟩ : ∃ m, n = m + 1 := ⟨n - 1, by omega⟩
    have hpm : p ≤ m := by omega
    have HC := Lib.hid (fun (w1 : World) (hE : Ext V w1) => clone_any (some ⟨b, o, none⟩) l cap w1 ((h.ext E0).ext hE) (by intro h; cases h) (by omega))
    rw [← hn] at HC
    have hset := entCells_set x l p hpl
    have HST := Lib.hid hset
    have HPL := Lib.hid hpl
    clear hS hV hB hp hh hset hpl hn
    subst hm
    have i1 : (p : Int) < (m : Int) + 1 := by omega
    have i0 : (0 : Int) ≤ (p : Int) := by omega
    unfold lineA
    go_enter Tryd.func53, Tryd.ntmps53
    go_wp2_with (rw [← HV.out])
    refine (HS.out).mono ?_
    rintro e w1 ⟨rfl, b1⟩
    go_wp2_with fail
    refine (HC.out w1 b1).mono ?_
    rintro e w2 ⟨v, rfl, ho, b2⟩
    have hown : w2.ownsRow w1.heap.size 48 3 v (m + 1) (entCells l) := by rw [HN.out]; exact ho
    obtain ⟨g, cap', rfl⟩ := ownsRow_succ hown
    have hO1 : OwnE w2 w.heap.size (.slice (some ⟨g, 0, none⟩) (m + 1) cap') l := ho.base (by have := (E0.trans b1).size; exact this)
    have hown2 : w2.ownsRow w.heap.size 48 3 (.slice (some ⟨g, 0, none⟩) (m + 1) cap') (m + 1) (entCells l) := by have h := hO1; unfold OwnE at h; rw [← HN.out] at h; exact h
    have hgl := (hown2.lt g rfl).1
    have hx0 := ((hown2.stored (p * 3) (.int .i64 x.2.1)).1.stored (p * 3 + 1) (.int .i64 x.2.2)).1.stored (p * 3 + 2) (.string (bs x.1))
    have hE := (E0.trans b1).trans b2
    have hfin : Hid (OwnE (((w2.setCell ⟨g, p * 3, none⟩ (.int .i64 x.2.1)).setCell ⟨g, p * 3 + 1, none⟩ (.int .i64 x.2.2)).setCell ⟨g, p * 3 + 2, none⟩ (.string (bs x.1))) w.heap.size (.slice (some ⟨g, 0, none⟩) (m + 1) cap') (l.set p x) ∧ Ext w (((w2.setCell ⟨g, p * 3, none⟩ (.int .i64 x.2.1)).setCell ⟨g, p * 3 + 1, none⟩ (.int .i64 x.2.2)).setCell ⟨g, p * 3 + 2, none⟩ (.string (bs x.1)))) := by
      refine ⟨?_, ((hE.setCell hgl _).setCell hgl _).setCell hgl _⟩
      unfold OwnE
      rw [List.length_set, ← HN.out, ← HST.out]
      exact hx0.1
    have f0 := hown2.frozenAt (p * 3)
    have f1 := hown2.frozenAt (p * 3 + 1)
    have f2 := hown2.frozenAt (p * 3 + 2)
    have e := entCells_get l p HPL.out
    have q0 := (hown2.cellAt (p * 3) (by omega)).trans e.1
    have q1 := (hown2.cellAt (p * 3 + 1) (by omega)).trans e.2.1
    have q2 := (hown2.cellAt (p * 3 + 2) (by omega)).trans e.2.2
    generalize l[p]'HPL.out = y at q0 q1 q2
    obtain ⟨d0, d1, d2⟩ : w2.cell? ⟨w.heap.size, 0, none⟩ = some (.int .i64 x.2.1) ∧ w2.cell? ⟨w.heap.size, 1, none⟩ = some (.int .i64 x.2.2) ∧ w2.cell? ⟨w.heap.size, 2, none⟩ = some (.string (bs x.1)) := ⟨((HB.out.ext b1).ext b2).cell 0, ((HB.out.ext b1).ext b2).cell 1, ((HB.out.ext b1).ext b2).cell 2⟩
    clear c0 c1 c2 hown hown2 hx0 ho hO1 e
    go_wp2_with fail
    go_ret
    exact ⟨_, rfl, by rw [hres.out]; exact hfin.out.1, hfin.out.2⟩
end Go.Proofs.YtmppjbimdonfmaaDoor
