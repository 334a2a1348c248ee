/- Layer 11 (ents): the law's same, of two equal lists. -/
import Derived.Test.YtneideokodhciaaEntT
import Derived.Test.YtneideokodhciaaQuiR
namespace Go.Proofs.Ytneideokodhciaa
open Go.ChangeShapes Go.WideShapes Go.ChangeAt Go.RowKit Go.Shelf
attribute [local go_sem] Oper.semAt_some

theorem eql_func_nil (f : Fn) (ts cs : Array Value) (w : World) : (binOp .eql 75 (.func f ts cs) .nilFunc).run Try.prog w = .ok (.bool false) w := by
  have hu := Try.underlying75
  have h : ∀ d : Nat, (Op.equalIn (d + 1) 75 (.func f ts cs) .nilFunc).run Try.prog w = .ok false w := fun d => by simp [Op.equalIn, run_underlying hu]
  simp only [binOp]
  simp [Op.equal, Op.maxDepth, h 9999]
set_option maxRecDepth 100000 in
set_option maxHeartbeats 2000000 in
theorem same_any (A A' : Option Addr) (cap cap' : Nat) (es : List EntD) (w : World) (ha : EntsAt w A es) (hb : EntsAt w A' es) (hlen : es.length ≤ 1000000) : Calls Try.prog 14 #[.slice A es.length cap, .slice A' es.length cap'] w (Ret w (.bool true)) := by
  refine (callsIn_wide (n := 3)).1 ?_
  obtain ⟨F, hF⟩ : ∃ F, F = Fence.wide := ⟨_, rfl⟩
  have hro : F.round = none := by rw [hF]; rfl
  have h14 : F.fn 14 := by rw [hF]; trivial
  have h42 : F.fn 42 := by rw [hF]; trivial
  have h50 : F.fn 50 := by rw [hF]; trivial
  rw [← hF]
  clear hF
  obtain ⟨m, hm⟩ : ∃ m, m = es.length := ⟨_, rfl⟩
  rw [← hm] at hlen ⊢
  have HM := Lib.hid hm
  clear hm
  have hq2 := fun (p : Value) (w : World) => eql_func_nil (.func 50) #[] #[p] w
  refine callsIn_of_wp_marks Try.func14 rfl h14 ?_ hro
  simp only [Try.ntmps14, List.size_toArray, List.length_cons, List.length_nil, Nat.reduceAdd, Nat.reduceSub, Array.replicate_succ, Array.replicate_zero, List.push_toArray, List.append_toArray, List.nil_append, List.cons_append]
  gi_wp2_with (gi_at_call 42; refine (all_in F _ h42 hro _ _ _ _).mono ?_; rintro e w' ⟨rfl, rfl⟩)
  have W0d : ∀ o : World, o = o := fun _ => rfl
  obtain ⟨W0, hW0⟩ : ∃ W0, W0 = ((((w.alloc (.cells #[.slice A m cap] 22)).alloc (.cells #[.slice A' m cap'] 22)).alloc (.cells #[.bool false] 4)).alloc (.cells #[.slice A m cap] 22)).alloc (.cells #[.int .i64 0] 3) := ⟨_, rfl⟩
  have bA : Has W0 w.heap.size (.cells #[.slice A m cap] 22) := by rw [hW0]; exact ((((Has.new w _).alloc _).alloc _).alloc _).alloc _
  have bB : Has W0 (w.heap.size + 1) (.cells #[.slice A' m cap'] 22) := by rw [hW0]; have := Has.new (w.alloc (.cells #[.slice A m cap] 22)) (.cells #[.slice A' m cap'] 22); rw [World.size_alloc] at this; exact ((this.alloc _).alloc _).alloc _
  have bR : Has W0 (w.heap.size + 1 + 1) (.cells #[.bool false] 4) := by rw [hW0]; have := Has.new ((w.alloc (.cells #[.slice A m cap] 22)).alloc (.cells #[.slice A' m cap'] 22)) (.cells #[.bool false] 4); rw [World.size_alloc, World.size_alloc] at this; exact (this.alloc _).alloc _
  have bS : Has W0 (w.heap.size + 1 + 1 + 1) (.cells #[.slice A m cap] 22) := by rw [hW0]; have := Has.new (((w.alloc (.cells #[.slice A m cap] 22)).alloc (.cells #[.slice A' m cap'] 22)).alloc (.cells #[.bool false] 4)) (.cells #[.slice A m cap] 22); rw [World.size_alloc, World.size_alloc, World.size_alloc] at this; exact this.alloc _
  have bK : Has W0 (w.heap.size + 1 + 1 + 1 + 1) (.cells #[.int .i64 0] 3) := by rw [hW0]; have := Has.new ((((w.alloc (.cells #[.slice A m cap] 22)).alloc (.cells #[.slice A' m cap'] 22)).alloc (.cells #[.bool false] 4)).alloc (.cells #[.slice A m cap] 22)) (.cells #[.int .i64 0] 3); rw [World.size_alloc, World.size_alloc, World.size_alloc, World.size_alloc] at this; exact this
  have E0 : Ext w W0 := by rw [hW0]; exact (((((Ext.refl _).alloc _).alloc _).alloc _).alloc _).alloc _
  have hz0 : W0.heap.size = w.heap.size + 5 := by rw [hW0]; simp
  rw [← hW0]
  clear hW0 W0d hq2
  refine wpIn_rangeFunc_ownG (w0 := W0) hro (by omega) (gf := 50) (lb := #[.pointer (some ⟨w.heap.size + 1 + 1 + 1, 0, none⟩)]) rfl h50 (enters_of Try.func50 (by kernel_rfl) rfl)
    (all_stops F (3 - 1) h50 hro (by omega) (w.heap.size + 1 + 1 + 1) w.heap.size cap A es (by have := HM.out; omega) W0 bS.lt E0.size (by rw [← HM.out]; exact bS.cell 0) (EntsB.below ha E0)) belowK_t (belowK_b (by omega)) (Below.refl _ _) (fun _ => rfl)
    (fun pre W => (pre <+: es ∧ W.cell? ⟨w.heap.size, 0, none⟩ = some (.slice A m cap) ∧ W.cell? ⟨w.heap.size + 1, 0, none⟩ = some (.slice A' m cap') ∧ W.cell? ⟨w.heap.size + 1 + 1, 0, none⟩ = some (.bool false) ∧ W.frozen? ⟨w.heap.size + 1 + 1, 0, none⟩ = false ∧ W.cell? ⟨w.heap.size + 1 + 1 + 1 + 1, 0, none⟩ = some (.int .i64 pre.length) ∧ W.frozen? ⟨w.heap.size + 1 + 1 + 1 + 1, 0, none⟩ = false) ∧ Below w.heap.size w W)
    (fun _ pre W => ¬ pre <+: es)
    (OwnFrom.and (Own.from (fun s A B row hs hg hr => ⟨hs.1, cell_kept hs.2.1 hg hr, cell_kept hs.2.2.1 hg hr, cell_kept hs.2.2.2.1 hg hr, (frozen_kept hs.2.2.2.1 hg hr).trans hs.2.2.2.2.1, cell_kept hs.2.2.2.2.2.1 hg hr, (frozen_kept hs.2.2.2.2.2.1 hg hr).trans hs.2.2.2.2.2.2⟩) _) (ownFrom_below (Nat.le_refl _) (by omega)))
    (fun _ _ _ _ _ hs _ _ => hs)
    ⟨⟨List.nil_prefix, bA.cell 0, bB.cell 0, bR.cell 0, bR.free 0, bK.cell 0, bK.free 0⟩, E0⟩
    (fun x => { tmps := #[.slice A m cap, .slice A' m cap', .pointer (some ⟨w.heap.size, 0, none⟩), .pointer (some ⟨w.heap.size + 1, 0, none⟩), .pointer (some ⟨w.heap.size + 1 + 1, 0, none⟩), .func (.func 50) #[] #[.pointer (some ⟨w.heap.size + 1 + 1 + 1, 0, none⟩)], .pointer (some ⟨w.heap.size + 1 + 1 + 1 + 1, 0, none⟩), .string (bs x.1), .int .i64 x.2, .slice A m cap, .func (.func 50) #[] #[.pointer (some ⟨w.heap.size + 1 + 1 + 1, 0, none⟩)], .func (.func 50) #[] #[.pointer (some ⟨w.heap.size + 1 + 1 + 1, 0, none⟩)], .bool false, .bool false, .slice A m cap, .int .i64 m, .slice A' m cap', .int .i64 m, .bool false, .bool false, .func (.func 50) #[] #[.pointer (some ⟨w.heap.size + 1 + 1 + 1, 0, none⟩)], .string (bs x.1), .int .i64 x.2, undef, undef, undef, undef, undef, undef, undef, undef, undef, undef, undef, undef, undef, undef, undef, undef, undef, undef, undef, undef, undef, undef, undef, undef, undef, undef, undef, undef, undef, undef, undef], defers := [] }) ?assign ?body ?done ?stop
  case assign =>
    intro l x W K hK
    gi_wp2
    exact hK
  case body =>
    rintro l pre x W ⟨⟨hp, c0, c1, c2, f2, c3, f3⟩, hB⟩ hpl
    have hlt : pre.length < m := by have := HM.out; omega
    have hne : es ≠ [] := by rintro rfl; simp at hpl
    obtain ⟨b1, o1, rfl, hb1, hcs1⟩ := (EntsB.below (n₀ := w.heap.size) ha hB).resolve_left hne
    obtain ⟨b2, o2, rfl, hb2, hcs2⟩ := (EntsB.below (n₀ := w.heap.size) hb hB).resolve_left hne
    obtain ⟨p1, p2⟩ := hcs1 pre.length hpl
    obtain ⟨q1, q2⟩ := hcs2 pre.length hpl
    have hpre : Hid (pre = es.take pre.length) := List.prefix_iff_eq_take.1 hp
    have htk : Hid (es.take (pre.length + 1) = es.take pre.length ++ [es[pre.length]]) := List.take_succ_eq_append_getElem hpl
    obtain ⟨y, hy⟩ : ∃ y, y = es[pre.length] := ⟨_, rfl⟩
    rw [← hy] at p1 p2 q1 q2 htk
    clear hcs1 hcs2 hy
    gi_wp2
    refine wpIn_region_quiet_r (by kernel_rfl) (by kernel_rfl) (by kernel_rfl) ?_
    by_cases hxy : x = y
    · subst hxy
      repeat (quiet_step_in (fail))
      refine wpQuietIn_nil ?_
      rintro _ ⟨nq, rfl⟩
      gi_wp2
      have hBd : Below w.heap.size W (W.drewN nq) := ⟨rfl, rfl, rfl, Nat.le_refl _, fun _ _ => rfl⟩
      have hBs := hBd.setCell (p := ⟨w.heap.size + 1 + 1 + 1 + 1, 0, none⟩) (show w.heap.size ≤ w.heap.size + 1 + 1 + 1 + 1 by omega) (.int .i64 (pre.length + 1))
      refine ⟨((⟨Nat.le_refl _, fun _ _ h _ => h⟩ : KeepsOthers W (W.drewN nq)).trans (KeepsOthers.setCell _ _ _)).from _, hBs, ⟨?_, ?_, ?_, ?_, ?_, ?_, ?_⟩, hB.trans hBs⟩
      · have : pre ++ [x] = es.take (pre.length + 1) := by rw [htk.out, ← hpre.out]
        rw [this]; exact List.take_prefix _ _
      · exact (World.cell?_setCell_far _ _ _ _ (show w.heap.size + 1 + 1 + 1 + 1 ≠ w.heap.size by omega)).trans c0
      · exact (World.cell?_setCell_far _ _ _ _ (show w.heap.size + 1 + 1 + 1 + 1 ≠ w.heap.size + 1 by omega)).trans c1
      · exact (World.cell?_setCell_far _ _ _ _ (show w.heap.size + 1 + 1 + 1 + 1 ≠ w.heap.size + 1 + 1 by omega)).trans c2
      · simp [f2]
      · have hl : ((pre ++ [x]).length : Int) = pre.length + 1 := by simp
        rw [hl]
        exact World.cell?_setCell_same' (W.drewN nq) _ _ (by rw [World.cell?_drewN, c3]; rfl)
      · simp [f3]
    · repeat (quiet_step_in (fail))
      refine wpQuietIn_step (by quiet_asked_in) (fun K hK => ?_)
      go_simp
      refine ⟨.bool true, fun a => ?_, hK _ ?_⟩
      · by_cases h1 : (bs y.1).toList = (bs x.1).toList
        · have h2 : ¬ y.2 = x.2 := fun h2 => hxy (Prod.ext (by rw [bs_toList, bs_toList] at h1; exact h1.symm) h2.symm)
          rw [if_pos h1, if_neg h2]; exact ⟨rfl, rfl⟩
        · rw [if_neg h1]; exact ⟨rfl, rfl⟩
      clear hK K
      repeat (quiet_step_in (fail))
      refine wpQuietIn_nil ?_
      rintro _ ⟨nq, rfl⟩
      gi_wp2
      refine ⟨((⟨Nat.le_refl _, fun _ _ h _ => h⟩ : KeepsOthers W (W.drewN nq)).trans (KeepsOthers.setCell _ _ _)).from _, fun h => hxy ?_⟩
      have h1 := List.prefix_iff_eq_take.1 h
      rw [show (pre ++ [x]).length = pre.length + 1 by simp, htk.out, ← hpre.out] at h1
      simpa using h1
  case done =>
    rintro D ys W hD rfl ⟨⟨hp, c0, c1, c2, f2, c3, f3⟩, hB⟩ hK
    rw [← HM.out] at c3
    gi_wp2
    have hK' := (KeepsOthers.setCell W ⟨w.heap.size + 1 + 1, 0, none⟩ (.bool true)).same D _ hK rfl
    refine ⟨by simp, .inl ⟨_, _, rfl, run_takeDeferred hK', ?_⟩⟩
    have hc5 := cell_kept (World.cell?_setCell_same' W ⟨w.heap.size + 1 + 1, 0, none⟩ (.bool true) (by rw [c2]; rfl)) (grownBy_putObj' _ D (.deferred none)) (fun r e => by cases e; exact ⟨_, hK', rfl⟩)
    refine ⟨.bool true, ?_, rfl, (hB.setCell (p := ⟨w.heap.size + 1 + 1, 0, none⟩) (show w.heap.size ≤ w.heap.size + 1 + 1 by omega) _).trans (belowK_b (w := w) (Nat.le_refl _) _ D _ _ (by omega) hK' rfl rfl)⟩
    simp [results, Try.results14, go_sem, hc5]
  case stop =>
    rintro D c pre W hD hp hx hK
    exact absurd hp hx
end Go.Proofs.Ytneideokodhciaa
