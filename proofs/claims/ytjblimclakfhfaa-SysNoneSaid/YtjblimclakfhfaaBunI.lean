/- Layer 16: the program's List. | Layer 16: the reference's List; the law's Same of two equal lists. | Layer 16: Stat of both. (Printed by gen_pekc.py.) | Layer 21: the calls of a missing file system (a nil receiver). (Printed by gen_sysa.py.) -/
import Derived.Test.YtjblimclakfhfaaBunH
import Derived.Test.YtjblimclakfhfaaBunA
import Derived.RegionIn
import Derived.OwnWalkIn
import Derived.Deep.RegionHeld3
namespace Go.Proofs.Ytjblimclakfhfaa
open Go.ChangeShapes Go.WideShapes Go.ChangeAt Go.RowKit Go.Shelf
attribute [local go_sem] Oper.semAt_some

section
variable {F : Fence} {n : Nat} {P : Program} {ops : Array Oper} {md : Region.Mode} {Q : Exit → Act → World → Prop}
/-- Where no operation defers, a round makes no difference. -/
theorem wpOpIn_plain {i : Nat} {K : Act → World → Prop} {a : Act} {w : World} (hd : ∀ o, ops[i]? = some o → ∀ c, o.op ≠ .defer c) (h : wpOpIn F.plain n P ops Q i K a w) : wpOpIn F n P ops Q i K a w := by
  unfold wpOpIn at h ⊢
  split
  · rename_i ho; simp only [ho] at h; exact h
  · rename_i o ho
    simp only [ho] at h
    split
    · rename_i hw
      simp only [hw, if_true] at h
      unfold Oper.wpIn at h ⊢
      refine ⟨h.1, ?_⟩
      have h2 := h.2
      rw [Oper.semAt_eq _ _ _ (hd o ho)] at h2 ⊢
      exact h2
    · rename_i hw; simp only [hw] at h; exact h
theorem wpAnyIn_plain (hd : ∀ (i : Nat) (o : Oper), ops[i]? = some o → ∀ c, o.op ≠ .defer c) : ∀ (fuel : Nat) (listed : Array Bool) (a : Act) (w : World), wpAnyIn F.plain n P md ops Q fuel listed a w → wpAnyIn F n P md ops Q fuel listed a w
  | 0, _, _, _, h => h
  | fuel + 1, _, _, _, h => ⟨h.1, fun i hi => wpOpIn_plain (hd i) (wpOpIn_mono (fun a w => wpAnyIn_plain hd fuel _ a w) (h.2 i hi))⟩
theorem wpIn_region_any_r {id : Nat} {a : Act} {w : World} {l : List Oper} (hd : l.all noDefer = true) (hm : P.follows .mixedOrders = true)
    (h : wpAnyIn F.plain n P .any l.toArray Q l.toArray.size (Array.replicate l.toArray.size false) a w.drew) : (Code.region id l.toArray true).wpIn F n P Q a w :=
  wpIn_region_any hm (wpAnyIn_plain (fun i o ho => noDefer_spec (List.all_eq_true.1 hd o (List.mem_of_getElem? (by simpa using ho)))) _ _ _ _ h)
end
def listF (S : TreeD) (l : List EntD) : List EntD := l.map fun x => (x.1, overF S.devs x.2)
theorem listF_snoc (S : TreeD) (l : List EntD) (x : EntD) : listF S (l ++ [x]) = listF S l ++ [(x.1, overF S.devs x.2)] := by unfold listF; rw [List.map_append]; rfl
theorem listF_len (S : TreeD) (l : List EntD) : (listF S l).length = l.length := by unfold listF; rw [List.length_map]
/-- A list of entries, and an error. -/
def ListQ (w : World) (L : List EntD) (x : Int) (e : Ending) (w' : World) : Prop := ∃ A cap, e = .returned (.tuple #[.slice A L.length cap, .int .i64 x]) ∧ EntsAt w' A L ∧ Ext w w'
/-- append(v, x): one fresh entry. -/
theorem app_ent {base : Nat} {v : Value} {L : List EntD} (x : EntD) (wr : World) (h : OwnE wr base v L) (hb : base ≤ wr.heap.size) (hl : L.length ≤ 2000000) :
    ∃ v' w2, (Builtin.append_ #[40, 40] 40 #[v, .slice (some ⟨wr.heap.size, 0, none⟩) 1 1]).run Try.prog (wr.alloc (.cells #[.string (bs x.1), .int .i64 x.2] 155)) = .ok v' w2 ∧ (w2.ownsRow base 155 2 v' (L ++ [x]).length (entCells (L ++ [x]))) ∧ (wr.alloc (.cells #[.string (bs x.1), .int .i64 x.2] 155)).grownBy w2 v.ownBlock := by
  obtain ⟨i0, hi, hz0, hz1, hz2⟩ := info_parts infoEnt
  obtain ⟨v', w2, hr, h2, h3, _⟩ := run_append_own (P := Try.prog) (wr.alloc (.cells #[.string (bs x.1), .int .i64 x.2] 155)) base 40 40 155 i0 (.agg #[.string ⟨#[]⟩, .int .i64 0]) 2 24 Try.underlying40 hi hz0 hz1 hz2 rfl (by decide) v L.length _ (World.ownsRow.alloc h _) ⟨wr.heap.size, 0, none⟩ 1 1 (entCells [x]) rfl (news_one wr x) (entCells_one [x]) (by unfold maxLen; omega) (by omega) (by simp; omega)
  refine ⟨v', w2, hr, ?_, h3⟩
  rw [entCells_append, List.length_append]
  exact h2
theorem wpIn_append_run {F : Fence} {n : Nat} {P : Program} (w : World) {o : Oper} {a : Act} {K : Act → World → Prop} {Q : Exit → Act → World → Prop} (s x : Operand) (t tn : TypeId)
    (ho : o.op = .call { callee := .builtin .append, args := #[s, x], argTypes := #[t, tn] }) (vs vx : Value) (hs : a.eval s = vs) (hx : a.eval x = vx)
    (v' : Value) (w' : World) (hr : (Builtin.append_ #[t, tn] o.type #[vs, vx]).run P w = .ok v' w') (h : K (a.put o.dst v') w') : o.wpIn F n P a w K Q := by
  unfold Oper.wpIn
  refine ⟨?_, ?_⟩
  · simp [Oper.about, ho, resolve, Target.leads, Sem.run_pure]
  · rw [Oper.semAt_plain F _ _ (by rw [ho]; intro c hc'; cases hc')]
    simp [execOp, ho, resolve, invoke, builtin, hs, hx, hr, Result.andThen]
    exact h
set_option maxRecDepth 100000 in
set_option maxHeartbeats 8000000 in
theorem plist_any {c : Nat} (B : Nat) (g : GhW) (S : TreeD) (cu cg no : Int) (w : World) (h : WAt w B g S) (T : Tre c S) (hc : c ≤ 1000000) :
    Calls Try.prog 61 #[.pointer (some ⟨g.bW, 0, none⟩), .agg #[.int .i64 cu, .int .i64 cg], .int .i64 no] w (ListQ w (listF S (openN S cu cg no 1 4).ents) (openE S cu cg no 1 4)) := by
  refine (callsIn_wide (n := 4)).1 ?_
  obtain ⟨F, hF⟩ : ∃ F, F = Fence.wide := ⟨_, rfl⟩
  have hro : F.round = none := by rw [hF]; rfl
  have h35 : F.fn 61 := by rw [hF]; trivial
  have hop : F.fn 94 := by rw [hF]; trivial
  have hov : F.fn 16 := by rw [hF]; trivial
  have h42 : F.fn 95 := by rw [hF]; trivial
  have h50 : F.fn 120 := by rw [hF]; trivial
  have hor := T.openN cu cg no 1 4
  obtain ⟨m, hm⟩ : ∃ m, m = openN S cu cg no 1 4 := ⟨_, rfl⟩
  obtain ⟨x, hx⟩ : ∃ x, x = openE S cu cg no 1 4 := ⟨_, rfl⟩
  have hOP : ∀ (k : Nat) (w' : World), Ext w w' → CallsIn F k Try.prog 94 #[.pointer (some ⟨g.bW, 0, none⟩), .agg #[.int .i64 cu, .int .i64 cg], .int .i64 no, .int .i64 1, .int .i64 4] w' (fun e w2 => ∃ A c, e = .returned (.tuple #[.agg #[.int .i64 m.no, .int .i64 m.dev, .int .i64 m.kind, .int .i64 m.mode, .int .i64 m.uid, .int .i64 m.gid, .int .i64 m.mtime, .int .i64 m.ctime, .int .i64 m.links, .int .i64 m.up, .string (bs m.data), .slice A m.ents.length c], .int .i64 x]) ∧ NodeOk w2 B m A c ∧ Ext w' w2) := by
    rw [hF, hm, hx]
    exact fun k w' h' => callsIn_wide.2 (popen_any B g S cu cg no 1 4 w' (h.ext h') T.devs)
  have hOV : ∀ (l k : Nat) (q : Int) (w' : World), Ext w w' → CallsIn (F.inRound l).plain k Try.prog 16 #[.pointer (some ⟨g.bW, 0, none⟩), .int .i64 q] w' (Ret w' (.int .i64 (overF S.devs q))) := by
    rw [hF]
    exact fun l k q w' h' => callsIn_wide.2 (pover_any B g S q w' (h.ext h') T.devs (by have := T.eight; omega))
  have hz : ¬ x = 0 → m = nodeZ := fun h0 => by rw [hm]; unfold openN; rw [if_neg (by rw [← hx]; exact h0)]
  rw [← hm] at hor
  rw [← hF, ← hm, ← hx]
  have hml : m.ents.length ≤ 1000000 := by have := hor.2; omega
  have E0 : Ext w ((w.alloc (.cells #[.pointer (some ⟨g.bW, 0, none⟩)] 28)).alloc (.cells #[.int .i64 cu, .int .i64 cg] 24)) := ((Ext.refl _).alloc _).alloc _
  clear hF hm hx hor
  refine callsIn_of_wp_marks Try.func61 rfl h35 ?_ hro
  simp only [Try.ntmps61, List.size_toArray, List.length_cons, List.length_nil, Nat.reduceAdd, Nat.reduceSub, Array.replicate_succ, Array.replicate_zero, List.push_toArray, List.append_toArray, List.nil_append, List.cons_append]
  by_cases hx0 : x = 0
  case neg =>
    have t0 : (x == 0) = false := by simpa using hx0
    have t0b : (x != 0) = true := by simpa using hx0
    have hmz := hz hx0
    have HMZ := Lib.hid hmz
    clear hz hx0 hmz
    gi_wp2_with (gi_at_call 94; refine (hOP _ _ E0).mono ?_; rintro e w1 ⟨A1, c1, rfl, ok1, b1⟩)
    refine ⟨.tuple #[.slice none 0 0, .int .i64 x], by simp [results, Try.results61, go_sem], none, 0, ?_, .inl ?_, (E0.trans b1).alloc _⟩
    · rw [HMZ.out]; rfl
    · rw [HMZ.out]; rfl
  have hxe := Lib.hid hx0
  subst hx0
  have hinfo := infoEnt
  obtain ⟨i0, hi, hz0, hz1, hz2⟩ := info_parts infoEnt
  have HI := Lib.hid hi
  have HZ0 := Lib.hid hz0
  have HZ1 := Lib.hid hz1
  have HZ2 := Lib.hid hz2
  clear hz hinfo hi hz0 hz1 hz2
  gi_wp2_with first | (gi_at_call 94; refine (hOP _ _ E0).mono ?_; rintro e w1 ⟨A1, c1, rfl, ok1, b1⟩; have F0 := E0.trans b1; have hee := ok1.ents; have hN := Has.new w1 (.cells #[.int .i64 m.no, .int .i64 m.dev, .int .i64 m.kind, .int .i64 m.mode, .int .i64 m.uid, .int .i64 m.gid, .int .i64 m.mtime, .int .i64 m.ctime, .int .i64 m.links, .int .i64 m.up, .string (bs m.data), .slice A1 m.ents.length c1] 42); obtain ⟨x0, x1, x2, x3, x4, x5, x6, x7, x8, x9, x10, x11⟩ := hN.node12) | (gi_at_make; refine wpListIn_make_own _ rfl _ _ 40 rfl (w1.heap.size + 1) 155 i0 (.agg #[.string ⟨#[]⟩, .int .i64 0]) 2 Try.underlying40 HI.out HZ0.out HZ1.out .i64 .i64 m.ents.length m.ents.length rfl rfl rfl (by rw [HZ2.out]; omega) (by unfold maxLen; omega) (by simp) ?_; intro wa hrow hga; have hNa : Has wa w1.heap.size (.cells #[.int .i64 m.no, .int .i64 m.dev, .int .i64 m.kind, .int .i64 m.mode, .int .i64 m.uid, .int .i64 m.gid, .int .i64 m.mtime, .int .i64 m.ctime, .int .i64 m.links, .int .i64 m.up, .string (bs m.data), .slice A1 m.ents.length c1] 42) := (hga.block w1.heap.size hN.lt (by simp)).trans hN; obtain ⟨y0, y1, y2, y3, y4, y5, y6, y7, y8, y9, y10, y11⟩ := hNa.node12; have ya := hNa.lt) | (gi_at_call 95; refine (all_in F _ h42 hro _ _ _ _).mono ?_; rintro e w' ⟨rfl, rfl⟩)
  have HMZ := Lib.hid hml
  obtain ⟨n₀, hn0⟩ : ∃ n₀, n₀ = w1.heap.size + 1 := ⟨_, rfl⟩
  obtain ⟨W2, hW2⟩ : ∃ W2, W2 = w1.alloc (.cells #[.int .i64 m.no, .int .i64 m.dev, .int .i64 m.kind, .int .i64 m.mode, .int .i64 m.uid, .int .i64 m.gid, .int .i64 m.mtime, .int .i64 m.ctime, .int .i64 m.links, .int .i64 m.up, .string (bs m.data), .slice A1 m.ents.length c1] 42) := ⟨_, rfl⟩
  have hz2' : W2.heap.size = n₀ := by rw [hW2, hn0]; simp
  have G2 : Ext w W2 := by rw [hW2]; exact F0.alloc _
  have hsw : w.heap.size < w1.heap.size := by have := b1.size; simp at this; omega
  have cw2 : W2.cell? ⟨w.heap.size, 0, none⟩ = some (.pointer (some ⟨g.bW, 0, none⟩)) := by
    have h1 : Has (w.alloc (.cells #[.pointer (some ⟨g.bW, 0, none⟩)] 28)) w.heap.size (.cells #[.pointer (some ⟨g.bW, 0, none⟩)] 28) := Has.new _ _
    rw [hW2]
    exact (((h1.alloc _).ext b1).alloc _).cell 0
  have eb2 : EntsB n₀ W2 A1 m.ents := by
    rcases hee.ents with h0 | ⟨b, o, hA, hb, hc⟩
    · exact .inl h0
    · refine .inr ⟨b, o, hA, by omega, fun k hk => ?_⟩
      rw [hW2]
      exact ⟨(((Ext.refl _).alloc _).cell hb).trans (hc k hk).1, (((Ext.refl _).alloc _).cell hb).trans (hc k hk).2⟩
  rw [← hW2] at hga
  obtain ⟨W0, hW0⟩ : ∃ W0, W0 = (wa.alloc (.cells #[.slice (some ⟨w1.heap.size + 1, 0, none⟩) 0 m.ents.length] 40)).alloc (.cells #[.slice A1 m.ents.length c1] 40) := ⟨_, rfl⟩
  have hza : n₀ ≤ wa.heap.size := by omega
  have B0 : Below n₀ W2 W0 := by
    rw [hW0]
    exact (((Below.refl n₀ W2).grown hga (by omega) (fun j e => by cases e)).alloc (by omega) _).alloc (by simp; omega) _
  have bO : Boxed W0 wa.heap.size 40 (.slice (some ⟨w1.heap.size + 1, 0, none⟩) 0 m.ents.length) := by rw [hW0]; exact (Boxed.new wa _ _).alloc _
  have bS : Has W0 (wa.heap.size + 1) (.cells #[.slice A1 m.ents.length c1] 40) := by rw [hW0]; have := Has.new (wa.alloc (.cells #[.slice (some ⟨w1.heap.size + 1, 0, none⟩) 0 m.ents.length] 40)) (.cells #[.slice A1 m.ents.length c1] 40); rw [World.size_alloc] at this; exact this
  have r0 : W0.ownsRow (w1.heap.size + 1) 155 2 (.slice (some ⟨w1.heap.size + 1, 0, none⟩) 0 m.ents.length) 0 [] := by
    rw [hW0]
    have e : (w1.alloc (.cells #[.int .i64 m.no, .int .i64 m.dev, .int .i64 m.kind, .int .i64 m.mode, .int .i64 m.uid, .int .i64 m.gid, .int .i64 m.mtime, .int .i64 m.ctime, .int .i64 m.links, .int .i64 m.up, .string (bs m.data), .slice A1 m.ents.length c1] 42)).heap.size = w1.heap.size + 1 := by simp
    rw [e] at hrow
    exact (hrow.alloc _).alloc _
  have hz0' : W0.heap.size = wa.heap.size + 2 := by rw [hW0]; simp
  have r0 : W0.ownsRow n₀ 155 2 (.slice (some ⟨w1.heap.size + 1, 0, none⟩) 0 m.ents.length) 0 [] := by rw [hn0]; exact r0
  have hnw : w.heap.size ≤ n₀ := by omega
  have hln : w1.heap.size < n₀ := by omega
  rw [← hW0]
  clear hW0 y0 y1 y2 y3 y4 y5 y6 y7 y8 y9 y10 y11 x0 x1 x2 x3 x4 x5 x6 x7 x8 x9 x10 x11 hrow hga hNa ok1 hee hN
  refine wpIn_rangeFunc_ownG (w0 := W0) hro (by omega) (gf := 120) (lb := #[.pointer (some ⟨wa.heap.size + 1, 0, none⟩)]) rfl h50 (enters_of Try.func120 (by kernel_rfl) rfl)
    (all_stops F (4 - 1) h50 hro (by omega) (wa.heap.size + 1) n₀ c1 A1 m.ents hml W0 (by omega) (by omega) (bS.cell 0) (eb2.below B0)) belowK_t (belowK_b (by omega)) (Below.refl _ _) (fun _ => rfl)
    (fun pre W => (∃ v, Boxed W wa.heap.size 40 v ∧ W.ownsRow n₀ 155 2 v (listF S pre).length (entCells (listF S pre)) ∧ True) ∧ Below n₀ W2 W)
    (fun _ _ _ => False)
    (OwnFrom.and (Own.from (holdsRow_own n₀ wa.heap.size 40 155 2 (fun pre => (listF S pre).length) (fun pre => entCells (listF S pre)) (fun _ _ => True)) _) (ownFrom_below (by omega) (by omega)))
    (fun _ _ _ _ _ hs _ _ => hs)
    ⟨⟨_, bO, r0, trivial⟩, B0⟩
    (fun x => { tmps := #[.pointer (some ⟨g.bW, 0, none⟩), .agg #[.int .i64 cu, .int .i64 cg], .int .i64 no, .pointer (some ⟨w.heap.size, 0, none⟩), .pointer (some ⟨w.heap.size + 1, 0, none⟩), undef, .slice none 0 0, .int .i64 0, .pointer (some ⟨w1.heap.size, 0, none⟩), .int .i64 0, .pointer (some ⟨wa.heap.size, 0, none⟩), .string (bs x.1), .int .i64 x.2, .tuple #[.agg #[.int .i64 m.no, .int .i64 m.dev, .int .i64 m.kind, .int .i64 m.mode, .int .i64 m.uid, .int .i64 m.gid, .int .i64 m.mtime, .int .i64 m.ctime, .int .i64 m.links, .int .i64 m.up, .string (bs m.data), .slice A1 m.ents.length c1], .int .i64 0], .pointer (some ⟨g.bW, 0, none⟩), .agg #[.int .i64 cu, .int .i64 cg], .int .i64 no, .tuple #[.agg #[.int .i64 m.no, .int .i64 m.dev, .int .i64 m.kind, .int .i64 m.mode, .int .i64 m.uid, .int .i64 m.gid, .int .i64 m.mtime, .int .i64 m.ctime, .int .i64 m.links, .int .i64 m.up, .string (bs m.data), .slice A1 m.ents.length c1], .int .i64 0], .agg #[.int .i64 m.no, .int .i64 m.dev, .int .i64 m.kind, .int .i64 m.mode, .int .i64 m.uid, .int .i64 m.gid, .int .i64 m.mtime, .int .i64 m.ctime, .int .i64 m.links, .int .i64 m.up, .string (bs m.data), .slice A1 m.ents.length c1], .int .i64 0, .int .i64 0, .bool false, undef, .pointer (some ⟨w1.heap.size, 11, none⟩), .slice A1 m.ents.length c1, .int .i64 m.ents.length, .slice (some ⟨w1.heap.size + 1, 0, none⟩) 0 m.ents.length, .pointer (some ⟨w1.heap.size, 11, none⟩), .slice A1 m.ents.length c1, .func (.func 120) #[] #[.pointer (some ⟨wa.heap.size + 1, 0, none⟩)], .string (bs x.1), .int .i64 x.2, undef, undef, undef, undef, undef, undef, undef, undef, undef], defers := [] }) ?assign ?body ?done ?stop
  case assign =>
    intro l x W K hK
    gi_wp2
    exact hK
  case body =>
    rintro l pre x W ⟨⟨v, hv, hrow, -⟩, hB⟩ hpl
    have hc := hv.cell
    have hf := hv.frozen
    have cw := (hB.cell (p := ⟨w.heap.size, 0, none⟩) (by show w.heap.size < n₀; omega)).trans cw2
    have hzW := hB.size
    have hEd : Ext w W.drew := Ext.drew (show Ext w W from Below.trans (show Below w.heap.size w W2 from G2) (hB.mono hnw))
    have hrowd : W.drew.ownsRow n₀ 155 2 v (listF S pre).length (entCells (listF S pre)) := hrow
    have hvd : Boxed W.drew wa.heap.size 40 v := hv
    have bN : ∀ {u : World}, Ext W.drew u → Below n₀ W u := fun {u} h => (show Below n₀ W W.drew from ⟨rfl, rfl, rfl, Nat.le_refl _, fun _ _ => rfl⟩).trans (h.mono (by show n₀ ≤ W.heap.size; omega))
    have bK : ∀ {u : World}, Ext W.drew u → KeepsOthers W u := fun {u} h => (show KeepsOthers W W.drew from ⟨Nat.le_refl _, fun _ _ h _ => h⟩).trans (KeepsOthers.of_grownBy h.grownBy fun j o e _ => by cases e)
    clear G2 cw2 hOP h T B0 bO bS r0
    gi_wp2
    refine wpIn_region_any_r (by kernel_rfl) (by kernel_rfl) ?_
    refine wpAnyIn_take (i := 1) (v := ?_) rfl rfl (by kernel_rfl) (by kernel_rfl) (by kernel_rfl) (fun _ _ _ h => h) ⟨Or.inl ⟨by rfl, ?_⟩, fun _ => rfl⟩ ?_
    case refine_2 => intro w; go_simp; rfl
    refine wpAnyIn_take (i := 3) (v := ?_) rfl rfl (by kernel_rfl) (by kernel_rfl) (by kernel_rfl) (fun _ _ _ h => h) ⟨Or.inl ⟨by rfl, ?_⟩, fun _ => rfl⟩ ?_
    case refine_2 => intro w; go_simp; rfl
    refine wpAnyIn_ready (rs := [0, 2]) (by kernel_rfl) (by simp) ?_
    refine AllReadyIn.cons rfl (fun K hK => ?_) ?_
    · skip
      go_simp
      refine hK _ _ ?_
      clear hK K
      refine wpAnyIn_ready (rs := [2]) (by kernel_rfl) (by simp) ?_
      refine AllReadyIn.cons rfl (fun K hK => ?_) ?_
      · skip
        go_simp
        refine hK _ _ ?_
        clear hK K
        refine wpAnyIn_ready (rs := [4]) (by kernel_rfl) (by simp) ?_
        refine AllReadyIn.cons rfl (fun K hK => ?_) ?_
        · skip
          go_simp
          gi_wp2_with (gi_at_call 16; refine (hOV l _ _ _ hEd).mono ?_; rintro e wd ⟨rfl, bd⟩)
          obtain ⟨v', w2, hr, hrow', hg2⟩ := app_ent (base := n₀) (x.1, overF S.devs x.2) wd (World.ownsRow.kept hrowd bd.grownBy (by cases v.ownBlock <;> simp)) (by have := bd.size; simp at this; omega) (by rw [listF_len]; omega)
          rw [← listF_snoc] at hrow'
          have hvw : Boxed wd wa.heap.size 40 v := Has.ext hvd bd
          obtain ⟨hv1, hv2, hr3, hk2, hb2⟩ := hvw.appended (n₀ := n₀) (by decide) (World.ownsRow.kept hrowd bd.grownBy (by cases v.ownBlock <;> simp)) (by have := bd.size; simp at this; omega) (by omega) hrow' hg2
          obtain ⟨g', cap', hv'⟩ := ownsRow_succ (k := (listF S pre).length) (by rw [show (listF S pre).length + 1 = (listF S (pre ++ [x])).length by rw [listF_snoc]; simp]; exact hrow')
          subst hv'
          have hcd := hvw.cell
          have hld := hvw.lt
          have hc1 := hv1.cell
          have hf1 := hv1.frozen
          refine wpAnyIn_take (i := 5) (v := ?_) rfl rfl (by kernel_rfl) (by kernel_rfl) (by kernel_rfl) (fun _ _ _ h => h) ⟨Or.inl ⟨by rfl, ?_⟩, fun _ => rfl⟩ ?_
          case refine_2 => intro w; go_simp; rfl
          refine wpAnyIn_ready (rs := [6]) (by kernel_rfl) (by simp) ?_
          refine AllReadyIn.cons rfl (fun K hK => ?_) ?_
          · skip
            go_simp
            refine hK _ _ ?_
            clear hK K
            refine wpAnyIn_ready (rs := [7]) (by kernel_rfl) (by simp) ?_
            refine AllReadyIn.cons rfl (fun K hK => ?_) ?_
            · skip
              rw [if_pos (by rfl)]
              refine wpIn_append_run _ _ _ 40 40 rfl _ _ rfl rfl _ _ hr ?_
              refine hK _ _ ?_
              clear hK K
              refine wpAnyIn_ready (rs := [8]) (by kernel_rfl) (by simp) ?_
              refine AllReadyIn.cons rfl (fun K hK => ?_) ?_
              · skip
                go_simp
                refine hK _ _ ?_
                clear hK K
                refine wpAnyIn_done (by kernel_rfl) ?_ _
                exact ⟨((bK bd).trans hk2).from _, (bN bd).trans hb2, ⟨_, hv2, hr3, trivial⟩, hB.trans ((bN bd).trans hb2)⟩
              exact AllReadyIn.nil
            exact AllReadyIn.nil
          exact AllReadyIn.nil
        exact AllReadyIn.nil
      exact AllReadyIn.nil
    refine AllReadyIn.cons rfl (fun K hK => ?_) ?_
    · skip
      go_simp
      refine hK _ _ ?_
      clear hK K
      refine wpAnyIn_ready (rs := [0, 4]) (by kernel_rfl) (by simp) ?_
      refine AllReadyIn.cons rfl (fun K hK => ?_) ?_
      · skip
        go_simp
        refine hK _ _ ?_
        clear hK K
        refine wpAnyIn_ready (rs := [4]) (by kernel_rfl) (by simp) ?_
        refine AllReadyIn.cons rfl (fun K hK => ?_) ?_
        · skip
          go_simp
          gi_wp2_with (gi_at_call 16; refine (hOV l _ _ _ hEd).mono ?_; rintro e wd ⟨rfl, bd⟩)
          obtain ⟨v', w2, hr, hrow', hg2⟩ := app_ent (base := n₀) (x.1, overF S.devs x.2) wd (World.ownsRow.kept hrowd bd.grownBy (by cases v.ownBlock <;> simp)) (by have := bd.size; simp at this; omega) (by rw [listF_len]; omega)
          rw [← listF_snoc] at hrow'
          have hvw : Boxed wd wa.heap.size 40 v := Has.ext hvd bd
          obtain ⟨hv1, hv2, hr3, hk2, hb2⟩ := hvw.appended (n₀ := n₀) (by decide) (World.ownsRow.kept hrowd bd.grownBy (by cases v.ownBlock <;> simp)) (by have := bd.size; simp at this; omega) (by omega) hrow' hg2
          obtain ⟨g', cap', hv'⟩ := ownsRow_succ (k := (listF S pre).length) (by rw [show (listF S pre).length + 1 = (listF S (pre ++ [x])).length by rw [listF_snoc]; simp]; exact hrow')
          subst hv'
          have hcd := hvw.cell
          have hld := hvw.lt
          have hc1 := hv1.cell
          have hf1 := hv1.frozen
          refine wpAnyIn_take (i := 5) (v := ?_) rfl rfl (by kernel_rfl) (by kernel_rfl) (by kernel_rfl) (fun _ _ _ h => h) ⟨Or.inl ⟨by rfl, ?_⟩, fun _ => rfl⟩ ?_
          case refine_2 => intro w; go_simp; rfl
          refine wpAnyIn_ready (rs := [6]) (by kernel_rfl) (by simp) ?_
          refine AllReadyIn.cons rfl (fun K hK => ?_) ?_
          · skip
            go_simp
            refine hK _ _ ?_
            clear hK K
            refine wpAnyIn_ready (rs := [7]) (by kernel_rfl) (by simp) ?_
            refine AllReadyIn.cons rfl (fun K hK => ?_) ?_
            · skip
              rw [if_pos (by rfl)]
              refine wpIn_append_run _ _ _ 40 40 rfl _ _ rfl rfl _ _ hr ?_
              refine hK _ _ ?_
              clear hK K
              refine wpAnyIn_ready (rs := [8]) (by kernel_rfl) (by simp) ?_
              refine AllReadyIn.cons rfl (fun K hK => ?_) ?_
              · skip
                go_simp
                refine hK _ _ ?_
                clear hK K
                refine wpAnyIn_done (by kernel_rfl) ?_ _
                exact ⟨((bK bd).trans hk2).from _, (bN bd).trans hb2, ⟨_, hv2, hr3, trivial⟩, hB.trans ((bN bd).trans hb2)⟩
              exact AllReadyIn.nil
            exact AllReadyIn.nil
          exact AllReadyIn.nil
        exact AllReadyIn.nil
      refine AllReadyIn.cons rfl (fun K hK => ?_) ?_
      · skip
        go_simp
        gi_wp2_with (gi_at_call 16; refine (hOV l _ _ _ hEd).mono ?_; rintro e wd ⟨rfl, bd⟩)
        obtain ⟨v', w2, hr, hrow', hg2⟩ := app_ent (base := n₀) (x.1, overF S.devs x.2) wd (World.ownsRow.kept hrowd bd.grownBy (by cases v.ownBlock <;> simp)) (by have := bd.size; simp at this; omega) (by rw [listF_len]; omega)
        rw [← listF_snoc] at hrow'
        have hvw : Boxed wd wa.heap.size 40 v := Has.ext hvd bd
        obtain ⟨hv1, hv2, hr3, hk2, hb2⟩ := hvw.appended (n₀ := n₀) (by decide) (World.ownsRow.kept hrowd bd.grownBy (by cases v.ownBlock <;> simp)) (by have := bd.size; simp at this; omega) (by omega) hrow' hg2
        obtain ⟨g', cap', hv'⟩ := ownsRow_succ (k := (listF S pre).length) (by rw [show (listF S pre).length + 1 = (listF S (pre ++ [x])).length by rw [listF_snoc]; simp]; exact hrow')
        subst hv'
        have hcd := hvw.cell
        have hld := hvw.lt
        have hc1 := hv1.cell
        have hf1 := hv1.frozen
        refine wpAnyIn_take (i := 5) (v := ?_) rfl rfl (by kernel_rfl) (by kernel_rfl) (by kernel_rfl) (fun _ _ _ h => h) ⟨Or.inl ⟨by rfl, ?_⟩, fun _ => rfl⟩ ?_
        case refine_2 => intro w; go_simp; rfl
        refine wpAnyIn_ready (rs := [0, 6]) (by kernel_rfl) (by simp) ?_
        refine AllReadyIn.cons rfl (fun K hK => ?_) ?_
        · skip
          go_simp
          refine hK _ _ ?_
          clear hK K
          refine wpAnyIn_ready (rs := [6]) (by kernel_rfl) (by simp) ?_
          refine AllReadyIn.cons rfl (fun K hK => ?_) ?_
          · skip
            go_simp
            refine hK _ _ ?_
            clear hK K
            refine wpAnyIn_ready (rs := [7]) (by kernel_rfl) (by simp) ?_
            refine AllReadyIn.cons rfl (fun K hK => ?_) ?_
            · skip
              rw [if_pos (by rfl)]
              refine wpIn_append_run _ _ _ 40 40 rfl _ _ rfl rfl _ _ hr ?_
              refine hK _ _ ?_
              clear hK K
              refine wpAnyIn_ready (rs := [8]) (by kernel_rfl) (by simp) ?_
              refine AllReadyIn.cons rfl (fun K hK => ?_) ?_
              · skip
                go_simp
                refine hK _ _ ?_
                clear hK K
                refine wpAnyIn_done (by kernel_rfl) ?_ _
                exact ⟨((bK bd).trans hk2).from _, (bN bd).trans hb2, ⟨_, hv2, hr3, trivial⟩, hB.trans ((bN bd).trans hb2)⟩
              exact AllReadyIn.nil
            exact AllReadyIn.nil
          exact AllReadyIn.nil
        refine AllReadyIn.cons rfl (fun K hK => ?_) ?_
        · skip
          go_simp
          refine hK _ _ ?_
          clear hK K
          refine wpAnyIn_ready (rs := [0]) (by kernel_rfl) (by simp) ?_
          refine AllReadyIn.cons rfl (fun K hK => ?_) ?_
          · skip
            go_simp
            refine hK _ _ ?_
            clear hK K
            refine wpAnyIn_ready (rs := [7]) (by kernel_rfl) (by simp) ?_
            refine AllReadyIn.cons rfl (fun K hK => ?_) ?_
            · skip
              rw [if_pos (by rfl)]
              refine wpIn_append_run _ _ _ 40 40 rfl _ _ rfl rfl _ _ hr ?_
              refine hK _ _ ?_
              clear hK K
              refine wpAnyIn_ready (rs := [8]) (by kernel_rfl) (by simp) ?_
              refine AllReadyIn.cons rfl (fun K hK => ?_) ?_
              · skip
                go_simp
                refine hK _ _ ?_
                clear hK K
                refine wpAnyIn_done (by kernel_rfl) ?_ _
                exact ⟨((bK bd).trans hk2).from _, (bN bd).trans hb2, ⟨_, hv2, hr3, trivial⟩, hB.trans ((bN bd).trans hb2)⟩
              exact AllReadyIn.nil
            exact AllReadyIn.nil
          exact AllReadyIn.nil
        exact AllReadyIn.nil
      exact AllReadyIn.nil
    exact AllReadyIn.nil
  case done =>
    rintro D ys W hD rfl ⟨⟨v, hv, hrow, -⟩, hB⟩ hK
    obtain ⟨A9, cap9, rfl, _, _, hat⟩ := OwnE.at_ hrow
    have hc := hv.cell
    gi_wp2
    refine ⟨by simp, .inl ⟨_, _, rfl, run_takeDeferred hK, ?_⟩⟩
    have hB2 := belowK_b (n₀ := n₀) (w := W0) (by omega) W D _ (.deferred none) (by omega) hK rfl rfl
    have hE : Ext w (W.putObj D (.deferred none)) := Below.trans (show Below w.heap.size w W2 from G2) ((hB.trans hB2).mono hnw)
    refine ⟨.tuple #[.slice A9 (listF S m.ents).length cap9, .int .i64 0], by simp [results, Try.results61, go_sem], A9, cap9, rfl, ?_, hE⟩
    have hrow2 := World.ownsRow.kept hrow (grownBy_putObj' W D (.deferred none)) (by
      rcases hrow.2 with ⟨h1, _⟩ | ⟨g9, c9, cur, h1, _, hgb, _⟩
      · exact .inl (by rw [h1]; rfl)
      · refine .inr fun e' => ?_
        rw [h1] at e'
        obtain rfl : g9 = D := by simpa [Value.ownBlock] using e'
        rw [hgb] at hK; cases hK)
    obtain ⟨A8, cap8, e8, _, _, hat8⟩ := OwnE.at_ hrow2
    injection e8 with e8
    rw [e8]
    exact hat8
  case stop =>
    rintro D c pre W hD hp hx hK
    exact hx.elim
end Go.Proofs.Ytjblimclakfhfaa

namespace Go.Proofs.Ytjblimclakfhfaa
open Go.ChangeShapes Go.WideShapes Go.ChangeAt Go.RowKit

theorem listF_take {S : TreeD} {l : List EntD} {k : Nat} (h : k < l.length) : listF S (l.take (k + 1)) = listF S (l.take k) ++ [(l[k].1, overF S.devs l[k].2)] := by
  rw [List.take_succ_eq_append_getElem h, listF_snoc]
theorem EntsAt.lt0 {w : World} {A : Option Addr} {l : List EntD} (h : EntsAt w A l) {k : Nat} (hk : k < l.length) : ∃ b o, A = some ⟨b, o, none⟩ ∧ b < w.heap.size ∧ w.cell? ⟨b, o + k * 2, none⟩ = some (.string (bs l[k].1)) ∧ w.cell? ⟨b, o + k * 2 + 1, none⟩ = some (.int .i64 l[k].2) := by
  rcases h with h | ⟨b, o, hA, hb, hc⟩
  · rw [h] at hk; cases hk
  · exact ⟨b, o, hA, hb, hc k hk⟩
theorem step_append_ent {P : Program} {ops : Array Oper} {o : Oper} {a : Act} {K : Act → World → Prop} {Q : Exit → Act → World → Prop} {E : Prop} (w : World) (hgd : o.guard = none) (s x : Operand) (t : TypeId)
    (ho : o.op = .call { callee := .builtin .append, args := #[s, x], argTypes := #[t, t] }) (vs vx : Value) (hs : a.eval s = vs) (hx : a.eval x = vx) {R : Value → World → Prop}
    (hr : ∃ v' w', (Builtin.append_ #[t, t] o.type #[vs, vx]).run P w = .ok v' w' ∧ R v' w') (h : ∀ v' w', R v' w' → K (a.put o.dst v') w') :
    if Region.wanted o (yielded ops a.tmps) = true then Oper.wp P o a w K Q else E := by
  have hw : Region.wanted o (yielded ops a.tmps) = true := by simp [Region.wanted, hgd]
  rw [if_pos hw]
  obtain ⟨v', w', h1, h2⟩ := hr
  unfold Oper.wp execOp
  simp only [ho, resolve, invoke, builtin, Sem.run_bind, Sem.run_pure, Result.andThen_ok, List.map_toArray, List.map_cons, List.map_nil, hs, hx, h1]
  exact h v' w' h2
theorem OwnE.ext2 {w w' : World} {b : Nat} {v : Value} {k : Nat} {xs : List Value} (h : w.ownsRow b 155 2 v k xs) (hE : Ext w w') : w'.ownsRow b 155 2 v k xs :=
  World.ownsRow.kept h hE.grownBy (by cases v.ownBlock <;> simp)
end Go.Proofs.Ytjblimclakfhfaa

namespace Go.Proofs.Ytjblimclakfhfaa
open Go.ChangeShapes Go.WideShapes Go.ChangeAt Go.RowKit

def statL (n : NodeD) : List Value := [.int .i64 n.no, .int .i64 n.dev, .int .i64 n.kind, .int .i64 n.mode, .int .i64 n.uid, .int .i64 n.gid, .int .i64 n.links, .int .i64 n.data.length, .int .i64 n.mtime, .int .i64 n.ctime]
def statV (n : NodeD) : Value := .agg #[.int .i64 n.no, .int .i64 n.dev, .int .i64 n.kind, .int .i64 n.mode, .int .i64 n.uid, .int .i64 n.gid, .int .i64 n.links, .int .i64 n.data.length, .int .i64 n.mtime, .int .i64 n.ctime]
def statE (S : TreeD) (no : Int) : Int := if isN S.nodes no = true then 0 else 5
theorem infoStat10 : (Try.prog.info? 66).map (·.size) = some 10 := by kernel_rfl
/-- Ten stores into a box. -/
theorem Has.setStat {w : World} {b : Nat} {a0 a1 a2 a3 a4 a5 a6 a7 a8 a9 : Value} {t : TypeId} (h : Has w b (.cells #[a0, a1, a2, a3, a4, a5, a6, a7, a8, a9] t)) (n : NodeD) : Has (w.setCells b 0 (statL n)) b (.cells #[.int .i64 n.no, .int .i64 n.dev, .int .i64 n.kind, .int .i64 n.mode, .int .i64 n.uid, .int .i64 n.gid, .int .i64 n.links, .int .i64 n.data.length, .int .i64 n.mtime, .int .i64 n.ctime] t) := by
  have h0 : Has (w.setCell ⟨b, 0, none⟩ (.int .i64 n.no)) b (.cells #[.int .i64 n.no, a1, a2, a3, a4, a5, a6, a7, a8, a9] t) := by have := Has.setCell h 0 (.int .i64 n.no); simpa using this
  have h1 : Has ((w.setCell ⟨b, 0, none⟩ (.int .i64 n.no)).setCell ⟨b, 1, none⟩ (.int .i64 n.dev)) b (.cells #[.int .i64 n.no, .int .i64 n.dev, a2, a3, a4, a5, a6, a7, a8, a9] t) := by have := Has.setCell h0 1 (.int .i64 n.dev); simpa using this
  have h2 : Has (((w.setCell ⟨b, 0, none⟩ (.int .i64 n.no)).setCell ⟨b, 1, none⟩ (.int .i64 n.dev)).setCell ⟨b, 2, none⟩ (.int .i64 n.kind)) b (.cells #[.int .i64 n.no, .int .i64 n.dev, .int .i64 n.kind, a3, a4, a5, a6, a7, a8, a9] t) := by have := Has.setCell h1 2 (.int .i64 n.kind); simpa using this
  have h3 : Has ((((w.setCell ⟨b, 0, none⟩ (.int .i64 n.no)).setCell ⟨b, 1, none⟩ (.int .i64 n.dev)).setCell ⟨b, 2, none⟩ (.int .i64 n.kind)).setCell ⟨b, 3, none⟩ (.int .i64 n.mode)) b (.cells #[.int .i64 n.no, .int .i64 n.dev, .int .i64 n.kind, .int .i64 n.mode, a4, a5, a6, a7, a8, a9] t) := by have := Has.setCell h2 3 (.int .i64 n.mode); simpa using this
  have h4 : Has (((((w.setCell ⟨b, 0, none⟩ (.int .i64 n.no)).setCell ⟨b, 1, none⟩ (.int .i64 n.dev)).setCell ⟨b, 2, none⟩ (.int .i64 n.kind)).setCell ⟨b, 3, none⟩ (.int .i64 n.mode)).setCell ⟨b, 4, none⟩ (.int .i64 n.uid)) b (.cells #[.int .i64 n.no, .int .i64 n.dev, .int .i64 n.kind, .int .i64 n.mode, .int .i64 n.uid, a5, a6, a7, a8, a9] t) := by have := Has.setCell h3 4 (.int .i64 n.uid); simpa using this
  have h5 : Has ((((((w.setCell ⟨b, 0, none⟩ (.int .i64 n.no)).setCell ⟨b, 1, none⟩ (.int .i64 n.dev)).setCell ⟨b, 2, none⟩ (.int .i64 n.kind)).setCell ⟨b, 3, none⟩ (.int .i64 n.mode)).setCell ⟨b, 4, none⟩ (.int .i64 n.uid)).setCell ⟨b, 5, none⟩ (.int .i64 n.gid)) b (.cells #[.int .i64 n.no, .int .i64 n.dev, .int .i64 n.kind, .int .i64 n.mode, .int .i64 n.uid, .int .i64 n.gid, a6, a7, a8, a9] t) := by have := Has.setCell h4 5 (.int .i64 n.gid); simpa using this
  have h6 : Has (((((((w.setCell ⟨b, 0, none⟩ (.int .i64 n.no)).setCell ⟨b, 1, none⟩ (.int .i64 n.dev)).setCell ⟨b, 2, none⟩ (.int .i64 n.kind)).setCell ⟨b, 3, none⟩ (.int .i64 n.mode)).setCell ⟨b, 4, none⟩ (.int .i64 n.uid)).setCell ⟨b, 5, none⟩ (.int .i64 n.gid)).setCell ⟨b, 6, none⟩ (.int .i64 n.links)) b (.cells #[.int .i64 n.no, .int .i64 n.dev, .int .i64 n.kind, .int .i64 n.mode, .int .i64 n.uid, .int .i64 n.gid, .int .i64 n.links, a7, a8, a9] t) := by have := Has.setCell h5 6 (.int .i64 n.links); simpa using this
  have h7 : Has ((((((((w.setCell ⟨b, 0, none⟩ (.int .i64 n.no)).setCell ⟨b, 1, none⟩ (.int .i64 n.dev)).setCell ⟨b, 2, none⟩ (.int .i64 n.kind)).setCell ⟨b, 3, none⟩ (.int .i64 n.mode)).setCell ⟨b, 4, none⟩ (.int .i64 n.uid)).setCell ⟨b, 5, none⟩ (.int .i64 n.gid)).setCell ⟨b, 6, none⟩ (.int .i64 n.links)).setCell ⟨b, 7, none⟩ (.int .i64 n.data.length)) b (.cells #[.int .i64 n.no, .int .i64 n.dev, .int .i64 n.kind, .int .i64 n.mode, .int .i64 n.uid, .int .i64 n.gid, .int .i64 n.links, .int .i64 n.data.length, a8, a9] t) := by have := Has.setCell h6 7 (.int .i64 n.data.length); simpa using this
  have h8 : Has (((((((((w.setCell ⟨b, 0, none⟩ (.int .i64 n.no)).setCell ⟨b, 1, none⟩ (.int .i64 n.dev)).setCell ⟨b, 2, none⟩ (.int .i64 n.kind)).setCell ⟨b, 3, none⟩ (.int .i64 n.mode)).setCell ⟨b, 4, none⟩ (.int .i64 n.uid)).setCell ⟨b, 5, none⟩ (.int .i64 n.gid)).setCell ⟨b, 6, none⟩ (.int .i64 n.links)).setCell ⟨b, 7, none⟩ (.int .i64 n.data.length)).setCell ⟨b, 8, none⟩ (.int .i64 n.mtime)) b (.cells #[.int .i64 n.no, .int .i64 n.dev, .int .i64 n.kind, .int .i64 n.mode, .int .i64 n.uid, .int .i64 n.gid, .int .i64 n.links, .int .i64 n.data.length, .int .i64 n.mtime, a9] t) := by have := Has.setCell h7 8 (.int .i64 n.mtime); simpa using this
  have h9 : Has ((((((((((w.setCell ⟨b, 0, none⟩ (.int .i64 n.no)).setCell ⟨b, 1, none⟩ (.int .i64 n.dev)).setCell ⟨b, 2, none⟩ (.int .i64 n.kind)).setCell ⟨b, 3, none⟩ (.int .i64 n.mode)).setCell ⟨b, 4, none⟩ (.int .i64 n.uid)).setCell ⟨b, 5, none⟩ (.int .i64 n.gid)).setCell ⟨b, 6, none⟩ (.int .i64 n.links)).setCell ⟨b, 7, none⟩ (.int .i64 n.data.length)).setCell ⟨b, 8, none⟩ (.int .i64 n.mtime)).setCell ⟨b, 9, none⟩ (.int .i64 n.ctime)) b (.cells #[.int .i64 n.no, .int .i64 n.dev, .int .i64 n.kind, .int .i64 n.mode, .int .i64 n.uid, .int .i64 n.gid, .int .i64 n.links, .int .i64 n.data.length, .int .i64 n.mtime, .int .i64 n.ctime] t) := by have := Has.setCell h8 9 (.int .i64 n.ctime); simpa using this
  exact h9
theorem stat_all (n : NodeD) : (#[.int .i64 n.no, .int .i64 n.dev, .int .i64 n.kind, .int .i64 n.mode, .int .i64 n.uid, .int .i64 n.gid, .int .i64 n.links, .int .i64 n.data.length, .int .i64 n.mtime, .int .i64 n.ctime] : Array Value).all (·.oneCell') = true := all_oneCell_toArray (cs := statL n) fun u hu => by
  simp only [statL, List.mem_cons, List.not_mem_nil, or_false] at hu
  rcases hu with rfl | rfl | rfl | rfl | rfl | rfl | rfl | rfl | rfl | rfl <;> rfl
theorem wpList_store_stat {ops : Array Oper} {rest : List Oper} {op : Oper} {a : Act} {w : World} {Q : Exit → Act → World → Prop} (hgd : op.guard = none) (x y : Operand) (ho : op.op = .store 66 x y)
    (b : Nat) (n : NodeD) (hx : a.eval x = .pointer (some ⟨b, 0, none⟩)) (hy : a.eval y = .agg #[.int .i64 n.no, .int .i64 n.dev, .int .i64 n.kind, .int .i64 n.mode, .int .i64 n.uid, .int .i64 n.gid, .int .i64 n.links, .int .i64 n.data.length, .int .i64 n.mtime, .int .i64 n.ctime]) {m : NodeD} (hb : Has w b (.cells #[.int .i64 m.no, .int .i64 m.dev, .int .i64 m.kind, .int .i64 m.mode, .int .i64 m.uid, .int .i64 m.gid, .int .i64 m.links, .int .i64 m.data.length, .int .i64 m.mtime, .int .i64 m.ctime] 66))
    (h : ∀ w', Has w' b (.cells #[.int .i64 n.no, .int .i64 n.dev, .int .i64 n.kind, .int .i64 n.mode, .int .i64 n.uid, .int .i64 n.gid, .int .i64 n.links, .int .i64 n.data.length, .int .i64 n.mtime, .int .i64 n.ctime] 66) → Only [b] w w' → wpList Try.prog ops Q rest (a.put op.dst undef) w') : wpList Try.prog ops Q (op :: rest) a w := by
  refine wpList_store_mid hgd 66 x y ho b 0 #[.int .i64 n.no, .int .i64 n.dev, .int .i64 n.kind, .int .i64 n.mode, .int .i64 n.uid, .int .i64 n.gid, .int .i64 n.links, .int .i64 n.data.length, .int .i64 n.mtime, .int .i64 n.ctime] hx hy hb.there infoStat10 (stat_all n) ?_
  exact h _ (hb.setStat n) (only_setCells (statL n) 0 w)
theorem wpList_load_stat {ops : Array Oper} {rest : List Oper} {op : Oper} {a : Act} {w : World} {Q : Exit → Act → World → Prop} (hgd : op.guard = none) (x : Operand) (ho : op.op = .load 66 x)
    (b : Nat) (n : NodeD) (hx : a.eval x = .pointer (some ⟨b, 0, none⟩)) (hb : Has w b (.cells #[.int .i64 n.no, .int .i64 n.dev, .int .i64 n.kind, .int .i64 n.mode, .int .i64 n.uid, .int .i64 n.gid, .int .i64 n.links, .int .i64 n.data.length, .int .i64 n.mtime, .int .i64 n.ctime] 66))
    (h : wpList Try.prog ops Q rest (a.put op.dst (.agg #[.int .i64 n.no, .int .i64 n.dev, .int .i64 n.kind, .int .i64 n.mode, .int .i64 n.uid, .int .i64 n.gid, .int .i64 n.links, .int .i64 n.data.length, .int .i64 n.mtime, .int .i64 n.ctime])) w) : wpList Try.prog ops Q (op :: rest) a w :=
  wpList_load_mid hgd 66 x ho b 0 hx [.int .i64 n.no, .int .i64 n.dev, .int .i64 n.kind, .int .i64 n.mode, .int .i64 n.uid, .int .i64 n.gid, .int .i64 n.links, .int .i64 n.data.length, .int .i64 n.mtime, .int .i64 n.ctime] _ hb.range Try.underlying66 rfl infoStat10 h
theorem res_stat {fn : Func} {p t : Tmp} (h : fn.results = #[.cell p 66, .tmp t]) (tmps : Array Value) (w : World) (g : Nat) (n : NodeD) (v : Value)
    (hp : tmps.getD p undef = .pointer (some ⟨g, 0, none⟩)) (hv : tmps.getD t undef = v) (hg : Has w g (.cells #[.int .i64 n.no, .int .i64 n.dev, .int .i64 n.kind, .int .i64 n.mode, .int .i64 n.uid, .int .i64 n.gid, .int .i64 n.links, .int .i64 n.data.length, .int .i64 n.mtime, .int .i64 n.ctime] 66)) :
    (results fn tmps).run Try.prog w = .ok (.tuple #[.agg #[.int .i64 n.no, .int .i64 n.dev, .int .i64 n.kind, .int .i64 n.mode, .int .i64 n.uid, .int .i64 n.gid, .int .i64 n.links, .int .i64 n.data.length, .int .i64 n.mtime, .int .i64 n.ctime], v]) w :=
  res_cell_tmp h tmps w g 66 _ _ v hp hv hg Try.underlying66 rfl infoStat10
set_option maxRecDepth 100000 in
set_option maxHeartbeats 8000000 in
theorem pstat_any (B : Nat) (g : GhW) (S : TreeD) (no : Int) (w : World) (h : WAt w B g S) (hd : 0 < S.devs.length) :
    Calls Try.prog 60 #[.pointer (some ⟨g.bW, 0, none⟩), .int .i64 no] w (Ret w (.tuple #[statV (getN S.nodes no), .int .i64 (statE S no)])) := by
  obtain ⟨W0, hW0⟩ : ∃ W, W = w.alloc (.cells #[.int .i64 0, .int .i64 0, .int .i64 0, .int .i64 0, .int .i64 0, .int .i64 0, .int .i64 0, .int .i64 0, .int .i64 0, .int .i64 0] 66) := ⟨_, rfl⟩
  obtain ⟨b0, hb0⟩ : ∃ b, b = w.heap.size := ⟨_, rfl⟩
  have E0 : Ext w W0 := by rw [hW0]; exact (Ext.refl _).alloc _
  have R0 : Has W0 b0 (.cells #[.int .i64 nodeZ.no, .int .i64 nodeZ.dev, .int .i64 nodeZ.kind, .int .i64 nodeZ.mode, .int .i64 nodeZ.uid, .int .i64 nodeZ.gid, .int .i64 nodeZ.links, .int .i64 nodeZ.data.length, .int .i64 nodeZ.mtime, .int .i64 nodeZ.ctime] 66) := by rw [hW0, hb0]; exact Has.new _ _
  have hbw : w.heap.size ≤ b0 := by omega
  have h0 := h.ext E0
  go_enter Try.func60, Try.ntmps60
  go_upto_region 1 with fail
  rw [show w.alloc _ = W0 from hW0.symm, ← hb0]
  clear hW0 hb0
  go_wp2_with fail
  refine (pdevs_any B g S _ h0 hd).mono ?_
  rintro e w1 ⟨rfl, b1⟩
  have R1 := R0.ext b1
  have E1 := E0.trans b1
  have h1 := h0.ext b1
  have td : ((S.devs.length : Int) == 0) = false := by simp; intro e; rw [e] at hd; exact absurd hd (by simp)
  obtain ⟨_, _, cd, hWr, _⟩ := id h1
  have v0 : w1.cell? ⟨g.bW, 0, none⟩ = some (.pointer (some ⟨g.bT, 0, none⟩)) := hWr.cell 0
  have vz := hWr.lt
  clear hWr
  go_wp2_with fail
  refine (tget_any B g.bT g.bM S.nodes S.last no _ h1.2.1).mono ?_
  rintro e w2 ⟨A2, k2, rfl, ok2, b2⟩
  have R2 := R1.ext b2
  have E2 := E1.trans b2
  obtain ⟨m, hm⟩ : ∃ m, m = getN S.nodes no := ⟨_, rfl⟩
  obtain ⟨i, hi⟩ : ∃ i, i = isN S.nodes no := ⟨_, rfl⟩
  have hE : statE S no = if i = true then 0 else 5 := by rw [hi]; rfl
  have hZ : i = false → m = nodeZ := fun e => by rw [hm]; exact (isN_false (hi.symm.trans e)).1
  rw [← hm, ← hi]
  clear ok2
  obtain ⟨W3, hW3⟩ : ∃ W3, W3 = w2.alloc (.cells #[.int .i64 m.no, .int .i64 m.dev, .int .i64 m.kind, .int .i64 m.mode, .int .i64 m.uid, .int .i64 m.gid, .int .i64 m.mtime, .int .i64 m.ctime, .int .i64 m.links, .int .i64 m.up, .string (bs m.data), .slice A2 m.ents.length k2] 42) := ⟨_, rfl⟩
  obtain ⟨b8, hb8⟩ : ∃ b8, b8 = w2.heap.size := ⟨_, rfl⟩
  have E23 : Ext w2 W3 := by rw [hW3]; exact (Ext.refl _).alloc _
  have N3 : Has W3 b8 (.cells #[.int .i64 m.no, .int .i64 m.dev, .int .i64 m.kind, .int .i64 m.mode, .int .i64 m.uid, .int .i64 m.gid, .int .i64 m.mtime, .int .i64 m.ctime, .int .i64 m.links, .int .i64 m.up, .string (bs m.data), .slice A2 m.ents.length k2] 42) := by rw [hW3, hb8]; exact Has.new _ _
  have R3 := R2.ext E23
  have E3 := E2.trans E23
  obtain ⟨e0, he0⟩ : ∃ e0, e0 = statE S no := ⟨_, rfl⟩
  rw [← he0]
  rw [← he0] at hE
  have HE := Lib.hid hE
  have HZ := Lib.hid hZ
  have HMM := Lib.hid hm
  have HEE := Lib.hid he0
  clear hm hi hE hZ he0 v0 vz
  go_upto_region 4 with fail
  rw [← hW3, ← hb8]
  clear hW3 hb8 E23 R1 R2 E1 E2
  unfold statV
  cases i
  · have e1 : Hid (e0 = 5) := Lib.hid (HE.out.trans rfl)
    have e2 : Hid (m = nodeZ) := Lib.hid (HZ.out rfl)
    go_wp2_with (refine wpList_store_stat rfl _ _ rfl b0 nodeZ rfl rfl R3 ?_; intro w9 R9 O9)
    refine bodyPost_ret (v := .tuple #[.agg #[.int .i64 nodeZ.no, .int .i64 nodeZ.dev, .int .i64 nodeZ.kind, .int .i64 nodeZ.mode, .int .i64 nodeZ.uid, .int .i64 nodeZ.gid, .int .i64 nodeZ.links, .int .i64 nodeZ.data.length, .int .i64 nodeZ.mtime, .int .i64 nodeZ.ctime], .int .i64 5]) (res_stat Try.results60 _ _ b0 nodeZ _ rfl rfl R9) rfl ?_
    refine ⟨by (try rw [← HMM.out]); (try rw [← HEE.out]); rw [e1.out, e2.out]; rfl, O9.after E3 (by simpa using hbw)⟩
  · have e1 : Hid (e0 = 0) := Lib.hid (HE.out.trans rfl)
    obtain ⟨x0, x1, x2, x3, x4, x5, x6, x7, x8, x9, x10, x11⟩ := N3.node12
    have xz := N3.lt
    go_wp2_with (refine wpList_store_stat rfl _ _ rfl b0 m rfl rfl R3 ?_; intro w9 R9 O9)
    refine bodyPost_ret (v := .tuple #[.agg #[.int .i64 m.no, .int .i64 m.dev, .int .i64 m.kind, .int .i64 m.mode, .int .i64 m.uid, .int .i64 m.gid, .int .i64 m.links, .int .i64 m.data.length, .int .i64 m.mtime, .int .i64 m.ctime], .int .i64 0]) (res_stat Try.results60 _ _ b0 m _ rfl rfl R9) rfl ?_
    refine ⟨by (try rw [← HMM.out]); (try rw [← HEE.out]); rw [e1.out]; rfl, O9.after E3 (by simpa using hbw)⟩
end Go.Proofs.Ytjblimclakfhfaa

namespace Go.Proofs.Ytjblimclakfhfaa
open Go.ChangeShapes Go.WideShapes Go.ChangeAt Go.RowKit

set_option maxRecDepth 100000 in
theorem nilNone (w : World) : Calls Try.prog 65 #[.pointer none] w (Ret w (.bool true)) := by
  go_enter Try.func65, Try.ntmps65
  go_wp2_with fail
  go_ret
  exact Ret.mk rfl (Ext.refl _)

set_option maxRecDepth 100000 in
theorem nilRead (w : World) : Calls Try.prog 59 #[.pointer none] w (Ret w (.int .i64 1)) := by
  go_enter Try.func59, Try.ntmps59
  go_wp2_with fail
  refine (nilNone _).mono ?_
  rintro e w1 ⟨rfl, b1⟩
  go_wp2_with fail
  go_ret
  exact Ret.mk rfl b1
set_option maxRecDepth 100000 in
theorem nilChange (w : World) : Calls Try.prog 62 #[.pointer none] w (Ret w (.int .i64 1)) := by
  go_enter Try.func62, Try.ntmps62
  go_wp2_with fail
  refine (nilRead _).mono ?_
  rintro e w1 ⟨rfl, b1⟩
  go_wp2_with fail
  go_ret
  exact Ret.mk rfl b1
set_option maxRecDepth 100000 in
theorem nilList {cu cg : Int} {no : Int} (w : World) : Calls Try.prog 19 #[.pointer none, .agg #[.int .i64 cu, .int .i64 cg], .int .i64 no] w (Ret w (.tuple #[.slice none 0 0, .int .i64 1])) := by
  go_enter Try.func19, Try.ntmps19
  go_wp2_with fail
  refine (nilRead _).mono ?_
  rintro e w1 ⟨rfl, b1⟩
  go_wp2_with fail
  go_ret2
  exact Ret.mk rfl (((Ext.refl _).alloc _).trans b1)
set_option maxRecDepth 100000 in
theorem nilMkdir {cu cg : Int} {d n : Int} {s : ByteArray} (w : World) : Calls Try.prog 20 #[.pointer none, .agg #[.int .i64 cu, .int .i64 cg], .int .i64 d, .string s, .int .i64 n] w (Ret w (.tuple #[.int .i64 0, .int .i64 1])) := by
  go_enter Try.func20, Try.ntmps20
  go_wp2_with fail
  refine (nilChange _).mono ?_
  rintro e w1 ⟨rfl, b1⟩
  go_wp2_with fail
  go_ret2
  exact Ret.mk rfl (((Ext.refl _).alloc _).trans b1)
set_option maxRecDepth 100000 in
theorem nilCreate {cu cg : Int} {d n : Int} {s t : ByteArray} (w : World) : Calls Try.prog 21 #[.pointer none, .agg #[.int .i64 cu, .int .i64 cg], .int .i64 d, .string s, .int .i64 n, .string t] w (Ret w (.tuple #[.int .i64 0, .int .i64 1])) := by
  go_enter Try.func21, Try.ntmps21
  go_wp2_with fail
  refine (nilChange _).mono ?_
  rintro e w1 ⟨rfl, b1⟩
  go_wp2_with fail
  go_ret2
  exact Ret.mk rfl (((Ext.refl _).alloc _).trans b1)
set_option maxRecDepth 100000 in
theorem nilLink {cu cg : Int} {d n : Int} {s : ByteArray} (w : World) : Calls Try.prog 24 #[.pointer none, .agg #[.int .i64 cu, .int .i64 cg], .int .i64 d, .int .i64 n, .string s] w (Ret w (.int .i64 1)) := by
  go_enter Try.func24, Try.ntmps24
  go_wp2_with fail
  refine (nilChange _).mono ?_
  rintro e w1 ⟨rfl, b1⟩
  go_wp2_with fail
  go_ret
  exact Ret.mk rfl (((Ext.refl _).alloc _).trans b1)
set_option maxRecDepth 100000 in
theorem nilRename {cu cg : Int} {d n : Int} {s t : ByteArray} (w : World) : Calls Try.prog 25 #[.pointer none, .agg #[.int .i64 cu, .int .i64 cg], .int .i64 d, .string s, .int .i64 n, .string t] w (Ret w (.int .i64 1)) := by
  go_enter Try.func25, Try.ntmps25
  go_wp2_with fail
  refine (nilChange _).mono ?_
  rintro e w1 ⟨rfl, b1⟩
  go_wp2_with fail
  go_ret
  exact Ret.mk rfl (((Ext.refl _).alloc _).trans b1)
set_option maxRecDepth 100000 in
theorem nilWrite {cu cg : Int} {n : Int} {s : ByteArray} (w : World) : Calls Try.prog 26 #[.pointer none, .agg #[.int .i64 cu, .int .i64 cg], .int .i64 n, .string s] w (Ret w (.int .i64 1)) := by
  go_enter Try.func26, Try.ntmps26
  go_wp2_with fail
  refine (nilChange _).mono ?_
  rintro e w1 ⟨rfl, b1⟩
  go_wp2_with fail
  go_ret
  exact Ret.mk rfl (((Ext.refl _).alloc _).trans b1)
set_option maxRecDepth 100000 in
theorem nilTick {n : Int} (w : World) : Calls Try.prog 27 #[.pointer none, .int .i64 n] w (Ret w (.int .i64 1)) := by
  go_enter Try.func27, Try.ntmps27
  go_wp2_with fail
  refine (nilNone _).mono ?_
  rintro e w1 ⟨rfl, b1⟩
  go_wp2_with fail
  go_ret
  exact Ret.mk rfl b1
set_option maxRecDepth 100000 in
theorem nilCount (w : World) : Calls Try.prog 28 #[.pointer none] w (Ret w (.int .i64 0)) := by
  go_enter Try.func28, Try.ntmps28
  go_wp2_with fail
  refine (nilNone _).mono ?_
  rintro e w1 ⟨rfl, b1⟩
  go_wp2_with fail
  go_ret
  exact Ret.mk rfl b1
set_option maxRecDepth 100000 in
theorem nilNow (w : World) : Calls Try.prog 29 #[.pointer none] w (Ret w (.int .i64 0)) := by
  go_enter Try.func29, Try.ntmps29
  go_wp2_with fail
  refine (nilNone _).mono ?_
  rintro e w1 ⟨rfl, b1⟩
  go_wp2_with fail
  go_ret
  exact Ret.mk rfl b1
set_option maxRecDepth 100000 in
theorem nilDead (w : World) : Calls Try.prog 30 #[.pointer none] w (Ret w (.bool false)) := by
  go_enter Try.func30, Try.ntmps30
  go_wp2_with fail
  refine (nilNone _).mono ?_
  rintro e w1 ⟨rfl, b1⟩
  go_wp2_with fail
  go_ret
  exact Ret.mk rfl b1
set_option maxRecDepth 100000 in
theorem nilPlan {v : Value} (w : World) : Calls Try.prog 22 #[.pointer none, v] w (fun e w' => (∃ v, e = .returned v) ∧ Ext w w') := by
  go_enter Try.func22, Try.ntmps22
  go_wp2_with fail
  refine (nilNone _).mono ?_
  rintro e w1 ⟨rfl, b1⟩
  go_wp2_with fail
  go_end0
  exact ⟨⟨_, rfl⟩, b1⟩
set_option maxRecDepth 100000 in
theorem nilWake (w : World) : Calls Try.prog 23 #[.pointer none] w (fun e w' => (∃ v, e = .returned v) ∧ Ext w w') := by
  go_enter Try.func23, Try.ntmps23
  go_wp2_with fail
  refine (nilNone _).mono ?_
  rintro e w1 ⟨rfl, b1⟩
  go_wp2_with fail
  go_end0
  exact ⟨⟨_, rfl⟩, b1⟩

def fndL : List Value := [.int .i64 0, .string ⟨#[]⟩, .int .i64 0, .bool false]
theorem infoFound : (Try.prog.info? 33).map (·.size) = some 4 := by kernel_rfl
theorem fnd_all : (#[.int .i64 0, .string ⟨#[]⟩, .int .i64 0, .bool false] : Array Value).all (·.oneCell') = true := all_oneCell_toArray (cs := fndL) fun u hu => by
  simp only [fndL, List.mem_cons, List.not_mem_nil, or_false] at hu
  rcases hu with rfl | rfl | rfl | rfl <;> rfl
theorem Has.setFnd {w : World} {b : Nat} {t : TypeId} (h : Has w b (.cells #[.int .i64 0, .string ⟨#[]⟩, .int .i64 0, .bool false] t)) : Has (w.setCells b 0 fndL) b (.cells #[.int .i64 0, .string ⟨#[]⟩, .int .i64 0, .bool false] t) := by
  have h0 : Has (w.setCell ⟨b, 0, none⟩ (.int .i64 0)) b (.cells #[.int .i64 0, .string ⟨#[]⟩, .int .i64 0, .bool false] t) := by have := Has.setCell h 0 (.int .i64 0); simpa using this
  have h1 : Has ((w.setCell ⟨b, 0, none⟩ (.int .i64 0)).setCell ⟨b, 1, none⟩ (.string ⟨#[]⟩)) b (.cells #[.int .i64 0, .string ⟨#[]⟩, .int .i64 0, .bool false] t) := by have := Has.setCell h0 1 (.string ⟨#[]⟩); simpa using this
  have h2 : Has (((w.setCell ⟨b, 0, none⟩ (.int .i64 0)).setCell ⟨b, 1, none⟩ (.string ⟨#[]⟩)).setCell ⟨b, 2, none⟩ (.int .i64 0)) b (.cells #[.int .i64 0, .string ⟨#[]⟩, .int .i64 0, .bool false] t) := by have := Has.setCell h1 2 (.int .i64 0); simpa using this
  have h3 := Has.setCell h2 3 (.bool false)
  have h4 : Has ((((w.setCell ⟨b, 0, none⟩ (.int .i64 0)).setCell ⟨b, 1, none⟩ (.string ⟨#[]⟩)).setCell ⟨b, 2, none⟩ (.int .i64 0)).setCell ⟨b, 3, none⟩ (.bool false)) b (.cells #[.int .i64 0, .string ⟨#[]⟩, .int .i64 0, .bool false] t) := by simpa using h3
  exact h4
theorem wpList_store_fnd {ops : Array Oper} {rest : List Oper} {op : Oper} {a : Act} {w : World} {Q : Exit → Act → World → Prop} (hgd : op.guard = none) (x y : Operand) (ho : op.op = .store 33 x y)
    (b : Nat) (hx : a.eval x = .pointer (some ⟨b, 0, none⟩)) (hy : a.eval y = .agg #[.int .i64 0, .string ⟨#[]⟩, .int .i64 0, .bool false]) (hb : Has w b (.cells #[.int .i64 0, .string ⟨#[]⟩, .int .i64 0, .bool false] 33))
    (h : ∀ w', Has w' b (.cells #[.int .i64 0, .string ⟨#[]⟩, .int .i64 0, .bool false] 33) → Only [b] w w' → wpList Try.prog ops Q rest (a.put op.dst undef) w') : wpList Try.prog ops Q (op :: rest) a w := by
  refine wpList_store_mid hgd 33 x y ho b 0 #[.int .i64 0, .string ⟨#[]⟩, .int .i64 0, .bool false] hx hy hb.there infoFound fnd_all ?_
  exact h _ hb.setFnd (only_setCells fndL 0 w)
theorem res_fnd {fn : Func} {p t : Tmp} (h : fn.results = #[.cell p 33, .tmp t]) (tmps : Array Value) (w : World) (g : Nat) (v : Value)
    (hp : tmps.getD p undef = .pointer (some ⟨g, 0, none⟩)) (hv : tmps.getD t undef = v) (hg : Has w g (.cells #[.int .i64 0, .string ⟨#[]⟩, .int .i64 0, .bool false] 33)) :
    (results fn tmps).run Try.prog w = .ok (.tuple #[.agg #[.int .i64 0, .string ⟨#[]⟩, .int .i64 0, .bool false], v]) w :=
  res_cell_tmp h tmps w g 33 _ _ v hp hv hg Try.underlying33 rfl infoFound
set_option maxRecDepth 100000 in
theorem nilStat {no : Int} (w : World) : Calls Try.prog 18 #[.pointer none, .int .i64 no] w (Ret w (.tuple #[statV nodeZ, .int .i64 1])) := by
  obtain ⟨W0, hW0⟩ : ∃ W, W = w.alloc (.cells #[.int .i64 0, .int .i64 0, .int .i64 0, .int .i64 0, .int .i64 0, .int .i64 0, .int .i64 0, .int .i64 0, .int .i64 0, .int .i64 0] 66) := ⟨_, rfl⟩
  obtain ⟨b0, hb0⟩ : ∃ b, b = w.heap.size := ⟨_, rfl⟩
  have E0 : Ext w W0 := by rw [hW0]; exact (Ext.refl _).alloc _
  have R0 : Has W0 b0 (.cells #[.int .i64 nodeZ.no, .int .i64 nodeZ.dev, .int .i64 nodeZ.kind, .int .i64 nodeZ.mode, .int .i64 nodeZ.uid, .int .i64 nodeZ.gid, .int .i64 nodeZ.links, .int .i64 nodeZ.data.length, .int .i64 nodeZ.mtime, .int .i64 nodeZ.ctime] 66) := by rw [hW0, hb0]; exact Has.new _ _
  have hbw : w.heap.size ≤ b0 := by omega
  go_enter Try.func18, Try.ntmps18
  go_upto_region 1 with fail
  rw [show w.alloc _ = W0 from hW0.symm, ← hb0]
  clear hW0 hb0
  go_wp2_with fail
  refine (nilRead _).mono ?_
  rintro e w1 ⟨rfl, b1⟩
  have R1 := R0.ext b1
  have E1 := E0.trans b1
  go_wp2_with (refine wpList_store_stat rfl _ _ rfl b0 nodeZ rfl rfl R1 ?_; intro w9 R9 O9)
  refine bodyPost_ret (v := .tuple #[.agg #[.int .i64 nodeZ.no, .int .i64 nodeZ.dev, .int .i64 nodeZ.kind, .int .i64 nodeZ.mode, .int .i64 nodeZ.uid, .int .i64 nodeZ.gid, .int .i64 nodeZ.links, .int .i64 nodeZ.data.length, .int .i64 nodeZ.mtime, .int .i64 nodeZ.ctime], .int .i64 1]) (res_stat Try.results18 _ _ b0 nodeZ _ rfl rfl R9) rfl ?_
  exact ⟨rfl, O9.after E1 (by simpa using hbw)⟩
set_option maxRecDepth 100000 in
theorem nilFind {cu cg : Int} {s : ByteArray} {q : Bool} (w : World) : Calls Try.prog 17 #[.pointer none, .agg #[.int .i64 cu, .int .i64 cg], .string s, .bool q] w (Ret w (.tuple #[.agg #[.int .i64 0, .string ⟨#[]⟩, .int .i64 0, .bool false], .int .i64 1])) := by
  obtain ⟨W0, hW0⟩ : ∃ W, W = (w.alloc (.cells #[.int .i64 cu, .int .i64 cg] 24)).alloc (.cells #[.int .i64 0, .string ⟨#[]⟩, .int .i64 0, .bool false] 33) := ⟨_, rfl⟩
  obtain ⟨b0, hb0⟩ : ∃ b, b = w.heap.size + 1 := ⟨_, rfl⟩
  have E0 : Ext w W0 := by rw [hW0]; exact ((Ext.refl _).alloc _).alloc _
  have R0 : Has W0 b0 (.cells #[.int .i64 0, .string ⟨#[]⟩, .int .i64 0, .bool false] 33) := by rw [hW0, hb0]; have := Has.new (w.alloc (.cells #[.int .i64 cu, .int .i64 cg] 24)) (.cells #[.int .i64 0, .string ⟨#[]⟩, .int .i64 0, .bool false] 33); rw [World.size_alloc] at this; exact this
  have hbw : w.heap.size ≤ b0 := by omega
  go_enter Try.func17, Try.ntmps17
  go_upto_region 1 with fail
  rw [← hW0, ← hb0]
  clear hW0 hb0
  go_wp2_with fail
  refine (nilRead _).mono ?_
  rintro e w1 ⟨rfl, b1⟩
  have R1 := R0.ext b1
  have E1 := E0.trans b1
  go_wp2_with (refine wpList_store_fnd rfl _ _ rfl b0 rfl rfl R1 ?_; intro w9 R9 O9)
  refine bodyPost_ret (v := .tuple #[.agg #[.int .i64 0, .string ⟨#[]⟩, .int .i64 0, .bool false], .int .i64 1]) (res_fnd Try.results17 _ _ b0 _ rfl rfl R9) rfl ?_
  exact ⟨rfl, O9.after E1 (by simpa using hbw)⟩
end Go.Proofs.Ytjblimclakfhfaa
