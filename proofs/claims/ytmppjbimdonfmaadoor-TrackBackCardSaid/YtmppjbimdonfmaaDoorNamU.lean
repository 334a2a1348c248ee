/- Layer 2 (name): Parts; the law's all: the first parts of a path. -/
import Derived.Test.YtmppjbimdonfmaaDoorNamT
namespace Go.Proofs.YtmppjbimdonfmaaDoor
open Go.ChangeShapes Go.WideShapes Go.ChangeAt Go.RowKit Go.Shelf
attribute [local go_sem] Oper.semAt_some

set_option maxHeartbeats 1000000 in
theorem parts_in (F : Fence) (n : Nat) (hf : F.fn 72) (hro : F.round = none) (s : ByteArray) (w : World) :
    CallsIn F n Tryd.prog 72 #[.string s] w fun e w' => e = .returned (.func (.func 104) #[] #[.pointer (some ⟨w.heap.size, 0, none⟩)]) ∧ w' = w.alloc (.cells #[.string s] 9) := by
  refine callsIn_of_wp Tryd.func72 rfl hf ?_ hro
  simp only [Tryd.ntmps72, List.size_toArray, List.length_cons, List.length_nil, Nat.reduceAdd, Nat.reduceSub, Array.replicate_succ, Array.replicate_zero, List.push_toArray, List.append_toArray, List.nil_append, List.cons_append]
  gi_wp2
  go_ret
  exact ⟨rfl, rfl⟩
theorem eql_seq_nil (f : Fn) (ts cs : Array Value) (w : World) : (binOp .eql 72 (.func f ts cs) .nilFunc).run Tryd.prog w = .ok (.bool false) w := by
  have hu := Tryd.underlying72
  have h : ∀ d : Nat, (Op.equalIn (d + 1) 72 (.func f ts cs) .nilFunc).run Tryd.prog w = .ok false w := fun d => by simp [Op.equalIn, run_underlying hu]
  simp only [binOp]
  simp [Op.equal, Op.maxDepth, h 9999]
def AllR (w : World) (l : List Txt) (e : Ending) (w' : World) : Prop := ∃ v, e = .returned (.tuple #[v, .bool true]) ∧ OwnT w' w.heap.size v l ∧ Ext w w'
theorem take_prefix {a b : List Txt} (h : a <+: b) : b.take a.length = a := (List.prefix_iff_eq_take.1 h).symm
set_option maxRecDepth 100000 in
set_option maxHeartbeats 4000000 in
theorem all_any (l : List UInt8) (most : Nat) (w : World) (hlen : l.length ≤ 1000000) (h0m : 0 < most) (hm : most ≤ 1000000) : Calls Tryd.prog 17 #[.string (bs l), .int .i64 most] w (AllR w ((partsN l).take most)) := by
  obtain ⟨i0, hi, hz0, hz1, hz2⟩ := info_parts infoStr
  refine (callsIn_wide (n := 3)).1 ?_
  obtain ⟨F, hF⟩ : ∃ F, F = Fence.wide := ⟨_, rfl⟩
  have hro : F.round = none := by rw [hF]; rfl
  have h14 : F.fn 17 := by rw [hF]; trivial
  have h42 : F.fn 72 := by rw [hF]; trivial
  have h50 : F.fn 104 := by rw [hF]; trivial
  rw [← hF]
  clear hF
  have hq2 := fun (p : Value) (w : World) => eql_seq_nil (.func 104) #[] #[p] w
  obtain ⟨X, hX⟩ : ∃ X, X = bs l := ⟨_, rfl⟩
  rw [← hX]
  refine callsIn_of_wp_marks Tryd.func17 rfl h14 ?_ hro
  simp only [Tryd.ntmps17, List.size_toArray, List.length_cons, List.length_nil, Nat.reduceAdd, Nat.reduceSub, Array.replicate_succ, Array.replicate_zero, List.push_toArray, List.append_toArray, List.nil_append, List.cons_append]
  have HX := Lib.hid hX
  clear hX
  gi_wp2_with (gi_at_call 72; refine (parts_in F _ h42 hro _ _).mono ?_; rintro e w' ⟨rfl, rfl⟩)
  obtain ⟨W0, hW0⟩ : ∃ W0, W0 = ((w.alloc (.cells #[.int .i64 most] 3)).alloc (.cells #[.string X] 9)).alloc (.cells #[.slice none 0 0] 24) := ⟨_, rfl⟩
  have bA : Boxed W0 w.heap.size 3 (.int .i64 most) := by rw [hW0]; exact ((Boxed.new w _ _).alloc _).alloc _
  have bS : Boxed W0 (w.heap.size + 1) 9 (.string X) := by rw [hW0]; have := Boxed.new (w.alloc (.cells #[.int .i64 most] 3)) 9 (.string X); rw [World.size_alloc] at this; exact this.alloc _
  have bO : Boxed W0 (w.heap.size + 1 + 1) 24 (.slice none 0 0) := by rw [hW0]; have := Boxed.new ((w.alloc (.cells #[.int .i64 most] 3)).alloc (.cells #[.string X] 9)) 24 (.slice none 0 0); rw [World.size_alloc, World.size_alloc] at this; exact this
  have E0 : Ext w W0 := by rw [hW0]; exact (((Ext.refl _).alloc _).alloc _).alloc _
  have hz : W0.heap.size = w.heap.size + 3 := by rw [hW0]; simp
  rw [← hW0]
  clear hW0 hq2
  refine wpIn_rangeFunc_ownG (w0 := W0) hro (by omega) (gf := 104) (lb := #[.pointer (some ⟨w.heap.size + 1, 0, none⟩)]) rfl h50 (enters_of Tryd.func104 (by kernel_rfl) rfl)
    (parts_stops F (3 - 1) h50 hro (by omega) (w.heap.size + 1) (w.heap.size + 2) l hlen W0 bS.lt (by omega) (by rw [← HX.out]; exact bS.cell)) belowK_t (belowK_b (by omega)) (Below.refl _ _) (fun _ => rfl)
    (fun pre W => (∃ v, Boxed W (w.heap.size + 1 + 1) 24 v ∧ W.ownsRow (w.heap.size + 2) 9 1 v pre.length (txtCells pre) ∧ pre.length < most) ∧ Boxed W w.heap.size 3 (.int .i64 most) ∧ Below w.heap.size w W)
    (fun c pre W => (∃ v, Boxed W (w.heap.size + 1 + 1) 24 v ∧ W.ownsRow (w.heap.size + 2) 9 1 v pre.length (txtCells pre) ∧ (pre.length = most ∧ c = .exit 0)) ∧ Boxed W w.heap.size 3 (.int .i64 most) ∧ Below w.heap.size w W)
    (OwnFrom.and (Own.from (holdsRow_own (w.heap.size + 2) (w.heap.size + 1 + 1) 24 9 1 (fun pre => pre.length) txtCells (fun pre _ => pre.length < most)) _) (OwnFrom.and (Own.from (boxed_own _ _ _) _) (ownFrom_below (Nat.le_refl _) (by omega))))
    (fun c => OwnFrom.and (Own.from (holdsRow_own (w.heap.size + 2) (w.heap.size + 1 + 1) 24 9 1 (fun pre => pre.length) txtCells (fun pre _ => pre.length = most ∧ c = .exit 0)) _) (OwnFrom.and (Own.from (boxed_own _ _ _) _) (ownFrom_below (Nat.le_refl _) (by omega))))
    ⟨⟨_, bO, World.ownsRow_nil _ _ _ _, h0m⟩, bA, E0⟩
    (fun x => { tmps := #[.string X, .int .i64 most, undef, .pointer (some ⟨w.heap.size, 0, none⟩), .slice none 0 0, .bool false, .func (.func 104) #[] #[.pointer (some ⟨w.heap.size + 1, 0, none⟩)], .pointer (some ⟨w.heap.size + 1 + 1, 0, none⟩), .string (bs x), .string X, .func (.func 104) #[] #[.pointer (some ⟨w.heap.size + 1, 0, none⟩)], .func (.func 104) #[] #[.pointer (some ⟨w.heap.size + 1, 0, none⟩)], .bool false, .func (.func 104) #[] #[.pointer (some ⟨w.heap.size + 1, 0, none⟩)], .string (bs x), undef, undef, undef, undef, undef, undef, undef, undef, undef], defers := [] }) ?assign ?body ?done ?stop
  case assign =>
    intro l x W K hK
    gi_wp2
    exact hK
  case body =>
    rintro l pre x W ⟨⟨v, hv, hrow, hpm⟩, hb, hB⟩ hpl
    have hc := hv.cell
    have hsz := hB.size
    have hpm2 : (pre.length : Int) < most := by omega
    gi_wp2_with (gi_at_builtin; refine wpListIn_append_own _ rfl _ _ 24 rfl (w.heap.size + 2) 9 i0 (.string ⟨#[]⟩) 1 16 Tryd.underlying24 hi hz0 hz1 hz2 rfl (by decide) _ _ _ rfl (hrow.alloc _) ⟨W.heap.size, 0, none⟩ 1 1 (txtCells [x]) rfl rfl (txt_news W x) (txtCells_one [x]) (by unfold maxLen; omega) (by omega) (by have := hv.lt; simp; omega) ?_; intro v' w1 hown' hgrow _; obtain ⟨g', cap', rfl⟩ := ownsRow_succ hown'; obtain ⟨hv1, hv2, hr2, hk2, hb2⟩ := hv.appended (by decide) hrow (by have := hv.lt; omega) (by omega) hown' hgrow; have hb1 := (hb.alloc (.cells #[.string (bs x)] 9)).kept hgrow (hb.not_row (by decide) hrow); have hb3 := hb1.other (show w.heap.size ≠ w.heap.size + 1 + 1 by omega) (.slice (some ⟨g', 0, none⟩) (pre.length + 1) cap'); have hc1 := hv1.cell; have hf1 := hv1.frozen; have hc3 := hb3.cell; have hc2 := hv2.cell)
    all_goals
      have hr3 : (w1.setCell ⟨w.heap.size + 1 + 1, 0, none⟩ (.slice (some ⟨g', 0, none⟩) (pre.length + 1) cap')).ownsRow (w.heap.size + 2) 9 1 (.slice (some ⟨g', 0, none⟩) (pre.length + 1) cap') (pre ++ [x]).length (txtCells (pre ++ [x])) := by rw [txtCells_append, List.length_append]; exact hr2
      have hlx : (pre ++ [x]).length = pre.length + 1 := by simp
    · have hx : (most : Int) ≤ (pre.length : Int) + 1 := by assumption
      exact ⟨hk2.from _, ⟨_, hv2, hr3, by omega, rfl⟩, hb3, hB.trans (hb2.mono (by omega))⟩
    · have hx : (pre.length : Int) + 1 < (most : Int) := by assumption
      exact ⟨hk2.from _, hb2, ⟨_, hv2, hr3, by omega⟩, hb3, hB.trans (hb2.mono (by omega))⟩
  case done =>
    rintro D ys W hD rfl ⟨⟨v, hv, hrow, hpm⟩, hb, hB⟩ hK
    have hc := hv.cell
    gi_wp2
    refine ⟨by simp, .inl ⟨_, _, rfl, run_takeDeferred hK, ?_⟩⟩
    refine ⟨.tuple #[v, .bool true], by simp [results, Tryd.results17, go_sem], v, rfl, ?_, hB.trans (belowK_b (w := w) (Nat.le_refl _) W D _ _ (by omega) hK rfl rfl)⟩
    rw [List.take_of_length_le (by omega)]
    exact OwnT.base (ownsRow_putObj hrow _ hK rfl) (by omega)
  case stop =>
    rintro D c pre W hD hp ⟨⟨v, hv, hrow, hpm, rfl⟩, hb, hB⟩ hK
    have hc := hv.cell
    have htp := Lib.hid (take_prefix hp)
    rw [hpm] at htp
    gi_wp2
    refine ⟨by simp, .inl ⟨_, _, rfl, run_takeDeferred hK, ?_⟩⟩
    refine ⟨.tuple #[v, .bool true], by simp [results, Tryd.results17, go_sem], v, rfl, ?_, hB.trans (belowK_b (w := w) (Nat.le_refl _) W D _ _ (by omega) hK rfl rfl)⟩
    rw [htp.out]
    exact OwnT.base (ownsRow_putObj hrow _ hK rfl) (by omega)
end Go.Proofs.YtmppjbimdonfmaaDoor
