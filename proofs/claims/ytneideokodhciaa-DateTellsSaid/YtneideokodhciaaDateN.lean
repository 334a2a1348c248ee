/- Layer 5 (date): the law's own helpers; how six ints that came in read. -/
import Derived.Test.YtneideokodhciaaDateM
import Derived.Test.YtneideokodhciaaDateI
import Derived.Test.YtneideokodhciaaDateB
import Derived.Lib.SmallJoins
import Derived.ChangeKeysEq
namespace Go.Proofs.Ytneideokodhciaa
open Go.ChangeShapes Go.WideShapes Go.ChangeAt Go.RowKit

section
variable {H : Type} {enc : TypeId × Value → H} {w : World} {base : Nat} {spare : Nat → Bool} {held : Bool}
theorem list6 {α : Type} {l : List α} (h : l.length = 6) : ∃ a0 a1 a2 a3 a4 a5, l = [a0, a1, a2, a3, a4, a5] := by
  match l, h with
  | [a0, a1, a2, a3, a4, a5], _ => exact ⟨a0, a1, a2, a3, a4, a5, rfl⟩
theorem cells3 : Try.prog.cellsOf 3 = 1 := by kernel_rfl
theorem cells38 : Try.prog.cellsOf 38 = 6 := by kernel_rfl
theorem okWide_array {r : Reach} {b0 k : Nat} {e t : TypeId} {v : Value} {P : Program} (ht : P.underlying t = some (.array k e)) (h : Value.okWide P w r b0 t v) : ∃ cs, v = .agg cs ∧ cs.size = P.cellsOf t := by
  simp only [Value.okWide, ht] at h
  obtain ⟨cs, h1, h2, _⟩ := h
  exact ⟨cs, h1, h2⟩
theorem int_cell {n : Nat} {c : Value} {x : DataW H × List MemPlace} (h : DataW.trod enc Try.prog w base spare held n 3 [c] = some x) : ∃ a : Int, c = .int .i64 a ∧ (Lit.int .i64 a).wf = true := by
  obtain ⟨a, h1, _, h2⟩ := DataW.trod_int Try.underlying3 h
  exact ⟨a, by simpa using h1, h2⟩
set_option maxRecDepth 100000 in
theorem open_six {r : Reach} {b0 : Nat} {v : Value} {d : DataW H} {p : List MemPlace} (hv : Value.okWide Try.prog w r b0 38 v) (h : DataW.Trod enc Try.prog w base spare held 38 v d p) :
    ∃ a b c d e f : Int, v = six a b c d e f := by
  obtain ⟨cs, rfl, hsz⟩ := okWide_array Try.underlying38 hv
  obtain ⟨fuel, hf⟩ := h
  obtain ⟨xs, m, _, _, hl, hxl, hff⟩ := DataW.trod_array Try.underlying38 hf
  rw [cells38] at hl
  have hcs : (Value.agg cs).cells.toList = cs.toList := rfl
  rw [hcs] at hl hff
  obtain ⟨a0, a1, a2, a3, a4, a5, he⟩ := list6 hl
  obtain ⟨y0, y1, y2, y3, y4, y5, rfl⟩ := list6 hxl
  rw [he] at hff
  have f0 := hff 0 (by omega)
  have f1 := hff 1 (by omega)
  have f2 := hff 2 (by omega)
  have f3 := hff 3 (by omega)
  have f4 := hff 4 (by omega)
  have f5 := hff 5 (by omega)
  simp only [cells3] at f0 f1 f2 f3 f4 f5
  obtain ⟨k0, rfl, _⟩ := int_cell f0
  obtain ⟨k1, rfl, _⟩ := int_cell f1
  obtain ⟨k2, rfl, _⟩ := int_cell f2
  obtain ⟨k3, rfl, _⟩ := int_cell f3
  obtain ⟨k4, rfl, _⟩ := int_cell f4
  obtain ⟨k5, rfl, _⟩ := int_cell f5
  refine ⟨k0, k1, k2, k3, k4, k5, ?_⟩
  have e : cs = #[.int .i64 k0, .int .i64 k1, .int .i64 k2, .int .i64 k3, .int .i64 k4, .int .i64 k5] := Array.toList_inj.1 he
  rw [e]; rfl
end
theorem infoInt : ∃ i, Try.prog.info? 3 = some i := by
  exact Option.isSome_iff_exists.1 (by kernel_rfl)
theorem eq_six (a b c d e f : Int) (w : World) : (Op.equalIn 10000 38 (.agg #[.int .i64 a, .int .i64 b, .int .i64 c, .int .i64 d, .int .i64 e, .int .i64 f]) (.agg #[.int .i64 a, .int .i64 b, .int .i64 c, .int .i64 d, .int .i64 e, .int .i64 f])).run Try.prog w = .ok true w := by
  obtain ⟨i, hi⟩ := infoInt
  rw [show (10000 : Nat) = 9999 + 1 from rfl, run_equalIn_array w 9999 _ _ Try.underlying38 hi]
  rw [cells3]
  have hr : List.range 6 = [0, 1, 2, 3, 4, 5] := rfl
  rw [hr]
  simp [Op.eqItems, go_sem]
set_option maxRecDepth 100000 in
set_option maxHeartbeats 1000000 in
theorem law_of (a b c d e f : Int) (w : World) : Calls Try.prog 28 #[six a b c d e f] w (Ret w (six a b c d e f)) := by
  unfold six
  go_enter Try.func28, Try.ntmps28
  go_wp2_with fail
  go_returns
  exact ⟨rfl, ((Ext.refl _).alloc _).alloc _⟩
set_option maxRecDepth 100000 in
set_option maxHeartbeats 1000000 in
theorem law_to (a b c d e f : Int) (w : World) : Calls Try.prog 22 #[six a b c d e f] w (Ret w (six a b c d e f)) := by
  unfold six
  go_enter Try.func22, Try.ntmps22
  go_wp2_with fail
  go_returns
  exact ⟨rfl, ((Ext.refl _).alloc _).alloc _⟩
theorem awake_txt {t : ByteArray} (h : TxtZ 951782400 t) : t = ⟨#[50, 48, 48, 48, 45, 48, 50, 45, 50, 57, 84, 48, 48, 58, 48, 48, 58, 48, 48]⟩ :=
  h.same ⟨2000, 2, 29, by unfold Valid; decide, by decide, by decide, by decide, rfl⟩
theorem awake_prs {n e : Int} (h : PrsZ (ByteArray.data ⟨#[50, 48, 50, 51, 45, 48, 50, 45, 50, 57, 84, 48, 48, 58, 48, 48, 58, 48, 48]⟩).toList n e) : e = 2 := by
  have z := prs_txt (y := 2023) (m := 2) (d := 29) (h := 0) (mi := 0) (s := 0) (by decide) (by decide) (by decide) (by decide) (by decide) (by decide) (n := n) (e := e) h
  have : Off ((2023 : Nat) : Int) ((2 : Nat) : Int) ((29 : Nat) : Int) ((0 : Nat) : Int) ((0 : Nat) : Int) ((0 : Nat) : Int) := .inr (.inr (.inr (.inl (by decide))))
  exact (z.same (.inl ⟨this, rfl, rfl⟩)).2
theorem awake_prs2 {n e : Int} (h : PrsZ (ByteArray.data ⟨#[49, 57, 54, 57, 45, 49, 50, 45, 51, 49, 84, 50, 51, 58, 53, 57, 58, 53, 57]⟩).toList n e) : e = 3 := by
  have z := prs_txt (y := 1969) (m := 12) (d := 31) (h := 23) (mi := 59) (s := 59) (by decide) (by decide) (by decide) (by decide) (by decide) (by decide) (n := n) (e := e) h
  have : ¬ Off ((1969 : Nat) : Int) ((12 : Nat) : Int) ((31 : Nat) : Int) ((23 : Nat) : Int) ((59 : Nat) : Int) ((59 : Nat) : Int) := by unfold Off; decide
  exact (z.same (.inr (.inl ⟨this, by decide, rfl, rfl⟩))).2
set_option maxRecDepth 100000 in
set_option maxHeartbeats 1000000 in
theorem awake5 (w : World) : Calls Try.prog 18 #[] w (Ret w (.bool true)) := by
  have l1 : leapZ 2000 = true := by decide
  have l2 : leapZ 1900 = false := by decide
  go_enter Try.func18, Try.ntmps18
  go_wp2_with fail
  refine (ptext_any 951782400 _ (by decide)).mono ?_
  rintro e w1 ⟨t, ht, rfl, b1⟩
  rw [awake_txt ht]
  clear ht
  go_wp2_with fail
  refine (pparse_any _ _ (by decide)).mono ?_
  rintro e w2 ⟨n2, e2, h2, rfl, b2⟩
  rw [awake_prs h2]
  clear h2
  go_wp2_with fail
  refine (pparse_any _ _ (by decide)).mono ?_
  rintro e w3 ⟨n3, e3, h3, rfl, b3⟩
  rw [awake_prs2 h3]
  clear h3
  go_wp2_with fail
  refine (pleap_any _ _).mono ?_
  rintro e w4 ⟨rfl, b4⟩
  rw [l1]
  go_wp2_with fail
  refine (pleap_any _ _).mono ?_
  rintro e w5 ⟨rfl, b5⟩
  rw [l2]
  go_wp2_with fail
  go_ret
  exact Ret.mk rfl ((((b1.trans b2).trans b3).trans b4).trans b5)
end Go.Proofs.Ytneideokodhciaa
