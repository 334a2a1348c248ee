/- Layer 11 (ents): ents.All as an iterator. The lines follow the guide's worked contract of slices.All, turned to entries. -/
import Derived.Test.YtneideokodhciaaEntR
import Derived.RangeFuncNested
import Derived.RangeFuncBound
import Derived.RangeFuncCalls
import Derived.RangeFuncLeaves
import Derived.RangeFuncBox
import Derived.Shelf.Abstract
import Derived.OwnWalkIn
import Derived.TacticsInMore
import Derived.LoopNIn
import Derived.LoopIn
namespace Go.Proofs.Ytneideokodhciaa
open Go.ChangeShapes Go.WideShapes Go.ChangeAt Go.RowKit Go.Shelf
attribute [local go_sem] Oper.semAt_some

/-- Entries that lie below a block. -/
def EntsB (n₀ : Nat) (w : World) (A : Option Addr) (l : List EntD) : Prop :=
  l = [] ∨ ∃ b o, A = some ⟨b, o, none⟩ ∧ b < n₀ ∧ ∀ k, (h : k < l.length) → w.cell? ⟨b, o + k * 2, none⟩ = some (.string (bs l[k].1)) ∧ w.cell? ⟨b, o + k * 2 + 1, none⟩ = some (.int .i64 l[k].2)
theorem EntsB.below {n₀ : Nat} {w w' : World} {A : Option Addr} {l : List EntD} (h : EntsB n₀ w A l) (k : Below n₀ w w') : EntsB n₀ w' A l := by
  rcases h with h | ⟨b, o, hA, hb, hc⟩
  · exact .inl h
  · exact .inr ⟨b, o, hA, hb, fun i hi => ⟨(k.cell (p := ⟨b, o + i * 2, none⟩) hb).trans (hc i hi).1, (k.cell (p := ⟨b, o + i * 2 + 1, none⟩) hb).trans (hc i hi).2⟩⟩
abbrev encE (x : EntD) : Array Value := #[.string (bs x.1), .int .i64 x.2]
set_option maxRecDepth 100000 in
set_option maxHeartbeats 2000000 in
theorem all1_in (F : Fence) (n : Nat) (hf : F.fn 50) (hro : F.round = none) (hn : 1 ≤ n) (lb Bs n₀ cap : Nat) (A : Option Addr) (es : List EntD) (hlen : es.length ≤ 1000000) (J Jx : List EntD → World → Prop)
    (W : World) (hn₀ : n₀ ≤ W.heap.size) (hJa : AbidesFrom W.heap.size J)
    (hY : ∀ pre x W, J pre W → pre.length < es.length → YieldAt F (n - 1) Try.prog lb (encE x) W fun e W' =>
      (e = .returned (.bool true) ∧ J (pre ++ [x]) W' ∧ Below n₀ W W') ∨ (e = .returned (.bool false) ∧ Jx (pre ++ [x]) W'))
    (hBs : W.cell? ⟨Bs, 0, none⟩ = some (.slice A es.length cap)) (hc : EntsB n₀ W A es) (h0 : J [] W) :
    CallsIn F n Try.prog 50 #[.func (.yield lb) #[] #[], .pointer (some ⟨Bs, 0, none⟩)] W fun e W' => (∃ v, e = .returned v) ∧
      ((∃ ys, ys = es ∧ J ys W') ∨ (∃ pre, pre <+: es ∧ Jx pre W')) := by
  obtain ⟨m, hm⟩ : ∃ m, m = es.length := ⟨_, rfl⟩
  rw [← hm] at hBs hlen
  have HM := Lib.hid hm
  clear hm
  refine callsIn_of_wp Try.func50 rfl hf ?_ hro
  simp only [Try.ntmps50, List.size_toArray, List.length_cons, List.length_nil, Nat.reduceAdd, Nat.reduceSub, Array.replicate_succ, Array.replicate_zero, List.push_toArray, List.append_toArray, List.nil_append, List.cons_append]
  gi_wp2
  gi_loopw [7] (fun i wr => ∃ k : Nat, k ≤ m ∧ i = .int .i64 k ∧ J (es.take k) wr ∧ Below n₀ W wr ∧ W.heap.size ≤ wr.heap.size) (fun i _ => m - (intOf i).toNat)
  case atStart => exact ⟨0, Nat.zero_le _, rfl, h0, Below.refl _ _, Nat.le_refl _⟩
  case round =>
    obtain ⟨k, hk, rfl, hJs, hnx, hsz⟩ := hrel
    by_cases hlt : k < m
    · have hkl : k < es.length := by have := HM.out; omega
      obtain ⟨b, o, rfl, hb, hcs⟩ : ∃ b o, A = some ⟨b, o, none⟩ ∧ b < n₀ ∧ ∀ k, (h : k < es.length) → wr.cell? ⟨b, o + k * 2, none⟩ = some (.string (bs es[k].1)) ∧ wr.cell? ⟨b, o + k * 2 + 1, none⟩ = some (.int .i64 es[k].2) := by
        rcases hc.below hnx with h | h
        · rw [h] at hkl; simp at hkl
        · exact h
      obtain ⟨ca, cb⟩ := hcs k hkl
      have htk : Hid (es.take (k + 1) = es.take k ++ [es[k]]) := List.take_succ_eq_append_getElem hkl
      have hpl : (es.take k).length < es.length := by rw [List.length_take]; omega
      generalize es[k] = x at ca cb htk
      have hJ2 : J (es.take k) (wr.alloc (.cells #[.string (bs x.1), .int .i64 x.2] 25)) := hJa (es.take k) wr _ none hJs (World.grownBy_alloc wr _ none) (fun r e => by cases e)
      obtain ⟨fn, tmps, assign, body, hy, hR⟩ := hY _ x _ hJ2 hpl
      try dsimp only [encE] at hy
      clear hcs hpl
      gi_wp2
      refine hR.mono ?_
      rintro e W3 (⟨rfl, hJ3, hk3⟩ | ⟨rfl, hJx3⟩)
      · gi_wp2
        go_roundw
        case rel => exact ⟨k + 1, by omega, by simp, by rw [htk.out]; exact hJ3, (hnx.alloc (by omega) _).trans hk3, by have := hk3.size; simp at this; omega⟩
        case measure => simp [intOf]; omega
      · gi_wp2
        refine bodyPost_ret (results_none rfl _ _ _) rfl ?_
        exact ⟨⟨_, rfl⟩, .inr ⟨_, by rw [← htk.out]; exact List.take_prefix _ _, hJx3⟩⟩
    · obtain rfl : k = m := by omega
      have ht : Hid (es.take k = es) := by show _ = _; rw [HM.out, List.take_length]
      gi_wp2
      go_end0
      exact ⟨⟨_, rfl⟩, .inl ⟨_, ht.out, hJs⟩⟩
set_option maxHeartbeats 1000000 in
theorem all_in (F : Fence) (n : Nat) (hf : F.fn 42) (hro : F.round = none) (a : Option Addr) (len cap : Nat) (w : World) :
    CallsIn F n Try.prog 42 #[.slice a len cap] w fun e w' => e = .returned (.func (.func 50) #[] #[.pointer (some ⟨w.heap.size, 0, none⟩)]) ∧ w' = w.alloc (.cells #[.slice a len cap] 22) := by
  refine callsIn_of_wp Try.func42 rfl hf ?_ hro
  simp only [Try.ntmps42, List.size_toArray, List.length_cons, List.length_nil, Nat.reduceAdd, Nat.reduceSub, Array.replicate_succ, Array.replicate_zero, List.push_toArray, List.append_toArray, List.nil_append, List.cons_append]
  gi_wp2
  go_ret
  exact ⟨rfl, rfl⟩
theorem all_stops (F : Fence) (n : Nat) (hf : F.fn 50) (hro : F.round = none) (hn : 1 ≤ n) (Bs n₀ cap : Nat) (A : Option Addr) (es : List EntD) (hlen : es.length ≤ 1000000) (w : World) (hBs : Bs < w.heap.size) (hn₀ : n₀ ≤ w.heap.size)
    (hc : w.cell? ⟨Bs, 0, none⟩ = some (.slice A es.length cap)) (he : EntsB n₀ w A es) :
    SeqStopsK F n Try.prog 50 #[.pointer (some ⟨Bs, 0, none⟩)] encE (Below n₀) (fun ys => ys = es) (fun pre => pre <+: es) es.length w := fun l J Jx W hW hJ _ hY h0 =>
  all1_in F n hf hro hn l Bs n₀ cap A es hlen J Jx W (by have := hW.size; omega) hJ hY ((hW.cell (p := ⟨Bs, 0, none⟩) hBs).trans hc) (he.below (hW.mono hn₀)) h0
end Go.Proofs.Ytneideokodhciaa
