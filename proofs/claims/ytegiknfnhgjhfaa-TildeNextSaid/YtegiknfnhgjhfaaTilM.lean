/- Layer 8 (tilde): Most and Next. -/
import Derived.Test.YtegiknfnhgjhfaaTilI
namespace Go.Proofs.Ytegiknfnhgjhfaa
open Go.ChangeShapes Go.WideShapes Go.ChangeAt Go.RowKit

noncomputable def mostI (l : List UInt8) (L : List ByteArray) : Int := L.foldl (fun n s => max n (indexI l s.data.toList)) 0
theorem idxV_bounds (l : List UInt8) : 0 ≤ idxV l ∧ idxV l ≤ 999999999 := by
  unfold idxV
  split
  · rename_i h
    have := h.choose_spec
    omega
  · omega
theorem indexI_bounds (l s : List UInt8) : 0 ≤ indexI l s ∧ indexI l s ≤ 999999999 := by
  unfold indexI
  split
  · exact idxV_bounds _
  · omega
theorem mostI_snoc (l : List UInt8) (L : List ByteArray) (s : ByteArray) : mostI l (L ++ [s]) = max (mostI l L) (indexI l s.data.toList) := by
  unfold mostI; rw [List.foldl_append]; rfl
set_option maxRecDepth 100000 in
set_option maxHeartbeats 4000000 in
theorem pmost_any (l : List UInt8) (b o c : Nat) (L : List ByteArray) (hl : l.length ≤ 1000000) (hL : L.length ≤ 1000) (hs : ∀ s ∈ L, s.size ≤ 1000000) (w : World) (hb : b < w.heap.size) (hc : ∀ i (h : i < L.length), w.cell? ⟨b, o + i, none⟩ = some (.string L[i])) : Calls Try.prog 38 #[.string (bs l), .slice (some ⟨b, o, none⟩) L.length c] w (Ret w (.int .i64 (mostI l L))) := by
  go_enter Try.func38, Try.ntmps38
  go_wp2_with fail
  go_loopw [5, 10] (fun m i wr => ∃ (k : Nat) (x : Int), k ≤ L.length ∧ i = .int .i64 k ∧ m = .int .i64 x ∧ 0 ≤ x ∧ x ≤ 999999999 ∧ Hid (x = mostI l (L.take k)) ∧ Ext w wr) (fun _ i _ => L.length - (intOf i).toNat)
  case atStart => exact ⟨0, 0, by omega, rfl, rfl, by omega, by omega, rfl, Ext.refl _⟩
  case round =>
    obtain ⟨k, x, hk, rfl, rfl, hx0, hx1, hx, hE⟩ := hrel
    by_cases hlt : k < L.length
    · have hcl := (hE.cell hb).trans (hc k hlt)
      obtain ⟨S, hS⟩ : ∃ S, S = L[k] := ⟨_, rfl⟩
      have hSs : S.size ≤ 1000000 := by rw [hS]; exact hs _ (List.getElem_mem _)
      rw [← hS] at hcl
      obtain ⟨y, hy⟩ : ∃ y, y = indexI l S.data.toList := ⟨_, rfl⟩
      have hyb := indexI_bounds l S.data.toList
      rw [← hy] at hyb
      have hnx : Hid (max x y = mostI l (L.take (k + 1))) := by
        show _ = _
        rw [List.take_succ_eq_append_getElem hlt, mostI_snoc, ← hx.out, hy, hS]
      have HY := Lib.hid hy
      clear hy hS
      go_wp2_with fail
      refine (pindex_any l S hl hSs _).mono ?_
      rintro e w1 ⟨rfl, b1⟩
      rw [← HY.out]
      go_wp2_with fail
      go_roundw
      case rel => exact ⟨k + 1, max x y, by omega, by go_num, by go_num, by omega, by omega, hnx, hE.trans b1⟩
      case measure => simp [intOf]; omega
    · obtain rfl : k = L.length := by omega
      have hfin : Hid (x = mostI l L) := by show _ = _; rw [hx.out, List.take_length]
      go_wp2_with fail
      go_ret
      exact Ret.mk (ret_int (by rw [hfin.out])) hE
theorem mostI_bounds (l : List UInt8) : ∀ L : List ByteArray, 0 ≤ mostI l L ∧ mostI l L ≤ 999999999 := by
  have h : ∀ (L : List ByteArray) (n : Int), 0 ≤ n → n ≤ 999999999 → 0 ≤ L.foldl (fun n s => max n (indexI l s.data.toList)) n ∧ L.foldl (fun n s => max n (indexI l s.data.toList)) n ≤ 999999999 := by
    intro L
    induction L with
    | nil => intro n h0 h1; exact ⟨h0, h1⟩
    | cons s L ih =>
      intro n h0 h1
      have hb := indexI_bounds l s.data.toList
      exact ih (max n (indexI l s.data.toList)) (by omega) (by omega)
  exact fun L => h L 0 (by omega) (by omega)
set_option maxHeartbeats 4000000 in
theorem pmost_nil (l : List UInt8) (w : World) : Calls Try.prog 38 #[.string (bs l), .slice none 0 0] w (Ret w (.int .i64 0)) := by
  go_enter Try.func38, Try.ntmps38
  go_wp2_with fail
  go_loopw [5, 10] (fun m i wr => i = .int .i64 0 ∧ m = .int .i64 0 ∧ wr = w) (fun _ _ _ => 0)
  case atStart => exact ⟨rfl, rfl, rfl⟩
  case round =>
    obtain ⟨rfl, rfl, rfl⟩ := hrel
    go_wp2_with fail
    go_ret
    exact Ret.mk rfl (Ext.refl _)
/-- A row of texts. -/
inductive TextRow (w : World) (L : List ByteArray) : Value → Prop
  | none (h : L = []) : TextRow w L (.slice none 0 0)
  | some (b o c : Nat) (hb : b < w.heap.size) (hc : ∀ i (h : i < L.length), w.cell? ⟨b, o + i, none⟩ = some (.string L[i])) : TextRow w L (.slice (some ⟨b, o, none⟩) L.length c)
theorem TextRow.ext {w w' : World} {L : List ByteArray} {v : Value} (h : TextRow w L v) (hE : Ext w w') : TextRow w' L v := by
  cases h with
  | none h => exact .none h
  | some b o c hb hc => exact .some b o c (Nat.lt_of_lt_of_le hb hE.size) (fun i h => (hE.cell hb).trans (hc i h))
theorem pmost_row (l : List UInt8) (L : List ByteArray) (v : Value) (hl : l.length ≤ 1000000) (hL : L.length ≤ 1000) (hs : ∀ s ∈ L, s.size ≤ 1000000) (w : World) (hv : TextRow w L v) : Calls Try.prog 38 #[.string (bs l), v] w (Ret w (.int .i64 (mostI l L))) := by
  cases hv with
  | none h => subst h; exact pmost_nil l w
  | some b o c hb hc => exact pmost_any l b o c L hl hL hs w hb hc
set_option maxHeartbeats 4000000 in
theorem pnext_row (l : List UInt8) (L : List ByteArray) (v : Value) (hl : l.length ≤ 1000000) (hL : L.length ≤ 1000) (hs : ∀ s ∈ L, s.size ≤ 1000000) (w : World) (hv : TextRow w L v) : Calls Try.prog 37 #[.string (bs l), v] w (Ret w (tilV l (mostI l L + 1))) := by
  have hb := mostI_bounds l L
  obtain ⟨x, hx⟩ : ∃ x, x = mostI l L := ⟨_, rfl⟩
  have H := Lib.hid hv
  have HX := Lib.hid hx
  rw [← hx] at hb
  have h64 : Hid (I64 (x + 1)) := ⟨by omega, by omega⟩
  have ht : ∃ (s : ByteArray) (e : Int), tilV l (x + 1) = .tuple #[.string s, .int .i64 e] := ⟨_, _, rfl⟩
  obtain ⟨s, e, ht⟩ := ht
  have HT := Lib.hid ht
  clear hv hx ht
  go_enter Try.func37, Try.ntmps37
  go_wp2_with fail
  refine (pmost_row l L v hl hL hs _ H.out).mono ?_
  rintro e w1 ⟨rfl, b1⟩
  rw [← HX.out]
  go_wp2_with fail
  refine (pname_any l _ hl h64.out _).mono ?_
  rintro e w2 ⟨rfl, b2⟩
  rw [HT.out]
  go_wp2_with fail
  go_ret2
  exact Ret.mk (by rw [← HX.out, HT.out]; rfl) (b1.trans b2)
end Go.Proofs.Ytegiknfnhgjhfaa
