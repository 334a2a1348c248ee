/- Layer 8 (tilde): the walk of the law TildeNext. -/
import Derived.Test.YtegiknfnhgjhfaaTilL
import Derived.SliceStrings
namespace Go.Proofs.Ytegiknfnhgjhfaa
open Go.ChangeShapes Go.WideShapes Go.ChangeAt Go.RowKit

theorem mostI_ge (l : List UInt8) (L : List ByteArray) (k : Nat) (h : k < L.length) : indexI l (L[k]).data.toList ≤ mostI l L := by
  have key : ∀ (L : List ByteArray) (n : Int) (s : ByteArray), (s ∈ L → indexI l s.data.toList ≤ L.foldl (fun n s => max n (indexI l s.data.toList)) n) ∧ n ≤ L.foldl (fun n s => max n (indexI l s.data.toList)) n := by
    intro L
    induction L with
    | nil => intro n s; exact ⟨fun h => (by simp at h), Int.le_refl _⟩
    | cons x L ih =>
      intro n s
      rw [List.foldl_cons]
      have h1 := ih (max n (indexI l x.data.toList)) s
      refine ⟨fun h => ?_, by have := h1.2; omega⟩
      rcases List.mem_cons.1 h with rfl | h
      · have := h1.2; omega
      · exact h1.1 h
  exact (key L 0 L[k]).1 (List.getElem_mem _)
theorem tilV_split (l : List UInt8) (n : Int) (h1 : 1 ≤ n) : (∃ T, tilV l n = .tuple #[.string (bs T), .int .i64 0] ∧ indexI l T = n) ∨ ∃ (c : Int) (S : ByteArray), (c == 0) = false ∧ tilV l n = .tuple #[.string S, .int .i64 c] := by
  by_cases h : tilE l n = 0
  · refine .inl ⟨tilL l n, tilV_ok h, ?_⟩
    have h0 : checkN l = 0 := by
      by_cases h0 : checkN l = 0
      · exact h0
      · unfold tilE at h; rw [if_neg h0] at h; exact h
    have h2 : ¬ 999999999 < n := by
      intro h2
      unfold tilE at h; rw [if_pos h0, if_pos (.inr h2)] at h; revert h; decide
    exact index_name (checkN_ne h0) (by omega) h2
  · exact .inr ⟨tilE l n, ⟨#[]⟩, beq_eq_false_iff_ne.2 h, tilV_bad rfl h⟩
set_option maxRecDepth 100000 in
set_option maxHeartbeats 4000000 in
theorem tildeNext_some (l : List UInt8) (b o c : Nat) (L : List ByteArray) (w : World) (hl : l.length ≤ 300) (hL : L.length ≤ 30) (hb : b < w.heap.size) (hc : ∀ i (h : i < L.length), w.cell? ⟨b, o + i, none⟩ = some (.string L[i])) : Calls Try.prog 9 #[.string (bs l), .slice (some ⟨b, o, none⟩) L.length c] w (Ret w (.bool true)) := by
  have z0 : (bs l).size = l.length := bs_size _
  have hl' : l.length ≤ 1000000 := by omega
  go_enter Try.func9, Try.ntmps9
  go_wp2_with fail
  go_loopw [5, 6] (fun m i wr => ∃ (k : Nat) (x : Int), k ≤ L.length ∧ i = .int .i64 k ∧ m = .int .i64 x ∧ 0 ≤ x ∧ x ≤ 999999999 ∧ Hid (x = mostI l (L.take k)) ∧ Hid (∀ s ∈ L.take k, s.size ≤ 300) ∧ Ext w wr) (fun _ i _ => L.length - (intOf i).toNat)
  case atStart => exact ⟨0, 0, by omega, rfl, rfl, by omega, by omega, rfl, fun s h => (by simp at h), Ext.refl _⟩
  case round =>
    obtain ⟨k, x, hk, rfl, rfl, hx0, hx1, hx, hall, hE⟩ := hrel
    by_cases hlt : k < L.length
    · have hcl := (hE.cell hb).trans (hc k hlt)
      obtain ⟨S, hS⟩ : ∃ S, S = L[k] := ⟨_, rfl⟩
      rw [← hS] at hcl
      by_cases hS3 : S.size ≤ 300
      · have hS3' : ¬ ((300 : Int) < (S.size : Int)) := by omega
        have hSs : S.size ≤ 1000000 := by omega
        obtain ⟨y, hy⟩ : ∃ y, y = indexI l S.data.toList := ⟨_, rfl⟩
        have hyb := indexI_bounds l S.data.toList
        rw [← hy] at hyb
        have hnx : Hid (max x y = mostI l (L.take (k + 1))) := by
          show _ = _
          rw [List.take_succ_eq_append_getElem hlt, mostI_snoc, ← hx.out, hy, hS]
        have hna : Hid (∀ s ∈ L.take (k + 1), s.size ≤ 300) := by
          intro s h
          rw [List.take_succ_eq_append_getElem hlt] at h
          rcases List.mem_append.1 h with h | h
          · exact hall.out s h
          · rw [List.mem_singleton] at h
            rw [h, ← hS]; exact hS3
        have HY := Lib.hid hy
        clear hy hS
        go_wp2_with fail
        refine (rindex_any l S hl' hSs _).mono ?_
        rintro e w1 ⟨rfl, b1⟩
        rw [← HY.out]
        go_wp2_with fail
        go_roundw
        case rel => exact ⟨k + 1, max x y, by omega, by go_num, by go_num, by omega, by omega, hnx, hna, hE.trans b1⟩
        case measure => simp [intOf]; omega
      · have hS3' : (300 : Int) < (S.size : Int) := by omega
        clear hS
        go_wp2_with fail
        refine (awake8 _).mono ?_
        rintro e w7 ⟨rfl, b7⟩
        go_wp2_with fail
        go_ret
        exact Ret.mk rfl (hE.trans b7)
    · obtain rfl : k = L.length := by omega
      have hfin : Hid (x = mostI l L) := by show _ = _; rw [hx.out, List.take_length]
      have HA : Hid (∀ s ∈ L, s.size ≤ 1000000) := by
        intro s h
        have := hall.out s (by rw [List.take_length]; exact h)
        omega
      have HL : Hid (L.length ≤ 1000) := by show _ ≤ _; omega
      have HR : Hid (TextRow w L (.slice (some ⟨b, o, none⟩) L.length c)) := .some b o c hb hc
      have h64 : Hid (I64 (x + 1)) := ⟨by omega, by omega⟩
      rcases tilV_split l (x + 1) (by omega) with ⟨T, hv, hi⟩ | ⟨cc, S, hc0, hv⟩
      · have HV := Lib.hid hv
        have HI := Lib.hid hi
        clear hv hi
        go_wp2_with fail
        refine (pnext_row l L _ hl' HL.out HA.out _ (HR.out.ext hE)).mono ?_
        rintro e w1 ⟨rfl, b1⟩
        rw [← hfin.out, HV.out]
        go_wp2_with fail
        refine (pname_any l _ hl' h64.out _).mono ?_
        rintro e w2 ⟨rfl, b2⟩
        rw [HV.out]
        go_wp2_with fail
        obtain ⟨wo, hwo⟩ : ∃ wo : World, wo = w2 := ⟨_, rfl⟩
        have hE2 : Ext w wo := by rw [hwo]; exact hE.trans (b1.trans b2)
        rw [← hwo]
        clear hwo
        go_loop [11] (fun i => ∃ k : Nat, k ≤ L.length ∧ i = .int .i64 k) (fun i => L.length - (intOf i).toNat)
        case atStart => exact ⟨0, by omega, rfl⟩
        case round =>
          obtain ⟨k, hk, rfl⟩ := hrel
          by_cases hlt : k < L.length
          · have hcl := (hE2.cell hb).trans (hc k hlt)
            obtain ⟨R, hR⟩ : ∃ R, R = L[k] := ⟨_, rfl⟩
            rw [← hR] at hcl
            have hne : ((bs T).toList == R.toList) = false := by
              rw [beq_eq_false_iff_ne, bs_toList, ByteArray.toList_eq]
              intro h
              have := mostI_ge l L k hlt
              rw [← hR, ← h, HI.out, ← hfin.out] at this
              omega
            clear hR
            go_wp2_with fail
            go_round
            case rel => exact ⟨k + 1, by omega, by go_num⟩
            case measure => simp [intOf]; omega
          · obtain rfl : k = L.length := by omega
            go_wp2_with fail
            refine (pmost_row l L _ hl' HL.out HA.out _ (HR.out.ext hE2)).mono ?_
            rintro e w5 ⟨rfl, b5⟩
            rw [← hfin.out]
            go_wp2_with fail
            refine (awake8 _).mono ?_
            rintro e w7 ⟨rfl, b7⟩
            go_wp2_with fail
            go_ret
            exact Ret.mk rfl ((hE2.trans b5).trans b7)
      · have HV := Lib.hid hv
        clear hv
        go_wp2_with fail
        refine (pnext_row l L _ hl' HL.out HA.out _ (HR.out.ext hE)).mono ?_
        rintro e w1 ⟨rfl, b1⟩
        rw [← hfin.out, HV.out]
        go_wp2_with fail
        refine (pname_any l _ hl' h64.out _).mono ?_
        rintro e w2 ⟨rfl, b2⟩
        rw [HV.out]
        go_wp2_with fail
        obtain ⟨wo, hwo⟩ : ∃ wo : World, wo = w2 := ⟨_, rfl⟩
        have hE2 : Ext w wo := by rw [hwo]; exact hE.trans (b1.trans b2)
        rw [← hwo]
        clear hwo
        go_loop [11] (fun i => ∃ k : Nat, k ≤ L.length ∧ i = .int .i64 k) (fun i => L.length - (intOf i).toNat)
        case atStart => exact ⟨0, by omega, rfl⟩
        case round =>
          obtain ⟨k, hk, rfl⟩ := hrel
          by_cases hlt : k < L.length
          · have hcl := (hE2.cell hb).trans (hc k hlt)
            obtain ⟨R, hR⟩ : ∃ R, R = L[k] := ⟨_, rfl⟩
            rw [← hR] at hcl
            clear hR
            go_wp2_with fail
            go_round
            case rel => exact ⟨k + 1, by omega, by go_num⟩
            case measure => simp [intOf]; omega
          · obtain rfl : k = L.length := by omega
            go_wp2_with fail
            refine (pmost_row l L _ hl' HL.out HA.out _ (HR.out.ext hE2)).mono ?_
            rintro e w5 ⟨rfl, b5⟩
            rw [← hfin.out]
            go_wp2_with fail
            refine (awake8 _).mono ?_
            rintro e w7 ⟨rfl, b7⟩
            go_wp2_with fail
            go_ret
            exact Ret.mk rfl ((hE2.trans b5).trans b7)
set_option maxHeartbeats 4000000 in
theorem pmost_zero (l : List UInt8) (p : Option Addr) (c : Nat) (w : World) : Calls Try.prog 38 #[.string (bs l), .slice p 0 c] w (Ret w (.int .i64 0)) := by
  go_enter Try.func38, Try.ntmps38
  go_wp2_with fail
  go_loopw [5, 10] (fun m i wr => i = .int .i64 0 ∧ m = .int .i64 0 ∧ wr = w) (fun _ _ _ => 0)
  case atStart => exact ⟨rfl, rfl, rfl⟩
  case round =>
    obtain ⟨rfl, rfl, rfl⟩ := hrel
    go_wp2_with fail
    go_ret
    exact Ret.mk rfl (Ext.refl _)
set_option maxHeartbeats 4000000 in
theorem pnext_zero (l : List UInt8) (p : Option Addr) (c : Nat) (hl : l.length ≤ 1000000) (w : World) : Calls Try.prog 37 #[.string (bs l), .slice p 0 c] w (Ret w (tilV l 1)) := by
  have h64 : Hid (I64 1) := ⟨by decide, by decide⟩
  have ht : ∃ (s : ByteArray) (e : Int), tilV l 1 = .tuple #[.string s, .int .i64 e] := ⟨_, _, rfl⟩
  obtain ⟨s, e, ht⟩ := ht
  have HT := Lib.hid ht
  clear ht
  go_enter Try.func37, Try.ntmps37
  go_wp2_with fail
  refine (pmost_zero l p c _).mono ?_
  rintro e w1 ⟨rfl, b1⟩
  go_wp2_with fail
  refine (pname_any l _ hl h64.out _).mono ?_
  rintro e w2 ⟨rfl, b2⟩
  rw [HT.out]
  go_wp2_with fail
  go_ret2
  exact Ret.mk (by rw [HT.out]; rfl) (b1.trans b2)
set_option maxRecDepth 100000 in
set_option maxHeartbeats 4000000 in
theorem tildeNext_zero (l : List UInt8) (p : Option Addr) (c : Nat) (w : World) (hl : l.length ≤ 300) : Calls Try.prog 9 #[.string (bs l), .slice p 0 c] w (Ret w (.bool true)) := by
  have z0 : (bs l).size = l.length := bs_size _
  have hl' : l.length ≤ 1000000 := by omega
  have h64 : Hid (I64 1) := ⟨by decide, by decide⟩
  have ht : ∃ (s : ByteArray) (e : Int), tilV l 1 = .tuple #[.string s, .int .i64 e] := ⟨_, _, rfl⟩
  obtain ⟨s, e, ht⟩ := ht
  have HT := Lib.hid ht
  clear ht
  go_enter Try.func9, Try.ntmps9
  go_wp2_with fail
  go_loopw [5, 6] (fun m i wr => i = .int .i64 0 ∧ m = .int .i64 0 ∧ wr = w) (fun _ _ _ => 0)
  case atStart => exact ⟨rfl, rfl, rfl⟩
  case round =>
    obtain ⟨rfl, rfl, rfl⟩ := hrel
    go_wp2_with fail
    refine (pnext_zero l p c hl' _).mono ?_
    rintro e w1 ⟨rfl, b1⟩
    rw [HT.out]
    go_wp2_with fail
    refine (pname_any l _ hl' h64.out _).mono ?_
    rintro e w2 ⟨rfl, b2⟩
    rw [HT.out]
    go_wp2_with fail
    obtain ⟨wo, hwo⟩ : ∃ wo : World, wo = w2 := ⟨_, rfl⟩
    have hE2 := b1.trans b2
    rw [← hwo] at hE2 ⊢
    clear hwo
    go_loop [11] (fun i => i = .int .i64 0) (fun _ => 0)
    case atStart => exact rfl
    case round =>
      obtain rfl := hrel
      go_wp2_with fail
      refine (pmost_zero l p c _).mono ?_
      rintro e w5 ⟨rfl, b5⟩
      go_wp2_with fail
      refine (awake8 _).mono ?_
      rintro e w7 ⟨rfl, b7⟩
      go_wp2_with fail
      go_ret
      exact Ret.mk rfl ((hE2.trans b5).trans b7)
set_option maxHeartbeats 4000000 in
theorem tildeNext_long (l : List UInt8) (p : Option Addr) (n c : Nat) (w : World) (h : ¬ (l.length ≤ 300 ∧ n ≤ 30)) : Calls Try.prog 9 #[.string (bs l), .slice p n c] w (Ret w (.bool true)) := by
  have z0 : (bs l).size = l.length := bs_size _
  have g : (300 : Int) < (l.length : Int) ∨ (¬ (300 : Int) < (l.length : Int) ∧ (30 : Int) < (n : Int)) := by omega
  clear h
  rcases g with g | ⟨g, g2⟩
  all_goals
    go_enter Try.func9, Try.ntmps9
    go_wp2_with fail
    refine (awake8 _).mono ?_
    rintro e w7 ⟨rfl, b7⟩
    go_wp2_with fail
    go_ret
    exact Ret.mk rfl b7
theorem cell_lt {w : World} {b o : Nat} {v : Value} (h : w.cell? ⟨b, o, none⟩ = some v) : b < w.heap.size := by
  by_cases hb : b < w.heap.size
  · exact hb
  · exfalso
    simp [World.cell?, Array.getElem?_eq_none (Nat.le_of_not_lt hb)] at h
theorem tildeNext_walk {H : Type} {enc : TypeId × Value → H} (W : World) (base : Nat) (v0 v1 : Value) (d0 d1 : DataW H) (p0 p1 : List MemPlace)
    (k0 : Value.okWide Try.prog W .any base 9 v0) (h0 : DataW.Trod enc Try.prog W 0 (fun _ => true) true 9 v0 d0 p0)
    (k1 : Value.okWide Try.prog W .any base 53 v1) (h1 : DataW.Trod enc Try.prog W 0 (fun _ => true) true 53 v1 d1 p1)
    : Calls Try.prog 9 #[v0, v1] W (Ret W (.bool true)) := by
  obtain ⟨a0, rfl, rfl, rfl, w0⟩ := Go.ChangeMaps.open_string Try.underlying9 k0 h0
  obtain ⟨a, n, c, rfl⟩ := okWide_slice Try.underlying53 k1
  obtain ⟨fuel, hf⟩ := h1
  obtain ⟨l, rfl⟩ : ∃ l, a0 = bs l := ⟨_, (bs_self a0).symm⟩
  by_cases hlong : l.length ≤ 300 ∧ n ≤ 30
  · obtain ⟨hl, hn⟩ := hlong
    rcases open_strings Try.underlying53 Try.underlying9 (by kernel_rfl) hf with ⟨hcs, hx⟩ | ⟨ad, len', cap', ss, hcs, _, hle, hm, hz, hx, hcell, _⟩
    · simp [Value.cells] at hcs
      obtain ⟨rfl, rfl, rfl⟩ := hcs
      exact tildeNext_zero l none 0 W hl
    · simp [Value.cells] at hcs
      obtain ⟨rfl, rfl, rfl⟩ := hcs
      simp only [if_true] at hz
      by_cases hn0 : n = 0
      · subst hn0
        exact tildeNext_zero l (some ad) c W hl
      · obtain ⟨b, off, spot⟩ := ad
        have hspot : spot = none := by simpa [Addr.add] using World.cell?_spot (hcell 0 (by omega))
        subst hspot
        have hb : b < W.heap.size := cell_lt (o := off + 0) (by rw [← add_plain]; exact hcell 0 (by omega))
        have hlen : (ss.take n).length = n := by rw [List.length_take]; omega
        have := tildeNext_some l b off c (ss.take n) W hl (by omega) hb (fun i hi => by
          rw [← add_plain, hcell i (by omega), List.getElem_take]
          congr 2
          rw [List.getD_eq_getElem?_getD, List.getElem?_eq_getElem (by omega)]; rfl)
        rw [hlen] at this
        exact this
  · exact tildeNext_long l a n c W hlong
end Go.Proofs.Ytegiknfnhgjhfaa
