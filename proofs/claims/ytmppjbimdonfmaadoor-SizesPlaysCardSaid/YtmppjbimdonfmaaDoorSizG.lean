/- Layer 7 (sizes): Grow of nil, Concat. -/
import Derived.Test.YtmppjbimdonfmaaDoorSizC
namespace Go.Proofs.YtmppjbimdonfmaaDoor
open Go.ChangeShapes Go.WideShapes Go.ChangeAt Go.RowKit

theorem zeroCells_size (z : Array Value) (n : Nat) : (Builtin.zeroCells z n).size = n * z.size := by
  unfold Builtin.zeroCells
  simp
theorem own_new (w : World) (G n : Nat) (hge : n ≤ G) (hle : G ≤ maxLen) : OwnE ((w.alloc (.cells (Builtin.zeroCells #[.int .i64 0, .int .i64 0, .string ⟨#[]⟩] n ++ Builtin.zeroCells #[.int .i64 0, .int .i64 0, .string ⟨#[]⟩] (G - n)) 48)).drew) w.heap.size (.slice (some ⟨w.heap.size, 0, none⟩) 0 G) [] := by
  refine ⟨rfl, .inr ⟨w.heap.size, G, Builtin.zeroCells #[.int .i64 0, .int .i64 0, .string ⟨#[]⟩] n ++ Builtin.zeroCells #[.int .i64 0, .int .i64 0, .string ⟨#[]⟩] (G - n), rfl, Nat.le_refl _, Has.new w _, Nat.zero_le _, hle, ?_, rfl⟩⟩
  rw [Array.size_append, zeroCells_size, zeroCells_size]
  show n * 3 + (G - n) * 3 = G * 3
  omega
set_option maxRecDepth 100000 in
set_option maxHeartbeats 1000000 in
theorem grow_nil (n : Nat) (w : World) (hn : n ≤ 1000000) : Calls Tryd.prog 142 #[.slice none 0 0, .int .i64 n] w fun e w' => ∃ v, e = .returned v ∧ OwnE w' w.heap.size v [] ∧ Ext w w' := by
  by_cases h0 : n = 0
  · subst h0
    go_enter Tryd.func142, Tryd.ntmps142
    go_wp2_with fail
    go_ret
    exact ⟨_, rfl, ⟨rfl, .inl ⟨rfl, rfl⟩⟩, Ext.refl _⟩
  · obtain ⟨i0, hi, hz0, hz1, hz2⟩ := info_parts infoEnt
    have hrun := fun ty => Lib.run_append_nil_zeros (P := Tryd.prog) w 40 3 ty 48 i0 _ .i64 .i64 Tryd.underlying40 Tryd.underlying3 hi hz0 n (by omega) (by rw [hz1]; decide) (by omega) (by rw [hz2]; omega)
    have hge := grownCap_ge w n 0 48
    have hle := grownCap_le_maxLen w n 0 48 (by unfold maxLen; omega)
    generalize grownCap w n 0 48 = G at hrun hge hle
    have hG : (G : Int) ≤ 9223372036854775807 := by unfold maxLen at hle; omega
    have hpos : 0 < (n : Int) := by omega
    have HR := Lib.hid hrun
    clear hrun h0
    go_enter Tryd.func142, Tryd.ntmps142
    go_wp2_with (at_builtin; refine Lib.wpList_append_run _ rfl _ _ 40 3 rfl _ _ rfl rfl _ _ (HR.out _) ?_)
    go_ret
    refine ⟨.slice (some ⟨w.heap.size, 0, none⟩) 0 G, rfl, ?_, ((Ext.refl _).alloc _).drew⟩
    exact own_new w G n hge hle
/-- Lists of entries, handed over as slices in a slice. -/
abbrev Part := Option Addr × Nat × List EntD
def Parts (w : World) (b : Nat) (ps : List Part) : Prop :=
  b < w.heap.size ∧ ∀ i, (h : i < ps.length) → w.cell? ⟨b, i, none⟩ = some (.slice ps[i].1 ps[i].2.2.length ps[i].2.1) ∧ EntsAt w ps[i].1 ps[i].2.2 ∧ (ps[i].1 = none → ps[i].2.1 = 0)
theorem Parts.ext {w w' : World} {b : Nat} {ps : List Part} (h : Parts w b ps) (k : Ext w w') : Parts w' b ps :=
  ⟨by have := k.size; have := h.1; omega, fun i hi => ⟨by rw [k.cell h.1]; exact (h.2 i hi).1, (h.2 i hi).2.1.ext k, (h.2 i hi).2.2⟩⟩
def flatP (ps : List Part) : List EntD := ps.flatMap (·.2.2)
theorem flatP_snoc (ps : List Part) (i : Nat) (h : i < ps.length) : flatP (ps.take (i + 1)) = flatP (ps.take i) ++ ps[i].2.2 := by
  unfold flatP
  rw [List.take_succ_eq_append_getElem h, List.flatMap_append]; simp
theorem flatP_take_le (ps : List Part) (i : Nat) : (flatP (ps.take i)).length ≤ (flatP ps).length := by
  have : flatP ps = flatP (ps.take i) ++ flatP (ps.drop i) := by unfold flatP; rw [← List.flatMap_append, List.take_append_drop]
  rw [this, List.length_append]; omega
set_option maxRecDepth 100000 in
set_option maxHeartbeats 2000000 in
theorem concat_any (b cap : Nat) (ps : List Part) (w : World) (hp : Parts w b ps) (hlen : (flatP ps).length ≤ 1000000) (hk : ps.length ≤ 1000000) : Calls Tryd.prog 124 #[.slice (some ⟨b, 0, none⟩) ps.length cap] w fun e w' => ∃ v, e = .returned v ∧ OwnE w' w.heap.size v (flatP ps) ∧ Ext w w' := by
  obtain ⟨q, hq⟩ : ∃ q, q = ps.length := ⟨_, rfl⟩
  rw [← hq] at hk ⊢
  have HQ := Lib.hid hq
  clear hq
  go_enter Tryd.func124, Tryd.ntmps124
  go_wp2_with fail
  go_loop [3, 11] (fun s i => ∃ k n : Nat, k ≤ q ∧ i = .int .i64 k ∧ s = .int .i64 n ∧ n ≤ 1000000 ∧ Hid (n = (flatP (ps.take k)).length)) (fun _ i => q - (intOf i).toNat)
  case atStart => exact ⟨0, 0, Nat.zero_le _, rfl, rfl, by omega, rfl⟩
  case round =>
    obtain ⟨k, n, hkq, rfl, rfl, hn, Hn⟩ := hrel
    by_cases hlt : (k : Int) < q
    · have hkl : k < ps.length := by have := HQ.out; omega
      obtain ⟨hc, he, -⟩ := hp.2 k hkl
      have hs := flatP_snoc ps k hkl
      have hle := flatP_take_le ps (k + 1)
      rw [hs, List.length_append] at hle
      generalize hx : ps[k] = x at hc he hs hle
      obtain ⟨A, c, l⟩ := x
      obtain ⟨m, hm⟩ : ∃ m, m = l.length := ⟨_, rfl⟩
      have hn' : n + m ≤ 1000000 := by have := Hn.out; simp at hle; omega
      have Hn2 : Hid (n + m = (flatP (ps.take (k + 1))).length) := by show _ = _; rw [hs, List.length_append]; have := Hn.out; simp; omega
      simp only [] at hc
      rw [← hm] at hc
      clear hs hle hx he hm
      go_wp2_with fail
      go_round
      case rel => exact ⟨k + 1, n + m, by omega, by go_num, by go_num, hn', Hn2⟩
      case measure => simp [intOf]; omega
    · have hkq' : k = q := by omega
      subst hkq'
      clear hlt
      go_wp2_with fail
      refine (grow_nil n _ hn).mono ?_
      rintro e w1 ⟨v, rfl, ho, b1⟩
      have B1 := Lib.hid b1
      have HQ' := trivial
      go_wp2_with fail
      obtain ⟨i0, hi, hz0, hz1, hz2⟩ := info_parts infoEnt
      clear b1 HQ' hkq
      go_loopw [6, 27] (fun u i wr => ∃ j : Nat, j ≤ k ∧ i = .int .i64 j ∧ OwnE wr w.heap.size u (flatP (ps.take j)) ∧ Ext w wr) (fun _ i _ => k - (intOf i).toNat)
      case atStart => exact ⟨0, Nat.zero_le _, rfl, ho, B1.out⟩
      case round =>
        obtain ⟨j, hjk, rfl, hown, hE⟩ := hrel
        by_cases hlt : (j : Int) < k
        · have hjl : j < ps.length := by have := HQ.out; omega
          obtain ⟨hc, he, hnone⟩ := (hp.ext hE).2 j hjl
          have hs := flatP_snoc ps j hjl
          have hle := flatP_take_le ps (j + 1)
          rw [hs, List.length_append] at hle
          generalize hx : ps[j] = x at hc he hs hle hnone
          obtain ⟨A, c, l⟩ := x
          simp only [] at hc he hs hle hnone
          cases A with
          | none =>
            have hl0 : l = [] := by
              rcases he with h | ⟨b', o', h, _⟩
              · exact h
              · cases h
            subst hl0
            obtain rfl : c = 0 := hnone rfl
            have hown2 : Hid (OwnE wr w.heap.size u6 (flatP (ps.take (j + 1)))) := by show OwnE _ _ _ _; rw [hs, List.append_nil]; exact hown
            clear hs hle he hnone hx
            go_wp2_with (at_builtin; refine wpList_append_own_none rfl _ _ 40 rfl _ 48 i0 3 Tryd.underlying40 hi _ _ _ rfl hown rfl ?_)
            go_roundw
            case rel => exact ⟨j + 1, by omega, by go_num, hown2.out, hE⟩
            case measure => simp [intOf]; omega
          | some ad =>
            have hnews : ∀ j u, (entCells l)[j]? = some u → wr.cell? (ad.add j) = some u := by
              intro j' u' hu
              rcases he with h | ⟨b', o', h, hb, h2⟩
              · subst h; simp [entCells] at hu
              · injection h with h
                subst h
                rw [Addr.add_lit]
                exact EntsAt.cells (.inr ⟨b', o', rfl, hb, h2⟩) j' u' hu
            have hl1 : (flatP (ps.take j)).length + l.length ≤ 1000000 := by omega
            have HNEWS := Lib.hid hnews
            have HS := Lib.hid hs
            obtain ⟨P, hP⟩ : ∃ P, P = flatP (ps.take j) := ⟨_, rfl⟩
            rw [← hP] at hl1 hown HS
            obtain ⟨m, hm⟩ : ∃ m, m = l.length := ⟨_, rfl⟩
            rw [← hm] at hc hl1
            have HM := Lib.hid hm
            unfold OwnE at hown
            clear hnews hs hle he hnone hx hP hm
            go_wp2_with (at_builtin; refine wpList_append_own _ rfl _ _ 40 rfl w.heap.size 48 i0 (.agg #[.int .i64 0, .int .i64 0, .string ⟨#[]⟩]) 3 32 Tryd.underlying40 hi hz0 hz1 hz2 rfl (by decide) _ _ _ rfl hown ad m c (entCells l) rfl (by rw [entCells_len, HM.out]) HNEWS.out (entCells_one l) (by unfold maxLen; omega) (by omega) hE.size ?_)
            intro v' w2 hown2 hgrow _
            have ho2 : Hid (OwnE w2 w.heap.size v' (flatP (ps.take (j + 1)))) := by
              show OwnE _ _ _ _
              unfold OwnE
              rw [HS.out, entCells_append, List.length_append, ← HM.out]
              exact hown2
            have hE2 : Ext w w2 := hE.grown hgrow (fun g hg => (hown.lt g hg).1)
            clear hown2 hgrow
            go_wp2_with fail
            go_roundw
            case rel => exact ⟨j + 1, by omega, by go_num, ho2.out, hE2⟩
            case measure => simp [intOf]; omega
        · have hjk2 : j = k := by omega
          subst hjk2
          have ht : Hid (flatP (ps.take j) = flatP ps) := by show _ = _; rw [HQ.out, List.take_length]
          clear hlt
          go_wp2_with fail
          go_ret
          exact ⟨_, rfl, by rw [← ht.out]; exact hown, hE⟩
end Go.Proofs.YtmppjbimdonfmaaDoor
