/- Layer 11 (ents): EntsKeep, the walk. -/
import Derived.Test.YtneideokodhciaaEntV
namespace Go.Proofs.Ytneideokodhciaa
open Go.ChangeShapes Go.WideShapes Go.ChangeAt Go.RowKit

theorem OwnE.at2 {w : World} {base : Nat} {v : Value} {l : List EntD} (h : OwnE w base v l) : ∃ A cap, v = .slice A l.length cap ∧ l.length ≤ cap ∧ cap ≤ maxLen ∧ EntsAt w A l ∧ (A = none → cap = 0) := by
  obtain ⟨A, cap, rfl, h1, h2, h3⟩ := OwnE.at_ h
  refine ⟨A, cap, rfl, h1, h2, h3, ?_⟩
  rintro rfl
  unfold OwnE at h
  rcases h.2 with ⟨h, h0⟩ | ⟨g, cap', cur, h, _⟩
  · injection h
  · injection h with h; cases h
/-- What the law keeps of the entries. -/
def keepF (l : List EntD) : List EntD → List EntD := l.foldl fun a x => if 0 < x.2 then putF a x else a
theorem keepF_snoc {l : List EntD} {k : Nat} (hk : k < l.length) : keepF (l.take (k + 1)) [] = if 0 < l[k].2 then putF (keepF (l.take k) []) l[k] else keepF (l.take k) [] := by
  unfold keepF
  rw [List.take_succ_eq_append_getElem hk, List.foldl_append]
  rfl
theorem keepF_rise (l : List EntD) : ∀ a, Rise a → Rise (keepF l a) := by
  unfold keepF
  induction l with
  | nil => exact fun a h => h
  | cons x l ih =>
    intro a h
    rw [List.foldl_cons]
    refine ih _ ?_
    split
    · exact rise_putF x h
    · exact h
theorem keepF_len (l : List EntD) : ∀ a, (keepF l a).length ≤ a.length + l.length := by
  unfold keepF
  induction l with
  | nil => intro a; simp
  | cons x l ih =>
    intro a
    rw [List.foldl_cons]
    refine Nat.le_trans (ih _) ?_
    have := putF_len a x
    simp only [List.length_cons]
    split <;> omega
set_option maxRecDepth 100000 in
theorem append_run (Aa : Option Addr) (P : List EntD) (ca : Nat) (w : World) (he : EntsAt w Aa P) (hn : Aa = none → ca = 0) (hl : P.length ≤ 1000) :
    ∃ v' w2, (Builtin.append_ #[22, 22] 22 #[.slice (some ⟨w.heap.size, 0, none⟩) 0 0, .slice Aa P.length ca]).run Try.prog (w.alloc (.cells #[] 25)) = .ok v' w2 ∧ OwnE w2 w.heap.size v' P ∧ Ext w w2 := by
  obtain ⟨i0, hi, hz0, hz1, hz2⟩ := info_parts infoEnt
  have hown : (w.alloc (.cells #[] 25)).ownsRow w.heap.size 25 2 (.slice (some ⟨w.heap.size, 0, none⟩) 0 0) 0 [] := ⟨rfl, .inr ⟨w.heap.size, 0, #[], rfl, Nat.le_refl _, Has.new w _, Nat.le_refl _, by decide, rfl, rfl⟩⟩
  cases Aa with
  | none =>
    have hl0 : P = [] := by
      rcases he with h | ⟨b', o', h, _⟩
      · exact h
      · cases h
    subst hl0
    obtain rfl : ca = 0 := hn rfl
    refine ⟨.slice (some ⟨w.heap.size, 0, none⟩) 0 0, w.alloc (.cells #[] 25), ?_, hown, (Ext.refl _).alloc _⟩
    simp [Builtin.append_, run_underlying Try.underlying22, sizeOf, typeInfo, hi, Builtin.lenOf, Builtin.firstCells, storeCells]
  | some ad =>
    have hne2 : ∀ j u, (entCells P)[j]? = some u → (w.alloc (.cells #[] 25)).cell? (ad.add j) = some u := by
      intro j u hu
      rcases he.ext ((Ext.refl w).alloc (.cells #[] 25)) with h | ⟨b', o', h, hb, h2⟩
      · subst h; simp [entCells] at hu
      · injection h with h
        subst h
        rw [Addr.add_lit]
        exact EntsAt.cells (.inr ⟨b', o', rfl, hb, h2⟩) j u hu
    obtain ⟨v', w2, hr, h2, h3, _⟩ := run_append_own (P := Try.prog) (w.alloc (.cells #[] 25)) w.heap.size 22 22 25 i0 (.agg #[.string ⟨#[]⟩, .int .i64 0]) 2 24 Try.underlying22 hi hz0 hz1 hz2 rfl (by decide) _ 0 [] hown ad P.length ca (entCells P) (by rw [entCells_len]) hne2 (entCells_one P) (by unfold maxLen; omega) (by omega) (by simp)
    refine ⟨v', w2, hr, ?_, ((Ext.refl _).alloc _).grown h3 (fun g hg => (hown.lt g hg).1)⟩
    rw [Nat.zero_add, List.nil_append] at h2
    exact h2
theorem drop_ext (A : Option Addr) (l : List EntD) (cap : Nat) (nm : List UInt8) (w : World) (h : EntsAt w A l) (hr : Rise l) (hcap : l.length ≤ cap) (hcap2 : cap ≤ maxLen) (hlen : l.length ≤ 1000000) : Calls Try.prog 13 #[.slice A l.length cap, .string (bs nm)] w (fun e w' => ∃ v, e = .returned v ∧ Ext w w') := by
  by_cases hh : has l nm = true
  · exact (drop_yes A l cap nm w h hr hcap hcap2 hlen hh).mono fun e w' ⟨v, he, _, hE⟩ => ⟨_, he, hE⟩
  · exact (drop_no A l cap nm w h hr hlen (by simpa using hh)).mono fun e w' ⟨he, hE⟩ => ⟨_, he, hE⟩
set_option maxRecDepth 100000 in
set_option maxHeartbeats 1000000 in
theorem entsKeep_core (A : Option Addr) (l : List EntD) (cap : Nat) (x : EntD) (w : World) (h : EntsAt w A l) (hlen : l.length ≤ 9223372036854775807) : Calls Try.prog 4 #[.slice A l.length cap, .agg #[.string (bs x.1), .int .i64 x.2]] w (Ret w (.bool true)) := by
  obtain ⟨n, hn⟩ : ∃ n, n = l.length := ⟨_, rfl⟩
  rw [← hn] at hlen ⊢
  have HN := Lib.hid hn
  clear hn
  obtain ⟨W0, hW0⟩ : ∃ W0, W0 = w.alloc (.cells #[.string (bs x.1), .int .i64 x.2] 25) := ⟨_, rfl⟩
  have hb0 : Has W0 w.heap.size (.cells #[.string (bs x.1), .int .i64 x.2] 25) := by rw [hW0]; exact Has.new _ _
  have E0 : Ext w W0 := by rw [hW0]; exact (Ext.refl _).alloc _
  have HW := Lib.hid hW0
  clear hW0
  by_cases hbig : 40 < (n : Int)
  · go_enter Try.func4, Try.ntmps4
    go_wp2_with fail
    rw [← HW.out]
    refine (awake11 _).mono ?_
    rintro e w1 ⟨rfl, b1⟩
    go_wp2_with fail
    go_ret
    exact Ret.mk rfl (E0.trans b1)
  · go_enter Try.func4, Try.ntmps4
    go_wp2_with fail
    rw [← HW.out]
    clear HW
    go_loopw [5, 6] (fun u i wr => ∃ k : Nat, k ≤ n ∧ i = .int .i64 k ∧ (∃ Aa ca, u = .slice Aa (keepF (l.take k) []).length ca ∧ (keepF (l.take k) []).length ≤ ca ∧ ca ≤ maxLen ∧ EntsAt wr Aa (keepF (l.take k) []) ∧ (Aa = none → ca = 0)) ∧ Ext W0 wr) (fun _ i _ => n - (intOf i).toNat)
    case atStart => exact ⟨0, Nat.zero_le _, rfl, ⟨none, 0, rfl, Nat.le_refl _, by decide, .inl rfl, fun _ => rfl⟩, Ext.refl _⟩
    case round =>
      obtain ⟨k, hk, rfl, ⟨Aa, ca, rfl, q1, q2, q3, q4⟩, hE⟩ := hrel
      have hkeep := keepF_len (l.take k) []
      have hkl2 : (l.take k).length ≤ k := List.length_take_le _ _
      have hrise : Rise (keepF (l.take k) []) := keepF_rise _ _ List.Pairwise.nil
      by_cases hlt : (k : Int) < n
      · have hkl : k < l.length := by have := HN.out; omega
        have hs := keepF_snoc hkl
        obtain ⟨b, o, rfl, hbw, c1, c2⟩ := h.at_ (E0.trans hE) k hkl
        generalize l[k] = z at c1 c2 hs
        generalize keepF (l.take k) [] = P at q1 q3 hs hkeep hrise ⊢
        have hPl : P.length ≤ 1000000 := by simp at hkeep; omega
        have g2 : (0 : Int) ≤ (k : Int) := by omega
        clear hkeep hkl2 hrise
        by_cases hz : 0 < z.2
        · rw [if_pos hz] at hs
          have HS := Lib.hid hs
          clear hs
          go_wp2_with fail
          refine (lput_any Aa P ca z _ q3 hPl).mono ?_
          rintro e w1 ⟨v, rfl, ho, hE1⟩
          obtain ⟨A1, k1, rfl, r1, r2, r3, r4⟩ := ho.at2
          go_wp2_with fail
          go_roundw
          case rel => exact ⟨k + 1, by omega, by go_num, by rw [HS.out]; exact ⟨A1, k1, rfl, r1, r2, r3, r4⟩, hE.trans hE1⟩
          case measure => simp [intOf]; omega
        · rw [if_neg hz] at hs
          have HS := Lib.hid hs
          clear hs
          go_wp2_with fail
          go_roundw
          case rel => exact ⟨k + 1, by omega, by go_num, by rw [HS.out]; exact ⟨Aa, ca, rfl, q1, q2, q3, q4⟩, hE⟩
          case measure => simp [intOf]; omega
      · obtain rfl : k = n := by omega
        have hB0 := hb0.ext hE
        have cx : wr.cell? ⟨w.heap.size, 0, none⟩ = some (.string (bs x.1)) := hB0.cell 0
        have cx2 : wr.cell? ⟨w.heap.size, 1, none⟩ = some (.int .i64 x.2) := hB0.cell 1
        have hE' := E0.trans hE
        generalize keepF (l.take k) [] = P at q1 q3 hkeep hrise ⊢
        have hPl : P.length ≤ 1000 := by simp at hkeep; omega
        clear hkeep hkl2 hlt
        obtain ⟨va, w2, hrun, ho2, hE2⟩ := append_run Aa P ca wr q3 q4 (by omega)
        obtain ⟨A2, k2, rfl, s1, s2, s3, s4⟩ := ho2.at2
        obtain ⟨m, hm⟩ : ∃ m, m = P.length := ⟨_, rfl⟩
        rw [← hm] at q1 hPl hrun s1 ⊢
        have HM := Lib.hid hm
        have HR := Lib.hid hrun
        have dx : w2.cell? ⟨w.heap.size, 0, none⟩ = some (.string (bs x.1)) := (hB0.ext hE2).cell 0
        have dx2 : w2.cell? ⟨w.heap.size, 1, none⟩ = some (.int .i64 x.2) := (hB0.ext hE2).cell 1
        have q3' := q3.ext hE2
        have hE3 := hE'.trans hE2
        clear hm hrun ho2 cx cx2
        go_wp2_with (at_builtin; refine Lib.wpList_append_run _ rfl _ _ 22 22 rfl _ _ rfl rfl _ _ HR.out ?_)
        have hp := put_any Aa P ca x.1 x.2 w2 q3' q4 hrise (by rw [← HM.out]; exact q1) q2 (by have := HM.out; omega)
        rw [← HM.out] at hp
        refine hp.mono ?_
        clear hp
        rintro e w3 ⟨v3, rfl, _, hE4⟩
        have q5 := q3'.ext hE4
        have ex : w3.cell? ⟨w.heap.size, 0, none⟩ = some (.string (bs x.1)) := ((hB0.ext hE2).ext hE4).cell 0
        go_wp2_with fail
        have hp := drop_ext Aa P ca x.1 w3 q5 hrise (by rw [← HM.out]; exact q1) q2 (by have := HM.out; omega)
        rw [← HM.out] at hp
        refine hp.mono ?_
        clear hp
        rintro e w4 ⟨v4, rfl, hE5⟩
        have q6 := q5.ext hE5
        have ey : w4.cell? ⟨w.heap.size, 0, none⟩ = some (.string (bs x.1)) := (((hB0.ext hE2).ext hE4).ext hE5).cell 0
        go_wp2_with fail
        have hp := put_any Aa P ca x.1 7 w4 q6 q4 hrise (by rw [← HM.out]; exact q1) q2 (by have := HM.out; omega)
        rw [← HM.out] at hp
        refine hp.mono ?_
        clear hp
        rintro e w5 ⟨v5, rfl, ho5, hE6⟩
        rw [putP_putF P x.1 7 hrise] at ho5
        obtain ⟨A5, k5, rfl, t1, t2, t3, t4⟩ := ho5.at2
        have q7 := q6.ext hE6
        have s5 := s3.ext ((hE4.trans hE5).trans hE6)
        have hb5 := ((((hB0.ext hE2).ext hE4).ext hE5).ext hE6)
        have ez : w5.cell? ⟨w.heap.size, 0, none⟩ = some (.string (bs x.1)) := ((((hB0.ext hE2).ext hE4).ext hE5).ext hE6).cell 0
        have hE9 := ((hE3.trans hE4).trans hE5).trans hE6
        have hlp : (putF P (x.1, 7)).length ≤ 1000000 := by have := putF_len P (x.1, 7); have := HM.out; omega
        clear ex ey dx dx2 hE2 hE4 hE5 hE6 hE3 q6 q5 q3' ho5 hE' hE hB0 hrise
        go_wp2_with fail
        have hp := same_any Aa A2 ca k2 P w5 q7 s5 (by have := HM.out; omega)
        rw [← HM.out] at hp
        refine hp.mono ?_
        clear hp
        rintro e w6 ⟨rfl, hF1⟩
        have f5 := s5.ext hF1
        have ea : w6.cell? ⟨w.heap.size, 0, none⟩ = some (.string (bs x.1)) := (hb5.ext hF1).cell 0
        go_wp2_with fail
        have hp := lput_any A2 P k2 (x.1, 7) w6 f5 (by have := HM.out; omega)
        rw [← HM.out] at hp
        refine hp.mono ?_
        clear hp
        rintro e w7 ⟨v7, rfl, ho7, hF2⟩
        obtain ⟨A7, k7, rfl, _, _, y3, _⟩ := ho7.at2
        have y5 := t3.ext (hF1.trans hF2)
        clear ho7
        go_wp2_with fail
        refine (same_any A5 A7 k5 k7 (putF P (x.1, 7)) w7 y5 y3 hlp).mono ?_
        rintro e w8 ⟨rfl, hF3⟩
        go_wp2_with fail
        refine (awake11 _).mono ?_
        rintro e w9 ⟨rfl, hF4⟩
        go_wp2_with fail
        go_ret
        exact Ret.mk rfl ((((hE9.trans hF1).trans hF2).trans hF3).trans hF4)
set_option maxRecDepth 100000 in
theorem entsKeep_walk {H : Type} {enc : TypeId × Value → H} (W : World) (base : Nat) (v0 v1 : Value) (d0 d1 : DataW H) (p0 p1 : List MemPlace)
    (k0 : Value.okWide Try.prog W .any base 22 v0) (h0 : DataW.Trod enc Try.prog W 0 (fun _ => true) true 22 v0 d0 p0)
    (k1 : Value.okWide Try.prog W .any base 25 v1) (h1 : DataW.Trod enc Try.prog W 0 (fun _ => true) true 25 v1 d1 p1)
    : Calls Try.prog 4 #[v0, v1] W (Ret W (.bool true)) := by
  obtain ⟨A, l, cap, rfl, he, _, hl, hc, _⟩ := open_ents k0 h0
  obtain ⟨nm, no, rfl, _⟩ := open_ent k1 h1
  exact entsKeep_core A l cap (nm, no) W he (by unfold maxLen at hc; omega)
end Go.Proofs.Ytneideokodhciaa
