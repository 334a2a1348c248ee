/- Layer 11 (ents): the law's awake; the walk of EntsCheck. -/
import Derived.Test.YtneideokodhciaaEntN
import Derived.Deep.Slices
import Derived.Deep.Fields
import Derived.ChangeSame
namespace Go.Proofs.Ytneideokodhciaa
open Go.ChangeShapes Go.WideShapes Go.ChangeAt Go.RowKit

theorem awake_put : putP [([97], 1), ([99], 2)] [98] 3 = [([97], 1), ([98], 3), ([99], 2)] := by decide
theorem ents_two {W : World} {B : Nat} {a b : List UInt8} {x y : Int} (h : Has W B (.cells #[.string (bs a), .int .i64 x, .string (bs b), .int .i64 y] 25)) : EntsAt W (some ⟨B, 0, none⟩) [(a, x), (b, y)] := by
  refine .inr ⟨B, 0, rfl, h.lt, fun k hk => ?_⟩
  match k, hk with
  | 0, _ => exact ⟨h.cell 0, h.cell 1⟩
  | 1, _ => exact ⟨h.cell 2, h.cell 3⟩
set_option maxRecDepth 100000 in
set_option maxHeartbeats 1000000 in
theorem awake11 (w : World) : Calls Try.prog 9 #[] w (Ret w (.bool true)) := by
  go_enter Try.func9, Try.ntmps9
  go_wp2_with fail
  refine (put_any (some ⟨w.heap.size, 0, none⟩) [([97], 1), ([99], 2)] 2 [98] 3 _ (ents_two (Has.new w _)) (by intro h; cases h) (by unfold Rise; decide) (by decide) (by decide) (by decide)).mono ?_
  rintro e w1 ⟨v, rfl, ho, b1⟩
  rw [awake_put] at ho
  obtain ⟨A, c, rfl, hc, hcm, he⟩ := ho.at_
  obtain ⟨b, o, rfl, hbw, ca, cb⟩ := he.at_ (Ext.refl w1) 1 (by decide)
  have ca' : w1.cell? ⟨b, o + 2, none⟩ = some (.string ⟨#[98]⟩) := ca
  have cb' : w1.cell? ⟨b, o + 2 + 1, none⟩ = some (.int .i64 3) := cb
  have hle : ([(([97] : List UInt8), (1 : Int)), ([98], 3), ([99], 2)] : List EntD).length = 3 := rfl
  have HE := Lib.hid he
  clear ca cb ho hc hcm he
  rw [hle]
  clear hle
  go_wp2_with fail
  refine (find_any (some ⟨b, o, none⟩) [([97], 1), ([98], 3), ([99], 2)] c [99] _ HE.out (by unfold Rise; decide) (by decide)).mono ?_
  rintro e w2 ⟨rfl, b2⟩
  rw [show numOf [([97], 1), ([98], 3), ([99], 2)] [99] = 2 by decide]
  go_wp2_with fail
  refine (check_any (some ⟨b, o, none⟩) [([97], 1), ([98], 3), ([99], 2)] c _ (HE.out.ext b2) (by decide)).mono ?_
  rintro e w3 ⟨rfl, b3⟩
  rw [show riseB [([97], 1), ([98], 3), ([99], 2)] = true by decide]
  go_wp2_with fail
  refine (check_any (some ⟨w3.heap.size, 0, none⟩) [([97], 1), ([97], 2)] 2 _ (ents_two (Has.new w3 _)) (by decide)).mono ?_
  rintro e w4 ⟨rfl, b4⟩
  rw [show riseB [([97], 1), ([97], 2)] = false by decide]
  go_wp2_with fail
  go_ret
  exact Ret.mk rfl (((((Ext.refl _).alloc _).trans b1).trans (b2.trans b3)).trans (((Ext.refl _).alloc _).trans b4))
def adjTo (l : List EntD) (k : Nat) : Bool := riseB (l.take k)
theorem adj_take {l : List EntD} {k : Nat} : Adj (l.take k) ↔ ∀ j, (h : j + 1 < l.length) → j + 1 < k → bl (l[j]'(by omega)).1 l[j + 1].1 = true := by
  constructor
  · intro h j hj hk
    have := h j (by rw [List.length_take]; omega)
    simpa using this
  · intro h j hj
    rw [List.length_take] at hj
    have := h j (by omega) (by omega)
    simpa using this
theorem adjTo_step (l : List EntD) (k : Nat) (h1 : 1 ≤ k) (h : k < l.length) : adjTo l (k + 1) = (adjTo l k && bl (l[k - 1]'(by omega)).1 l[k].1) := by
  unfold adjTo
  rw [Bool.eq_iff_iff, Bool.and_eq_true, riseB_iff, riseB_iff, adj_take, adj_take]
  constructor
  · intro g
    refine ⟨fun j hj hk => g j hj (by omega), ?_⟩
    have := g (k - 1) (by omega) (by omega)
    have e : k - 1 + 1 = k := by omega
    simp only [e] at this
    exact this
  · rintro ⟨g1, g2⟩ j hj hk
    by_cases hjk : j + 1 < k
    · exact g1 j hj hjk
    · have e : j = k - 1 := by omega
      subst e
      have e : k - 1 + 1 = k := by omega
      simp only [e]
      exact g2
theorem adjTo_one (l : List EntD) : adjTo l 1 = true := by
  unfold adjTo
  rw [riseB_iff, adj_take]
  intro j _ h; omega
set_option maxRecDepth 100000 in
set_option maxHeartbeats 1000000 in
theorem entsCheck_core (A : Option Addr) (l : List EntD) (cap : Nat) (w : World) (h : EntsAt w A l) (hlen : l.length ≤ 9223372036854775807) : Calls Try.prog 3 #[.slice A l.length cap] w (Ret w (.bool true)) := by
  obtain ⟨n, hn⟩ : ∃ n, n = l.length := ⟨_, rfl⟩
  rw [← hn] at hlen ⊢
  have HN := Lib.hid hn
  clear hn
  by_cases hbig : 40 < (n : Int)
  · go_enter Try.func3, Try.ntmps3
    go_wp2_with fail
    refine (awake11 _).mono ?_
    rintro e w1 ⟨rfl, b1⟩
    go_wp2_with fail
    go_ret
    exact Ret.mk rfl b1
  · go_enter Try.func3, Try.ntmps3
    go_wp2_with fail
    go_loopw [3, 4] (fun s i wr => ∃ k : Nat, 1 ≤ k ∧ k ≤ n + 1 ∧ i = .int .i64 k ∧ s = .bool (adjTo l k) ∧ Ext w wr) (fun _ i _ => n + 1 - (intOf i).toNat)
    case atStart => exact ⟨1, by omega, by omega, rfl, by rw [adjTo_one], Ext.refl _⟩
    case round =>
      obtain ⟨k, hk1, hk2, rfl, rfl, hE⟩ := hrel
      by_cases hlt : (k : Int) < n
      · obtain ⟨j, rfl⟩ : ∃ j, k = j + 1 := ⟨k - 1, by omega⟩
        have hkl : j + 1 < l.length := by have := HN.out; omega
        have hst := adjTo_step l (j + 1) (by omega) hkl
        obtain ⟨b, o, rfl, hbw, ca, cb⟩ := h.at_ hE j (by omega)
        obtain ⟨b', o', hA, hbw', cc, cd⟩ := h.at_ hE (j + 1) hkl
        injection hA with hA
        injection hA with h1 h2
        subst h1 h2
        have ej : ∀ (i : Nat) (hi : i < l.length), i = j → l[i] = l[j] := by intro i hi e; subst e; rfl
        rw [ej (j + 1 - 1) (by omega) (by omega)] at hst
        generalize l[j] = x1 at ca cb hst
        generalize l[j + 1] = x2 at cc cd hst
        have HST := Lib.hid hst
        have g1 : IntKind.i64.wrap (j : Int) = (j : Int) := wrap_i64_in (by omega) (by omega)
        have e1 : Go.Op.bytesLess (bs x1.1).toList (bs x2.1).toList = bl x1.1 x2.1 := by rw [bs_toList, bs_toList]
        clear hst ej
        generalize hq : adjTo l (j + 1) = q at HST
        have HQ := Lib.hid hq
        clear hq
        have g2 : (0 : Int) ≤ (j : Int) := by omega
        have g3 : (j : Int) < (n : Int) := by omega
        have g4 : ((j : Int) + 1).toNat = j + 1 := by omega
        have g5 : (0 : Int) ≤ (j : Int) + 1 := by omega
        have g6 : (j : Int) + 1 < (n : Int) := by omega
        cases q
        · have HS2 : Hid (adjTo l (j + 1 + 1) = false) := by show _ = _; rw [HST.out]; rfl
          go_wp2_with fail
          go_quiet (fail)
          go_wp2_with fail
          go_roundw
          case rel => exact ⟨j + 1 + 1, by omega, by omega, by go_num, by rw [HS2.out], hE.drewN _⟩
          case measure => simp [intOf]; omega
        · have HS2 : Hid (adjTo l (j + 1 + 1) = bl x1.1 x2.1) := by show _ = _; rw [HST.out]; rfl
          go_wp2_with fail
          go_quiet (fail)
          go_wp2_with fail
          go_roundw
          case rel => exact ⟨j + 1 + 1, by omega, by omega, by go_num, by rw [HS2.out], hE.drewN _⟩
          case measure => simp [intOf]; omega
      · have hfin : Hid (adjTo l k = riseB l) := by
          show adjTo l k = riseB l
          unfold adjTo
          by_cases hk : k ≤ l.length
          · have : k = l.length ∨ k = 1 ∧ l.length = 0 := by have := HN.out; omega
            rcases this with h | h
            · rw [h, List.take_length]
            · omega
          · rw [List.take_of_length_le (by omega)]
        have H := Lib.hid (h.ext hE)
        generalize hq : adjTo l k = q at hfin
        have HQ := Lib.hid hq
        clear hq
        go_wp2_with fail
        rw [HN.out]
        refine (check_any A l cap _ H.out (by have := HN.out; omega)).mono ?_
        rintro e w1 ⟨rfl, b1⟩
        rw [← hfin.out]
        go_wp2_with fail
        refine (awake11 _).mono ?_
        rintro e w2 ⟨rfl, b2⟩
        go_wp2_with fail
        go_ret
        exact Ret.mk rfl (hE.trans (b1.trans b2))
end Go.Proofs.Ytneideokodhciaa
