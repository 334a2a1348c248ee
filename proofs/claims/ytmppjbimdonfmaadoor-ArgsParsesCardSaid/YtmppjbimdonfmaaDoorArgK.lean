/- Layer 46 (args): the names of the commands; Name and Kind of both. -/
import Derived.Test.YtmppjbimdonfmaaDoorArgR
import Derived.Test.YtmppjbimdonfmaaDoorNamR
import Derived.Lib.LaidTab
namespace Go.Proofs.YtmppjbimdonfmaaDoor
open Go.ChangeShapes Go.WideShapes Go.ChangeAt Go.RowKit

def nmL : List Txt := [[116, 114, 97, 115, 104], [108, 105, 115, 116], [114, 101, 115, 116, 111, 114, 101], [101, 109, 112, 116, 121], [101, 120, 112, 105, 114, 101], [114, 109], [109, 118], [99, 112], [117, 110, 100, 111]]
def nm10 : List Txt := [] :: nmL
def nameN (k : Int) : Txt := if k < 1 ∨ 9 < k then [] else nm10.getD k.toNat []
def kindGo (s : Txt) : Nat → List Txt → Nat
  | _, [] => 0
  | k, x :: l => if x = s then k else kindGo s (k + 1) l
def kindN (s : Txt) : Nat := kindGo s 1 nmL
/-- The program's table of names as its text lays it. -/
def NamesAt (w : World) : Prop := 0 < w.heap.size ∧ ∀ k, k < 10 → w.cell? ⟨0, k, none⟩ = some (.string (bs (nm10.getD k [])))
theorem NamesAt.ext {w w' : World} (h : NamesAt w) (hE : Ext w w') : NamesAt w' := by
  have := hE.size
  refine ⟨by have := h.1; omega, fun k hk => ?_⟩
  rw [hE.cell h.1]; exact h.2 k hk
theorem ten {k : Nat} (h : k < 10) : k = 0 ∨ k = 1 ∨ k = 2 ∨ k = 3 ∨ k = 4 ∨ k = 5 ∨ k = 6 ∨ k = 7 ∨ k = 8 ∨ k = 9 := by omega
set_option maxRecDepth 100000 in
theorem pname_any (k : Int) (w : World) (hN : NamesAt w) : Calls Tryd.prog 66 #[.int .i64 k] w (Ret w (.string (bs (nameN k)))) := by
  by_cases h0 : k < 0
  · have hf : Hid (nameN k = []) := if_pos (.inl (by omega))
    go_enter Tryd.func66, Tryd.ntmps66
    go_wp2_with fail
    go_ret
    exact Ret.mk (by rw [hf.out]; rfl) (Ext.refl _)
  · by_cases h10 : 10 ≤ k
    · have hf : Hid (nameN k = []) := if_pos (.inr (by omega))
      go_enter Tryd.func66, Tryd.ntmps66
      go_wp2_with fail
      go_ret
      exact Ret.mk (by rw [hf.out]; rfl) (Ext.refl _)
    · obtain ⟨n, rfl⟩ : ∃ n : Nat, k = n := ⟨k.toNat, by omega⟩
      have hn : n < 10 := by omega
      have hg := hN.1
      have hc := hN.2 n hn
      have hv : nm10.getD n [] = nameN n := by
        unfold nameN
        by_cases h1 : n = 0
        · subst h1; rfl
        · rw [if_neg (by omega)]; rfl
      rw [hv] at hc
      have hlt : (n : Int) < 10 := by omega
      have H := Lib.hid hv
      clear hv h0 h10 hN
      go_enter Tryd.func66, Tryd.ntmps66
      go_wp2_with fail
      go_ret
      exact Ret.mk rfl (Ext.refl _)
set_option maxRecDepth 100000 in
set_option maxHeartbeats 8000000 in
theorem rname_any (k : Int) (w : World) : Calls Tryd.prog 67 #[.int .i64 k] w (Ret w (.string (bs (nameN k)))) := by
  by_cases h0 : k < 1
  · have hf : Hid (nameN k = []) := if_pos (.inl (by omega))
    go_enter Tryd.func67, Tryd.ntmps67
    go_wp2_with fail
    go_ret
    exact Ret.mk (by rw [hf.out]; rfl) ((Ext.refl _).alloc _)
  · by_cases h10 : 9 < k
    · have hf : Hid (nameN k = []) := if_pos (.inr (by omega))
      go_enter Tryd.func67, Tryd.ntmps67
      go_wp2_with fail
      go_ret
      exact Ret.mk (by rw [hf.out]; rfl) ((Ext.refl _).alloc _)
    · obtain ⟨n, rfl⟩ : ∃ n : Nat, k = n := ⟨k.toNat, by omega⟩
      rcases ten (k := n) (by omega) with h | h | h | h | h | h | h | h | h | h
      · omega
      all_goals
        subst h
        clear h0 h10
        go_enter Tryd.func67, Tryd.ntmps67
        go_wp2_with fail
        go_ret
        exact Ret.mk rfl ((Ext.refl _).alloc _)
theorem kindGo_step (s : Txt) (k : Nat) (h : k < 10) : kindGo s k (nm10.drop k) = if nm10.getD k [] = s then k else kindGo s (k + 1) (nm10.drop (k + 1)) := by
  rcases ten h with h | h | h | h | h | h | h | h | h | h <;> (subst h; rfl)
theorem kindGo_zero (s : Txt) : kindGo s 0 nm10 = kindN s := by
  show (if [] = s then 0 else kindN s) = kindN s
  split
  · rename_i h; subst h; rfl
  · rfl
set_option maxRecDepth 100000 in
theorem pkind_any (s : List UInt8) (w : World) (hN : NamesAt w) : Calls Tryd.prog 68 #[.string (bs s)] w (Ret w (.int .i64 (kindN s))) := by
  go_enter Tryd.func68, Tryd.ntmps68
  have hg := hN.1
  obtain ⟨x, hx⟩ : ∃ x : Nat → ByteArray, x = fun k => bs (nm10.getD k []) := ⟨_, rfl⟩
  have hN2 : ∀ k, k < 10 → w.cell? ⟨0, k, none⟩ = some (.string (x k)) := by rw [hx]; exact hN.2
  have c0 := hN2 0 (by decide)
  have c1 := hN2 1 (by decide)
  have c2 := hN2 2 (by decide)
  have c3 := hN2 3 (by decide)
  have c4 := hN2 4 (by decide)
  have c5 := hN2 5 (by decide)
  have c6 := hN2 6 (by decide)
  have c7 := hN2 7 (by decide)
  have c8 := hN2 8 (by decide)
  have c9 := hN2 9 (by decide)
  have HX := Lib.hid hx
  clear hx hN2
  go_wp2_with fail
  go_loopw [6] (fun i wr => ∃ k : Nat, k ≤ 10 ∧ i = .int .i64 k ∧ Hid (kindGo s k (nm10.drop k) = kindN s) ∧ wr = w) (fun i _ => 10 - (intOf i).toNat)
  case atStart => exact ⟨0, by decide, rfl, kindGo_zero s, rfl⟩
  case round =>
    obtain ⟨k, hk, rfl, hK, rfl⟩ := hrel
    by_cases hlt : (k : Int) < 10
    · have hkl : k < 10 := by omega
      have hidx : (Instr.index 98 (.agg #[.string (x 0), .string (x 1), .string (x 2), .string (x 3), .string (x 4), .string (x 5), .string (x 6), .string (x 7), .string (x 8), .string (x 9)]) (.int .i64 k)).run Tryd.prog wr = .ok (.string (x k)) wr := by
        have hu := Tryd.underlying98
        rcases ten hkl with h | h | h | h | h | h | h | h | h | h <;> (subst h; clear hK c0 c1 c2 c3 c4 c5 c6 c7 c8 c9 hlt hk; simp [Instr.index, run_underlying hu, asIntOf, go_sem])
      have hst := kindGo_step s k hkl
      have hc := hK.out
      rw [hst] at hc
      by_cases he : nm10.getD k [] = s
      · have ht : ((bs s).toList == (x k).toList) = true := by rw [HX.out, ← he]; exact beq_self_eq_true _
        rw [if_pos he] at hc
        have HC := Lib.hid hc
        clear he hc hst HX c0 c1 c2 c3 c4 c5 c6 c7 c8 c9
        go_wp2_with fail
        go_ret
        exact Ret.mk (by rw [← HC.out]; rfl) (Ext.refl _)
      · have ht : ((bs s).toList == (x k).toList) = false := by
          rw [HX.out]; refine beq_eq_false_iff_ne.2 fun h => he ?_
          rw [bs_toList, bs_toList] at h; exact h.symm
        rw [if_neg he] at hc
        have HC := Lib.hid hc
        clear he hc hst HX c0 c1 c2 c3 c4 c5 c6 c7 c8 c9
        go_wp2_with fail
        go_roundw
        case rel => exact ⟨k + 1, by omega, by go_num, HC.out, trivial⟩
        case measure => simp [intOf]; omega
    · obtain rfl : k = 10 := by omega
      go_wp2_with fail
      go_ret
      exact Ret.mk (by rw [← hK.out]; rfl) (Ext.refl _)
theorem kindN_step (s : Txt) (k : Nat) (h0 : 1 ≤ k) (h : k ≤ 9) : kindGo s k (nm10.drop k) = if nameN k = s then k else kindGo s (k + 1) (nm10.drop (k + 1)) := by
  rw [kindGo_step s k (by omega)]
  have : nameN (k : Int) = nm10.getD k [] := by unfold nameN; rw [if_neg (by omega)]; rfl
  rw [this]
set_option maxRecDepth 100000 in
set_option maxHeartbeats 2000000 in
theorem rkind_any (s : List UInt8) (w : World) : Calls Tryd.prog 69 #[.string (bs s)] w (Ret w (.int .i64 (kindN s))) := by
  go_enter Tryd.func69, Tryd.ntmps69
  go_wp2_with fail
  go_loopw [3] (fun i wr => ∃ k : Nat, 1 ≤ k ∧ k ≤ 10 ∧ i = .int .i64 k ∧ Hid (kindGo s k (nm10.drop k) = kindN s) ∧ Ext w wr) (fun i _ => 10 - (intOf i).toNat)
  case atStart => exact ⟨1, by decide, by decide, rfl, rfl, Ext.refl _⟩
  case round =>
    obtain ⟨k, hk0, hk, rfl, hK, hE⟩ := hrel
    by_cases hlt : (k : Int) ≤ 9
    · have hkl : k ≤ 9 := by omega
      have hst := kindN_step s k hk0 hkl
      have hc := hK.out
      rw [hst] at hc
      obtain ⟨x, hx⟩ : ∃ x, x = nameN (k : Int) := ⟨_, rfl⟩
      have HN := Lib.hid (rname_any k wr)
      rw [← hx] at HN hc
      by_cases he : x = s
      · have ht : ((bs x).toList == (bs s).toList) = true := by rw [he]; exact beq_self_eq_true _
        rw [if_pos he] at hc
        have HC := Lib.hid hc
        clear he hc hst hx
        go_wp2_with fail
        refine (HN.out).mono ?_
        rintro e w2 ⟨rfl, hE2⟩
        go_wp2_with fail
        go_ret
        exact Ret.mk (by rw [← HC.out]; rfl) (hE.trans hE2)
      · have ht : ((bs x).toList == (bs s).toList) = false := by
          refine beq_eq_false_iff_ne.2 fun h => he ?_
          rw [bs_toList, bs_toList] at h; exact h
        rw [if_neg he] at hc
        have HC := Lib.hid hc
        clear he hc hst hx
        go_wp2_with fail
        refine (HN.out).mono ?_
        rintro e w2 ⟨rfl, hE2⟩
        go_wp2_with fail
        go_roundw
        case rel => exact ⟨k + 1, by omega, by omega, by go_num, HC.out, hE.trans hE2⟩
        case measure => simp [intOf]; omega
    · obtain rfl : k = 10 := by omega
      go_wp2_with fail
      go_ret
      exact Ret.mk (by rw [← hK.out]; rfl) hE
end Go.Proofs.YtmppjbimdonfmaaDoor
