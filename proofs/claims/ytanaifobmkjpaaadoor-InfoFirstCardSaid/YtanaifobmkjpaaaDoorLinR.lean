/- Layer 6 (info): the reference's Lines. -/
import Derived.Test.YtanaifobmkjpaaaDoorLinP
import Derived.Test.YtanaifobmkjpaaaDoorTxt
import Derived.BigQuiet
import Derived.StillTailTactics
import Derived.RangeFuncBox
namespace Go.Proofs.YtanaifobmkjpaaaDoor
open Go.ChangeShapes Go.WideShapes Go.ChangeAt Go.RowKit

theorem OwnT.base {w : World} {b b' : Nat} {v : Value} {l : List Txt} (h : OwnT w b v l) (hb : b' ≤ b) : OwnT w b' v l := by
  obtain ⟨h1, h2⟩ := h
  refine ⟨h1, ?_⟩
  rcases h2 with h2 | ⟨g, cap, cur, hv, hg, hr⟩
  · exact .inl h2
  · exact .inr ⟨g, cap, cur, hv, Nat.le_trans hb hg, hr⟩
def TxtR (w : World) (l : List Txt) (e : Ending) (w' : World) : Prop := ∃ v, e = .returned v ∧ OwnT w' w.heap.size v l ∧ Ext w w'
set_option maxRecDepth 100000 in
set_option maxHeartbeats 1000000 in
theorem lines_any (l : List UInt8) (w : World) (hlen : l.length ≤ 1000000) : Calls Tryd.prog 83 #[.string (bs l)] w (TxtR w (pcB 10 [] l)) := by
  have hsz : ((bs l).size : Int) = l.length := by rw [bs_size]
  obtain ⟨i0, hi, hz0, hz1, hz2⟩ := info_parts infoStr
  go_enter Tryd.func83, Tryd.ntmps83
  go_wp2_with fail
  go_loopw [3, 4] (fun u i wr => ∃ k : Nat, k ≤ l.length ∧ i = .int .i64 k ∧ (∃ D cur, pcB 10 [] l = D ++ pcB 10 cur (l.drop k) ∧ D.length ≤ k ∧ cur.length ≤ k ∧ OwnT wr w.heap.size u (D ++ [cur])) ∧ Ext w wr) (fun _ i _ => l.length - (intOf i).toNat)
  case atStart =>
    refine ⟨0, Nat.zero_le _, rfl, ⟨[], [], by simp, by simp, by simp, ?_⟩, (Ext.refl _).alloc _⟩
    exact World.ownsRow_lit w #[.string (bs [])] 1 (Nat.le_refl _) (by decide) rfl
  case round =>
    obtain ⟨k, hk, rfl, ⟨D, cur, hd, hD, hcl0, hown⟩, hE⟩ := hrel
    by_cases hlt : (k : Int) < l.length
    · have hkl : k < l.length := by omega
      have hks : k < (bs l).size := by rw [bs_size]; exact hkl
      have hg : (bs l)[k] = l[k] := bs_get l k hks hkl
      obtain ⟨c, hc⟩ : ∃ c, c = l[k] := ⟨_, rfl⟩
      have hdk : l.drop k = c :: l.drop (k + 1) := by rw [hc]; exact List.drop_eq_getElem_cons hkl
      rw [hdk, pcB] at hd
      rw [← hc] at hg
      have hx1 : (bs l).extract k (k + 1) = bs [c] := by rw [ext_one (bs l) k hks, hg]
      have hcb : (c.toNat : Int) < 256 := by have := c.toNat_lt; omega
      have HG := Lib.hid hg
      have HC := Lib.hid hc
      by_cases hs : c = 10
      · rw [if_pos hs] at hd
        have hs2 : (((bs l)[k].toNat : Int) == 10) = true := by rw [hg, hs]; rfl
        have HD := Lib.hid hd
        clear hs hd hdk hg hc hx1
        obtain ⟨M, hM⟩ : ∃ M, M = D ++ [cur] := ⟨_, rfl⟩
        rw [← hM] at hown
        have HM := Lib.hid hM
        have hMl : M.length ≤ k + 1 := by rw [hM]; simp; omega
        clear hM
        unfold OwnT at hown
        go_wp2_with (at_builtin; refine wpList_append_own _ rfl _ _ 28 rfl w.heap.size 9 i0 (.string ⟨#[]⟩) 1 16 Tryd.underlying28 hi hz0 hz1 hz2 rfl (by decide) _ _ _ rfl (hown.alloc _) ⟨wr.heap.size, 0, none⟩ 1 1 (txtCells [[]]) rfl rfl (txt_news wr []) (txtCells_one [[]]) (by unfold maxLen; omega) (by omega) (by have := hE.size; simp; omega) ?_)
        intro v' w2 hown2 hgrow _
        obtain ⟨ho2, hE2⟩ := txt_app hown hE hown2 hgrow
        clear hown2 hgrow
        have HO2 := Lib.hid ho2
        clear ho2
        go_wp2_with fail
        go_roundw
        case rel => exact ⟨k + 1, by omega, by go_num, ⟨M, [], by rw [HD.out, HM.out]; simp, by omega, by simp, HO2.out⟩, hE2⟩
        case measure => simp [intOf]; omega
      · rw [if_neg hs] at hd
        have hs2 : (((bs l)[k].toNat : Int) == 10) = false := by
          rw [hg, beq_eq_false_iff_ne]
          intro h
          exact hs (UInt8.toNat_inj.1 (by have : (10 : UInt8).toNat = 10 := rfl; omega))
        have HD := Lib.hid hd
        clear hs hd hdk hg hc
        unfold OwnT at hown
        obtain ⟨n, hn⟩ : ∃ n, n = D.length := ⟨_, rfl⟩
        have hl1 : (D ++ [cur]).length = n + 1 := by rw [hn]; simp
        rw [hl1] at hown
        obtain ⟨g, cap, rfl⟩ := ownsRow_succ hown
        have hcl : wr.cell? ⟨g, n, none⟩ = some (.string (bs cur)) := by
          rw [hown.cellAt n (by omega), txtCells_get (D ++ [cur]) n (by rw [hl1]; omega)]
          simp [hn]
        have hfr := hown.frozenAt n
        have hst := hown.stored n (.string (bs (cur ++ [c])))
        have hgl := (hown.lt g rfl).1
        have hst2 : Hid (OwnT (wr.setCell ⟨g, n, none⟩ (.string (bs (cur ++ [c])))) w.heap.size (.slice (some ⟨g, 0, none⟩) (n + 1) cap) (D ++ [cur ++ [c]]) ∧ Ext w (wr.setCell ⟨g, n, none⟩ (.string (bs (cur ++ [c]))))) := by
          refine ⟨?_, hE.setCell hgl _⟩
          have h := hst.1
          have e1 : (txtCells (D ++ [cur])).set n (.string (bs (cur ++ [c]))) = txtCells (D ++ [cur ++ [c]]) := by
            rw [hn]; simp [txtCells]
          rw [e1] at h
          unfold OwnT
          have e2 : (D ++ [cur ++ [c]]).length = n + 1 := by rw [hn]; simp
          rw [e2]
          exact h
        have z1 : (bs cur).size = cur.length := bs_size _
        have z2 : (bs [c]).size = 1 := bs_size _
        have hbig : ¬ 9223372036854775807 < cur.length + 1 := by omega
        have z3 : (bs (cur ++ [c])).size = cur.length + 1 := by rw [bs_size]; simp
        have hcat : bs cur ++ bs [c] = bs (cur ++ [c]) := bs_append _ _
        have hw1 : IntKind.i64.wrap (n : Int) = n := wrap_i64_in (by omega) (by omega)
        have hw2 : IntKind.i64.wrap ((k : Int) + 1) = k + 1 := wrap_i64_in (by omega) (by omega)
        have hn0 : (0 : Int) ≤ (n : Int) := Int.natCast_nonneg _
        have hk0 : (0 : Int) ≤ (k : Int) := Int.natCast_nonneg _
        have hk1 : ((k : Int) + 1).toNat = k + 1 := by omega
        have hk2 : k + 1 ≤ (bs l).size := hks
        have hsl := slice_str (P := Tryd.prog) Tryd.underlying9 (bs l) (k : Int) ((k : Int) + 1) k (k + 1) rfl (by omega) (by omega) hk2 (bs [c]) hx1
        have hnl : (n : Int) < (n : Int) + 1 := by omega
        have hneg : decide ((n : Int) < 0) = false := decide_eq_false (by omega)
        have hge : decide ((0 : Int) ≤ (n : Int)) = true := decide_eq_true (by omega)
        have HN := Lib.hid hn
        clear hst hown hl1 hn
        go_wp2_with fail
        go_still_tail 16, (by kernel_rfl)
        change wpList _ _ _ _ _ wr.drew
        go_wp2_with fail
        go_roundw
        case rel => exact ⟨k + 1, by omega, by go_num, ⟨D, cur ++ [c], HD.out, by omega, by simp; omega, hst2.out.1⟩, hst2.out.2.drew⟩
        case measure => simp [intOf]; omega
    · obtain rfl : k = l.length := by omega
      rw [List.drop_length, pcB] at hd
      rw [← hd] at hown
      have HO := Lib.hid hown
      clear hown hd
      go_wp2_with fail
      go_ret
      exact ⟨_, rfl, HO.out, hE⟩

end Go.Proofs.YtanaifobmkjpaaaDoor
