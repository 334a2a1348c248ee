/- Layer 2 (name), plain: the pieces of a path, its parts, what stands last. | Cuts of texts with one bound, as equations for the walk; a text's last byte. | Layer 2 (name): the reference: Pieces, Parts, Slash, Last, Same, Path. | Layer 2 (name): the program's Path, tail, Slash, Last. | A scope through which the run goes without a goto, inside a fence as well. | Layer 2 (name): name.Parts as an iterator; the law's all. The lines follow the guide's worked contract of an iterator, turned to parts of a path. | Layer 2 (name): Parts; the law's all: the first parts of a path. | Layer 15: slices.AppendSeq and slices.Collect of a path's parts. | Layer 15 (seek), plain: where a path leads. | A drawn region that makes a node's box and fills it late. | Layer 15: a step of the trip. | Layer 15: a link is followed. -/
import Derived.Test.YtjblimclakfhfaaBunA
import Derived.Test.YtjblimclakfhfaaBunB
import Derived.Test.YtjblimclakfhfaaBunC
import Derived.Test.YtjblimclakfhfaaBunD
import Derived.Test.YtjblimclakfhfaaBunE
import Derived.Test.YtjblimclakfhfaaBunH
import Derived.BigQuiet
import Derived.StillTailTactics
import Derived.RangeFuncBox
import Derived.Lib.LastIndexByte
import Derived.ControlIn
import Derived.Scope
import Derived.AtR
import Derived.RangeFuncNested
import Derived.RangeFuncBound
import Derived.RangeFuncCalls
import Derived.RangeFuncLeaves
import Derived.Shelf.Abstract
import Derived.OwnWalkIn
import Derived.TacticsInMore
import Derived.LoopNIn
import Derived.LoopIn
namespace Go.Proofs.Ytjblimclakfhfaa

/-- What stands between slashes; cur: what has been read of the first piece. -/
def pc (cur : List UInt8) : List UInt8 → List (List UInt8)
  | [] => [cur]
  | c :: l => if c = 47 then cur :: pc [] l else pc (cur ++ [c]) l
def good (p : List UInt8) : Bool := !(p == []) && !(p == [46])
def partsN (l : List UInt8) : List (List UInt8) := (pc [] l).filter good
theorem pc_ne (l : List UInt8) : ∀ cur, pc cur l ≠ [] := by
  induction l with
  | nil => intro cur h; cases h
  | cons c l ih => intro cur; unfold pc; split <;> simp [ih]
theorem pc_len (l : List UInt8) : ∀ cur, (pc cur l).length ≤ l.length + 1 := by
  induction l with
  | nil => intro cur; simp [pc]
  | cons c l ih =>
    intro cur
    unfold pc
    split
    · have := ih []; simp; omega
    · have := ih (cur ++ [c]); simp; omega
def total : List (List UInt8) → Nat
  | [] => 0
  | p :: l => p.length + total l
theorem total_append (a b : List (List UInt8)) : total (a ++ b) = total a + total b := by
  induction a with
  | nil => simp [total]
  | cons x a ih => simp [total, ih]; omega
theorem pc_total (l : List UInt8) : ∀ cur, total (pc cur l) ≤ cur.length + l.length := by
  induction l with
  | nil => intro cur; simp [pc, total]
  | cons c l ih =>
    intro cur
    unfold pc
    split
    · have := ih []; simp [total] at *; omega
    · have := ih (cur ++ [c]); simp at *; omega
theorem total_filter (f : List UInt8 → Bool) (l : List (List UInt8)) : total (l.filter f) ≤ total l := by
  induction l with
  | nil => simp
  | cons x l ih => rw [List.filter_cons]; split <;> simp [total] <;> omega
theorem parts_total (l : List UInt8) : total (partsN l) ≤ l.length := by
  have h1 := total_filter good (pc [] l)
  have h2 := pc_total l []
  unfold partsN
  simp at h2
  omega
theorem parts_len (l : List UInt8) : (partsN l).length ≤ l.length + 1 := by
  have h1 := List.length_filter_le good (pc [] l)
  have h2 := pc_len l []
  unfold partsN
  omega
/-- No piece has a slash. -/
theorem pc_no (l : List UInt8) : ∀ cur, 47 ∉ cur → ∀ p ∈ pc cur l, 47 ∉ p := by
  induction l with
  | nil => intro cur h p hp; rw [pc, List.mem_singleton] at hp; rw [hp]; exact h
  | cons c l ih =>
    intro cur h p hp
    unfold pc at hp
    split at hp
    · rcases List.mem_cons.1 hp with hp | hp
      · rw [hp]; exact h
      · exact ih [] (by simp) p hp
    · rename_i hc
      exact ih (cur ++ [c]) (by simp [h]; exact fun e => hc e.symm) p hp
theorem parts_no {l p : List UInt8} (h : p ∈ partsN l) : 47 ∉ p ∧ p ≠ [] ∧ p ≠ [46] := by
  unfold partsN at h
  rw [List.mem_filter] at h
  refine ⟨pc_no l [] (by simp) p h.1, ?_, ?_⟩
  · rintro rfl; exact absurd h.2 (by decide)
  · rintro rfl; exact absurd h.2 (by decide)
/-- The last piece: what stands behind the last slash. -/
def lastP (l : List UInt8) : List UInt8 := (pc [] l).getLastD []
def afterLast (l : List UInt8) : List UInt8 := (l.reverse.takeWhile (· ≠ 47)).reverse
theorem tw_iff {α : Type} {p : α → Bool} {l : List α} : l.takeWhile p = l ↔ ∀ x ∈ l, p x = true := by
  induction l with
  | nil => simp
  | cons a l ih =>
    rw [List.takeWhile_cons]
    by_cases h : p a = true
    · rw [if_pos h]; simp [h, ih]
    · rw [if_neg h]; simp [h]
theorem getLastD_cons_ne {α : Type} (a d : α) (l : List α) (h : l ≠ []) : (a :: l).getLastD d = l.getLastD d := by
  cases l with
  | nil => exact absurd rfl h
  | cons b l => rfl
theorem last_pc (l : List UInt8) : ∀ cur, (pc cur l).getLastD [] = if 47 ∈ l then afterLast l else cur ++ l := by
  induction l with
  | nil => intro cur; simp [pc]
  | cons c l ih =>
    intro cur
    unfold pc
    by_cases hc : c = 47
    · rw [if_pos hc, getLastD_cons_ne _ _ _ (pc_ne _ _), ih []]
      rw [if_pos (show 47 ∈ c :: l by rw [hc]; exact List.mem_cons_self ..)]
      unfold afterLast
      by_cases hl : 47 ∈ l
      · rw [if_pos hl, List.reverse_cons, List.takeWhile_append]
        rw [if_neg]
        intro h
        have h2 := List.takeWhile_prefix (p := fun x : UInt8 => decide (x ≠ 47)) (l := l.reverse)
        have h3 : List.takeWhile (fun x : UInt8 => decide (x ≠ 47)) l.reverse = l.reverse := h2.eq_of_length h
        have h4 := tw_iff.1 h3 47 (List.mem_reverse.2 hl)
        simp at h4
      · rw [if_neg hl, List.reverse_cons, List.takeWhile_append, if_pos]
        · rw [hc]
          have : List.takeWhile (fun x : UInt8 => decide (x ≠ 47)) [47] = [] := by decide
          rw [this, List.append_nil, List.reverse_reverse]
          rfl
        · congr 1
          rw [tw_iff]
          intro x hx
          have : x ≠ 47 := by rintro rfl; exact hl (List.mem_reverse.1 hx)
          simpa using this
    · rw [if_neg hc, ih (cur ++ [c])]
      by_cases hl : 47 ∈ l
      · rw [if_pos hl, if_pos (List.mem_cons_of_mem _ hl)]
        unfold afterLast
        rw [List.reverse_cons, List.takeWhile_append, if_neg]
        intro h
        have h2 := List.takeWhile_prefix (p := fun x : UInt8 => decide (x ≠ 47)) (l := l.reverse)
        have h3 : List.takeWhile (fun x : UInt8 => decide (x ≠ 47)) l.reverse = l.reverse := h2.eq_of_length h
        have h4 := tw_iff.1 h3 47 (List.mem_reverse.2 hl)
        simp at h4
      · have : ¬ 47 ∈ c :: l := by
          intro h
          rcases List.mem_cons.1 h with h | h
          · exact hc h.symm
          · exact hl h
        rw [if_neg hl, if_neg this]
        simp
theorem lastP_eq (l : List UInt8) : lastP l = afterLast l := by
  unfold lastP
  rw [last_pc]
  split
  · rfl
  · rename_i h
    unfold afterLast
    have : l.reverse.takeWhile (fun x : UInt8 => decide (x ≠ 47)) = l.reverse := by
      rw [tw_iff]
      intro x hx
      have : x ≠ 47 := by rintro rfl; exact h (List.mem_reverse.1 hx)
      simpa using this
    rw [this, List.reverse_reverse]; rfl
/-- The rest from a place on, with the piece that has begun there. -/
def restP (l : List UInt8) (fr k : Nat) : List (List UInt8) := if k ≤ l.length then pc ((l.drop fr).take (k - fr)) (l.drop k) else []
theorem restP_start (l : List UInt8) : restP l 0 0 = pc [] l := by simp [restP]
theorem take_more {l : List UInt8} {fr k : Nat} (h : fr ≤ k) (hk : k < l.length) : (l.drop fr).take (k + 1 - fr) = (l.drop fr).take (k - fr) ++ [l[k]] := by
  rw [show k + 1 - fr = (k - fr) + 1 by omega, List.take_succ_eq_append_getElem (by rw [List.length_drop]; omega)]
  congr 2
  rw [List.getElem_drop]
  congr 1
  omega
theorem restP_go {l : List UInt8} {fr k : Nat} (h : fr ≤ k) (hk : k < l.length) (hc : l[k] ≠ 47) : restP l fr (k + 1) = restP l fr k := by
  unfold restP
  rw [if_pos (by omega), if_pos (by omega), take_more h hk, List.drop_eq_getElem_cons hk, pc, if_neg hc]
theorem restP_cut {l : List UInt8} {fr k : Nat} (hk : k < l.length) (hc : l[k] = 47) : restP l fr k = (l.drop fr).take (k - fr) :: restP l (k + 1) (k + 1) := by
  unfold restP
  rw [if_pos (by omega), if_pos (by omega), List.drop_eq_getElem_cons hk, pc, if_pos hc]
  simp
theorem restP_end {l : List UInt8} {fr : Nat} : restP l fr l.length = (l.drop fr).take (l.length - fr) :: restP l (l.length + 1) (l.length + 1) := by
  unfold restP
  rw [if_pos (Nat.le_refl _), if_neg (by omega), List.drop_length, pc]
def slashB (l : List UInt8) : Bool := lastP l == [] || lastP l == [46] || lastP l == [46, 46]
/-- Without slashes at the end. -/
def cutN (l : List UInt8) : List UInt8 := (l.reverse.dropWhile (· == 47)).reverse
def lastN (l : List UInt8) : List UInt8 := let t := lastP (cutN l); if t = [46] ∨ t = [46, 46] then [] else t
end Go.Proofs.Ytjblimclakfhfaa

namespace Go.Proofs.Ytjblimclakfhfaa
open Go.RowKit

theorem slice_to {P : Program} {t : TypeId} (ht : P.underlying t = some .string) (s : ByteArray) (j : Int) (b : Nat) (hj : j = b) (hb : b ≤ s.size) (r : ByteArray) (hr : s.extract 0 b = r) (w : World) :
    (Instr.slice t (.string s) none (some (.int .i64 j)) none).run P w = .ok (.string r) w := by
  subst hj; subst hr
  rw [run_slice_string_to_if (P := P) w t s .i64 (b : Int) ht, if_pos (by omega)]; simp
theorem slice_from {P : Program} {t : TypeId} (ht : P.underlying t = some .string) (s : ByteArray) (i : Int) (a : Nat) (hi : i = a) (ha : a ≤ s.size) (r : ByteArray) (hr : s.extract a s.size = r) (w : World) :
    (Instr.slice t (.string s) (some (.int .i64 i)) none none).run P w = .ok (.string r) w := by
  subst hi; subst hr
  rw [run_slice_string_from_if (P := P) w t s .i64 (a : Int) ht, if_pos (by omega)]; simp
theorem bs_to (l : List UInt8) (b : Nat) : (bs l).extract 0 b = bs (l.take b) := by rw [bs_extract]; simp
theorem bs_from (l : List UInt8) (a : Nat) : (bs l).extract a (bs l).size = bs (l.drop a) := by
  rw [bs_extract, bs_size, List.take_of_length_le (by rw [List.length_drop]; omega)]
theorem u8_eq {c d : UInt8} : ((c.toNat : Int) == (d.toNat : Int)) = (c == d) := by
  rw [Bool.eq_iff_iff, beq_iff_eq, beq_iff_eq]
  exact ⟨fun h => UInt8.toNat_inj.1 (by omega), fun h => by rw [h]⟩
end Go.Proofs.Ytjblimclakfhfaa

namespace Go.Proofs.Ytjblimclakfhfaa
open Go.ChangeShapes Go.WideShapes Go.ChangeAt Go.RowKit

theorem OwnT.base {w : World} {b b' : Nat} {v : Value} {l : List Txt} (h : OwnT w b v l) (hb : b' ≤ b) : OwnT w b' v l := by
  obtain ⟨h1, h2⟩ := h
  refine ⟨h1, ?_⟩
  rcases h2 with h2 | ⟨g, cap, cur, hv, hg, hr⟩
  · exact .inl h2
  · exact .inr ⟨g, cap, cur, hv, Nat.le_trans hb hg, hr⟩
def TxtR (w : World) (l : List Txt) (e : Ending) (w' : World) : Prop := ∃ v, e = .returned v ∧ OwnT w' w.heap.size v l ∧ Ext w w'
set_option maxRecDepth 100000 in
set_option maxHeartbeats 1000000 in
theorem pieces_any (l : List UInt8) (w : World) (hlen : l.length ≤ 2000000) : Calls Try.prog 89 #[.string (bs l)] w (TxtR w (pc [] l)) := by
  have hsz : ((bs l).size : Int) = l.length := by rw [bs_size]
  obtain ⟨i0, hi, hz0, hz1, hz2⟩ := info_parts infoStr
  go_enter Try.func89, Try.ntmps89
  go_wp2_with fail
  go_loopw [3, 4] (fun u i wr => ∃ k : Nat, k ≤ l.length ∧ i = .int .i64 k ∧ (∃ D cur, pc [] l = D ++ pc cur (l.drop k) ∧ D.length ≤ k ∧ cur.length ≤ k ∧ OwnT wr w.heap.size u (D ++ [cur])) ∧ Ext w wr) (fun _ i _ => l.length - (intOf i).toNat)
  case atStart =>
    refine ⟨0, Nat.zero_le _, rfl, ⟨[], [], by simp, by simp, by simp, ?_⟩, (Ext.refl _).alloc _⟩
    exact World.ownsRow_lit w #[.string (bs [])] 1 (Nat.le_refl _) (by decide) rfl
  case round =>
    obtain ⟨k, hk, rfl, ⟨D, cur, hd, hD, hcl0, hown⟩, hE⟩ := hrel
    by_cases hlt : (k : Int) < l.length
    · have hkl : k < l.length := by omega
      have hks : k < (bs l).size := by rw [bs_size]; exact hkl
      have hg : (bs l)[k] = l[k] := bs_get l k hks hkl
      obtain ⟨c, hc⟩ : ∃ c, c = l[k] := ⟨_, rfl⟩
      have hdk : l.drop k = c :: l.drop (k + 1) := by rw [hc]; exact List.drop_eq_getElem_cons hkl
      rw [hdk, pc] at hd
      rw [← hc] at hg
      have hx1 : (bs l).extract k (k + 1) = bs [c] := by rw [ext_one (bs l) k hks, hg]
      have hcb : (c.toNat : Int) < 256 := by have := c.toNat_lt; omega
      have HG := Lib.hid hg
      have HC := Lib.hid hc
      by_cases hs : c = 47
      · rw [if_pos hs] at hd
        have hs2 : (((bs l)[k].toNat : Int) == 47) = true := by rw [hg, hs]; rfl
        have HD := Lib.hid hd
        clear hs hd hdk hg hc hx1
        obtain ⟨M, hM⟩ : ∃ M, M = D ++ [cur] := ⟨_, rfl⟩
        rw [← hM] at hown
        have HM := Lib.hid hM
        have hMl : M.length ≤ k + 1 := by rw [hM]; simp; omega
        clear hM
        unfold OwnT at hown
        go_wp2_with (at_builtin; refine wpList_append_own _ rfl _ _ 25 rfl w.heap.size 9 i0 (.string ⟨#[]⟩) 1 16 Try.underlying25 hi hz0 hz1 hz2 rfl (by decide) _ _ _ rfl (hown.alloc _) ⟨wr.heap.size, 0, none⟩ 1 1 (txtCells [[]]) rfl rfl (txt_news wr []) (txtCells_one [[]]) (by unfold maxLen; omega) (by omega) (by have := hE.size; simp; omega) ?_)
        intro v' w2 hown2 hgrow _
        obtain ⟨ho2, hE2⟩ := txt_app hown hE hown2 hgrow
        clear hown2 hgrow
        have HO2 := Lib.hid ho2
        clear ho2
        go_wp2_with fail
        go_roundw
        case rel => exact ⟨k + 1, by omega, by go_num, ⟨M, [], by rw [HD.out, HM.out]; simp, by omega, by simp, HO2.out⟩, hE2⟩
        case measure => simp [intOf]; omega
      · rw [if_neg hs] at hd
        have hs2 : (((bs l)[k].toNat : Int) == 47) = false := by
          rw [hg, beq_eq_false_iff_ne]
          intro h
          exact hs (UInt8.toNat_inj.1 (by have : (47 : UInt8).toNat = 47 := rfl; omega))
        have HD := Lib.hid hd
        clear hs hd hdk hg hc
        unfold OwnT at hown
        obtain ⟨n, hn⟩ : ∃ n, n = D.length := ⟨_, rfl⟩
        have hl1 : (D ++ [cur]).length = n + 1 := by rw [hn]; simp
        rw [hl1] at hown
        obtain ⟨g, cap, rfl⟩ := ownsRow_succ hown
        have hcl : wr.cell? ⟨g, n, none⟩ = some (.string (bs cur)) := by
          rw [hown.cellAt n (by omega), txtCells_get (D ++ [cur]) n (by rw [hl1]; omega)]
          simp [hn]
        have hfr := hown.frozenAt n
        have hst := hown.stored n (.string (bs (cur ++ [c])))
        have hgl := (hown.lt g rfl).1
        have hst2 : Hid (OwnT (wr.setCell ⟨g, n, none⟩ (.string (bs (cur ++ [c])))) w.heap.size (.slice (some ⟨g, 0, none⟩) (n + 1) cap) (D ++ [cur ++ [c]]) ∧ Ext w (wr.setCell ⟨g, n, none⟩ (.string (bs (cur ++ [c]))))) := by
          refine ⟨?_, hE.setCell hgl _⟩
          have h := hst.1
          have e1 : (txtCells (D ++ [cur])).set n (.string (bs (cur ++ [c]))) = txtCells (D ++ [cur ++ [c]]) := by
            rw [hn]; simp [txtCells]
          rw [e1] at h
          unfold OwnT
          have e2 : (D ++ [cur ++ [c]]).length = n + 1 := by rw [hn]; simp
          rw [e2]
          exact h
        have z1 : (bs cur).size = cur.length := bs_size _
        have z2 : (bs [c]).size = 1 := bs_size _
        have hbig : ¬ 9223372036854775807 < cur.length + 1 := by omega
        have z3 : (bs (cur ++ [c])).size = cur.length + 1 := by rw [bs_size]; simp
        have hcat : bs cur ++ bs [c] = bs (cur ++ [c]) := bs_append _ _
        have hw1 : IntKind.i64.wrap (n : Int) = n := wrap_i64_in (by omega) (by omega)
        have hw2 : IntKind.i64.wrap ((k : Int) + 1) = k + 1 := wrap_i64_in (by omega) (by omega)
        have hn0 : (0 : Int) ≤ (n : Int) := Int.natCast_nonneg _
        have hk0 : (0 : Int) ≤ (k : Int) := Int.natCast_nonneg _
        have hk1 : ((k : Int) + 1).toNat = k + 1 := by omega
        have hk2 : k + 1 ≤ (bs l).size := hks
        have hsl := slice_str (P := Try.prog) Try.underlying9 (bs l) (k : Int) ((k : Int) + 1) k (k + 1) rfl (by omega) (by omega) hk2 (bs [c]) hx1
        have hnl : (n : Int) < (n : Int) + 1 := by omega
        have hneg : decide ((n : Int) < 0) = false := decide_eq_false (by omega)
        have hge : decide ((0 : Int) ≤ (n : Int)) = true := decide_eq_true (by omega)
        have HN := Lib.hid hn
        clear hst hown hl1 hn
        go_wp2_with fail
        go_still_tail 16, (by kernel_rfl)
        change wpList _ _ _ _ _ wr.drew
        go_wp2_with fail
        go_roundw
        case rel => exact ⟨k + 1, by omega, by go_num, ⟨D, cur ++ [c], HD.out, by omega, by simp; omega, hst2.out.1⟩, hst2.out.2.drew⟩
        case measure => simp [intOf]; omega
    · obtain rfl : k = l.length := by omega
      rw [List.drop_length, pc] at hd
      rw [← hd] at hown
      have HO := Lib.hid hown
      clear hown hd
      go_wp2_with fail
      go_ret
      exact ⟨_, rfl, HO.out, hE⟩

theorem pieces_cost (l : List UInt8) : (pc [] l).length ≤ l.length + 1 := pc_len l []
/-- A text is held against short ones. -/
theorem txt_tests {p : List UInt8} : ((bs p).toList == ([] : List UInt8)) = (p == []) ∧ ((bs p).toList == [46]) = (p == [46]) ∧ ((bs p).toList == [46, 46]) = (p == [46, 46]) ∧ (bs p).toList.isEmpty = (p == []) := by
  rw [bs_toList]
  refine ⟨rfl, rfl, rfl, ?_⟩
  cases p <;> rfl
set_option maxRecDepth 100000 in
set_option maxHeartbeats 1000000 in
theorem rparts_any (l : List UInt8) (w : World) (hlen : l.length ≤ 2000000) : Calls Try.prog 44 #[.string (bs l)] w (TxtR w (partsN l)) := by
  obtain ⟨i0, hi, hz0, hz1, hz2⟩ := info_parts infoStr
  obtain ⟨M, hM⟩ : ∃ M, M = pc [] l := ⟨_, rfl⟩
  have hMl := pieces_cost l
  have hP : Hid (partsN l = M.filter good) := by show _ = _; rw [hM]; rfl
  rw [← hM] at hMl
  have HM := Lib.hid hM
  clear hM
  go_enter Try.func44, Try.ntmps44
  go_wp2_with fail
  refine (pieces_any l _ hlen).mono ?_
  rintro e w1 ⟨v, rfl, hv, hE1⟩
  rw [← HM.out] at hv
  obtain ⟨A, cap, rfl, hle, hcm, hat, hAn⟩ := hv.at_
  clear hv
  go_wp2_with fail
  go_loopw [3, 5] (fun u i wr => ∃ k : Nat, k ≤ M.length ∧ i = .int .i64 k ∧ OwnT wr w1.heap.size u ((M.take k).filter good) ∧ Ext w1 wr) (fun _ i _ => M.length - (intOf i).toNat)
  case atStart =>
    refine ⟨0, Nat.zero_le _, rfl, ?_, Ext.refl _⟩
    exact World.ownsRow_nil _ _ _ _
  case round =>
    obtain ⟨k, hk, rfl, hown, hE⟩ := hrel
    by_cases hlt : (k : Int) < M.length
    · have hkl : k < M.length := by omega
      obtain ⟨b, o, rfl, hb, hcl⟩ := hat.at_ hE k hkl
      have htk : Hid (M.take (k + 1) = M.take k ++ [M[k]]) := List.take_succ_eq_append_getElem hkl
      obtain ⟨p, hp⟩ : ∃ p, p = M[k] := ⟨_, rfl⟩
      rw [← hp] at hcl htk
      obtain ⟨t0, t1, _, t3⟩ := txt_tests (p := p)
      obtain ⟨X, hX⟩ : ∃ X, X = bs p := ⟨_, rfl⟩
      rw [← hX] at hcl t0 t1 t3
      have HX := Lib.hid hX
      have hgl : Hid (good p = (!(p == []) && !(p == [46]))) := rfl
      clear hp hX
      cases h0 : (p == []) with
      | true =>
        rw [h0] at t0 t3
        have hn : Hid ((M.take (k + 1)).filter good = (M.take k).filter good) := by
          show _ = _
          rw [htk.out, List.filter_append, List.filter_cons, if_neg (by rw [hgl.out, h0]; simp)]; simp
        clear h0 t1
        have HO := Lib.hid hown
        clear hown
        go_wp2_with fail
        go_roundw
        case rel => exact ⟨k + 1, by omega, by go_num, by rw [hn.out]; exact HO.out, hE⟩
        case measure => simp [intOf]; omega
      | false =>
        cases h1 : (p == [46]) with
        | true =>
          rw [h0] at t0 t3
          rw [h1] at t1
          have hn : Hid ((M.take (k + 1)).filter good = (M.take k).filter good) := by
            show _ = _
            rw [htk.out, List.filter_append, List.filter_cons, if_neg (by rw [hgl.out, h0, h1]; simp)]; simp
          clear h0 h1
          have HO := Lib.hid hown
          clear hown
          go_wp2_with fail
          go_roundw
          case rel => exact ⟨k + 1, by omega, by go_num, by rw [hn.out]; exact HO.out, hE⟩
          case measure => simp [intOf]; omega
        | false =>
          rw [h0] at t0 t3
          rw [h1] at t1
          have hn : Hid ((M.take (k + 1)).filter good = (M.take k).filter good ++ [p]) := by
            show _ = _
            rw [htk.out, List.filter_append, List.filter_cons, if_pos (by rw [hgl.out, h0, h1]; rfl)]; simp
          have hfl : ((M.take k).filter good).length ≤ k := Nat.le_trans (List.length_filter_le _ _) (by rw [List.length_take]; omega)
          obtain ⟨Q, hQ⟩ : ∃ Q, Q = (M.take k).filter good := ⟨_, rfl⟩
          rw [← hQ] at hown hfl hn
          clear h0 h1 hQ
          unfold OwnT at hown
          have hnew : ∀ j u, (txtCells [p])[j]? = some u → (wr.alloc (.cells #[.string X] 9)).cell? ((⟨wr.heap.size, 0, none⟩ : Addr).add j) = some u := by rw [HX.out]; exact txt_news wr p
          go_wp2_with (at_builtin; refine wpList_append_own _ rfl _ _ 25 rfl w1.heap.size 9 i0 (.string ⟨#[]⟩) 1 16 Try.underlying25 hi hz0 hz1 hz2 rfl (by decide) _ _ _ rfl (hown.alloc _) ⟨wr.heap.size, 0, none⟩ 1 1 (txtCells [p]) rfl rfl hnew (txtCells_one [p]) (by unfold maxLen; omega) (by omega) (by have := hE.size; simp; omega) ?_)
          intro v' w2 hown2 hgrow _
          obtain ⟨ho2, hE2⟩ := txt_app hown hE hown2 hgrow
          clear hown2 hgrow hnew
          have HO2 := Lib.hid ho2
          clear ho2 hown
          go_wp2_with fail
          go_roundw
          case rel => exact ⟨k + 1, by omega, by go_num, by rw [hn.out]; exact HO2.out, hE2⟩
          case measure => simp [intOf]; omega
    · obtain rfl : k = M.length := by omega
      rw [List.take_length, ← hP.out] at hown
      have HO := Lib.hid hown
      clear hown
      go_wp2_with fail
      go_ret
      exact ⟨_, rfl, OwnT.base HO.out hE1.size, hE1.trans hE⟩
/-- The last piece, in a row. -/
theorem last_in {l : List UInt8} {w : World} {A : Option Addr} (h : TxtAt w A (pc [] l)) : ∃ n b o, (pc [] l).length = n + 1 ∧ A = some ⟨b, o, none⟩ ∧ w.cell? ⟨b, o + n, none⟩ = some (.string (bs (lastP l))) := by
  obtain ⟨n, hn⟩ : ∃ n, (pc [] l).length = n + 1 := Nat.exists_eq_succ_of_ne_zero (fun e => pc_ne l [] (List.eq_nil_of_length_eq_zero e))
  obtain ⟨b, o, hA, _, hc⟩ := h.at_ (Ext.refl _) n (by omega)
  refine ⟨n, b, o, hn, hA, ?_⟩
  rw [hc]
  congr 3
  unfold lastP
  have e : (pc [] l).length - 1 = n := by omega
  rw [List.getLastD_eq_getLast?, List.getLast?_eq_getElem?, e, List.getElem?_eq_getElem (by omega)]; rfl
set_option maxRecDepth 100000 in
set_option maxHeartbeats 1000000 in
theorem rslash_any (l : List UInt8) (w : World) (hlen : l.length ≤ 2000000) : Calls Try.prog 45 #[.string (bs l)] w (Ret w (.bool (slashB l))) := by
  have hMl := pieces_cost l
  have hS : Hid (slashB l = (lastP l == [] || lastP l == [46] || lastP l == [46, 46])) := rfl
  obtain ⟨t0, t1, t2, t3⟩ := txt_tests (p := lastP l)
  obtain ⟨X, hX⟩ : ∃ X, X = bs (lastP l) := ⟨_, rfl⟩
  rw [← hX] at t0 t1 t2 t3
  have HX := Lib.hid hX
  clear hX
  obtain ⟨B0, hB0⟩ : ∃ B0, B0 = (lastP l == []) := ⟨_, rfl⟩
  obtain ⟨B1, hB1⟩ : ∃ B1, B1 = (lastP l == [46]) := ⟨_, rfl⟩
  obtain ⟨B2, hB2⟩ : ∃ B2, B2 = (lastP l == [46, 46]) := ⟨_, rfl⟩
  rw [← hB0, ← hB1, ← hB2] at hS
  rw [← hB0] at t0 t3
  rw [← hB1] at t1
  rw [← hB2] at t2
  clear hB0 hB1 hB2
  go_enter Try.func45, Try.ntmps45
  go_wp2_with fail
  refine (pieces_any l _ hlen).mono ?_
  rintro e w1 ⟨v, rfl, hv, hE1⟩
  obtain ⟨A, cap, rfl, hle, hcm, hat, hAn⟩ := hv.at_
  obtain ⟨n, b, o, hn, rfl, hcl⟩ := last_in hat
  rw [← HX.out] at hcl
  rw [hn] at hle hMl ⊢
  clear hv hat hAn hn
  have hw1 : IntKind.i64.wrap (n : Int) = n := wrap_i64_in (by omega) (by omega)
  have hn0 : (0 : Int) ≤ (n : Int) := Int.natCast_nonneg _
  have hnl : (n : Int) < (n : Int) + 1 := by omega
  cases B0 <;> cases B1 <;> cases B2
  all_goals
    go_wp2_with fail
    go_ret
    exact Ret.mk (ret_bool (by rw [hS.out]; rfl)) hE1
def strOf : Value → ByteArray
  | .string s => s
  | _ => ⟨#[]⟩
theorem cutN_snoc (l : List UInt8) : cutN (l ++ [47]) = cutN l := by
  unfold cutN
  rw [List.reverse_append]; simp
theorem cutN_stop {l : List UInt8} {c : UInt8} (h : c ≠ 47) : cutN (l ++ [c]) = l ++ [c] := by
  unfold cutN
  rw [List.reverse_append]
  have : (c == 47) = false := beq_eq_false_iff_ne.2 h
  simp [this]
theorem snoc_cases (l : List UInt8) : l = [] ∨ ∃ a c, l = a ++ [c] := by
  rcases List.eq_nil_or_concat l with h | ⟨a, c, h⟩
  · exact .inl h
  · exact .inr ⟨a, c, by rw [h, List.concat_eq_append]⟩

theorem lastN_cut {m l : List UInt8} (h : cutN m = m) (hc : cutN m = cutN l) : bs (lastN l) = bif lastP m == [46] || lastP m == [46, 46] then ⟨#[]⟩ else bs (lastP m) := by
  unfold lastN
  rw [← hc, h]
  by_cases h1 : lastP m = [46]
  · rw [h1]; rfl
  · by_cases h2 : lastP m = [46, 46]
    · rw [h2]; rfl
    · have e1 : (lastP m == [46]) = false := beq_eq_false_iff_ne.2 h1
      have e2 : (lastP m == [46, 46]) = false := beq_eq_false_iff_ne.2 h2
      rw [e1, e2]
      simp [h1, h2]
def pathN (l : List UInt8) : Int := if l = [] then 5 else if l.head? ≠ some 47 ∨ hasB l 0 = true then 1 else if 4096 < l.length then 13 else 0
theorem pathN_no {l : List UInt8} (h0 : ¬ l = []) : pathN l = if l.head? ≠ some 47 ∨ hasB l 0 = true then 1 else if 4096 < l.length then 13 else 0 := by
  unfold pathN; rw [if_neg h0]
set_option maxRecDepth 100000 in
set_option maxHeartbeats 1000000 in
theorem rpath_any (l : List UInt8) (w : World) (hlen : l.length ≤ 1000000) : Calls Try.prog 43 #[.string (bs l)] w (Ret w (.int .i64 (pathN l))) := by
  have z0 : (bs l).size = l.length := bs_size l
  have hb : Hid ((bs l).data.toList = l) := bs_list l
  have hs : (bs l).size ≤ 1000000 := by omega
  cases l with
  | nil =>
    have e : (bs []).toList = [] := bs_toList []
    go_enter Try.func43, Try.ntmps43
    go_wp2_with fail
    go_ret
    exact Ret.mk rfl (Ext.refl _)
  | cons c t =>
    have hp := pathN_no (l := c :: t) (by simp)
    have e0 : (bs (c :: t)).toList.isEmpty = false := by rw [bs_toList]; rfl
    have hks : 0 < (bs (c :: t)).size := by rw [bs_size]; simp
    have hg : (bs (c :: t))[0] = c := rfl
    by_cases hc : c = 47
    · have hs2 : (((bs (c :: t))[0].toNat : Int) != 47) = false := by rw [hg, hc]; rfl
      cases hz : hasB (c :: t) 0 with
      | true =>
        have hf : Hid (pathN (c :: t) = 1) := by show _ = _; rw [hp, if_pos (.inr hz)]
        have HZ := Lib.hid hz
        obtain ⟨X, hX⟩ : ∃ X, X = bs (c :: t) := ⟨_, rfl⟩
        clear hp hg hc hz
        go_enter Try.func43, Try.ntmps43
        go_wp2_with fail
        refine (rhas_any _ 0 _ (by rfl) hs _).mono ?_
        rintro e w1 ⟨rfl, b1⟩
        rw [hb.out, HZ.out]
        go_wp2_with fail
        go_ret
        exact Ret.mk (ret_int (by rw [hf.out])) b1
      | false =>
        have HZ := Lib.hid hz
        have hf : Hid (pathN (c :: t) = if 4096 < t.length + 1 then 13 else 0) := by
          show _ = _
          rw [hp, if_neg (by rw [hz, hc]; simp)]; rfl
        by_cases h : 4096 < t.length + 1
        · rw [if_pos h] at hf
          clear hp hg hc hz
          go_enter Try.func43, Try.ntmps43
          go_wp2_with fail
          refine (rhas_any _ 0 _ (by rfl) hs _).mono ?_
          rintro e w1 ⟨rfl, b1⟩
          rw [hb.out, HZ.out]
          go_wp2_with fail
          go_ret
          exact Ret.mk (ret_int (by rw [hf.out])) b1
        · rw [if_neg h] at hf
          clear hp hg hc hz
          go_enter Try.func43, Try.ntmps43
          go_wp2_with fail
          refine (rhas_any _ 0 _ (by rfl) hs _).mono ?_
          rintro e w1 ⟨rfl, b1⟩
          rw [hb.out, HZ.out]
          go_wp2_with fail
          go_ret
          exact Ret.mk (ret_int (by rw [hf.out])) b1
    · have hs2 : (((bs (c :: t))[0].toNat : Int) != 47) = true := by
        have := (u8_eq (c := c) (d := 47)).trans (beq_eq_false_iff_ne.2 hc)
        rw [hg, bne, show ((c.toNat : Int) == 47) = false from this]; rfl
      have hf : Hid (pathN (c :: t) = 1) := by show _ = _; rw [hp, if_pos (.inl (by simpa using hc))]
      clear hp hg hc
      go_enter Try.func43, Try.ntmps43
      go_wp2_with fail
      go_ret
      exact Ret.mk (ret_int (by rw [hf.out])) (Ext.refl _)
end Go.Proofs.Ytjblimclakfhfaa

namespace Go.Proofs.Ytjblimclakfhfaa
open Go.ChangeShapes Go.WideShapes Go.ChangeAt Go.RowKit

noncomputable def lastI (l : List UInt8) : Int := Lib.lastIndexByte (bs l) 47
theorem bs_bang (l : List UInt8) (j : Nat) (h : j < l.length) : (bs l).data[j]! = l[j] := by
  simp [bs, h]
theorem lastI_cases (l : List UInt8) : (lastI l = -1 ∧ 47 ∉ l) ∨ ∃ i : Nat, i < l.length ∧ lastI l = i ∧ l[i]? = some 47 ∧ 47 ∉ l.drop (i + 1) := by
  rcases Lib.lastIndexByte_spec (bs l) 47 with ⟨h1, h2⟩ | ⟨i, hi, h1, h2, h3⟩
  · refine .inl ⟨h1, fun hm => ?_⟩
    obtain ⟨j, hj, hx⟩ := List.mem_iff_getElem.1 hm
    have := h2 j (by rw [bs_size]; exact hj)
    rw [bs_bang l j hj, hx] at this
    exact this rfl
  · rw [bs_size] at hi
    refine .inr ⟨i, hi, h1, ?_, fun hm => ?_⟩
    · rw [bs_bang l i hi] at h2
      rw [List.getElem?_eq_getElem hi, Option.some.injEq]
      exact UInt8.toNat_inj.1 (by have : (47 : UInt8).toNat = 47 := rfl; omega)
    · obtain ⟨j, hj, hx⟩ := List.mem_iff_getElem.1 hm
      rw [List.length_drop] at hj
      have := h3 (i + 1 + j) (by omega) (by rw [bs_size]; omega)
      rw [bs_bang l _ (by omega)] at this
      rw [List.getElem_drop] at hx
      rw [hx] at this
      exact this rfl
theorem afterLast_app (a b : List UInt8) (h : 47 ∉ b) : afterLast (a ++ 47 :: b) = b := by
  unfold afterLast
  have h1 : b.reverse.takeWhile (fun x : UInt8 => decide (x ≠ 47)) = b.reverse := by
    rw [tw_iff]
    intro x hx
    have : x ≠ 47 := by rintro rfl; exact h (List.mem_reverse.1 hx)
    simpa using this
  rw [List.reverse_append, List.reverse_cons, List.append_assoc, List.takeWhile_append, h1, if_pos rfl, List.singleton_append, List.takeWhile_cons, if_neg (by decide)]
  simp
theorem afterLast_all (b : List UInt8) (h : 47 ∉ b) : afterLast b = b := by
  unfold afterLast
  have h1 : b.reverse.takeWhile (fun x : UInt8 => decide (x ≠ 47)) = b.reverse := by
    rw [tw_iff]
    intro x hx
    have : x ≠ 47 := by rintro rfl; exact h (List.mem_reverse.1 hx)
    simpa using this
  rw [h1, List.reverse_reverse]
theorem split_here {l : List UInt8} {k : Nat} (hk : l[k]? = some 47) : l = l.take k ++ 47 :: l.drop (k + 1) := by
  have h : k < l.length := by
    rcases Nat.lt_or_ge k l.length with h | h
    · exact h
    · rw [List.getElem?_eq_none h] at hk; cases hk
  have h2 : l[k] = 47 := by rw [List.getElem?_eq_getElem h] at hk; exact Option.some.inj hk
  have h3 := List.drop_eq_getElem_cons h
  rw [h2] at h3
  rw [← h3, List.take_append_drop]
theorem tail_plain (l : List UInt8) : ∃ k : Nat, k ≤ l.length ∧ lastI l = (k : Int) - 1 ∧ l.drop k = lastP l := by
  rw [lastP_eq]
  rcases lastI_cases l with ⟨h1, h2⟩ | ⟨i, hi, h1, h2, h3⟩
  · exact ⟨0, Nat.zero_le _, by omega, by rw [afterLast_all l h2]; rfl⟩
  · refine ⟨i + 1, hi, by omega, ?_⟩
    have h4 := split_here h2
    have h5 := afterLast_app (l.take i) (l.drop (i + 1)) h3
    rw [← h4] at h5
    exact h5.symm
set_option maxRecDepth 100000 in
set_option maxHeartbeats 1000000 in
theorem ptail_any (l : List UInt8) (w : World) (hlen : l.length ≤ 2000000) : Calls Try.prog 85 #[.string (bs l)] w (Ret w (.string (bs (lastP l)))) := by
  obtain ⟨k, hk, hi, hd⟩ := tail_plain l
  have z0 : (bs l).size = l.length := bs_size l
  have hsl := slice_from (P := Try.prog) Try.underlying9 (bs l) (k : Int) k rfl (by omega) (bs (lastP l)) (by rw [bs_from, hd])
  have hw : IntKind.i64.wrap (k : Int) = k := wrap_i64_in (by omega) (by omega)
  obtain ⟨T, hT⟩ : ∃ T, T = bs (lastP l) := ⟨_, rfl⟩
  rw [← hT] at hsl ⊢
  have HI : Hid (Lib.lastIndexByte (bs l) 47 = (k : Int) - 1) := hi
  clear hi hd hT
  go_enter Try.func85, Try.ntmps85
  go_wp2_with fail
  refine (Try.strings_LastIndexByte _ 47 (by omega) _).mono ?_
  rintro e w1 ⟨rfl, rfl⟩
  rw [HI.out]
  go_wp2_with fail
  go_ret
  exact Ret.mk rfl (Ext.refl _)
set_option maxRecDepth 100000 in
set_option maxHeartbeats 1000000 in
theorem pslash_any (l : List UInt8) (w : World) (hlen : l.length ≤ 2000000) : Calls Try.prog 40 #[.string (bs l)] w (Ret w (.bool (slashB l))) := by
  have hS : Hid (slashB l = (lastP l == [] || lastP l == [46] || lastP l == [46, 46])) := rfl
  obtain ⟨t0, t1, t2, t3⟩ := txt_tests (p := lastP l)
  obtain ⟨X, hX⟩ : ∃ X, X = bs (lastP l) := ⟨_, rfl⟩
  rw [← hX] at t0 t1 t2 t3
  have HX := Lib.hid hX
  clear hX
  obtain ⟨B0, hB0⟩ : ∃ B0, B0 = (lastP l == []) := ⟨_, rfl⟩
  obtain ⟨B1, hB1⟩ : ∃ B1, B1 = (lastP l == [46]) := ⟨_, rfl⟩
  obtain ⟨B2, hB2⟩ : ∃ B2, B2 = (lastP l == [46, 46]) := ⟨_, rfl⟩
  rw [← hB0, ← hB1, ← hB2] at hS
  rw [← hB0] at t0 t3
  rw [← hB1] at t1
  rw [← hB2] at t2
  clear hB0 hB1 hB2
  go_enter Try.func40, Try.ntmps40
  go_wp2_with fail
  refine (ptail_any l _ hlen).mono ?_
  rintro e w1 ⟨rfl, hE1⟩
  rw [← HX.out]
  cases B0 <;> cases B1 <;> cases B2
  all_goals
    go_wp2_with fail
    go_ret
    exact Ret.mk (ret_bool (by rw [hS.out]; rfl)) hE1
theorem cutN_len (l : List UInt8) : (cutN l).length ≤ l.length := by
  unfold cutN
  rw [List.length_reverse]
  have := (List.dropWhile_sublist (fun x : UInt8 => x == 47) (l := l.reverse)).length_le
  simpa using this
theorem cutN_cut (l : List UInt8) : cutN (cutN l) = cutN l := by
  rcases snoc_cases (cutN l) with h | ⟨a, c, h⟩
  · rw [h]; rfl
  · by_cases hc : c = 47
    · exfalso
      have h2 : (cutN l).reverse = 47 :: a.reverse := by rw [h, hc]; simp
      unfold cutN at h2
      rw [List.reverse_reverse] at h2
      have h3 := List.head?_dropWhile_not (fun x : UInt8 => x == 47) l.reverse
      rw [h2] at h3
      simp at h3
    · rw [h]; exact cutN_stop hc
set_option maxRecDepth 100000 in
set_option maxHeartbeats 1000000 in
theorem ppath_any (l : List UInt8) (w : World) (hlen : l.length ≤ 1000000) : Calls Try.prog 37 #[.string (bs l)] w (Ret w (.int .i64 (pathN l))) := by
  have z0 : (bs l).size = l.length := bs_size l
  have hb : Hid ((bs l).data.toList = l) := bs_list l
  have hs : (bs l).size ≤ 1000000 := by omega
  cases l with
  | nil =>
    have e : (bs []).toList = [] := bs_toList []
    go_enter Try.func37, Try.ntmps37
    go_wp2_with fail
    go_ret
    exact Ret.mk rfl (Ext.refl _)
  | cons c t =>
    have hp := pathN_no (l := c :: t) (by simp)
    have e0 : (bs (c :: t)).toList.isEmpty = false := by rw [bs_toList]; rfl
    have hks : 0 < (bs (c :: t)).size := by rw [bs_size]; simp
    have hg : (bs (c :: t))[0] = c := rfl
    by_cases hc : c = 47
    · have hs2 : (((bs (c :: t))[0].toNat : Int) != 47) = false := by rw [hg, hc]; rfl
      cases hz : hasB (c :: t) 0 with
      | true =>
        have hf : Hid (pathN (c :: t) = 1) := by show _ = _; rw [hp, if_pos (.inr hz)]
        have HZ := Lib.hid hz
        obtain ⟨X, hX⟩ : ∃ X, X = bs (c :: t) := ⟨_, rfl⟩
        clear hp hg hc hz
        go_enter Try.func37, Try.ntmps37
        go_wp2_with fail
        refine (Try.strings_Contains_one _ 0 _).mono ?_
        rintro e w1 ⟨rfl, rfl⟩
        rw [hb.out, hasB_index, HZ.out]
        go_wp2_with fail
        go_ret
        exact Ret.mk (ret_int (by rw [hf.out])) (Ext.refl _)
      | false =>
        have HZ := Lib.hid hz
        have hf : Hid (pathN (c :: t) = if 4096 < t.length + 1 then 13 else 0) := by
          show _ = _
          rw [hp, if_neg (by rw [hz, hc]; simp)]; rfl
        by_cases h : 4096 < t.length + 1
        · rw [if_pos h] at hf
          clear hp hg hc hz
          go_enter Try.func37, Try.ntmps37
          go_wp2_with fail
          refine (Try.strings_Contains_one _ 0 _).mono ?_
          rintro e w1 ⟨rfl, rfl⟩
          rw [hb.out, hasB_index, HZ.out]
          go_wp2_with fail
          go_ret
          exact Ret.mk (ret_int (by rw [hf.out])) (Ext.refl _)
        · rw [if_neg h] at hf
          clear hp hg hc hz
          go_enter Try.func37, Try.ntmps37
          go_wp2_with fail
          refine (Try.strings_Contains_one _ 0 _).mono ?_
          rintro e w1 ⟨rfl, rfl⟩
          rw [hb.out, hasB_index, HZ.out]
          go_wp2_with fail
          go_ret
          exact Ret.mk (ret_int (by rw [hf.out])) (Ext.refl _)
    · have hs2 : (((bs (c :: t))[0].toNat : Int) != 47) = true := by
        have := (u8_eq (c := c) (d := 47)).trans (beq_eq_false_iff_ne.2 hc)
        rw [hg, bne, show ((c.toNat : Int) == 47) = false from this]; rfl
      have hf : Hid (pathN (c :: t) = 1) := by show _ = _; rw [hp, if_pos (.inl (by simpa using hc))]
      clear hp hg hc
      go_enter Try.func37, Try.ntmps37
      go_wp2_with fail
      go_ret
      exact Ret.mk (ret_int (by rw [hf.out])) (Ext.refl _)
end Go.Proofs.Ytjblimclakfhfaa

namespace Go.Proofs.Ytjblimclakfhfaa
open Go

section
variable {F : Fence} {n : Nat} {P : Program} {Q : Exit → Act → World → Prop} {a : Act} {w : World} {b : Frame} {k : List Item} {cs : List Frame}
theorem stepR_scope {c : Code} : step P (lone (b.atR a (.code (.scope c) :: k)) cs w) = .next (lone (b.atR a (.code c :: .inScope c :: k)) cs w) :=
  step_lone_go (by simp [stepG, stepG.exec, Frame.atR])
theorem stepR_inScope {c : Code} : step P (lone (b.atR a (.inScope c :: k)) cs w) = .next (lone (b.atR a k) cs w) :=
  step_lone_go (by simp [stepG, stepG.exec, Frame.atR])
theorem wpIn_scope_straight {c : Code} (h : c.wpIn F n P (Exit.noGoto Q) a w) : (Code.scope c).wpIn F n P Q a w := by
  intro b k cs hro hb hr
  have h0 : (lone (b.atR a (.code (.scope c) :: k)) cs w).fenced P F := fenced_calm hb hr rfl
  obtain ⟨e, a₁, w₁, hq, harr⟩ := h b (.inScope c :: k) cs hro hb hr
  cases e with
  | normal => exact ⟨.normal, a₁, w₁, hq, .head h0 stepR_scope (StepsIn.trans harr (.one (fenced_calm hb hr rfl) stepR_inScope))⟩
  | exit id =>
    have hx : exitTo id (.inScope c :: k) = exitTo id k := by simp [exitTo]
    exact ⟨.exit id, a₁, w₁, hq, fun k' hk => .head h0 stepR_scope (harr.1 k' (by rw [hx]; exact hk)),
      fun hr' hk => let ⟨k₁, h1, h2⟩ := harr.2 hr' (by rw [hx]; exact hk); ⟨k₁, h1, .head h0 stepR_scope h2⟩⟩
  | goto l => exact hq.elim
  | ret => exact ⟨_, a₁, w₁, hq, .of_steps (.one h0 stepR_scope) harr⟩
  | panic ch => exact ⟨_, a₁, w₁, hq, .of_steps (.one h0 stepR_scope) harr⟩
  | outgrown => exact ⟨_, a₁, w₁, hq, .of_steps (.one h0 stepR_scope) harr⟩
end
end Go.Proofs.Ytjblimclakfhfaa

namespace Go.Proofs.Ytjblimclakfhfaa
open Go.ChangeShapes Go.WideShapes Go.ChangeAt Go.RowKit Go.Shelf
attribute [local go_sem] Oper.semAt_some

abbrev encP (x : Txt) : Array Value := #[.string (bs x)]
theorem restP_none (l : List UInt8) (fr k : Nat) (h : l.length < k) : restP l fr k = [] := by unfold restP; rw [if_neg (by omega)]
set_option maxRecDepth 100000 in
set_option maxHeartbeats 4000000 in
theorem parts1_in (F : Fence) (n : Nat) (hf : F.fn 84) (hro : F.round = none) (hn : 1 ≤ n) (lb Bs : Nat) (l : List UInt8) (hlen : l.length ≤ 2000000) (J Jx : List Txt → World → Prop) (Kp : World → World → Prop) (R : World → Prop)
    (hK : ∀ {A B : World}, Kp A B → R A → R B) (hRc : ∀ {A : World}, R A → A.cell? ⟨Bs, 0, none⟩ = some (.string (bs l))) (W : World)
    (hY : ∀ pre x W, J pre W → pre.length < (partsN l).length → YieldAt F (n - 1) Try.prog lb (encP x) W fun e W' =>
      (e = .returned (.bool true) ∧ J (pre ++ [x]) W' ∧ Kp W W') ∨ (e = .returned (.bool false) ∧ Jx (pre ++ [x]) W'))
    (hBs : R W) (h0 : J [] W) :
    CallsIn F n Try.prog 84 #[.func (.yield lb) #[] #[], .pointer (some ⟨Bs, 0, none⟩)] W fun e W' => (∃ v, e = .returned v) ∧
      ((∃ ys, ys = partsN l ∧ J ys W') ∨ (∃ pre, pre <+: partsN l ∧ Jx pre W')) := by
  have hsz : ((bs l).size : Int) = l.length := by rw [bs_size]
  refine callsIn_of_wp Try.func84 rfl hf ?_ hro
  simp only [Try.ntmps84, List.size_toArray, List.length_cons, List.length_nil, Nat.reduceAdd, Nat.reduceSub, Array.replicate_succ, Array.replicate_zero, List.push_toArray, List.append_toArray, List.nil_append, List.cons_append]
  gi_wp2
  refine wpIn_scope_straight ?_
  gi_wp2
  refine wpIn_label ?_
  gi_wp2
  gi_loopw [3, 4] (fun f a wr => ∃ fr k : Nat, fr ≤ k ∧ k ≤ l.length + 1 ∧ f = .int .i64 fr ∧ a = .int .i64 k ∧ ∃ pre, pre ++ (restP l fr k).filter good = partsN l ∧ J pre wr ∧ R wr) (fun _ a _ => l.length + 1 - (intOf a).toNat)
  case atStart => exact ⟨0, 0, Nat.le_refl _, Nat.zero_le _, rfl, rfl, [], by rw [restP_start]; rfl, h0, hBs⟩
  case round =>
    obtain ⟨fr, k, hfk, hk, rfl, rfl, pre, hpre, hJ, hR0⟩ := hrel
    have hc := hRc hR0
    by_cases hle : (k : Int) ≤ l.length
    · have hk0 : (0 : Int) ≤ (k : Int) := Int.natCast_nonneg _
      obtain ⟨p, hp⟩ : ∃ p, p = (l.drop fr).take (k - fr) := ⟨_, rfl⟩
      by_cases hlt : (k : Int) < l.length
      · have hkl : k < l.length := by omega
        have hks : k < (bs l).size := by rw [bs_size]; exact hkl
        have hg : (bs l)[k] = l[k] := bs_get l k hks hkl
        by_cases hs : l[k] = 47
        · have hs2 : (((bs l)[k].toNat : Int) != 47) = false := by rw [hg, hs]; rfl
          have hr0 := restP_cut (fr := fr) hkl hs
          rw [← hp] at hr0
          clear hg hs
          have hr : restP l fr k = p :: restP l (k + 1) (k + 1) := hr0
          rw [hr, List.filter_cons] at hpre
          have hk1 : IntKind.i64.wrap ((k : Int) + 1) = k + 1 := wrap_i64_in (by omega) (by omega)
          have hsl := slice_str (P := Try.prog) Try.underlying9 (bs l) (fr : Int) (k : Int) fr k rfl rfl hfk (by omega) (bs p) (by rw [bs_extract, hp])
          obtain ⟨t0, t1, _, t3⟩ := txt_tests (p := p)
          obtain ⟨X, hX⟩ : ∃ X, X = bs p := ⟨_, rfl⟩
          rw [← hX] at hsl t0 t1 t3
          have HX := Lib.hid hX
          clear hX hp hr
          cases h0 : (p == []) with
          | true =>
            rw [h0] at t0 t3
            rw [if_neg (by unfold good; rw [h0]; simp)] at hpre
            have HP := Lib.hid hpre
            clear h0 t1 hpre
            gi_wp2
            go_roundw
            case rel => exact ⟨k + 1, k + 1, Nat.le_refl _, by omega, by go_num, by go_num, pre, HP.out, hJ, hR0⟩
            case measure => simp [intOf]; omega
          | false =>
            cases h1 : (p == [46]) with
            | true =>
              rw [h0] at t0 t3
              rw [h1] at t1
              rw [if_neg (by unfold good; rw [h0, h1]; simp)] at hpre
              have HP := Lib.hid hpre
              clear h0 h1 hpre
              gi_wp2
              go_roundw
              case rel => exact ⟨k + 1, k + 1, Nat.le_refl _, by omega, by go_num, by go_num, pre, HP.out, hJ, hR0⟩
              case measure => simp [intOf]; omega
            | false =>
              rw [h0] at t0 t3
              rw [h1] at t1
              rw [if_pos (by unfold good; rw [h0, h1]; rfl)] at hpre
              have hl1 : pre.length < (partsN l).length := by rw [← hpre]; simp
              obtain ⟨fn, tmps, assign, body, hy, hR⟩ := hY pre p wr hJ hl1
              try dsimp only [encP] at hy
              have HP := Lib.hid hpre
              rw [← HX.out] at hy
              clear h0 h1 hpre hl1
              gi_wp2
              refine hR.mono ?_
              rintro e W3 (⟨rfl, hJ3, hk3⟩ | ⟨rfl, hJx3⟩)
              · gi_wp2
                go_roundw
                case rel => exact ⟨k + 1, k + 1, Nat.le_refl _, by omega, by go_num, by go_num, pre ++ [p], by rw [← HP.out]; simp, hJ3, hK hk3 hR0⟩
                case measure => simp [intOf]; omega
              · gi_wp2
                simp only [Exit.noGoto]
                gi_wp2
                refine bodyPost_ret (results_none rfl _ _ _) rfl ?_
                exact ⟨⟨_, rfl⟩, .inr ⟨_, by rw [← HP.out]; exact ⟨_, by rw [List.append_assoc]; rfl⟩, hJx3⟩⟩
        · have hs2 : (((bs l)[k].toNat : Int) != 47) = true := by
            have := (u8_eq (c := l[k]) (d := 47)).trans (beq_eq_false_iff_ne.2 hs)
            have hg2 : ((bs l)[k].toNat : Int) = (l[k].toNat : Int) := congrArg (fun c : UInt8 => (c.toNat : Int)) hg
            exact (congrArg (fun x : Int => x != 47) hg2).trans (by show (!((l[k].toNat : Int) == 47)) = true; exact congrArg (fun b => !b) this)
          have hr0 := restP_go hfk hkl hs
          rw [← hr0] at hpre
          have HP := Lib.hid hpre
          clear hg hs hr0 hpre hp
          gi_wp2
          go_roundw
          case rel => exact ⟨fr, k + 1, by omega, by omega, by go_num, by go_num, pre, HP.out, hJ, hR0⟩
          case measure => simp [intOf]; omega
      · have hr0 : restP l fr k = p :: restP l (k + 1) (k + 1) := by
          have hkl : k = l.length := by omega
          rw [hp, hkl]; exact restP_end
        have hr : restP l fr k = p :: restP l (k + 1) (k + 1) := hr0
        rw [hr, List.filter_cons] at hpre
        have hk1 : IntKind.i64.wrap ((k : Int) + 1) = k + 1 := wrap_i64_in (by omega) (by omega)
        have hsl := slice_str (P := Try.prog) Try.underlying9 (bs l) (fr : Int) (k : Int) fr k rfl rfl hfk (by omega) (bs p) (by rw [bs_extract, hp])
        obtain ⟨t0, t1, _, t3⟩ := txt_tests (p := p)
        obtain ⟨X, hX⟩ : ∃ X, X = bs p := ⟨_, rfl⟩
        rw [← hX] at hsl t0 t1 t3
        have HX := Lib.hid hX
        clear hX hp hr
        cases h0 : (p == []) with
        | true =>
          rw [h0] at t0 t3
          rw [if_neg (by unfold good; rw [h0]; simp)] at hpre
          have HP := Lib.hid hpre
          clear h0 t1 hpre
          gi_wp2
          go_roundw
          case rel => exact ⟨k + 1, k + 1, Nat.le_refl _, by omega, by go_num, by go_num, pre, HP.out, hJ, hR0⟩
          case measure => simp [intOf]; omega
        | false =>
          cases h1 : (p == [46]) with
          | true =>
            rw [h0] at t0 t3
            rw [h1] at t1
            rw [if_neg (by unfold good; rw [h0, h1]; simp)] at hpre
            have HP := Lib.hid hpre
            clear h0 h1 hpre
            gi_wp2
            go_roundw
            case rel => exact ⟨k + 1, k + 1, Nat.le_refl _, by omega, by go_num, by go_num, pre, HP.out, hJ, hR0⟩
            case measure => simp [intOf]; omega
          | false =>
            rw [h0] at t0 t3
            rw [h1] at t1
            rw [if_pos (by unfold good; rw [h0, h1]; rfl)] at hpre
            have hl1 : pre.length < (partsN l).length := by rw [← hpre]; simp
            obtain ⟨fn, tmps, assign, body, hy, hR⟩ := hY pre p wr hJ hl1
            try dsimp only [encP] at hy
            have HP := Lib.hid hpre
            rw [← HX.out] at hy
            clear h0 h1 hpre hl1
            gi_wp2
            refine hR.mono ?_
            rintro e W3 (⟨rfl, hJ3, hk3⟩ | ⟨rfl, hJx3⟩)
            · gi_wp2
              go_roundw
              case rel => exact ⟨k + 1, k + 1, Nat.le_refl _, by omega, by go_num, by go_num, pre ++ [p], by rw [← HP.out]; simp, hJ3, hK hk3 hR0⟩
              case measure => simp [intOf]; omega
            · gi_wp2
              simp only [Exit.noGoto]
              gi_wp2
              refine bodyPost_ret (results_none rfl _ _ _) rfl ?_
              exact ⟨⟨_, rfl⟩, .inr ⟨_, by rw [← HP.out]; exact ⟨_, by rw [List.append_assoc]; rfl⟩, hJx3⟩⟩
    · rw [restP_none l fr k (by omega)] at hpre
      have HP : Hid (pre = partsN l) := by show _ = _; rw [← hpre]; simp
      clear hpre
      gi_wp2
      go_end0
      exact ⟨⟨_, rfl⟩, .inl ⟨_, HP.out, hJ⟩⟩
theorem parts_stops (F : Fence) (n : Nat) (hf : F.fn 84) (hro : F.round = none) (hn : 1 ≤ n) (Bs n₀ : Nat) (l : List UInt8) (hlen : l.length ≤ 2000000) (w : World) (hBs : Bs < w.heap.size) (hn₀ : Bs < n₀)
    (hc : w.cell? ⟨Bs, 0, none⟩ = some (.string (bs l))) :
    SeqStopsK F n Try.prog 84 #[.pointer (some ⟨Bs, 0, none⟩)] encP (Below n₀) (fun ys => ys = partsN l) (fun pre => pre <+: partsN l) (partsN l).length w := fun lb J Jx W hW _ _ hY h0 =>
  parts1_in F n hf hro hn lb Bs l hlen J Jx (Below n₀) (fun W => W.cell? ⟨Bs, 0, none⟩ = some (.string (bs l))) (fun hk h => (hk.cell (p := ⟨Bs, 0, none⟩) hn₀).trans h) id W hY ((hW.cell (p := ⟨Bs, 0, none⟩) hBs).trans hc) h0
/-- The box of a text is kept. -/
def KeepsBox (B : Nat) (W W' : World) : Prop := ∀ t v, Boxed W B t v → Boxed W' B t v
theorem keepsBox_t {B : Nat} {X Y Z : World} (h : KeepsBox B X Y) (k : KeepsBox B Y Z) : KeepsBox B X Z := fun t v hx => k t v (h t v hx)
theorem keepsBox_b {B : Nat} (W : World) (l : Nat) (o o' : Obj) (hl : W.heap[l]? = some o) (ho : o.isCells = false) : KeepsBox B W (W.putObj l o') := fun t v hx =>
  hx.kept (grownBy_putObj' W l o') (fun e => by
    cases e
    rw [show W.heap[B]? = _ from hx] at hl
    cases hl; cases ho)
/-- As 'parts_stops', where a round keeps the text's box. -/
theorem parts_stops_box (F : Fence) (n : Nat) (hf : F.fn 84) (hro : F.round = none) (hn : 1 ≤ n) (Bs : Nat) (l : List UInt8) (hlen : l.length ≤ 2000000) (w : World) (hb : Boxed w Bs 9 (.string (bs l))) :
    SeqStopsK F n Try.prog 84 #[.pointer (some ⟨Bs, 0, none⟩)] encP (KeepsBox Bs) (fun ys => ys = partsN l) (fun pre => pre <+: partsN l) (partsN l).length w := fun lb J Jx W hW _ _ hY h0 =>
  parts1_in F n hf hro hn lb Bs l hlen J Jx (KeepsBox Bs) (fun W => Boxed W Bs 9 (.string (bs l))) (fun hk h => hk _ _ h) (fun h => h.cell) W hY ((hW.block Bs hb.lt).trans hb) h0
end Go.Proofs.Ytjblimclakfhfaa

namespace Go.Proofs.Ytjblimclakfhfaa
open Go.ChangeShapes Go.WideShapes Go.ChangeAt Go.RowKit Go.Shelf
attribute [local go_sem] Oper.semAt_some

set_option maxHeartbeats 1000000 in
theorem parts_in (F : Fence) (n : Nat) (hf : F.fn 39) (hro : F.round = none) (s : ByteArray) (w : World) :
    CallsIn F n Try.prog 39 #[.string s] w fun e w' => e = .returned (.func (.func 84) #[] #[.pointer (some ⟨w.heap.size, 0, none⟩)]) ∧ w' = w.alloc (.cells #[.string s] 9) := by
  refine callsIn_of_wp Try.func39 rfl hf ?_ hro
  simp only [Try.ntmps39, List.size_toArray, List.length_cons, List.length_nil, Nat.reduceAdd, Nat.reduceSub, Array.replicate_succ, Array.replicate_zero, List.push_toArray, List.append_toArray, List.nil_append, List.cons_append]
  gi_wp2
  go_ret
  exact ⟨rfl, rfl⟩
theorem eql_seq_nil (f : Fn) (ts cs : Array Value) (w : World) : (binOp .eql 93 (.func f ts cs) .nilFunc).run Try.prog w = .ok (.bool false) w := by
  have hu := Try.underlying93
  have h : ∀ d : Nat, (Op.equalIn (d + 1) 93 (.func f ts cs) .nilFunc).run Try.prog w = .ok false w := fun d => by simp [Op.equalIn, run_underlying hu]
  simp only [binOp]
  simp [Op.equal, Op.maxDepth, h 9999]
def AllR (w : World) (l : List Txt) (e : Ending) (w' : World) : Prop := ∃ v, e = .returned (.tuple #[v, .bool true]) ∧ OwnT w' w.heap.size v l ∧ Ext w w'
theorem take_prefix {a b : List Txt} (h : a <+: b) : b.take a.length = a := (List.prefix_iff_eq_take.1 h).symm
end Go.Proofs.Ytjblimclakfhfaa

namespace Go.Proofs.Ytjblimclakfhfaa
open Go.ChangeShapes Go.WideShapes Go.ChangeAt Go.RowKit Go.Shelf
attribute [local go_sem] Oper.semAt_some

set_option maxRecDepth 100000 in
set_option maxHeartbeats 4000000 in
theorem appendSeq_in (F : Fence) (n : Nat) (hro : F.round = none) (h83 : F.fn 83) (h84 : F.fn 84) (hn : 3 ≤ n) (Bs : Nat) (l : List UInt8) (hlen : l.length ≤ 2000000) (w : World) (hBs : Bs < w.heap.size)
    (hc : w.cell? ⟨Bs, 0, none⟩ = some (.string (bs l))) :
    CallsIn F n Try.prog 83 #[.slice none 0 0, .func (.func 84) #[] #[.pointer (some ⟨Bs, 0, none⟩)]] w (TxtR w (partsN l)) := by
  obtain ⟨i0, hi, hz0, hz1, hz2⟩ := info_parts infoStr
  have hpl := parts_len l
  refine callsIn_of_wp_marks Try.func83 rfl h83 ?_ hro
  simp only [Try.ntmps83, List.size_toArray, List.length_cons, List.length_nil, Nat.reduceAdd, Nat.reduceSub, Array.replicate_succ, Array.replicate_zero, List.push_toArray, List.append_toArray, List.nil_append, List.cons_append]
  gi_wp2
  obtain ⟨W0, hW0⟩ : ∃ W0, W0 = w.alloc (.cells #[.slice none 0 0] 25) := ⟨_, rfl⟩
  have bO : Boxed W0 w.heap.size 25 (.slice none 0 0) := by rw [hW0]; exact Boxed.new w _ _
  have E0 : Ext w W0 := by rw [hW0]; exact (Ext.refl _).alloc _
  have hz : W0.heap.size = w.heap.size + 1 := by rw [hW0]; simp
  have hc0 : W0.cell? ⟨Bs, 0, none⟩ = some (.string (bs l)) := (E0.cell hBs).trans hc
  rw [← hW0]
  clear hW0
  refine wpIn_rangeFunc_ownG (w0 := W0) hro (by omega) (gf := 84) (lb := #[.pointer (some ⟨Bs, 0, none⟩)]) rfl h84 (enters_of Try.func84 (by kernel_rfl) rfl)
    (parts_stops F (n - 1) h84 hro (by omega) Bs (w.heap.size) l hlen W0 (by omega) hBs hc0) belowK_t (belowK_b (by omega)) (Below.refl _ _) (fun _ => rfl)
    (fun pre W => (∃ v, Boxed W w.heap.size 25 v ∧ W.ownsRow w.heap.size 9 1 v pre.length (txtCells pre) ∧ True) ∧ Below w.heap.size w W)
    (fun c pre W => False)
    (OwnFrom.and (Own.from (holdsRow_own w.heap.size (w.heap.size) 25 9 1 (fun pre => pre.length) txtCells (fun pre _ => True)) _) (ownFrom_below (Nat.le_refl _) (by omega)))
    (fun c => by intro s X Y row h; exact h.elim)
    ⟨⟨_, bO, World.ownsRow_nil _ _ _ _, trivial⟩, E0⟩
    (fun x => { tmps := #[.slice none 0 0, .func (.func 84) #[] #[.pointer (some ⟨Bs, 0, none⟩)], .pointer (some ⟨w.heap.size, 0, none⟩), undef, .slice none 0 0, .string (bs x), .func (.func 84) #[] #[.pointer (some ⟨Bs, 0, none⟩)], .string (bs x), undef, undef, undef, undef, undef], defers := [] }) ?assign ?body ?done ?stop
  case assign =>
    intro l x W K hK
    gi_wp2
    exact hK
  case body =>
    rintro l' pre x W ⟨⟨v, hv, hrow, _⟩, hB⟩ hpl2
    have hc := hv.cell
    have hsz := hB.size
    have hf := hv.frozen
    gi_wp2_with (gi_at_builtin; refine wpListIn_append_own _ rfl _ _ 25 rfl w.heap.size 9 i0 (.string ⟨#[]⟩) 1 16 Try.underlying25 hi hz0 hz1 hz2 rfl (by decide) _ _ _ rfl (hrow.alloc _) ⟨W.heap.size, 0, none⟩ 1 1 (txtCells [x]) rfl rfl (txt_news W x) (txtCells_one [x]) (by unfold maxLen; omega) (by omega) (by have := hv.lt; simp; omega) ?_; intro v' w1 hown' hgrow _; obtain ⟨g', cap', rfl⟩ := ownsRow_succ hown'; obtain ⟨hv1, hv2, hr2, hk2, hb2⟩ := hv.appended (by decide) hrow (by have := hv.lt; omega) (by omega) hown' hgrow; have hc1 := hv1.cell; have hf1 := hv1.frozen; have hc2 := hv2.cell)
    have hr3 : (w1.setCell ⟨w.heap.size, 0, none⟩ (.slice (some ⟨g', 0, none⟩) (pre.length + 1) cap')).ownsRow w.heap.size 9 1 (.slice (some ⟨g', 0, none⟩) (pre.length + 1) cap') (pre ++ [x]).length (txtCells (pre ++ [x])) := by rw [txtCells_append, List.length_append]; exact hr2
    exact ⟨hk2.from _, hb2, ⟨_, hv2, hr3, trivial⟩, hB.trans (hb2.mono (by omega))⟩
  case done =>
    rintro D ys W hD rfl ⟨⟨v, hv, hrow, _⟩, hB⟩ hK
    have hc := hv.cell
    gi_wp2
    refine ⟨by simp, .inl ⟨_, _, rfl, run_takeDeferred hK, ?_⟩⟩
    refine ⟨v, by simp [results, Try.results83, go_sem], v, rfl, ?_, hB.trans (belowK_b (w := w) (Nat.le_refl _) W D _ _ (by omega) hK rfl rfl)⟩
    exact OwnT.base (ownsRow_putObj hrow _ hK rfl) (by omega)
  case stop =>
    rintro D c pre W hD hp h hK
    exact h.elim
set_option maxHeartbeats 1000000 in
theorem collect_in (F : Fence) (n : Nat) (hro : F.round = none) (h38 : F.fn 38) (h83 : F.fn 83) (h84 : F.fn 84) (hn : 4 ≤ n) (Bs : Nat) (l : List UInt8) (hlen : l.length ≤ 2000000) (w : World) (hBs : Bs < w.heap.size)
    (hc : w.cell? ⟨Bs, 0, none⟩ = some (.string (bs l))) :
    CallsIn F n Try.prog 38 #[.func (.func 84) #[] #[.pointer (some ⟨Bs, 0, none⟩)]] w (TxtR w (partsN l)) := by
  refine callsIn_of_wp Try.func38 rfl h38 ?_ hro
  simp only [Try.ntmps38, List.size_toArray, List.length_cons, List.length_nil, Nat.reduceAdd, Nat.reduceSub, Array.replicate_succ, Array.replicate_zero, List.push_toArray, List.append_toArray, List.nil_append, List.cons_append]
  have h1 : F.depth.isSome = true → 1 ≤ n := fun _ => by omega
  gi_wp2_with (refine ⟨h1, ?_⟩; gi_at_call 83; refine (appendSeq_in F (n - 1) hro h83 h84 (by omega) Bs l hlen _ hBs hc).mono ?_; rintro e w' ⟨v, rfl, hv, hb⟩)
  go_ret
  exact ⟨v, rfl, hv, hb⟩
/-- name.Parts and slices.Collect, as calls. -/
theorem pparts_any (l : List UInt8) (w : World) : Calls Try.prog 39 #[.string (bs l)] w fun e w' => e = .returned (.func (.func 84) #[] #[.pointer (some ⟨w.heap.size, 0, none⟩)]) ∧ w' = w.alloc (.cells #[.string (bs l)] 9) :=
  (callsIn_wide (n := 1)).1 (parts_in Fence.wide 1 trivial rfl (bs l) w)
theorem collect_any (Bs : Nat) (l : List UInt8) (hlen : l.length ≤ 2000000) (w : World) (hBs : Bs < w.heap.size) (hc : w.cell? ⟨Bs, 0, none⟩ = some (.string (bs l))) :
    Calls Try.prog 38 #[.func (.func 84) #[] #[.pointer (some ⟨Bs, 0, none⟩)]] w (TxtR w (partsN l)) :=
  (callsIn_wide (n := 4)).1 (collect_in Fence.wide 4 rfl trivial trivial trivial (by omega) Bs l hlen w hBs hc)
end Go.Proofs.Ytjblimclakfhfaa

namespace Go.Proofs.Ytjblimclakfhfaa

structure FndD where
  dir : Int
  name : List UInt8
  no : Int
  slash : Bool
def fndZ : FndD := ⟨0, [], 0, false⟩
/-- Why somebody cannot go on by a name from where they are. -/
def stepE (S : TreeD) (cu cg at_ : Int) (p : List UInt8) : Int :=
  if (getN S.nodes at_).kind ≠ 1 then 9
  else if mayB cu cg (getN S.nodes at_).uid (getN S.nodes at_).gid (getN S.nodes at_).mode 1 = false then 6
  else if p = [46, 46] then 0 else if 255 < p.length then 13 else 0
def stepN (S : TreeD) (at_ : Int) (p : List UInt8) : Int := overF S.devs (findF (getN S.nodes at_).ents p)
/-- Where the names lead from a place on; h: the links that were followed. -/
def seekF (S : TreeD) (cu cg : Int) (fol : Bool) : Int → List (List UInt8) → Nat → Bool → FndD × Int
  | at_, [], _, _ => (⟨0, [], at_, true⟩, 0)
  | at_, p :: l, h, m =>
    if stepE S cu cg at_ p ≠ 0 then (fndZ, stepE S cu cg at_ p)
    else if p = [46, 46] then seekF S cu cg fol (aboveF S at_) l h m
    else if isN S.nodes (stepN S at_ p) = false then (if l = [] then (⟨at_, p, 0, m⟩, 0) else (fndZ, 5))
    else if (getN S.nodes (stepN S at_ p)).kind = 3 ∧ (l ≠ [] ∨ m = true ∨ fol = true) then
      (if _hh : 8 < h + 1 then (fndZ, 12) else if (getN S.nodes (stepN S at_ p)).data = [] then (fndZ, 5)
       else seekF S cu cg fol (if (getN S.nodes (stepN S at_ p)).data.head? = some 47 then 1 else at_) (partsN (getN S.nodes (stepN S at_ p)).data ++ l) (h + 1) (m || (l.isEmpty && slashB (getN S.nodes (stepN S at_ p)).data)))
    else if (getN S.nodes (stepN S at_ p)).kind ≠ 1 ∧ (l ≠ [] ∨ m = true) then (fndZ, 9)
    else if l = [] then (⟨at_, p, stepN S at_ p, m⟩, 0)
    else seekF S cu cg fol (stepN S at_ p) l h m
termination_by _ l h _ => (9 - h, l.length)
theorem seek_nil (S : TreeD) (cu cg : Int) (fol : Bool) (at_ : Int) (h : Nat) (m : Bool) : seekF S cu cg fol at_ [] h m = (⟨0, [], at_, true⟩, 0) := by rw [seekF]
section
variable {S : TreeD} {cu cg : Int} {fol : Bool} {at_ : Int} {p : List UInt8} {l : List (List UInt8)} {h : Nat} {m : Bool}
theorem seek_err (h1 : stepE S cu cg at_ p ≠ 0) : seekF S cu cg fol at_ (p :: l) h m = (fndZ, stepE S cu cg at_ p) := by rw [seekF, if_pos h1]
theorem seek_up (h1 : stepE S cu cg at_ p = 0) (h2 : p = [46, 46]) : seekF S cu cg fol at_ (p :: l) h m = seekF S cu cg fol (aboveF S at_) l h m := by
  rw [seekF, if_neg (fun k => k h1), if_pos h2]
theorem seek_free (h1 : stepE S cu cg at_ p = 0) (h2 : p ≠ [46, 46]) (h3 : isN S.nodes (stepN S at_ p) = false) (h4 : l = []) : seekF S cu cg fol at_ (p :: l) h m = (⟨at_, p, 0, m⟩, 0) := by
  rw [seekF, if_neg (fun k => k h1), if_neg h2, if_pos h3, if_pos h4]
theorem seek_none (h1 : stepE S cu cg at_ p = 0) (h2 : p ≠ [46, 46]) (h3 : isN S.nodes (stepN S at_ p) = false) (h4 : l ≠ []) : seekF S cu cg fol at_ (p :: l) h m = (fndZ, 5) := by
  rw [seekF, if_neg (fun k => k h1), if_neg h2, if_pos h3, if_neg h4]
theorem seek_loop (h1 : stepE S cu cg at_ p = 0) (h2 : p ≠ [46, 46]) (h3 : isN S.nodes (stepN S at_ p) = true) (h4 : (getN S.nodes (stepN S at_ p)).kind = 3) (h5 : l ≠ [] ∨ m = true ∨ fol = true) (h6 : 8 < h + 1) :
    seekF S cu cg fol at_ (p :: l) h m = (fndZ, 12) := by
  rw [seekF, if_neg (fun k => k h1), if_neg h2, if_neg (by rw [h3]; decide), if_pos ⟨h4, h5⟩, dif_pos h6]
theorem seek_empty (h1 : stepE S cu cg at_ p = 0) (h2 : p ≠ [46, 46]) (h3 : isN S.nodes (stepN S at_ p) = true) (h4 : (getN S.nodes (stepN S at_ p)).kind = 3) (h5 : l ≠ [] ∨ m = true ∨ fol = true) (h6 : ¬ 8 < h + 1)
    (h7 : (getN S.nodes (stepN S at_ p)).data = []) : seekF S cu cg fol at_ (p :: l) h m = (fndZ, 5) := by
  rw [seekF, if_neg (fun k => k h1), if_neg h2, if_neg (by rw [h3]; decide), if_pos ⟨h4, h5⟩, dif_neg h6, if_pos h7]
theorem seek_link (h1 : stepE S cu cg at_ p = 0) (h2 : p ≠ [46, 46]) (h3 : isN S.nodes (stepN S at_ p) = true) (h4 : (getN S.nodes (stepN S at_ p)).kind = 3) (h5 : l ≠ [] ∨ m = true ∨ fol = true) (h6 : ¬ 8 < h + 1)
    (h7 : (getN S.nodes (stepN S at_ p)).data ≠ []) : seekF S cu cg fol at_ (p :: l) h m =
      seekF S cu cg fol (if (getN S.nodes (stepN S at_ p)).data.head? = some 47 then 1 else at_) (partsN (getN S.nodes (stepN S at_ p)).data ++ l) (h + 1) (m || (l.isEmpty && slashB (getN S.nodes (stepN S at_ p)).data)) := by
  rw [seekF, if_neg (fun k => k h1), if_neg h2, if_neg (by rw [h3]; decide), if_pos ⟨h4, h5⟩, dif_neg h6, if_neg h7]
theorem seek_file (h1 : stepE S cu cg at_ p = 0) (h2 : p ≠ [46, 46]) (h3 : isN S.nodes (stepN S at_ p) = true) (h4 : ¬ ((getN S.nodes (stepN S at_ p)).kind = 3 ∧ (l ≠ [] ∨ m = true ∨ fol = true)))
    (h5 : (getN S.nodes (stepN S at_ p)).kind ≠ 1) (h6 : l ≠ [] ∨ m = true) : seekF S cu cg fol at_ (p :: l) h m = (fndZ, 9) := by
  rw [seekF, if_neg (fun k => k h1), if_neg h2, if_neg (by rw [h3]; decide), if_neg h4, if_pos ⟨h5, h6⟩]
theorem seek_last (h1 : stepE S cu cg at_ p = 0) (h2 : p ≠ [46, 46]) (h3 : isN S.nodes (stepN S at_ p) = true) (h4 : ¬ ((getN S.nodes (stepN S at_ p)).kind = 3 ∧ (l ≠ [] ∨ m = true ∨ fol = true)))
    (h5 : ¬ ((getN S.nodes (stepN S at_ p)).kind ≠ 1 ∧ (l ≠ [] ∨ m = true))) (h6 : l = []) : seekF S cu cg fol at_ (p :: l) h m = (⟨at_, p, stepN S at_ p, m⟩, 0) := by
  rw [seekF, if_neg (fun k => k h1), if_neg h2, if_neg (by rw [h3]; decide), if_neg h4, if_neg h5, if_pos h6]
theorem seek_down (h1 : stepE S cu cg at_ p = 0) (h2 : p ≠ [46, 46]) (h3 : isN S.nodes (stepN S at_ p) = true) (h4 : ¬ ((getN S.nodes (stepN S at_ p)).kind = 3 ∧ (l ≠ [] ∨ m = true ∨ fol = true)))
    (h5 : ¬ ((getN S.nodes (stepN S at_ p)).kind ≠ 1 ∧ (l ≠ [] ∨ m = true))) (h6 : l ≠ []) : seekF S cu cg fol at_ (p :: l) h m = seekF S cu cg fol (stepN S at_ p) l h m := by
  rw [seekF, if_neg (fun k => k h1), if_neg h2, if_neg (by rw [h3]; decide), if_neg h4, if_neg h5, if_neg h6]
end
/-- All that a path's call tells. -/
def pathF (S : TreeD) (cu cg : Int) (p : List UInt8) (fol : Bool) : FndD × Int := if pathN p = 0 then seekF S cu cg fol 1 (partsN p) 0 (slashB p) else (fndZ, pathN p)
/-- Induction along the way: fewer links are left, or fewer names. -/
theorem seek_ind {P : List (List UInt8) → Nat → Prop} (step : ∀ l h, (∀ l' h', (h < h' ∧ h' ≤ 8) ∨ (h' = h ∧ l'.length < l.length) → P l' h') → P l h) : ∀ l h, P l h := by
  have inner : ∀ n, (∀ l h, 9 - h < n → P l h) → ∀ k (l : List (List UInt8)) (h : Nat), 9 - h ≤ n → l.length ≤ k → P l h := by
    intro n hn k
    induction k with
    | zero =>
      intro l h h1 h2
      exact step l h fun l' h' hx => by
        rcases hx with hx | hx
        · exact hn l' h' (by omega)
        · omega
    | succ k ih =>
      intro l h h1 h2
      exact step l h fun l' h' hx => by
        rcases hx with hx | hx
        · exact hn l' h' (by omega)
        · exact ih l' h' (by omega) (by omega)
  have outer : ∀ n l h, 9 - h < n → P l h := by
    intro n
    induction n with
    | zero => intro l h h1; omega
    | succ n ih => intro l h h1; exact inner n ih l.length l h (by omega) (Nat.le_refl _)
  intro l h
  exact outer (9 - h + 1) l h (by omega)
end Go.Proofs.Ytjblimclakfhfaa

namespace Go.Proofs.Ytjblimclakfhfaa
open Go

theorem wp_region_nbox {id : Nat} {Q : Exit → Act → World → Prop} {a : Act} {w : World} {l : List Oper} (V : World) (m s : Nat) (d t : Tmp) (n : NodeD) (A : Option Addr) (c : Nat) (om os : Oper)
    (hB : Region.lexB .any l.toArray = true) (hc : boxB l m s d t = true) (hom : l[m]? = some om) (hos : l[s]? = some os) (ho1 : om.op = .alloc 42) (ho2 : os.op = .store 42 (.tmp d) (.tmp t)) (htd : d < a.tmps.size)
    (hV : Ext V w.drew) :
    wpQuietR Try.prog l.toArray V (fun a1 => wpQuietR Try.prog l.toArray V (fun a2 => a2.eval (.tmp t) = .agg #[.int .i64 n.no, .int .i64 n.dev, .int .i64 n.kind, .int .i64 n.mode, .int .i64 n.uid, .int .i64 n.gid, .int .i64 n.mtime, .int .i64 n.ctime, .int .i64 n.links, .int .i64 n.up, .string (bs n.data), .slice A n.ents.length c] ∧ wpQuietR Try.prog l.toArray V (fun a3 => ∀ w' bx, Ext V w' → V.heap.size ≤ bx → Has w' bx (.cells #[.int .i64 n.no, .int .i64 n.dev, .int .i64 n.kind, .int .i64 n.mode, .int .i64 n.uid, .int .i64 n.gid, .int .i64 n.mtime, .int .i64 n.ctime, .int .i64 n.links, .int .i64 n.up, .string (bs n.data), .slice A n.ents.length c] 42) → Q .normal (a3.put (some d) (.pointer (some ⟨bx, 0, none⟩))) w') (l.drop (s + 1)) a2) ((l.take s).drop (m + 1)) a1) (l.take m) a →
    (Code.region id l.toArray true).wp Try.prog Q a w := by
  refine wp_region_box V m s d t (.agg #[.int .i64 n.no, .int .i64 n.dev, .int .i64 n.kind, .int .i64 n.mode, .int .i64 n.uid, .int .i64 n.gid, .int .i64 n.mtime, .int .i64 n.ctime, .int .i64 n.links, .int .i64 n.up, .string (bs n.data), .slice A n.ents.length c]) (.cells #[.int .i64 0, .int .i64 0, .int .i64 0, .int .i64 0, .int .i64 0, .int .i64 0, .int .i64 0, .int .i64 0, .int .i64 0, .int .i64 0, .string ⟨#[]⟩, .slice none 0 0] 42) _ om os (by kernel_rfl) hB hc hom hos ?_ ?_ hV htd
  · intro a w
    simp [execOp, ho1, go_sem]
  · intro a w bx hsz hb he
    have hd : (a.put (some d) (.pointer (some ⟨bx, 0, none⟩))).eval (.tmp d) = .pointer (some ⟨bx, 0, none⟩) := by
      simp [Act.put, Act.eval, hsz]
    have hb' : Has w bx (.cells #[.int .i64 nodeZ.no, .int .i64 nodeZ.dev, .int .i64 nodeZ.kind, .int .i64 nodeZ.mode, .int .i64 nodeZ.uid, .int .i64 nodeZ.gid, .int .i64 nodeZ.mtime, .int .i64 nodeZ.ctime, .int .i64 nodeZ.links, .int .i64 nodeZ.up, .string (bs nodeZ.data), .slice none nodeZ.ents.length 0] 42) := hb
    refine ⟨_, ?_, hb'.setNode n A c, only_setCells (nodeL n A c) 0 w⟩
    simp only [execOp, ho2, hd, he, run_storeAt_mid w bx 0 42 #[.int .i64 n.no, .int .i64 n.dev, .int .i64 n.kind, .int .i64 n.mode, .int .i64 n.uid, .int .i64 n.gid, .int .i64 n.mtime, .int .i64 n.ctime, .int .i64 n.links, .int .i64 n.up, .string (bs n.data), .slice A n.ents.length c] hb'.there infoNode12 (node_all n A c), Sem.run_bind, Sem.run_pure, Result.andThen_ok]
    rfl
end Go.Proofs.Ytjblimclakfhfaa

namespace Go.Proofs.Ytjblimclakfhfaa
open Go.ChangeShapes Go.WideShapes Go.ChangeAt Go.RowKit
attribute [local irreducible] wpQuiet

/-- Somebody on the way, in memory. -/
def TripAt (w : World) (b bW : Nat) (cu cg at_ : Int) (A : Option Addr) (len cap : Nat) (hops : Int) (must : Bool) : Prop :=
  Has w b (.cells #[.pointer (some ⟨bW, 0, none⟩), .int .i64 cu, .int .i64 cg, .int .i64 at_, .slice A len cap, .int .i64 hops, .bool must] 97)
theorem TripAt.ext {w w' : World} {b bW : Nat} {cu cg at_ : Int} {A : Option Addr} {len cap : Nat} {hops : Int} {must : Bool} (h : TripAt w b bW cu cg at_ A len cap hops must) (hE : Ext w w') : TripAt w' b bW cu cg at_ A len cap hops must := Has.ext h hE
def stepG (S : TreeD) (at_ : Int) (p : List UInt8) : Int := if p = [46, 46] then aboveF S at_ else stepN S at_ p
set_option maxRecDepth 100000 in
set_option maxHeartbeats 8000000 in
theorem pstep_any {c : Nat} (B : Nat) (g : GhW) (S : TreeD) (b : Nat) (cu cg at_ : Int) (A : Option Addr) (len cap : Nat) (hops : Int) (must : Bool) (p : List UInt8) (w : World) (h : WAt w B g S) (T : Tre c S) (hc : c ≤ 1000000)
    (ht : TripAt w b g.bW cu cg at_ A len cap hops must) (hp : p.length ≤ 2000000) :
    Calls Try.prog 41 #[.pointer (some ⟨b, 0, none⟩), .string (bs p)] w (Ret w (.tuple #[.int .i64 (if stepE S cu cg at_ p = 0 then stepG S at_ p else 0), .int .i64 (stepE S cu cg at_ p)])) := by
  obtain ⟨A1, k1, ok1, C1⟩ := tget_fix B g S at_ w h
  obtain ⟨n, hn⟩ : ∃ n, n = getN S.nodes at_ := ⟨_, rfl⟩
  obtain ⟨i, hi⟩ : ∃ i, i = isN S.nodes at_ := ⟨_, rfl⟩
  have hE : Hid (stepE S cu cg at_ p = if n.kind ≠ 1 then 9 else if mayB cu cg n.uid n.gid n.mode 1 = false then 6 else if p = [46, 46] then 0 else if 255 < p.length then 13 else 0) := by show _ = _; rw [hn]; rfl
  have hiz : i = false → n.kind = 0 := fun e => by rw [hn, (isN_false (hi.symm.trans e)).1]; rfl
  have hRR : Rise n.ents ∧ n.ents.length ≤ c := by rw [hn]; exact T.getN at_
  rw [← hn] at ok1
  rw [← hn, ← hi] at C1
  have HC1 := Lib.hid C1
  have HN := Lib.hid hn
  have HIZ := Lib.hid hiz
  have HRR := Lib.hid hRR
  obtain ⟨x, hx⟩ : ∃ x, x = stepE S cu cg at_ p := ⟨_, rfl⟩
  obtain ⟨y, hy⟩ : ∃ y, y = stepG S at_ p := ⟨_, rfl⟩
  rw [← hx] at hE
  rw [← hx, ← hy]
  obtain ⟨z, hz⟩ : ∃ z, z = if x = 0 then y else 0 := ⟨_, rfl⟩
  rw [← hz]
  have HZ0 : Hid (x ≠ 0 → z = 0) := by show _ → _; intro k; rw [hz, if_neg k]
  have HZ1 : Hid (x = 0 → z = y) := by show _ → _; intro k; rw [hz, if_pos k]
  have HY : Hid (y = if p = [46, 46] then aboveF S at_ else stepN S at_ p) := by show _ = _; rw [hy]; rfl
  have T0 := (Has.cell ht 0)
  have T1 := (Has.cell ht 1)
  have T2 := (Has.cell ht 2)
  have T3 := (Has.cell ht 3)
  have Tz := Has.lt ht
  obtain ⟨_, _, cd, h3, _⟩ := id h
  have v0 : ∀ u : Gr w, u.w.cell? ⟨b, 0, none⟩ = some (.pointer (some ⟨g.bW, 0, none⟩)) := Gr.cell Tz T0
  have v3 : ∀ u : Gr w, u.w.cell? ⟨b, 3, none⟩ = some (.int .i64 at_) := Gr.cell Tz T3
  have vw : ∀ u : Gr w, u.w.cell? ⟨g.bW, 0, none⟩ = some (.pointer (some ⟨g.bT, 0, none⟩)) := Gr.cell h3.lt (h3.cell 0)
  clear C1 hn hi hiz hRR hx hy hz T0 T1 T2 T3 h3
  go_enter Try.func41, Try.ntmps41
  go_upto_region 1 with fail
  refine wp_region_nbox w 15 16 6 21 n A1 k1 _ _ (by kernel_rfl) (by kernel_rfl) rfl rfl rfl rfl (by simp) ((Ext.refl _).drew) ?_
  simp only [List.take_succ_cons, List.take_zero, List.drop_succ_cons, List.drop_zero, List.drop_nil]
  repeat (refine wpQuietR_step (fun K hK => ?_)
          go_simp
          first
            | (refine hK _ ?_; clear hK K)
            | (apply Exists.intro
               refine ⟨fun u => ?_, hK _ ?_⟩
               first
                 | ((with_reducible refine (HC1.out _ u.h).mono ?_); rintro e w'' ⟨rfl, hx⟩; exact ⟨rfl, hx⟩)
               clear hK K))
  refine wpQuietR_nil ?_
  refine wpQuietR_nil ⟨rfl, ?_⟩
  refine wpQuietR_step (fun K hK => ?_)
  go_simp
  refine hK _ ?_
  clear hK K
  refine wpQuietR_nil ?_
  intro w4 b6 E4 hb6 N4
  simp only [Act.put]
  have T4 := TripAt.ext ht E4
  have ok4 := ok1.ext E4
  have hb6' : b6 ≠ b := by omega
  clear v0 v3 vw HC1 ok1
  obtain ⟨j, hj⟩ : ∃ j, j = i := ⟨_, rfl⟩
  have k2 : w4.cell? ⟨b6, 2, none⟩ = some (.int .i64 n.kind) := N4.cell 2
  have kz := N4.lt
  by_cases c1 : n.kind = 1
  case neg =>
    have t1 : (n.kind == 1) = false := by simpa using c1
    have t1b : (n.kind != 1) = true := by simpa using c1
    have e1 : Hid (x = 9) := by show _ = _; rw [hE.out, if_pos c1]
    have e2 : Hid (z = 0) := HZ0.out (by rw [e1.out]; decide)
    clear c1 hE hj
    cases i
    · go_wp2_with fail
      go_ret2
      exact Ret.mk (by rw [e1.out, e2.out]; rfl) E4
    · go_wp2_with fail
      go_ret2
      exact Ret.mk (by rw [e1.out, e2.out]; rfl) E4
  have hi1 : i = true := by
    cases i
    · have := HIZ.out rfl; omega
    · rfl
  subst hi1
  have t1 : (n.kind == 1) = true := by simpa using c1
  have t1b : (n.kind != 1) = false := by simpa using c1
  have hE2 : Hid (x = if mayB cu cg n.uid n.gid n.mode 1 = false then 6 else if p = [46, 46] then 0 else if 255 < p.length then 13 else 0) := by show _ = _; rw [hE.out, if_neg (fun k => k c1)]
  obtain ⟨u, hu⟩ : ∃ u, u = mayB cu cg n.uid n.gid n.mode 1 := ⟨_, rfl⟩
  have HU := Lib.hid hu
  rw [← hu] at hE2
  clear hE hu c1 hj
  obtain ⟨n0, n1, n2, n3, n4, n5, n6, n7, n8, n9, n10, n11⟩ := N4.node12
  have KN : Hid (∀ u' : Gr w4, Calls Try.prog 86 #[.agg #[.int .i64 cu, .int .i64 cg], .agg #[.int .i64 n.no, .int .i64 n.dev, .int .i64 n.kind, .int .i64 n.mode, .int .i64 n.uid, .int .i64 n.gid, .int .i64 n.mtime, .int .i64 n.ctime, .int .i64 n.links, .int .i64 n.up, .string (bs n.data), .slice A1 n.ents.length k1], .int .i64 1] u'.w (Ret u'.w (.bool u))) := by
    show ∀ u' : Gr w4, _
    intro u'
    rw [HU.out]
    exact pnode_any cu cg _ _ _ n.mode n.uid n.gid _ _ _ _ _ _ 1 u'.w
  go_upto_region 4 with fail
  have T1 : ∀ u : Gr w4, u.w.cell? ⟨b, 1, none⟩ = some (.int .i64 cu) := Gr.cell (Has.lt T4) (Has.cell T4 1)
  have T2 : ∀ u : Gr w4, u.w.cell? ⟨b, 2, none⟩ = some (.int .i64 cg) := Gr.cell (Has.lt T4) (Has.cell T4 2)
  have n0 := Gr.cell kz n0
  have n1 := Gr.cell kz n1
  have n2 := Gr.cell kz n2
  have n3 := Gr.cell kz n3
  have n4 := Gr.cell kz n4
  have n5 := Gr.cell kz n5
  have n6 := Gr.cell kz n6
  have n7 := Gr.cell kz n7
  have n8 := Gr.cell kz n8
  have n9 := Gr.cell kz n9
  have n10 := Gr.cell kz n10
  have n11 := Gr.cell kz n11
  clear k2
  refine wp_region_grow w4 (by kernel_rfl) (by kernel_rfl) (Ext.refl _).drew ?_
  repeat (quiet_step (((with_reducible refine (KN.out _).mono ?_); rintro e w'' ⟨rfl, hEx⟩; exact ⟨rfl, ⟨w'', Ext.trans (Gr.h _) hEx⟩, rfl⟩)))
  refine wpQuiet_nil ?_
  rintro w5 ⟨⟨w5', b5'⟩, h5⟩
  dsimp only at h5
  subst h5
  have T5 := TripAt.ext T4 b5'
  have N5 := N4.ext b5'
  have ok5 := ok4.ext b5'
  have E5 := E4.trans b5'
  clear KN T1 T2 n0 n1 n2 n3 n4 n5 n6 n7 n8 n9 n10 n11 kz T4 N4 ok4
  cases u
  · have e1 : Hid (x = 6) := by show _ = _; rw [hE2.out, if_pos rfl]
    have e2 : Hid (z = 0) := HZ0.out (by rw [e1.out]; decide)
    clear hE2
    go_wp2_with fail
    go_ret2
    exact Ret.mk (by rw [e1.out, e2.out]; rfl) E5
  have hE3 : Hid (x = if p = [46, 46] then 0 else if 255 < p.length then 13 else 0) := by show _ = _; rw [hE2.out, if_neg (by decide)]
  clear hE2
  obtain ⟨X, hX⟩ : ∃ X, X = bs p := ⟨_, rfl⟩
  have hlX : (X.size : Int) = p.length := by rw [hX, bs_size]
  have tX : (X.toList == [46, 46]) = (p == [46, 46]) := by rw [hX]; exact txt_tests.2.2.1
  rw [← hX]
  have HX := Lib.hid hX
  by_cases c2 : p = [46, 46]
  · have e1 : Hid (x = 0) := by show _ = _; rw [hE3.out, if_pos c2]
    have e2 : Hid (z = aboveF S at_) := by show _ = _; rw [HZ1.out e1.out, HY.out, if_pos c2]
    have t2 : (X.toList == [46, 46]) = true := by rw [tX, c2]; rfl
    have KA : Hid (∀ u' : Gr w5, Calls Try.prog 53 #[.pointer (some ⟨g.bW, 0, none⟩), .int .i64 at_] u'.w (Ret u'.w (.int .i64 (aboveF S at_)))) := by
      show ∀ u' : Gr w5, _
      exact fun u' => pabove_any B g S at_ _ ((h.ext E5).ext u'.h) T.devs T.eight T.roots T.nos
    clear hE3 c2 tX hX
    go_upto_region 7 with fail
    have T0 : ∀ u : Gr w5, u.w.cell? ⟨b, 0, none⟩ = some (.pointer (some ⟨g.bW, 0, none⟩)) := Gr.cell (Has.lt T5) (Has.cell T5 0)
    have T3 : ∀ u : Gr w5, u.w.cell? ⟨b, 3, none⟩ = some (.int .i64 at_) := Gr.cell (Has.lt T5) (Has.cell T5 3)
    refine wp_region_grow w5 (by kernel_rfl) (by kernel_rfl) (Ext.refl _).drew ?_
    repeat (quiet_step (((with_reducible refine (KA.out _).mono ?_); rintro e w'' ⟨rfl, hEx⟩; exact ⟨rfl, ⟨w'', Ext.trans (Gr.h _) hEx⟩, rfl⟩)))
    refine wpQuiet_nil ?_
    rintro w6 ⟨⟨w6', b6'⟩, h6⟩
    dsimp only at h6
    subst h6
    clear T0 T3 KA
    go_wp2_with fail
    go_ret2
    exact Ret.mk (by rw [e1.out, e2.out]; rfl) (E5.trans b6')
  have t2 : (X.toList == [46, 46]) = false := by rw [tX]; simpa using c2
  have HY2 : Hid (y = stepN S at_ p) := by show _ = _; rw [HY.out, if_neg c2]
  have hE4 : Hid (x = if 255 < p.length then 13 else 0) := by show _ = _; rw [hE3.out, if_neg c2]
  clear hE3 c2 tX
  by_cases c3 : 255 < p.length
  · have e1 : Hid (x = 13) := by show _ = _; rw [hE4.out, if_pos c3]
    have e2 : Hid (z = 0) := HZ0.out (by rw [e1.out]; decide)
    have t3 : (255 : Int) < X.size := by omega
    clear hE4 c3 hX hlX
    go_wp2_with fail
    go_ret2
    exact Ret.mk (by rw [e1.out, e2.out]; rfl) E5
  have e1 : Hid (x = 0) := by show _ = _; rw [hE4.out, if_neg c3]
  have t3 : ¬ (255 : Int) < X.size := by omega
  obtain ⟨q, hq⟩ : ∃ q, q = findF n.ents p := ⟨_, rfl⟩
  have e2 : Hid (z = overF S.devs q) := by show _ = _; rw [HZ1.out e1.out, HY2.out, hq, HN.out]; rfl
  have HRR2 := HRR.out
  have KF : Hid (∀ u' : Gr w5, Calls Try.prog 87 #[.slice A1 n.ents.length k1, .string X] u'.w (Ret u'.w (.int .i64 q))) := by
    show ∀ u' : Gr w5, _
    intro u'
    rw [hq, ← numOf_findF HRR2.1, HX.out]
    exact find_any A1 n.ents k1 p u'.w (ok5.ext u'.h).ents.ents HRR2.1 (by have := HRR2.2; omega)
  have KO : Hid (∀ u' : Gr w5, Calls Try.prog 16 #[.pointer (some ⟨g.bW, 0, none⟩), .int .i64 q] u'.w (Ret u'.w (.int .i64 (overF S.devs q)))) := by
    show ∀ u' : Gr w5, _
    exact fun u' => pover_any B g S q _ ((h.ext E5).ext u'.h) T.devs (by have := T.eight; omega)
  clear hE4 c3 hX hlX hq HRR2
  go_upto_region 10 with fail
  have T0 : ∀ u : Gr w5, u.w.cell? ⟨b, 0, none⟩ = some (.pointer (some ⟨g.bW, 0, none⟩)) := Gr.cell (Has.lt T5) (Has.cell T5 0)
  have n11 := Gr.cell N5.lt (N5.cell 11)
  refine wp_region_grow w5 (by kernel_rfl) (by kernel_rfl) (Ext.refl _).drew ?_
  repeat (quiet_step (((first | with_reducible refine (KF.out _).mono ?_ | with_reducible refine (KO.out _).mono ?_); rintro e w'' ⟨rfl, hEx⟩; exact ⟨rfl, ⟨w'', Ext.trans (Gr.h _) hEx⟩, rfl⟩)))
  refine wpQuiet_nil ?_
  rintro w6 ⟨⟨w6', b6'⟩, h6⟩
  dsimp only at h6
  subst h6
  clear T0 n11 KF KO
  go_wp2_with fail
  go_ret2
  exact Ret.mk (by rw [e1.out, e2.out]; rfl) (E5.trans b6')
end Go.Proofs.Ytjblimclakfhfaa

namespace Go.Proofs.Ytjblimclakfhfaa
open Go.ChangeShapes Go.WideShapes Go.ChangeAt Go.RowKit
attribute [local irreducible] wpQuiet

/-- Not in this block. -/
def Off (A : Option Addr) (b : Nat) : Prop := ∀ x, A = some x → x.block ≠ b
theorem TxtAt.only {w w' : World} {A : Option Addr} {l : List Txt} {b : Nat} (h : TxtAt w A l) (o : Only [b] w w') (hL : Off A b) : TxtAt w' A l := by
  rcases h with h | ⟨b2, o', hA, hb, hc⟩
  · exact .inl h
  · have hn : b2 ∉ [b] := fun hb' => by rw [List.mem_singleton] at hb'; exact hL _ hA hb'
    have e : w'.heap[b2]? = w.heap[b2]? := o.block b2 hb hn
    have ec : ∀ j, w'.cell? ⟨b2, j, none⟩ = w.cell? ⟨b2, j, none⟩ := fun j => by simp [World.cell?, e]
    exact .inr ⟨b2, o', hA, by have := o.size; omega, fun i hi => (ec _).trans (hc i hi)⟩
theorem has_grown {w w' : World} {B : Nat} {o : Obj} {row : Option Nat} (h : Has w B o) (hg : w.grownBy w' row) (hr : row ≠ some B) : Has w' B o :=
  (hg.block B h.lt (fun e => hr e.symm)).trans h
/-- An append at a step of a region that draws its order, out of a run equation. -/
theorem step_append15 {P : Program} {ops : Array Oper} {o : Oper} {a : Act} {K : Act → World → Prop} {Q : Exit → Act → World → Prop} {E : Prop} (w : World) (hgd : o.guard = none) (s x : Operand) (t : TypeId)
    (ho : o.op = .call { callee := .builtin .append, args := #[s, x], argTypes := #[t, t] }) (vs vx : Value) (hs : a.eval s = vs) (hx : a.eval x = vx) {R : Value → World → Prop}
    (hr : ∃ v' w', (Builtin.append_ #[t, t] o.type #[vs, vx]).run P w = .ok v' w' ∧ R v' w') (h : ∀ v' w', R v' w' → K (a.put o.dst v') w') :
    if Region.wanted o (yielded ops a.tmps) = true then Oper.wp P o a w K Q else E := by
  have hw : Region.wanted o (yielded ops a.tmps) = true := by simp [Region.wanted, hgd]
  rw [if_pos hw]
  obtain ⟨v', w', h1, h2⟩ := hr
  unfold Oper.wp execOp
  simp only [ho, resolve, invoke, builtin, Sem.run_bind, Sem.run_pure, Result.andThen_ok, List.map_toArray, List.map_cons, List.map_nil, hs, hx, h1]
  exact h v' w' h2
/-- append(v, texts..), for long lists. -/
theorem app_texts {base : Nat} {v : Value} {P : List Txt} (A : Option Addr) (cap : Nat) (L : List Txt) (wr : World) (h : OwnT wr base v P) (hat : TxtAt wr A L) (hA : A = none → cap = 0) (hb : base ≤ wr.heap.size) (hl : P.length ≤ 20000000) (hL : L.length ≤ 20000000) :
    ∃ v' w2, (Builtin.append_ #[25, 25] 25 #[v, .slice A L.length cap]).run Try.prog wr = .ok v' w2 ∧ OwnT w2 base v' (P ++ L) ∧ wr.grownBy w2 v.ownBlock := by
  obtain ⟨i0, hi, hz0, hz1, hz2⟩ := info_parts infoStr
  cases A with
  | none =>
    have hl0 : L = [] := by
      rcases hat with h | ⟨b', o', h, _⟩
      · exact h
      · cases h
    subst hl0
    obtain rfl : cap = 0 := hA rfl
    obtain ⟨A', c', rfl, hpc, _, _, _⟩ := h.at_
    refine ⟨_, wr, ?_, by rw [List.append_nil]; exact h, World.grownBy.refl _ _⟩
    cases A' <;> simp [Builtin.append_, run_underlying Try.underlying25, sizeOf, typeInfo, hi, Builtin.lenOf, Builtin.firstCells, storeCells, hpc]
  | some ad =>
    have hne2 : ∀ j u, (txtCells L)[j]? = some u → wr.cell? (ad.add j) = some u := by
      intro j u hu
      rcases hat with h | ⟨b', o', hAe, hb, h2⟩
      · subst h; simp [txtCells] at hu
      · obtain rfl : ad = ⟨b', o', none⟩ := Option.some.inj hAe
        rw [Addr.add_lit]
        have hj : j < L.length := by
          rcases Nat.lt_or_ge j L.length with h' | h'
          · exact h'
          · rw [List.getElem?_eq_none (by rw [txtCells_len]; exact h')] at hu; cases hu
        exact (h2 j hj).trans ((txtCells_get L j hj).symm.trans hu)
    obtain ⟨v', w2, hr, h2, h3, _⟩ := run_append_own (P := Try.prog) wr base 25 25 9 i0 (.string ⟨#[]⟩) 1 16 Try.underlying25 hi hz0 hz1 hz2 rfl (by decide) _ P.length _ h ad L.length cap (txtCells L) (by rw [txtCells_len, Nat.mul_one]) hne2 (txtCells_one L) (by unfold maxLen; omega) (by omega) hb
    refine ⟨v', w2, hr, ?_, h3⟩
    unfold OwnT
    rw [txtCells_append, List.length_append]
    exact h2
def folE (hops : Nat) (d : List UInt8) : Int := if 8 < hops + 1 then 12 else if d = [] then 5 else 0
def FolQ (w : World) (b bW : Nat) (cu cg at_ : Int) (hops : Nat) (must : Bool) (l : List Txt) (d : List UInt8) (e : Ending) (w' : World) : Prop :=
  Only [b] w w' ∧ e = .returned (.int .i64 (folE hops d)) ∧ (folE hops d = 0 → ∃ A' cap', TripAt w' b bW cu cg (if d.head? = some 47 then 1 else at_) A' (partsN d ++ l).length cap' ((hops + 1 : Nat) : Int) (must || (l.isEmpty && slashB d)) ∧ TxtAt w' A' (partsN d ++ l) ∧ (A' = none → cap' = 0) ∧ Off A' b ∧ (partsN d ++ l).length ≤ cap')
set_option maxRecDepth 100000 in
set_option maxHeartbeats 8000000 in
theorem pfollow_any (b bW : Nat) (cu cg at_ : Int) (A : Option Addr) (cap hops : Nat) (must : Bool) (l : List Txt) (d : List UInt8) (w : World) (ht : TripAt w b bW cu cg at_ A l.length cap hops must) (hat : TxtAt w A l) (hA : A = none → cap = 0) (hoff : Off A b)
    (hl : l.length ≤ 10000000) (hd : d.length ≤ 1048576) (hh : hops ≤ 8) :
    Calls Try.prog 42 #[.pointer (some ⟨b, 0, none⟩), .string (bs d)] w (FolQ w b bW cu cg at_ hops must l d) := by
  have T5 := Has.cell ht 5
  have F5 := Has.free ht 5
  have Tz := Has.lt ht
  have q1 : IntKind.i64.wrap ((hops : Int) + 1) = ((hops + 1 : Nat) : Int) := by rw [IntWalk.i64_in _ (by omega)]; omega
  obtain ⟨h1, hh1⟩ : ∃ h1 : Nat, h1 = hops + 1 := ⟨_, rfl⟩
  rw [← hh1] at q1
  obtain ⟨W1, hW1⟩ : ∃ W1, W1 = w.setCell ⟨b, 5, none⟩ (.int .i64 (h1 : Int)) := ⟨_, rfl⟩
  have O1 : Only [b] w W1 := by rw [hW1]; exact Only.setCell _ _ _ _
  have T1 : TripAt W1 b bW cu cg at_ A l.length cap (h1 : Int) must := by rw [hW1]; exact Has.setCell ht 5 (.int .i64 (h1 : Int))
  have hat1 : TxtAt W1 A l := hat.only O1 hoff
  have HFE : Hid (folE hops d = if 8 < h1 then 12 else if d = [] then 5 else 0) := by show _ = _; rw [hh1]; rfl
  have HH1 := Lib.hid hh1
  have hh2 : h1 ≤ 9 := by omega
  clear hh1 hat
  go_enter Try.func42, Try.ntmps42
  go_upto_region 2 with fail
  rw [← hW1]
  clear hW1 T5 F5 q1
  have T5 := Has.cell T1 5
  have Tz1 := Has.lt T1
  have e0 : ∀ e, folE hops d = e → e ≠ 0 → ∀ w', Only [b] w w' → FolQ w b bW cu cg at_ hops must l d (.returned (.int .i64 e)) w' := fun e he h0 w' ho => ⟨ho, by rw [he], fun k => absurd (he.symm.trans k) h0⟩
  have HS := Lib.hid e0
  clear e0
  by_cases c1 : 8 < h1
  · have e1 : Hid (folE hops d = 12) := by show _ = _; rw [HFE.out, if_pos c1]
    have t1 : (8 : Int) < (h1 : Int) := by omega
    clear c1 HFE
    go_wp2_with fail
    go_ret
    exact HS.out _ e1.out (by decide) _ O1
  have t1 : ¬ (8 : Int) < (h1 : Int) := by omega
  have HFE2 : Hid (folE hops d = if d = [] then 5 else 0) := by show _ = _; rw [HFE.out, if_neg c1]
  clear HFE c1
  cases d with
  | nil =>
    have e1 : Hid (folE hops [] = 5) := by show _ = _; rw [HFE2.out, if_pos rfl]
    have z0 : (bs []).toList = [] := bs_toList []
    clear HFE2
    go_wp2_with fail
    go_ret
    exact HS.out _ e1.out (by decide) _ O1
  | cons c t =>
    have e1 : Hid (folE hops (c :: t) = 0) := by show _ = _; rw [HFE2.out, if_neg (by simp)]
    have z0 : (bs (c :: t)).toList.isEmpty = false := by rw [bs_toList]; rfl
    have hks : 0 < (bs (c :: t)).size := by rw [bs_size]; simp
    have hg : (bs (c :: t))[0] = c := rfl
    clear HFE2 HS
    obtain ⟨at2, hat2⟩ : ∃ a : Int, a = if (c :: t).head? = some 47 then 1 else at_ := ⟨_, rfl⟩
    have HA2 := Lib.hid hat2
    obtain ⟨v, hv⟩ : ∃ v : Bool, v = (c == 47) := ⟨_, rfl⟩
    have hs2 : (((bs (c :: t))[0].toNat : Int) == 47) = v := by rw [hg, hv]; exact u8_eq (c := c) (d := 47)
    have HV1 : Hid (v = true → at2 = 1) := by show _ → _; intro k; rw [hv] at k; rw [hat2, if_pos (by simpa using k)]
    have HV0 : Hid (v = false → at2 = at_) := by show _ → _; intro k; rw [hv] at k; rw [hat2, if_neg (by simpa using k)]
    clear hg hat2 hv
    go_upto_if 21 with fail
    clear T5 Tz1
    go_cut [] (fun wc => TripAt wc b bW cu cg at2 A l.length cap (h1 : Int) must ∧ TxtAt wc A l ∧ Only [b] w wc)
    case first =>
      cases v
      · have e2 := Lib.hid (HV0.out rfl)
        clear HV0 HV1
        go_wp2_with fail
        go_meet
        exact ⟨by rw [e2.out]; exact T1, hat1, O1⟩
      · have e2 := Lib.hid (HV1.out rfl)
        clear HV0 HV1
        have F3 := Has.free T1 3
        have T3 := Has.cell T1 3
        have Tz1 := Has.lt T1
        go_wp2_with fail
        go_meet
        have T2 : TripAt (W1.setCell ⟨b, 3, none⟩ (.int .i64 1)) b bW cu cg at2 A l.length cap (h1 : Int) must := by rw [e2.out]; exact Has.setCell T1 3 (.int .i64 1)
        exact ⟨T2, hat1.only (Only.setCell _ _ _ _) hoff, O1.then (Only.setCell _ _ _ _)⟩
    case rest =>
      obtain ⟨T2, hatc, O2⟩ := hcut
      obtain ⟨lb, hlb⟩ : ∃ lb, lb = l.isEmpty := ⟨_, rfl⟩
      have t2 : ((l.length : Int) == 0) = lb := by rw [hlb]; cases l <;> simp <;> omega
      obtain ⟨sl, hsl⟩ : ∃ sl, sl = slashB (c :: t) := ⟨_, rfl⟩
      obtain ⟨m2, hm2⟩ : ∃ m2, m2 = (must || (l.isEmpty && slashB (c :: t))) := ⟨_, rfl⟩
      have HM : Hid (m2 = (must || (lb && sl))) := by show _ = _; rw [hm2, hlb, hsl]
      have HM2 := Lib.hid hm2
      have HSL := Lib.hid hsl
      have T5 := Has.cell T2 4
      have Tz1 := Has.lt T2
      clear hlb hsl hm2 HV0 HV1 T1 hat1 O1
      go_upto_if 30 with fail
      clear T5 Tz1
      go_cut [] (fun wd => TripAt wd b bW cu cg at2 A l.length cap (h1 : Int) m2 ∧ TxtAt wd A l ∧ Only [b] w wd)
      case first =>
        cases lb
        · have e2 : Hid (m2 = must) := by show _ = _; rw [HM.out]; simp
          go_wp2_with fail
          go_meet
          exact ⟨by rw [e2.out]; exact T2, hatc, O2⟩
        · have T6 := Has.cell T2 6
          have F6 := Has.free T2 6
          have Tz1 := Has.lt T2
          have h6 : TripAt (wc.setCell ⟨b, 6, none⟩ (.bool m2)) b bW cu cg at2 A l.length cap (h1 : Int) m2 := Has.setCell T2 6 (.bool m2)
          cases must
          · have e2 : Hid (m2 = sl) := by show _ = _; rw [HM.out]; rfl
            go_wp2_with fail
            refine (pslash_any (c :: t) _ (by simp at hd ⊢; omega)).mono ?_
            rw [← HSL.out, ← e2.out]
            rintro e w4 ⟨rfl, b4⟩
            have T3 := TripAt.ext T2 b4
            have T6 := Has.cell T3 6
            have F6 := Has.free T3 6
            have Tz1 := Has.lt T3
            have h6 : TripAt (w4.setCell ⟨b, 6, none⟩ (.bool m2)) b bW cu cg at2 A l.length cap (h1 : Int) m2 := Has.setCell T3 6 (.bool m2)
            go_wp2_with fail
            go_meet
            exact ⟨h6, (hatc.ext b4).only (Only.setCell _ _ _ _) hoff, (O2.ext b4).then (Only.setCell _ _ _ _)⟩
          · have e2 : Hid (m2 = true) := by show _ = _; rw [HM.out]; rfl
            rw [e2.out] at h6
            go_wp2_with fail
            go_meet
            exact ⟨by rw [e2.out]; exact h6, hatc.only (Only.setCell _ _ _ _) hoff, O2.then (Only.setCell _ _ _ _)⟩
      case rest =>
        clear T2 hatc O2
        obtain ⟨T2, hatc, O2⟩ := hcut
        go_upto_region 10 with fail
        have T4 := Has.cell T2 4
        have Tz := Has.lt T2
        have hW1 : Ext wc wc.drew := (Ext.refl _).drew
        have hW2 : Ext wc (wc.drew.alloc (.cells #[.string (bs (c :: t))] 9)) := hW1.alloc _
        have hpl := parts_len (c :: t)
        have KS : Hid (∀ w', Ext wc w' → w'.cell? ⟨b, 4, none⟩ = some (.slice A l.length cap)) := fun w' h => (h.cell Tz).trans T4
        have hcp := KS.out _ hW2
        have hcd := KS.out _ hW1
        go_region_law (first | (go_simp; go_at_call 39; refine (pparts_any (c :: t) _).mono ?_; rintro e wp ⟨rfl, rfl⟩) | (go_simp; go_at_call 38; refine (collect_any _ (c :: t) (by simp at hd ⊢; omega) _ (by simp) ((Has.new _ _).cell 0)).mono ?_; rintro e wk ⟨v3, rfl, ok3, bk3⟩; have hk3 := hW2.trans bk3; have hck := KS.out _ hk3; have hzk := (TripAt.ext T2 hk3); have hzk2 := Has.lt hzk) | (refine step_append15 _ (by rfl) _ _ 25 (by rfl) _ _ (by rfl) (by rfl) (app_texts A cap l _ ok3 (hatc.ext hk3) hA bk3.size (by simp at hd hpl ⊢; omega) (by omega)) ?_; rintro v9 w9 ⟨hO9, hg9⟩; have hT9 : TripAt w9 b bW cu cg at2 A l.length cap (h1 : Int) m2 := has_grown (TripAt.ext T2 hk3) hg9 (row_ne ok3 (TripAt.ext T2 hk3) (by decide)); have hc9 := Has.cell hT9 4; have hf9 := Has.free hT9 4; have hz9 := Has.lt hT9; obtain ⟨A9, c9, rfl, hA91, hA92, hA93, hA94⟩ := OwnT.at_ hO9))
        all_goals
          have E9 : Ext wc w9 := hk3.grown hg9 (fun g hv => by have := (World.ownsRow.lt ok3 g hv).1; simp at this; omega)
          have hne9 := row_ne hO9 hT9 (by decide)
          have hoff9 : Off A9 b := fun x hx => by
            intro e
            refine hne9 ?_
            rw [hx, ← e]; rfl
          have hfin : TripAt (w9.setCell ⟨b, 4, none⟩ (.slice A9 ((partsN (c :: t)).length + l.length) c9)) b bW cu cg at2 A9 (partsN (c :: t) ++ l).length c9 (h1 : Int) m2 := by
            rw [List.length_append]
            exact Has.setCell hT9 4 (.slice A9 ((partsN (c :: t)).length + l.length) c9)
          have O9 : Only [b] w (w9.setCell ⟨b, 4, none⟩ (.slice A9 ((partsN (c :: t)).length + l.length) c9)) := (O2.ext E9).then (Only.setCell _ _ _ _)
          have hat9 := hA93.only (Only.setCell w9 b 4 (.slice A9 ((partsN (c :: t)).length + l.length) c9)) hoff9
          clear T4 hcp hcd hck hzk2 hc9 hf9 hz9
          go_wp2_with fail
          go_ret
          refine ⟨O9, by rw [e1.out]; rfl, fun _ => ⟨A9, c9, ?_, hat9, hA94, hoff9, hA91⟩⟩
          rw [← HA2.out, ← HM2.out, ← HH1.out]
          exact hfin
end Go.Proofs.Ytjblimclakfhfaa
