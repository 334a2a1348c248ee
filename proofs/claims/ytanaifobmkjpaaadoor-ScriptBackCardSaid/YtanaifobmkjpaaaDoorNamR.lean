/- Layer 2 (name): the reference: Pieces, Parts, Slash, Last, Same, Path. -/
import Derived.Test.YtanaifobmkjpaaaDoorNamP
import Derived.Test.YtanaifobmkjpaaaDoorTxt
import Derived.Test.YtanaifobmkjpaaaDoorTilP
import Derived.Test.YtanaifobmkjpaaaDoorStrC
import Derived.BigQuiet
import Derived.StillTailTactics
import Derived.RangeFuncBox
namespace Go.Proofs.YtanaifobmkjpaaaDoor
open Go.ChangeShapes Go.WideShapes Go.ChangeAt Go.RowKit

theorem OwnT.base {w : World} {b b' : Nat} {v : Value} {l : List Txt} (h : OwnT w b v l) (hb : b' ≤ b) : OwnT w b' v l := by
  obtain ⟨h1, h2⟩ := h
  refine ⟨h1, ?_⟩
  rcases h2 with h2 | ⟨g, cap, cur, hv, hg, hr⟩
  · exact .inl h2
  · exact .inr ⟨g, cap, cur, hv, Nat.le_trans hb hg, hr⟩
def TxtR (w : World) (l : List Txt) (e : Ending) (w' : World) : Prop := ∃ v, e = .returned v ∧ OwnT w' w.heap.size v l ∧ Ext w w'
theorem pieces_cost (l : List UInt8) : (pc [] l).length ≤ l.length + 1 := pc_len l []
/-- A text is held against short ones. -/
theorem txt_tests {p : List UInt8} : ((bs p).toList == ([] : List UInt8)) = (p == []) ∧ ((bs p).toList == [46]) = (p == [46]) ∧ ((bs p).toList == [46, 46]) = (p == [46, 46]) ∧ (bs p).toList.isEmpty = (p == []) := by
  rw [bs_toList]
  refine ⟨rfl, rfl, rfl, ?_⟩
  cases p <;> rfl
/-- The last piece, in a row. -/
theorem last_in {l : List UInt8} {w : World} {A : Option Addr} (h : TxtAt w A (pc [] l)) : ∃ n b o, (pc [] l).length = n + 1 ∧ A = some ⟨b, o, none⟩ ∧ w.cell? ⟨b, o + n, none⟩ = some (.string (bs (lastP l))) := by
  obtain ⟨n, hn⟩ : ∃ n, (pc [] l).length = n + 1 := Nat.exists_eq_succ_of_ne_zero (fun e => pc_ne l [] (List.eq_nil_of_length_eq_zero e))
  obtain ⟨b, o, hA, _, hc⟩ := h.at_ (Ext.refl _) n (by omega)
  refine ⟨n, b, o, hn, hA, ?_⟩
  rw [hc]
  congr 3
  unfold lastP
  have e : (pc [] l).length - 1 = n := by omega
  rw [List.getLastD_eq_getLast?, List.getLast?_eq_getElem?, e, List.getElem?_eq_getElem (by omega)]; rfl
def strOf : Value → ByteArray
  | .string s => s
  | _ => ⟨#[]⟩
theorem cutN_snoc (l : List UInt8) : cutN (l ++ [47]) = cutN l := by
  unfold cutN
  rw [List.reverse_append]; simp
theorem cutN_stop {l : List UInt8} {c : UInt8} (h : c ≠ 47) : cutN (l ++ [c]) = l ++ [c] := by
  unfold cutN
  rw [List.reverse_append]
  have : (c == 47) = false := beq_eq_false_iff_ne.2 h
  simp [this]
theorem snoc_cases (l : List UInt8) : l = [] ∨ ∃ a c, l = a ++ [c] := by
  rcases List.eq_nil_or_concat l with h | ⟨a, c, h⟩
  · exact .inl h
  · exact .inr ⟨a, c, by rw [h, List.concat_eq_append]⟩

theorem lastN_cut {m l : List UInt8} (h : cutN m = m) (hc : cutN m = cutN l) : bs (lastN l) = bif lastP m == [46] || lastP m == [46, 46] then ⟨#[]⟩ else bs (lastP m) := by
  unfold lastN
  rw [← hc, h]
  by_cases h1 : lastP m = [46]
  · rw [h1]; rfl
  · by_cases h2 : lastP m = [46, 46]
    · rw [h2]; rfl
    · have e1 : (lastP m == [46]) = false := beq_eq_false_iff_ne.2 h1
      have e2 : (lastP m == [46, 46]) = false := beq_eq_false_iff_ne.2 h2
      rw [e1, e2]
      simp [h1, h2]
set_option maxRecDepth 100000 in
set_option maxHeartbeats 1000000 in
theorem rsame_any (A A' : Option Addr) (cap cap' : Nat) (es : List Txt) (w : World) (ha : TxtAt w A es) (hb : TxtAt w A' es) (hlen : es.length ≤ 1000000) : Calls Tryd.prog 40 #[.slice A es.length cap, .slice A' es.length cap'] w (Ret w (.bool true)) := by
  go_enter Tryd.func40, Tryd.ntmps40
  go_wp2_with fail
  go_loopw [5] (fun i wr => ∃ k : Nat, k ≤ es.length ∧ i = .int .i64 k ∧ Ext w wr) (fun i _ => es.length - (intOf i).toNat)
  case atStart => exact ⟨0, Nat.zero_le _, rfl, Ext.refl _⟩
  case round =>
    obtain ⟨k, hk, rfl, hE⟩ := hrel
    by_cases hlt : (k : Int) < es.length
    · have hkl : k < es.length := by omega
      obtain ⟨b, o, rfl, hbb, hcl⟩ := ha.at_ hE k hkl
      obtain ⟨b', o', rfl, hbb', hcl'⟩ := hb.at_ hE k hkl
      obtain ⟨X, hX⟩ : ∃ X, X = bs es[k] := ⟨_, rfl⟩
      rw [← hX] at hcl hcl'
      have hk0 : (0 : Int) ≤ (k : Int) := Int.natCast_nonneg _
      have hneg : decide ((k : Int) < 0) = false := decide_eq_false (by omega)
      have hge : decide ((0 : Int) ≤ (k : Int)) = true := decide_eq_true (by omega)
      clear hX
      go_wp2_with fail
      go_quiet (fail)
      go_wp2_with fail
      go_roundw
      case rel => exact ⟨k + 1, by omega, by go_num, by first | exact hE | exact hE.drew | exact hE.drewN _⟩
      case measure => simp [intOf]; omega
    · obtain rfl : k = es.length := by omega
      go_wp2_with fail
      go_ret
      exact Ret.mk rfl hE
def pathN (l : List UInt8) : Int := if l = [] then 5 else if l.head? ≠ some 47 ∨ hasB l 0 = true then 1 else if 4096 < l.length then 13 else 0
theorem pathN_no {l : List UInt8} (h0 : ¬ l = []) : pathN l = if l.head? ≠ some 47 ∨ hasB l 0 = true then 1 else if 4096 < l.length then 13 else 0 := by
  unfold pathN; rw [if_neg h0]
end Go.Proofs.YtanaifobmkjpaaaDoor
