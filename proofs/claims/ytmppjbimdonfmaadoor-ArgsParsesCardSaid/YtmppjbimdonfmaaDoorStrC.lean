/- Cuts of texts with one bound, as equations for the walk; a text's last byte. -/
import Derived.Test.YtmppjbimdonfmaaDoorStr
namespace Go.Proofs.YtmppjbimdonfmaaDoor
open Go.RowKit

theorem slice_to {P : Program} {t : TypeId} (ht : P.underlying t = some .string) (s : ByteArray) (j : Int) (b : Nat) (hj : j = b) (hb : b ≤ s.size) (r : ByteArray) (hr : s.extract 0 b = r) (w : World) :
    (Instr.slice t (.string s) none (some (.int .i64 j)) none).run P w = .ok (.string r) w := by
  subst hj; subst hr
  rw [run_slice_string_to_if (P := P) w t s .i64 (b : Int) ht, if_pos (by omega)]; simp
theorem slice_from {P : Program} {t : TypeId} (ht : P.underlying t = some .string) (s : ByteArray) (i : Int) (a : Nat) (hi : i = a) (ha : a ≤ s.size) (r : ByteArray) (hr : s.extract a s.size = r) (w : World) :
    (Instr.slice t (.string s) (some (.int .i64 i)) none none).run P w = .ok (.string r) w := by
  subst hi; subst hr
  rw [run_slice_string_from_if (P := P) w t s .i64 (a : Int) ht, if_pos (by omega)]; simp
theorem bs_to (l : List UInt8) (b : Nat) : (bs l).extract 0 b = bs (l.take b) := by rw [bs_extract]; simp
theorem bs_from (l : List UInt8) (a : Nat) : (bs l).extract a (bs l).size = bs (l.drop a) := by
  rw [bs_extract, bs_size, List.take_of_length_le (by rw [List.length_drop]; omega)]
theorem u8_eq {c d : UInt8} : ((c.toNat : Int) == (d.toNat : Int)) = (c == d) := by
  rw [Bool.eq_iff_iff, beq_iff_eq, beq_iff_eq]
  exact ⟨fun h => UInt8.toNat_inj.1 (by omega), fun h => by rw [h]⟩
end Go.Proofs.YtmppjbimdonfmaaDoor
