/- Layer 4 (pct): the reference's Encode; Decode of both. -/
import Derived.Test.YtanaifobmkjpaaaDoorPctE
namespace Go.Proofs.YtanaifobmkjpaaaDoor
open Go.ChangeShapes Go.WideShapes Go.ChangeAt Go.RowKit

set_option maxRecDepth 100000 in
set_option maxHeartbeats 2000000 in
theorem rencode_any (s : ByteArray) (w : World) (hs : s.size ≤ 1000000) : Calls Tryd.prog 47 #[.string s] w (Ret w (.string (bs (encL s.data.toList)))) := by
  go_enter Tryd.func47, Tryd.ntmps47
  go_wp2_with fail
  go_loopw [4, 5] (fun o i wr => ∃ k : Nat, k ≤ s.size ∧ i = .int .i64 k ∧ o = .string (bs (encL (s.data.toList.take k))) ∧ Ext w wr) (fun _ i _ => s.size - (intOf i).toNat)
  case atStart => exact ⟨0, by omega, rfl, rfl, Ext.refl _⟩
  case round =>
    obtain ⟨k, hk, rfl, rfl, hx⟩ := hrel
    have hle := encL_le (s.data.toList.take k)
    have hll : (s.data.toList.take k).length ≤ k := List.length_take_le _ _
    by_cases hlt : k < s.size
    · have hsn := Lib.hid (encL_snoc (s.data.toList.take k) s[k])
      have hts := Lib.hid (take_snoc s k hlt)
      have hsl := fun w => slice_str (P := Tryd.prog) Tryd.underlying9 s (k : Int) ((k : Int) + 1) k (k + 1) rfl (by omega) (by omega) (by omega) _ (ext_one s k hlt) w
      have z0 := bs_size (encL (s.data.toList.take k))
      have z1 : (bs [s[k]]).size = 1 := bs_size _
      have a0 := bs_append (encL (s.data.toList.take k)) [s[k]]
      have hc256 : (s[k].toNat : Int) < 256 := by have := s[k].toNat_lt; omega
      go_wp2_with fail
      refine (rplain_any _ _).mono ?_
      rintro e w1 ⟨rfl, b1⟩
      cases hc : plainC s[k] with
      | true =>
        have hl := Lib.hid (encC_plain hc)
        clear hc
        go_wp2_with fail
        go_roundw
        case rel => exact ⟨k + 1, by omega, by go_num, by rw [hts.out, hsn.out, hl.out], hx.trans b1⟩
        case measure => simp [intOf]; omega
      | false =>
        have hl := Lib.hid (encC_not hc)
        clear hc hsl z1 a0
        generalize s[k].toNat = n at hc256 hl ⊢
        have s1 := fun w => slice_str (P := Tryd.prog) Tryd.underlying9 ⟨#[48, 49, 50, 51, 52, 53, 54, 55, 56, 57, 65, 66, 67, 68, 69, 70]⟩ ((n : Int) / 16) ((n : Int) / 16 + 1) (n / 16) (n / 16 + 1) (by omega) (by omega) (by omega) (by show n / 16 + 1 ≤ 16; omega) _ (hex_ext (n / 16) (by omega)) w
        have s2 := fun w => slice_str (P := Tryd.prog) Tryd.underlying9 ⟨#[48, 49, 50, 51, 52, 53, 54, 55, 56, 57, 65, 66, 67, 68, 69, 70]⟩ ((n : Int) % 16) ((n : Int) % 16 + 1) (n % 16) (n % 16 + 1) (by omega) (by omega) (by omega) (by show n % 16 + 1 ≤ 16; omega) _ (hex_ext (n % 16) (by omega)) w
        have e1 : IntKind.i64.wrap ((n : Int) / 16 + 1) = (n : Int) / 16 + 1 := wrap_i64_in (by omega) (by omega)
        have e3 : IntKind.i64.wrap ((n : Int) % 16 + 1) = (n : Int) % 16 + 1 := wrap_i64_in (by omega) (by omega)
        have z1 : (bs [hexU (n / 16)]).size = 1 := bs_size _
        have z2 : (bs [hexU (n % 16)]).size = 1 := bs_size _
        have z3 : (bs (encL (s.data.toList.take k) ++ [37])).size = (encL (s.data.toList.take k)).length + 1 := by rw [bs_size]; simp
        have z4 : (bs (encL (s.data.toList.take k) ++ [37, hexU (n / 16)])).size = (encL (s.data.toList.take k)).length + 2 := by rw [bs_size]; simp
        have a1 : bs (encL (s.data.toList.take k)) ++ ⟨#[37]⟩ = _ := bs_append (encL (s.data.toList.take k)) [37]
        have a2 : bs (encL (s.data.toList.take k) ++ [37]) ++ bs [hexU (n / 16)] = bs (encL (s.data.toList.take k) ++ [37, hexU (n / 16)]) := by rw [bs_append]; simp
        have a3 : bs (encL (s.data.toList.take k) ++ [37, hexU (n / 16)]) ++ bs [hexU (n % 16)] = bs (encL (s.data.toList.take k) ++ [37, hexU (n / 16), hexU (n % 16)]) := by rw [bs_append]; simp
        have hL : (encL (s.data.toList.take k)).length ≤ 3000000 := by omega
        have t0 : ¬ (9223372036854775807 < (encL (s.data.toList.take k)).length + 1) := by omega
        have t1 : ¬ (9223372036854775807 < (encL (s.data.toList.take k)).length + 1 + 1) := by omega
        have t2 : ¬ (9223372036854775807 < (encL (s.data.toList.take k)).length + 2) := by omega
        have t3 : ¬ (9223372036854775807 < (encL (s.data.toList.take k)).length + 2 + 1) := by omega
        have t4 : ¬ (9223372036854775807 < (encL (s.data.toList.take k)).length + 3) := by omega
        have q1 : (n : Int).tdiv 16 = (n : Int) / 16 := Int.tdiv_eq_ediv_of_nonneg (by omega)
        have q3 : IntKind.i64.wrap ((n : Int) / 16) = (n : Int) / 16 := wrap_i64_in (by omega) (by omega)
        have q2 : (n : Int).tmod 16 = (n : Int) % 16 := Int.tmod_eq_emod_of_nonneg (by omega)
        go_wp2_with fail
        go_region_held3 (fun w' => Ext w w') ((exact (hx.trans b1).drew)) (fail)
        go_wp2_with fail
        go_roundw
        case rel => exact ⟨k + 1, by omega, by go_num, by rw [hts.out, hsn.out, hl.out], (hx.trans b1).drew⟩
        case measure => simp [intOf]; omega
    · obtain rfl : k = s.size := by omega
      go_wp2_with fail
      go_ret
      exact Ret.mk (by rw [List.take_of_length_le (by simp)]; rfl) hx
end Go.Proofs.YtanaifobmkjpaaaDoor
