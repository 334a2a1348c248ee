/- Layer 4 (pct): plain, Len and Encode of the program. -/
import Derived.Test.YtanaifobmkjpaaaDoorPctW
import Derived.Test.YtanaifobmkjpaaaDoorBldB
import Derived.Test.YtanaifobmkjpaaaDoorShelf
import Derived.Deep.RegionHeld3
namespace Go.Proofs.YtanaifobmkjpaaaDoor
open Go.ChangeShapes Go.WideShapes Go.ChangeAt Go.RowKit

/-! ### plain -/
theorem idx_plain (c : UInt8) : (0 ≤ Lib.indexByte [45, 46, 95, 126, 47] c) ↔ (c.toNat = 45 ∨ c.toNat = 46 ∨ c.toNat = 95 ∨ c.toNat = 126 ∨ c.toNat = 47) := by
  have : ∀ n : Fin 256, (0 ≤ Lib.indexByte [45, 46, 95, 126, 47] (UInt8.ofNat n.val)) ↔ (n.val = 45 ∨ n.val = 46 ∨ n.val = 95 ∨ n.val = 126 ∨ n.val = 47) := by decide +kernel
  have h := this ⟨c.toNat, c.toNat_lt⟩
  simp only [UInt8.ofNat_toNat] at h
  exact h
theorem toU8 (c : UInt8) : (c.toNat : Int).toNat.toUInt8 = c := by simp
set_option maxHeartbeats 1000000 in
theorem pplain_any (c : UInt8) (w : World) : Calls Tryd.prog 76 #[.int .u8 c.toNat] w (Ret w (.bool (plainC c))) := by
  have hp := Lib.hid (plainC_iff c)
  have hi := Lib.hid (idx_plain c)
  have hu := Lib.hid (toU8 c)
  go_enter Tryd.func76, Tryd.ntmps76
  go_wp2_with (go_at_call 97; refine (Tryd.strings_IndexByte _ _ _).mono ?_; rintro e w' ⟨rfl, rfl⟩)
  all_goals
    go_ret
    refine Ret.mk (ret_bool ?_) (Ext.refl _)
    rw [Bool.eq_iff_iff]
    refine Iff.trans ?_ hp.out.symm
    have hi' := hi.out
    simp at *
    omega

/-! ### Len -/
def lenC (c : UInt8) : Nat := if plainC c then 1 else 3
theorem lenC_enc (c : UInt8) : lenC c = (encC c).length := by unfold lenC encC; split <;> rfl
/-! ### Encode -/
def hexS : ByteArray := ⟨#[48, 49, 50, 51, 52, 53, 54, 55, 56, 57, 65, 66, 67, 68, 69, 70]⟩
theorem hex_ext (n : Nat) (h : n < 16) : (⟨#[48, 49, 50, 51, 52, 53, 54, 55, 56, 57, 65, 66, 67, 68, 69, 70]⟩ : ByteArray).extract n (n + 1) = bs [hexU n] := by
  have : ∀ k : Fin 16, (⟨#[48, 49, 50, 51, 52, 53, 54, 55, 56, 57, 65, 66, 67, 68, 69, 70]⟩ : ByteArray).extract k.val (k.val + 1) = bs [hexU k.val] := by decide +kernel
  exact this ⟨n, h⟩
set_option maxRecDepth 100000 in
set_option maxHeartbeats 2000000 in
theorem pencode_any (s : ByteArray) (w : World) (hs : s.size ≤ 1000000) : Calls Tryd.prog 45 #[.string s] w (Ret w (.string (bs (encL s.data.toList)))) := by
  go_enter Tryd.func45, Tryd.ntmps45
  go_wp2_with fail
  go_loopw [8] (fun i wr => ∃ k : Nat, k ≤ s.size ∧ i = .int .i64 k ∧ Lib.IsBuilder 65 5 w.heap.size w.heap.size (Lib.byteCells (encL (s.data.toList.take k))) wr ∧ Ext w wr) (fun i _ => s.size - (intOf i).toNat)
  case atStart => exact ⟨0, by omega, rfl, Lib.fresh_isBuilder _ _ w, (Ext.refl _).alloc _⟩
  case round =>
    obtain ⟨k, hk, rfl, hB, hx⟩ := hrel
    have hle := encL_le (s.data.toList.take k)
    have hll : (s.data.toList.take k).length ≤ k := List.length_take_le _ _
    by_cases hlt : k < s.size
    · have hsn := Lib.hid (encL_snoc (s.data.toList.take k) s[k])
      have hts := Lib.hid (take_snoc s k hlt)
      go_wp2_with fail
      refine (pplain_any _ _).mono ?_
      rintro e w1 ⟨rfl, b1⟩
      have hB1 : Lib.IsBuilder 65 5 w.heap.size w.heap.size (Lib.byteCells (encL (s.data.toList.take k))) w1 := bld_keep hB b1
      cases hc : plainC s[k] with
      | true =>
        have hl := Lib.hid (encC_plain hc)
        clear hc
        go_wp2_with fail
        refine (bld_byte _ _ _ _ _ hB1 (by simp [Lib.byteCells]; omega) (hx.trans b1).size).mono ?_
        rintro e w2 ⟨rfl, h2, b2⟩
        go_wp2_with fail
        go_roundw
        case rel => exact ⟨k + 1, by omega, by go_num, .inr (by rw [hts.out, hsn.out, hl.out]; simpa [Lib.byteCells] using h2), Below.trans (hx.trans b1) b2⟩
        case measure => simp [intOf]; omega
      | false =>
        have hl := Lib.hid (encC_not hc)
        clear hc
        go_wp2_with fail
        have hc256 : s[k].toNat < 256 := s[k].toNat_lt
        generalize s[k].toNat = n at hc256 hl ⊢
        have e1 : IntKind.u8.wrap ((n : Int) / 16 + 1) = (n : Int) / 16 + 1 := by rw [IntKind.wrap_u8]; omega
        have e2 : bits BinOp.and IntKind.u8 (n : Int) 15 = (n : Int) % 16 := u8_and15 _ (by omega) (by omega)
        have e3 : IntKind.u8.wrap ((n : Int) % 16 + 1) = (n : Int) % 16 + 1 := by rw [IntKind.wrap_u8]; omega
        have s1 := fun w => slice_strk (P := Tryd.prog) Tryd.underlying9 ⟨#[48, 49, 50, 51, 52, 53, 54, 55, 56, 57, 65, 66, 67, 68, 69, 70]⟩ .u8 .u8 ((n : Int) / 16) ((n : Int) / 16 + 1) (n / 16) (n / 16 + 1) (by omega) (by omega) (by omega) (by show n / 16 + 1 ≤ 16; omega) _ (hex_ext (n / 16) (by omega)) w
        have s2 := fun w => slice_strk (P := Tryd.prog) Tryd.underlying9 ⟨#[48, 49, 50, 51, 52, 53, 54, 55, 56, 57, 65, 66, 67, 68, 69, 70]⟩ .u8 .u8 ((n : Int) % 16) ((n : Int) % 16 + 1) (n % 16) (n % 16 + 1) (by omega) (by omega) (by omega) (by show n % 16 + 1 ≤ 16; omega) _ (hex_ext (n % 16) (by omega)) w
        have z1 : (bs [hexU (n / 16)]).size = 1 := bs_size _
        have z2 : (bs [hexU (n % 16)]).size = 1 := bs_size _
        have z3 : (bs [37, hexU (n / 16)]).size = 2 := bs_size _
        have a1 : ⟨#[37]⟩ ++ bs [hexU (n / 16)] = bs [37, hexU (n / 16)] := bs_append [37] _
        have a2 : bs [37, hexU (n / 16)] ++ bs [hexU (n % 16)] = bs [37, hexU (n / 16), hexU (n % 16)] := bs_append [37, hexU (n / 16)] _
        have h99 : (Lib.byteCells (encL (s.data.toList.take k))).length + (bs [37, hexU (n / 16), hexU (n % 16)]).size ≤ 140737488355328 := by rw [bs_size]; simp [Lib.byteCells]; omega
        have H99 := Lib.hid h99
        clear h99
        go_region_held3 (fun _ => True) (trivial)
          ((go_at_call 34; refine (bld_string _ _ _ _ _ (bld_keep hB1 ((Ext.refl _).drew)) H99.out (hx.trans b1).size).mono ?_; rintro e w2 ⟨rfl, h2, b2⟩))
        go_wp2_with fail
        go_roundw
        case rel => exact ⟨k + 1, by omega, by go_num, .inr (by rw [hts.out, hsn.out, hl.out]; simpa [Lib.byteCells, Lib.strCells, bs] using h2), Below.trans (hx.trans b1).drew b2⟩
        case measure => simp [intOf]; omega
    · obtain rfl : k = s.size := by omega
      go_wp2_with fail
      refine (Tryd.Builder_String_any _ _ _ _ hB hx.size).mono ?_
      rintro e w1 ⟨rfl, b1⟩
      go_wp2_with fail
      go_ret
      exact Ret.mk (by rw [List.take_of_length_le (by simp)]; rfl) (Below.trans hx b1)
end Go.Proofs.YtanaifobmkjpaaaDoor
