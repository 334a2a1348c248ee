/- Layer 2 (name): the walk of NameStops. -/
import Derived.Test.YtmppjbimdonfmaaDoorNamM
namespace Go.Proofs.YtmppjbimdonfmaaDoor
open Go.ChangeShapes Go.WideShapes Go.ChangeAt Go.RowKit

set_option maxRecDepth 100000 in
set_option maxHeartbeats 4000000 in
theorem nameStops_any (l : List UInt8) (n : Nat) (hn8 : n < 256) (w : World) : Calls Tryd.prog 5 #[.string (bs l), .int .u8 n] w (Ret w (.bool true)) := by
  have z0 : (bs l).size = l.length := bs_size l
  cases hb : fewB l.length with
  | false =>
    have HB := Lib.hid hb
    clear hb
    go_enter Tryd.func5, Tryd.ntmps5
    go_wp2_with fail
    refine (few_any l _).mono ?_
    rintro e w1 ⟨rfl, hE1⟩
    rw [HB.out]
    go_wp2_with fail
    refine (awake2 _).mono ?_
    rintro e w2 ⟨rfl, hE2⟩
    go_wp2_with fail
    go_ret
    exact Ret.mk rfl (hE1.trans hE2)
  | true =>
    have hn := fewB_len hb
    have hl : l.length ≤ 1000000 := by omega
    have hpl := parts_len l
    have HB := Lib.hid hb
    clear hb
    go_enter Tryd.func5, Tryd.ntmps5
    go_wp2_with fail
    refine (few_any l _).mono ?_
    rintro e w1 ⟨rfl, hE1⟩
    rw [HB.out]
    go_wp2_with fail
    have hm0 : (n : Int) % 8 + 1 = ((n % 8 + 1 : Nat) : Int) := by omega
    rw [hm0]
    obtain ⟨m, hm⟩ : ∃ m, m = n % 8 + 1 := ⟨_, rfl⟩
    have hm1 : 0 < m ∧ m ≤ 8 := by omega
    rw [← hm]
    clear hm hm0
    refine (all_any l m _ hl hm1.1 (by omega)).mono ?_
    rintro e w2 ⟨v, rfl, hv, hE2⟩
    obtain ⟨A, cap, rfl, hle, hcm, hat, hAn⟩ := hv.at_
    clear hv hAn
    go_wp2_with fail
    refine (rparts_any l _ hl).mono ?_
    rintro e w3 ⟨v, rfl, hv, hE3⟩
    obtain ⟨A', cap', rfl, hle', hcm', hat', hAn'⟩ := hv.at_
    clear hv
    obtain ⟨L, hL⟩ : ∃ L, L = partsN l := ⟨_, rfl⟩
    rw [← hL] at hat hat' hpl hle hle' ⊢
    have HL := Lib.hid hL
    clear hL
    have hmin : Hid ((L.take m).length = min m L.length) := List.length_take
    go_wp2_with fail
    have hmi : (min (m : Int) (L.length : Int)).toNat = min m L.length := by omega
    have hmi2 : Hid (min m L.length ≤ 1000000) := by show _ ≤ _; omega
    simp only [hmi, ← hmin.out]
    have h9 := rsame_any A A' cap cap' (L.take m) w3 (hat.ext hE3) (hat'.take m) (by rw [hmin.out]; exact hmi2.out)
    refine h9.mono ?_
    rintro e w4 ⟨rfl, hE4⟩
    go_wp2_with fail
    refine (awake2 _).mono ?_
    rintro e w5 ⟨rfl, hE5⟩
    go_wp2_with fail
    go_ret
    exact Ret.mk rfl (hE1.trans (hE2.trans (hE3.trans (hE4.trans hE5))))
end Go.Proofs.YtmppjbimdonfmaaDoor
