/- Layer 6 (info): Write, the program's and the reference's. -/
import Derived.Test.YtanaifobmkjpaaaDoorInfP
import Derived.Test.YtanaifobmkjpaaaDoorPctE
import Derived.Test.YtanaifobmkjpaaaDoorPctD
import Derived.Test.YtanaifobmkjpaaaDoorDateA
import Derived.Test.YtanaifobmkjpaaaDoorDateB
import Derived.Test.YtanaifobmkjpaaaDoorDateM
import Derived.Test.YtanaifobmkjpaaaDoorTilP
import Derived.Test.YtanaifobmkjpaaaDoorShelf
import Derived.Lib.IndexAny
namespace Go.Proofs.YtanaifobmkjpaaaDoor
open Go.ChangeShapes Go.WideShapes Go.ChangeAt Go.RowKit

theorem vis_chr {n : Nat} (h : n < 10) : 33 ≤ (chr n).toNat ∧ (chr n).toNat ≤ 126 := by
  have := chr_at n h
  omega
theorem txt_vis {sec : Nat} {t : ByteArray} (h : TxtZ sec t) (_hs : sec ≤ 253402300799) : ∃ D : Ln, t = bs D ∧ D.length = 19 ∧ Vis D := by
  obtain ⟨y, m, d, hv, h1, h2, hn, rfl⟩ := h
  refine ⟨_, rfl, rfl, ?_⟩
  have hd31 : d ≤ 31 := Nat.le_trans hv.2.2.2.2 (days_le _ _)
  have hm12 : m ≤ 12 := hv.2.2.1
  rw [txt_list]
  intro c hc
  simp only [List.mem_cons, List.not_mem_nil, or_false] at hc
  rcases hc with rfl | rfl | rfl | rfl | rfl | rfl | rfl | rfl | rfl | rfl | rfl | rfl | rfl | rfl | rfl | rfl | rfl | rfl | rfl
  all_goals first
    | exact ⟨by decide, by decide⟩
    | exact vis_chr (by omega)
theorem hasB_ix (l : Ln) (c : UInt8) : decide (0 ≤ Lib.indexByte l c) = hasB l c := by
  rw [← Lib.contains_iff_indexByte, Bool.eq_iff_iff]
  simp [hasB]
theorem cat_h {a b L : Ln} (h : L = a ++ b) : bs a ++ bs b = bs L := by rw [h]; exact bs_append _ _
/-- What Write tells. -/
def WrZ (p : Ln) (sec : Int) (t : Ln) (e : Int) : Prop :=
  ((p = [] ∨ hasB p 0 = true) ∧ t = [] ∧ e = 1) ∨ (¬ (p = [] ∨ hasB p 0 = true) ∧ (((sec < 0 ∨ 253402300799 < sec) ∧ t = [] ∧ e = 3) ∨ ∃ (n : Nat) (D : Ln), sec = n ∧ n ≤ 253402300799 ∧ TxtZ n (bs D) ∧ Vis D ∧ D.length = 19 ∧ t = writeF p D ∧ e = 0))
theorem WrZ.same {p : Ln} {sec : Int} {t t' : Ln} {e e' : Int} (h : WrZ p sec t e) (h' : WrZ p sec t' e') : t = t' ∧ e = e' := by
  rcases h with ⟨c, rfl, rfl⟩ | ⟨c, h⟩
  · rcases h' with ⟨_, rfl, rfl⟩ | ⟨c', _⟩
    · exact ⟨rfl, rfl⟩
    · exact absurd c c'
  · rcases h' with ⟨c', _⟩ | ⟨_, h'⟩
    · exact absurd c' c
    · rcases h with ⟨c1, rfl, rfl⟩ | ⟨n, D, rfl, hn, hz, _, _, rfl, rfl⟩
      · rcases h' with ⟨_, rfl, rfl⟩ | ⟨n', D', rfl, hn', _⟩
        · exact ⟨rfl, rfl⟩
        · omega
      · rcases h' with ⟨c1, _⟩ | ⟨n', D', e1, hn', hz', _, _, rfl, rfl⟩
        · omega
        · obtain rfl : n = n' := by omega
          have := bs_inj (hz.same hz')
          rw [this]
          exact ⟨rfl, rfl⟩
def WrIR (w : World) (p : Ln) (sec : Int) (e : Ending) (w' : World) : Prop := ∃ t er, WrZ p sec t er ∧ e = .returned (.tuple #[.string (bs t), .int .i64 er]) ∧ Ext w w'
set_option maxRecDepth 100000 in
set_option maxHeartbeats 4000000 in
theorem piwrite_any (p : Ln) (sec : Int) (w : World) (hlen : p.length ≤ 100000) : Calls Tryd.prog 23 #[.string (bs p), .int .i64 sec] w (WrIR w p sec) := by
  by_cases hp0 : p = []
  · subst hp0
    have hem : (bs []).toList.isEmpty = true := by rw [bs_toList]; rfl
    go_enter Tryd.func23, Tryd.ntmps23
    go_wp2_with fail
    go_ret2
    exact ⟨[], 1, .inl ⟨.inl rfl, rfl, rfl⟩, rfl, Ext.refl _⟩
  · have hem : (bs p).toList.isEmpty = false := by rw [bs_toList, List.isEmpty_eq_false_iff]; exact hp0
    obtain ⟨hb, hhb⟩ : ∃ hb, hb = hasB p 0 := ⟨_, rfl⟩
    have hh : ∀ w', Calls Tryd.prog 43 #[.string (bs p), .string ⟨#[0]⟩] w' (Ret w' (.bool (hasB p 0))) := fun w' => by
      have h := Tryd.strings_Contains_one (bs p) 0 w'
      rw [bs_list, hasB_ix] at h
      exact h.mono fun e w2 h => ⟨h.1, by rw [h.2]; exact Ext.refl _⟩
    rw [← hhb] at hh
    have HH := Lib.hid hh
    clear hh
    cases hb with
    | true =>
      have HN := Lib.hid hhb.symm
      clear hhb hp0
      go_enter Tryd.func23, Tryd.ntmps23
      go_wp2_with fail
      refine (HH.out _).mono ?_
      rintro e w1 ⟨rfl, b1⟩
      go_wp2_with fail
      go_ret2
      exact ⟨[], 1, .inl ⟨.inr HN.out, rfl, rfl⟩, rfl, b1⟩
    | false =>
      have HN : Hid (¬ (p = [] ∨ hasB p 0 = true)) := by
        rintro (h | h)
        · exact hp0 h
        · rw [← hhb] at h; cases h
      clear hhb hp0
      by_cases hsr : sec < 0 ∨ 253402300799 < sec
      · have HS := Lib.hid hsr
        have HT := Lib.hid (fun w' => ptext_out sec w' hsr)
        clear hsr
        go_enter Tryd.func23, Tryd.ntmps23
        go_wp2_with fail
        refine (HH.out _).mono ?_
        rintro e w1 ⟨rfl, b1⟩
        go_wp2_with fail
        refine (HT.out _).mono ?_
        rintro e w2 ⟨rfl, b2⟩
        go_wp2_with fail
        go_ret2
        exact ⟨[], 3, .inr ⟨HN.out, .inl ⟨HS.out, rfl, rfl⟩⟩, rfl, b1.trans b2⟩
      · obtain ⟨n, rfl⟩ : ∃ n : Nat, sec = n := ⟨sec.toNat, by omega⟩
        have hn : n ≤ 253402300799 := by omega
        have HT := Lib.hid (fun w' => ptext_any n w' hn)
        have HNN := Lib.hid hn
        clear hsr hn
        obtain ⟨E, hE⟩ : ∃ E, E = encL p := ⟨_, rfl⟩
        have hen := fun w' => pencode_any (bs p) w' (by rw [bs_size]; omega)
        rw [bs_list, ← hE] at hen
        have HEN := Lib.hid hen
        have hEl : E.length ≤ 300000 := by have := encL_le p; rw [hE]; omega
        obtain ⟨c1, hc1⟩ : ∃ c1 : Ln, c1 = headT ++ 10 :: (pathK ++ [61]) := ⟨_, rfl⟩
        obtain ⟨c2, hc2⟩ : ∃ c2 : Ln, c2 = 10 :: (dayK ++ [61]) := ⟨_, rfl⟩
        obtain ⟨L1, hL1⟩ : ∃ L : Ln, L = c1 ++ E := ⟨_, rfl⟩
        obtain ⟨L2, hL2⟩ : ∃ L : Ln, L = L1 ++ c2 := ⟨_, rfl⟩
        have k1 : bs c1 = ⟨#[91, 84, 114, 97, 115, 104, 32, 73, 110, 102, 111, 93, 10, 80, 97, 116, 104, 61]⟩ := by rw [hc1]; rfl
        have k2 : bs c2 = ⟨#[10, 68, 101, 108, 101, 116, 105, 111, 110, 68, 97, 116, 101, 61]⟩ := by rw [hc2]; rfl
        have cat1 := cat_h hL1
        have cat2 := cat_h hL2
        rw [k1] at cat1
        rw [k2] at cat2
        have y1 : c1.length = 18 := by rw [hc1]; rfl
        have y2 : c2.length = 14 := by rw [hc2]; rfl
        have x1 : L1.length = 18 + E.length := by rw [hL1, List.length_append, y1]
        have x2 : L2.length = L1.length + 14 := by rw [hL2, List.length_append, y2]
        obtain ⟨nE, hnE⟩ : ∃ n, n = E.length := ⟨_, rfl⟩
        obtain ⟨n1, hn1⟩ : ∃ n, n = L1.length := ⟨_, rfl⟩
        obtain ⟨n2, hn2⟩ : ∃ n, n = L2.length := ⟨_, rfl⟩
        have zE : (bs E).size = nE := by rw [bs_size, hnE]
        have z1 : (bs L1).size = n1 := by rw [bs_size, hn1]
        have z2 : (bs L2).size = n2 := by rw [bs_size, hn2]
        have u1 : ¬ 9223372036854775807 < 18 + nE := by omega
        have u2 : ¬ 9223372036854775807 < n1 + 14 := by omega
        have u3 : ¬ 9223372036854775807 < n2 + 19 := by omega
        have U4 : Hid (n2 < 1000000) := by show _ < _; omega
        have HL2 : Hid (L2 = headT ++ 10 :: (pathK ++ 61 :: E) ++ 10 :: (dayK ++ [61])) := by show _ = _; rw [hL2, hL1, hc1, hc2]; simp
        have HE := Lib.hid hE
        have v1 : (⟨#[91, 84, 114, 97, 115, 104, 32, 73, 110, 102, 111, 93, 10, 80, 97, 116, 104, 61]⟩ : ByteArray).size = 18 := rfl
        have v2 : (⟨#[10, 68, 101, 108, 101, 116, 105, 111, 110, 68, 97, 116, 101, 61]⟩ : ByteArray).size = 14 := rfl
        have v3 : (⟨#[10]⟩ : ByteArray).size = 1 := rfl
        have HN2 := Lib.hid hn2
        clear hE hen hEl hc1 hc2 hL1 hL2 k1 k2 y1 y2 x1 x2 hnE hn1 hn2
        go_enter Tryd.func23, Tryd.ntmps23
        go_wp2_with fail
        refine (HH.out _).mono ?_
        rintro e w1 ⟨rfl, b1⟩
        go_wp2_with fail
        refine (HT.out _).mono ?_
        rintro e w2 ⟨tt, hz, rfl, b2⟩
        have b12 := b1.trans b2
        obtain ⟨D, rfl, hDl, hDv⟩ := txt_vis hz HNN.out
        have HZ := Lib.hid hz
        have HDV := Lib.hid hDv
        have HDL := Lib.hid hDl
        obtain ⟨L3, hL3⟩ : ∃ L : Ln, L = L2 ++ D := ⟨_, rfl⟩
        obtain ⟨L4, hL4⟩ : ∃ L : Ln, L = L3 ++ [10] := ⟨_, rfl⟩
        have cat3 := cat_h hL3
        have cat4 : bs L3 ++ ⟨#[10]⟩ = bs L4 := cat_h hL4
        have zD : (bs D).size = 19 := by rw [bs_size, hDl]
        obtain ⟨n3, hn3⟩ : ∃ n, n = L3.length := ⟨_, rfl⟩
        have z3 : (bs L3).size = n3 := by rw [bs_size, hn3]
        have u4 : ¬ 9223372036854775807 < n3 + 1 := by
          have h1 := U4.out
          have h2 := HN2.out
          rw [hn3, hL3, List.length_append, hDl]
          omega
        have HL4 : Hid (L4 = writeF p D) := by
          show _ = _
          rw [hL4, hL3, HL2.out, HE.out]
          unfold writeF
          simp
        clear hz hDv hDl hL3 hL4 hn3
        go_wp2_with fail
        refine (HEN.out _).mono ?_
        rintro e w3 ⟨rfl, b3⟩
        go_wp2_with fail
        go_ret2
        exact ⟨L4, 0, .inr ⟨HN.out, .inr ⟨n, D, rfl, HNN.out, HZ.out, HDV.out, HDL.out, HL4.out, rfl⟩⟩, rfl, b12.trans b3⟩
set_option maxRecDepth 100000 in
set_option maxHeartbeats 4000000 in
theorem riwrite_any (p : Ln) (sec : Int) (w : World) (hlen : p.length ≤ 100000) : Calls Tryd.prog 24 #[.string (bs p), .int .i64 sec] w (WrIR w p sec) := by
  by_cases hp0 : p = []
  · subst hp0
    have hem : (bs []).toList.isEmpty = true := by rw [bs_toList]; rfl
    go_enter Tryd.func24, Tryd.ntmps24
    go_wp2_with fail
    go_ret2
    exact ⟨[], 1, .inl ⟨.inl rfl, rfl, rfl⟩, rfl, Ext.refl _⟩
  · have hem : (bs p).toList.isEmpty = false := by rw [bs_toList, List.isEmpty_eq_false_iff]; exact hp0
    obtain ⟨hb, hhb⟩ : ∃ hb, hb = hasB p 0 := ⟨_, rfl⟩
    have hh : ∀ w', Calls Tryd.prog 27 #[.string (bs p), .int .u8 0] w' (Ret w' (.bool (hasB p 0))) := fun w' => by
      have h := rhas_any (bs p) 0 0 (by rfl) (by rw [bs_size]; omega) w'
      rw [bs_list] at h
      exact h
    rw [← hhb] at hh
    have HH := Lib.hid hh
    clear hh
    cases hb with
    | true =>
      have HN := Lib.hid hhb.symm
      clear hhb hp0
      go_enter Tryd.func24, Tryd.ntmps24
      go_wp2_with fail
      refine (HH.out _).mono ?_
      rintro e w1 ⟨rfl, b1⟩
      go_wp2_with fail
      go_ret2
      exact ⟨[], 1, .inl ⟨.inr HN.out, rfl, rfl⟩, rfl, b1⟩
    | false =>
      have HN : Hid (¬ (p = [] ∨ hasB p 0 = true)) := by
        rintro (h | h)
        · exact hp0 h
        · rw [← hhb] at h; cases h
      clear hhb hp0
      by_cases hsr : sec < 0 ∨ 253402300799 < sec
      · have HS := Lib.hid hsr
        have HT := Lib.hid (fun w' => rtext_out sec w' hsr)
        clear hsr
        go_enter Tryd.func24, Tryd.ntmps24
        go_wp2_with fail
        refine (HH.out _).mono ?_
        rintro e w1 ⟨rfl, b1⟩
        go_wp2_with fail
        refine (HT.out _).mono ?_
        rintro e w2 ⟨rfl, b2⟩
        go_wp2_with fail
        go_ret2
        exact ⟨[], 3, .inr ⟨HN.out, .inl ⟨HS.out, rfl, rfl⟩⟩, rfl, b1.trans b2⟩
      · obtain ⟨n, rfl⟩ : ∃ n : Nat, sec = n := ⟨sec.toNat, by omega⟩
        have hn : n ≤ 253402300799 := by omega
        have HT := Lib.hid (fun w' => rtext_any n w' hn)
        have HNN := Lib.hid hn
        clear hsr hn
        obtain ⟨E, hE⟩ : ∃ E, E = encL p := ⟨_, rfl⟩
        have hen := fun w' => rencode_any (bs p) w' (by rw [bs_size]; omega)
        rw [bs_list, ← hE] at hen
        have HEN := Lib.hid hen
        have hEl : E.length ≤ 300000 := by have := encL_le p; rw [hE]; omega
        obtain ⟨c1, hc1⟩ : ∃ c1 : Ln, c1 = headT ++ 10 :: (pathK ++ [61]) := ⟨_, rfl⟩
        obtain ⟨c2, hc2⟩ : ∃ c2 : Ln, c2 = 10 :: (dayK ++ [61]) := ⟨_, rfl⟩
        obtain ⟨L1, hL1⟩ : ∃ L : Ln, L = c1 ++ E := ⟨_, rfl⟩
        obtain ⟨L2, hL2⟩ : ∃ L : Ln, L = L1 ++ c2 := ⟨_, rfl⟩
        have k1 : bs c1 = ⟨#[91, 84, 114, 97, 115, 104, 32, 73, 110, 102, 111, 93, 10, 80, 97, 116, 104, 61]⟩ := by rw [hc1]; rfl
        have k2 : bs c2 = ⟨#[10, 68, 101, 108, 101, 116, 105, 111, 110, 68, 97, 116, 101, 61]⟩ := by rw [hc2]; rfl
        have cat1 := cat_h hL1
        have cat2 := cat_h hL2
        rw [k1] at cat1
        rw [k2] at cat2
        have y1 : c1.length = 18 := by rw [hc1]; rfl
        have y2 : c2.length = 14 := by rw [hc2]; rfl
        have x1 : L1.length = 18 + E.length := by rw [hL1, List.length_append, y1]
        have x2 : L2.length = L1.length + 14 := by rw [hL2, List.length_append, y2]
        obtain ⟨nE, hnE⟩ : ∃ n, n = E.length := ⟨_, rfl⟩
        obtain ⟨n1, hn1⟩ : ∃ n, n = L1.length := ⟨_, rfl⟩
        obtain ⟨n2, hn2⟩ : ∃ n, n = L2.length := ⟨_, rfl⟩
        have zE : (bs E).size = nE := by rw [bs_size, hnE]
        have z1 : (bs L1).size = n1 := by rw [bs_size, hn1]
        have z2 : (bs L2).size = n2 := by rw [bs_size, hn2]
        have u1 : ¬ 9223372036854775807 < 18 + nE := by omega
        have u2 : ¬ 9223372036854775807 < n1 + 14 := by omega
        have u3 : ¬ 9223372036854775807 < n2 + 19 := by omega
        have U4 : Hid (n2 < 1000000) := by show _ < _; omega
        have HL2 : Hid (L2 = headT ++ 10 :: (pathK ++ 61 :: E) ++ 10 :: (dayK ++ [61])) := by show _ = _; rw [hL2, hL1, hc1, hc2]; simp
        have HE := Lib.hid hE
        have v1 : (⟨#[91, 84, 114, 97, 115, 104, 32, 73, 110, 102, 111, 93, 10, 80, 97, 116, 104, 61]⟩ : ByteArray).size = 18 := rfl
        have v2 : (⟨#[10, 68, 101, 108, 101, 116, 105, 111, 110, 68, 97, 116, 101, 61]⟩ : ByteArray).size = 14 := rfl
        have v3 : (⟨#[10]⟩ : ByteArray).size = 1 := rfl
        have HN2 := Lib.hid hn2
        clear hE hen hEl hc1 hc2 hL1 hL2 k1 k2 y1 y2 x1 x2 hnE hn1 hn2
        go_enter Tryd.func24, Tryd.ntmps24
        go_wp2_with fail
        refine (HH.out _).mono ?_
        rintro e w1 ⟨rfl, b1⟩
        go_wp2_with fail
        refine (HT.out _).mono ?_
        rintro e w2 ⟨tt, hz, rfl, b2⟩
        have b12 := b1.trans b2
        obtain ⟨D, rfl, hDl, hDv⟩ := txt_vis hz HNN.out
        have HZ := Lib.hid hz
        have HDV := Lib.hid hDv
        have HDL := Lib.hid hDl
        obtain ⟨L3, hL3⟩ : ∃ L : Ln, L = L2 ++ D := ⟨_, rfl⟩
        obtain ⟨L4, hL4⟩ : ∃ L : Ln, L = L3 ++ [10] := ⟨_, rfl⟩
        have cat3 := cat_h hL3
        have cat4 : bs L3 ++ ⟨#[10]⟩ = bs L4 := cat_h hL4
        have zD : (bs D).size = 19 := by rw [bs_size, hDl]
        obtain ⟨n3, hn3⟩ : ∃ n, n = L3.length := ⟨_, rfl⟩
        have z3 : (bs L3).size = n3 := by rw [bs_size, hn3]
        have u4 : ¬ 9223372036854775807 < n3 + 1 := by
          have h1 := U4.out
          have h2 := HN2.out
          rw [hn3, hL3, List.length_append, hDl]
          omega
        have HL4 : Hid (L4 = writeF p D) := by
          show _ = _
          rw [hL4, hL3, HL2.out, HE.out]
          unfold writeF
          simp
        clear hz hDv hDl hL3 hL4 hn3
        go_wp2_with fail
        refine (HEN.out _).mono ?_
        rintro e w3 ⟨rfl, b3⟩
        go_wp2_with fail
        go_ret2
        exact ⟨L4, 0, .inr ⟨HN.out, .inr ⟨n, D, rfl, HNN.out, HZ.out, HDV.out, HDL.out, HL4.out, rfl⟩⟩, rfl, b12.trans b3⟩
end Go.Proofs.YtanaifobmkjpaaaDoor
