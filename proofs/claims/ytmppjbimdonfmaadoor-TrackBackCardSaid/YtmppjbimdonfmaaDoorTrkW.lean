/- Layer 3 (track): Split of both. -/
import Derived.Test.YtmppjbimdonfmaaDoorTrkV
namespace Go.Proofs.YtmppjbimdonfmaaDoor
open Go.ChangeShapes Go.WideShapes Go.ChangeAt Go.RowKit

noncomputable def splitA (t : List UInt8) : List UInt8 := if t = [47] ∨ t = [46] then t else if lastI t < 0 then [46] else if lastI t = 0 then [47] else t.take (lastI t).toNat
noncomputable def splitB (t : List UInt8) : List UInt8 := if t = [47] ∨ t = [46] then [] else if lastI t < 0 then t else if lastI t = 0 then t.drop 1 else t.drop ((lastI t).toNat + 1)
noncomputable def splitV (t : List UInt8) : Value := .tuple #[.string (bs (splitA t)), .string (bs (splitB t))]
theorem splitV_one {t : List UInt8} (h : t = [47] ∨ t = [46]) : splitV t = .tuple #[.string (bs t), .string ⟨#[]⟩] := by
  unfold splitV splitA splitB; rw [if_pos h, if_pos h]; rfl
theorem splitV_no {t : List UInt8} (h : ¬ (t = [47] ∨ t = [46])) (hi : lastI t < 0) : splitV t = .tuple #[.string ⟨#[46]⟩, .string (bs t)] := by
  unfold splitV splitA splitB; rw [if_neg h, if_neg h, if_pos hi, if_pos hi]; rfl
theorem splitV_top {t : List UInt8} (h : ¬ (t = [47] ∨ t = [46])) (hi : lastI t = 0) : splitV t = .tuple #[.string ⟨#[47]⟩, .string (bs (t.drop 1))] := by
  unfold splitV splitA splitB; rw [if_neg h, if_neg h, hi]; rfl
theorem splitV_at {t : List UInt8} (h : ¬ (t = [47] ∨ t = [46])) {i : Nat} (hi : lastI t = i) (h0 : i ≠ 0) : splitV t = .tuple #[.string (bs (t.take i)), .string (bs (t.drop (i + 1)))] := by
  unfold splitV splitA splitB; rw [if_neg h, if_neg h, if_neg (by omega), if_neg (by omega), if_neg (by omega), if_neg (by omega), hi]; rfl
theorem lastI_lt {t : List UInt8} {i : Nat} (h : lastI t = i) : i < t.length := by
  rcases lastI_cases t with ⟨h1, _⟩ | ⟨j, hj, h1, _, _⟩
  · omega
  · omega
theorem lastI_ge (t : List UInt8) : -1 ≤ lastI t := by
  rcases lastI_cases t with ⟨h1, _⟩ | ⟨j, hj, h1, _, _⟩ <;> omega
set_option maxRecDepth 100000 in
set_option maxHeartbeats 2000000 in
theorem psplit_any (l : List UInt8) (w : World) (hl : l.length ≤ 10000) : Calls Tryd.prog 33 #[.string (bs l)] w (Ret w (splitV (cleanN l))) := by
  have hla := clean_len1 l
  obtain ⟨t, ht⟩ : ∃ t, t = cleanN l := ⟨_, rfl⟩
  rw [← ht] at hla ⊢
  have HT := Lib.hid ht
  clear ht
  have s1 : ((bs t).toList == [47]) = (t == [47]) := by rw [bs_toList]
  have s2 : ((bs t).toList == [46]) = (t == [46]) := by rw [bs_toList]
  have z0 : (bs t).size = t.length := bs_size t
  have hge := lastI_ge t
  have HI : ∀ v : Int, lastI t = v → Hid (Lib.lastIndexByte (bs t) 47 = v) := fun v h => h
  by_cases h1 : t = [47]
  · have hf := Lib.hid (splitV_one (.inl h1))
    rw [show (t == [47]) = true from by rw [h1]; rfl] at s1
    obtain ⟨v, hv⟩ : ∃ v, lastI t = v := ⟨_, rfl⟩
    have hi := HI v hv
    clear h1 s2 hge hv HI
    go_enter Tryd.func33, Tryd.ntmps33
    go_wp2_with fail
    refine (pclean_any l _ (by omega)).mono ?_
    rintro e w1 ⟨rfl, hE1⟩
    rw [← HT.out]
    go_wp2_with fail
    refine (Tryd.strings_LastIndexByte _ 47 (by omega) _).mono ?_
    rintro e w2 ⟨rfl, rfl⟩
    rw [hi.out]
    go_wp2_with fail
    go_ret2
    exact Ret.mk (by rw [hf.out]; rfl) hE1
  · rw [show (t == [47]) = false from beq_eq_false_iff_ne.2 h1] at s1
    by_cases h2 : t = [46]
    · have hf := Lib.hid (splitV_one (.inr h2))
      rw [show (t == [46]) = true from by rw [h2]; rfl] at s2
      obtain ⟨v, hv⟩ : ∃ v, lastI t = v := ⟨_, rfl⟩
      have hi := HI v hv
      clear h1 h2 hge hv HI
      go_enter Tryd.func33, Tryd.ntmps33
      go_wp2_with fail
      refine (pclean_any l _ (by omega)).mono ?_
      rintro e w1 ⟨rfl, hE1⟩
      rw [← HT.out]
      go_wp2_with fail
      refine (Tryd.strings_LastIndexByte _ 47 (by omega) _).mono ?_
      rintro e w2 ⟨rfl, rfl⟩
      rw [hi.out]
      go_wp2_with fail
      go_ret2
      exact Ret.mk (by rw [hf.out]; rfl) hE1
    · rw [show (t == [46]) = false from beq_eq_false_iff_ne.2 h2] at s2
      have hn : ¬ (t = [47] ∨ t = [46]) := by rintro (h | h); exact h1 h; exact h2 h
      by_cases h3 : lastI t < 0
      · have hf := Lib.hid (splitV_no hn h3)
        have hi := HI (-1) (by omega)
        clear h1 h2 hge HI hn h3
        go_enter Tryd.func33, Tryd.ntmps33
        go_wp2_with fail
        refine (pclean_any l _ (by omega)).mono ?_
        rintro e w1 ⟨rfl, hE1⟩
        rw [← HT.out]
        go_wp2_with fail
        refine (Tryd.strings_LastIndexByte _ 47 (by omega) _).mono ?_
        rintro e w2 ⟨rfl, rfl⟩
        rw [hi.out]
        go_wp2_with fail
        go_ret2
        exact Ret.mk (by rw [hf.out]; rfl) hE1
      · by_cases h4 : lastI t = 0
        · have hf := Lib.hid (splitV_top hn h4)
          have hi := HI 0 h4
          have hlt := lastI_lt (i := 0) h4
          have hsl := slice_from (P := Tryd.prog) Tryd.underlying9 (bs t) (1 : Int) 1 rfl (by omega) (bs (t.drop 1)) (bs_from t 1)
          clear h1 h2 hge HI hn h3 h4
          go_enter Tryd.func33, Tryd.ntmps33
          go_wp2_with fail
          refine (pclean_any l _ (by omega)).mono ?_
          rintro e w1 ⟨rfl, hE1⟩
          rw [← HT.out]
          go_wp2_with fail
          refine (Tryd.strings_LastIndexByte _ 47 (by omega) _).mono ?_
          rintro e w2 ⟨rfl, rfl⟩
          rw [hi.out]
          go_wp2_with fail
          go_quiet (fail)
          go_wp2_with fail
          go_ret2
          exact Ret.mk (by rw [hf.out, List.drop_one]; rfl) (by first | exact hE1 | exact hE1.drew | exact hE1.drewN _)
        · obtain ⟨i, hv⟩ : ∃ i : Nat, lastI t = i := ⟨(lastI t).toNat, by omega⟩
          have hi0 : i ≠ 0 := by omega
          have hf := Lib.hid (splitV_at hn hv hi0)
          have hi := HI i hv
          have hlt := lastI_lt hv
          have hs1 := slice_to (P := Tryd.prog) Tryd.underlying9 (bs t) (i : Int) i rfl (by omega) (bs (t.take i)) (bs_to t i)
          have hs2 := slice_from (P := Tryd.prog) Tryd.underlying9 (bs t) ((i : Int) + 1) (i + 1) (by omega) (by omega) (bs (t.drop (i + 1))) (bs_from t (i + 1))
          have hwr : IntKind.i64.wrap ((i : Int) + 1) = (i : Int) + 1 := wrap_i64_in (by omega) (by omega)
          have hb1 : ((i : Int) == 0) = false := beq_eq_false_iff_ne.2 (by omega)
          have hb2 : ¬ (i : Int) < 0 := by omega
          clear h1 h2 hge HI hn h3 h4 hv
          go_enter Tryd.func33, Tryd.ntmps33
          go_wp2_with fail
          refine (pclean_any l _ (by omega)).mono ?_
          rintro e w1 ⟨rfl, hE1⟩
          rw [← HT.out]
          go_wp2_with fail
          refine (Tryd.strings_LastIndexByte _ 47 (by omega) _).mono ?_
          rintro e w2 ⟨rfl, rfl⟩
          rw [hi.out]
          go_wp2_with fail
          go_quiet (fail)
          go_wp2_with fail
          go_ret2
          exact Ret.mk (by rw [hf.out]; rfl) (by first | exact hE1 | exact hE1.drew | exact hE1.drewN _)
theorem lastI_idx (t : List UInt8) : lastI t = Lib.lastIdx (bs t) 47 t.length := by unfold lastI Lib.lastIndexByte; rw [bs_size]
set_option maxRecDepth 100000 in
set_option maxHeartbeats 2000000 in
theorem rsplit_any (l : List UInt8) (w : World) (hl : l.length ≤ 10000) : Calls Tryd.prog 34 #[.string (bs l)] w (Ret w (splitV (cleanN l))) := by
  have hla := clean_len1 l
  obtain ⟨t, ht⟩ : ∃ t, t = cleanN l := ⟨_, rfl⟩
  rw [← ht] at hla ⊢
  have HT := Lib.hid ht
  clear ht
  have s1 : ((bs t).toList == [47]) = (t == [47]) := by rw [bs_toList]
  have s2 : ((bs t).toList == [46]) = (t == [46]) := by rw [bs_toList]
  have z0 : (bs t).size = t.length := bs_size t
  by_cases h1 : t = [47]
  · have hf := Lib.hid (splitV_one (.inl h1))
    rw [show (t == [47]) = true from by rw [h1]; rfl] at s1
    clear h1 s2
    go_enter Tryd.func34, Tryd.ntmps34
    go_wp2_with fail
    refine (rclean_any l _ (by omega)).mono ?_
    rintro e w1 ⟨rfl, hE1⟩
    rw [← HT.out]
    go_wp2_with fail
    go_ret2
    exact Ret.mk (by rw [hf.out]; rfl) hE1
  · rw [show (t == [47]) = false from beq_eq_false_iff_ne.2 h1] at s1
    by_cases h2 : t = [46]
    · have hf := Lib.hid (splitV_one (.inr h2))
      rw [show (t == [46]) = true from by rw [h2]; rfl] at s2
      clear h1 h2
      go_enter Tryd.func34, Tryd.ntmps34
      go_wp2_with fail
      refine (rclean_any l _ (by omega)).mono ?_
      rintro e w1 ⟨rfl, hE1⟩
      rw [← HT.out]
      go_wp2_with fail
      go_ret2
      exact Ret.mk (by rw [hf.out]; rfl) hE1
    · rw [show (t == [46]) = false from beq_eq_false_iff_ne.2 h2] at s2
      have hn : ¬ (t = [47] ∨ t = [46]) := by rintro (h | h); exact h1 h; exact h2 h
      have HN := Lib.hid hn
      clear h1 h2 hn
      go_enter Tryd.func34, Tryd.ntmps34
      go_wp2_with fail
      refine (rclean_any l _ (by omega)).mono ?_
      rintro e w1 ⟨rfl, hE1⟩
      rw [← HT.out]
      go_wp2_with fail
      go_loopw [5, 6] (fun a i wr => ∃ (k : Nat) (x : Int), k ≤ t.length ∧ i = .int .i64 k ∧ a = .int .i64 x ∧ Hid (x = Lib.lastIdx (bs t) 47 k) ∧ -1 ≤ x ∧ x < k ∧ wr = w1) (fun _ i _ => t.length - (intOf i).toNat)
      case atStart => exact ⟨0, -1, Nat.zero_le _, rfl, rfl, rfl, by omega, by omega, rfl⟩
      case round =>
        obtain ⟨k, x, hk, rfl, rfl, hx, hx0, hx1, rfl⟩ := hrel
        by_cases hlt : (k : Int) < t.length
        · have hkl : k < t.length := by omega
          have hks : k < (bs t).size := by omega
          have hg : (bs t)[k] = t[k] := bs_get t k hks hkl
          by_cases hc : t[k] = 47
          · have hb : (((bs t)[k].toNat : Int) == 47) = true := by rw [hg, hc]; rfl
            have hn : Hid ((k : Int) = Lib.lastIdx (bs t) 47 (k + 1)) := by
              show _ = _
              have h5 : (bs t).data[k]! = 47 := (bs_bang t k hkl).trans hc
              rw [Lib.lastIdx_hit]
              rw [h5]; rfl
            clear hg hc
            go_wp2_with fail
            go_roundw
            case rel => exact ⟨k + 1, k, by omega, by go_num, rfl, hn, by omega, by omega, by first | trivial | rfl⟩
            case measure => simp [intOf]; omega
          · have hb : (((bs t)[k].toNat : Int) == 47) = false := by
              rw [hg]; exact (u8_eq (c := t[k]) (d := 47)).trans (beq_eq_false_iff_ne.2 hc)
            have hn : Hid (x = Lib.lastIdx (bs t) 47 (k + 1)) := by
              show _ = _
              rw [Lib.lastIdx_miss, ← hx.out]
              rw [bs_bang t k hkl]
              intro h
              exact hc (UInt8.toNat_inj.1 (by have : (47 : UInt8).toNat = 47 := rfl; omega))
            clear hg hc
            go_wp2_with fail
            go_roundw
            case rel => exact ⟨k + 1, x, by omega, by go_num, rfl, hn, by omega, by omega, by first | trivial | rfl⟩
            case measure => simp [intOf]; omega
        · obtain rfl : k = t.length := by omega
          have hxl : Hid (lastI t = x) := by show _ = _; rw [lastI_idx]; exact hx.out.symm
          by_cases h3 : x < 0
          · have hf := Lib.hid (splitV_no HN.out (by rw [hxl.out]; exact h3))
            go_wp2_with fail
            go_ret2
            exact Ret.mk (by rw [hf.out]; rfl) hE1
          · by_cases h4 : x = 0
            · subst h4
              have hf := Lib.hid (splitV_top HN.out hxl.out)
              have hsl := slice_from (P := Tryd.prog) Tryd.underlying9 (bs t) (1 : Int) 1 rfl (by omega) (bs (t.drop 1)) (bs_from t 1)
              go_wp2_with fail
              go_quiet (fail)
              go_wp2_with fail
              go_ret2
              exact Ret.mk (by rw [hf.out, List.drop_one]; rfl) (by first | exact hE1 | exact hE1.drew | exact hE1.drewN _)
            · obtain ⟨i, rfl⟩ : ∃ i : Nat, x = i := ⟨x.toNat, by omega⟩
              have hi0 : i ≠ 0 := by omega
              have hf := Lib.hid (splitV_at HN.out hxl.out hi0)
              have hlt := lastI_lt hxl.out
              have hs1 := slice_to (P := Tryd.prog) Tryd.underlying9 (bs t) (i : Int) i rfl (by omega) (bs (t.take i)) (bs_to t i)
              have hs2 := slice_from (P := Tryd.prog) Tryd.underlying9 (bs t) ((i : Int) + 1) (i + 1) (by omega) (by omega) (bs (t.drop (i + 1))) (bs_from t (i + 1))
              have hwr : IntKind.i64.wrap ((i : Int) + 1) = (i : Int) + 1 := wrap_i64_in (by omega) (by omega)
              have hb1 : ((i : Int) == 0) = false := beq_eq_false_iff_ne.2 (by omega)
              have hb2 : ¬ (i : Int) < 0 := by omega
              go_wp2_with fail
              go_quiet (fail)
              go_wp2_with fail
              go_ret2
              exact Ret.mk (by rw [hf.out]; rfl) (by first | exact hE1 | exact hE1.drew | exact hE1.drewN _)
end Go.Proofs.YtmppjbimdonfmaaDoor
