/- Layer 46 (args): the program's Quote; the reference's Quote and Line. -/
import Derived.Test.YtmppjbimdonfmaaDoorArgJ
import Derived.Test.YtmppjbimdonfmaaDoorArgX
namespace Go.Proofs.YtmppjbimdonfmaaDoor
open Go.ChangeShapes Go.WideShapes Go.ChangeAt Go.RowKit

theorem replaceK_cons (new : List UInt8) (b : UInt8) (h : b ≠ 39) (l : List UInt8) : ∀ k, Lib.replaceK [39] new k (b :: l) = b :: Lib.replaceK [39] new k l := by
  intro k
  cases k with
  | zero => rfl
  | succ k =>
    have hp : ([39] : List UInt8).isPrefixOf (b :: l) = false := by simp [List.isPrefixOf, Ne.symm h]
    have hix : Lib.index (b :: l) [39] = if Lib.index l [39] == -1 then -1 else Lib.index l [39] + 1 := by rw [Lib.index, hp]; simp
    have hge := Lib.index_ge l [39]
    unfold Lib.replaceK
    rw [hix]
    by_cases hm : Lib.index l [39] = -1
    · rw [hm]; rfl
    · have e1 : (Lib.index l [39] == -1) = false := beq_eq_false_iff_ne.2 hm
      obtain ⟨i, hi⟩ : ∃ i : Nat, Lib.index l [39] = i := ⟨(Lib.index l [39]).toNat, by omega⟩
      rw [hi] at e1 ⊢
      have e2 : ((i : Int) + 1 == -1) = false := beq_eq_false_iff_ne.2 (by omega)
      have e3 : ((i : Int) + 1).toNat = i + 1 := by omega
      simp [e1, e2, e3]
theorem replace_esc (s : List UInt8) : Lib.replaceAll s [39] [39, 92, 39, 39] = escN s := by
  have key : Lib.replaceK [39] [39, 92, 39, 39] (Lib.count s [39]) s = escN s := by
    induction s with
    | nil => rfl
    | cons b l ih =>
      by_cases hb : b = 39
      · subst hb
        have hix : Lib.index (39 :: l) [39] = ((0 : Nat) : Int) := by
          have hp : ([39] : List UInt8).isPrefixOf (39 :: l) = true := by simp [List.isPrefixOf]
          rw [Lib.index, hp]; rfl
        have hc := Lib.count_hit (sub := [39]) (by simp) hix
        rw [hc, Nat.add_comm, Lib.replaceK_hit _ _ _ _ 0 hix]
        simp only [List.take_zero, List.nil_append, Nat.zero_add, List.length_cons, List.length_nil, List.drop_succ_cons, List.drop_zero]
        rw [ih, escN, if_pos rfl]; rfl
      · rw [Lib.count_cons_ne b 39 l hb, replaceK_cons _ b hb, ih, escN, if_neg hb]
  unfold Lib.replaceAll Lib.replace Lib.replaceNum
  rw [if_neg (by decide), if_pos (.inl (by decide))]
  exact key
theorem escN_len (s : List UInt8) : (escN s).length ≤ 4 * s.length := by
  induction s with
  | nil => simp [escN]
  | cons b l ih =>
    unfold escN
    split <;> simp <;> omega
theorem escN_take (s : List UInt8) (k : Nat) (h : k < s.length) (c : UInt8) (hc : c = s[k]) : escN (s.take (k + 1)) = escN (s.take k) ++ (if c = 39 then [39, 92, 39, 39] else [c]) := by
  rw [List.take_succ_eq_append_getElem h, ← hc]
  generalize s.take k = a
  induction a with
  | nil => simp [escN]
  | cons b a ih =>
    rw [List.cons_append, escN, escN, ih]
    split <;> simp
/-- The world holds the number that Go's search asks. -/
def HasMax (w : World) : Prop := ∃ m, 1 < w.heap.size ∧ w.cell? ⟨1, 0, none⟩ = some (.int .i64 m)
theorem HasMax.ext {w w' : World} (h : HasMax w) (hE : Ext w w') : HasMax w' := by
  obtain ⟨m, h1, h2⟩ := h
  have := hE.size
  exact ⟨m, by omega, (hE.cell (o := 0) h1).trans h2⟩
theorem HasMax.of {w : World} (h : w.ShapedOpen Tryd.prog) : HasMax w := by
  obtain ⟨m, hm⟩ := Tryd.laysM145.s1_3 w h
  have hm : w.cell? ⟨1, 0, none⟩ = some (.int .i64 m) := hm
  refine ⟨m, ?_, hm⟩
  rcases Nat.lt_or_ge 1 w.heap.size with h' | h'
  · exact h'
  · have hm2 : w.cell? ⟨1, 0, none⟩ = some (.int .i64 m) := hm
    simp [World.cell?, Array.getElem?_eq_none h'] at hm2
theorem quoteN_bare {l : List UInt8} (h : l ≠ []) (ha : anyS l = false) : quoteN l = l := by
  unfold quoteN; rw [anyS_bare l h, ha]; rfl
theorem quoteN_not {l : List UInt8} (h : l = [] ∨ anyS l = true) : quoteN l = 39 :: (escN l ++ [39]) := by
  unfold quoteN
  rcases h with rfl | h
  · rfl
  · by_cases hn : l = []
    · subst hn; rfl
    · rw [anyS_bare l hn, h]; rfl
theorem esc_any (l : List UInt8) (w : World) (hM : HasMax w) (hlen : l.length ≤ 1000000) : Calls Tryd.prog 99 #[.string (bs l), .string ⟨#[39]⟩, .string ⟨#[39, 92, 39, 39]⟩] w (Ret w (.string (bs (escN l)))) := by
  obtain ⟨m, _, hm⟩ := hM
  have hc : Lib.countB (bs l) ⟨#[39]⟩ ≤ l.length := by
    have := Lib.countB_le ⟨#[39]⟩ (by decide) (bs l).size (bs l) (Nat.le_refl _)
    rw [bs_size] at this
    exact this
  have hs4 : (⟨#[39, 92, 39, 39]⟩ : ByteArray).size = 4 := rfl
  refine (Tryd.strings_ReplaceAll (bs l) ⟨#[39]⟩ ⟨#[39, 92, 39, 39]⟩ m w (by rw [bs_size]; omega) hm (by decide) (by rw [bs_size, hs4]; omega)).mono ?_
  rintro e w' ⟨rfl, hE⟩
  refine Ret.mk ?_ hE
  rw [bs_list, show (⟨#[39]⟩ : ByteArray).data.toList = [39] from rfl, show (⟨#[39, 92, 39, 39]⟩ : ByteArray).data.toList = [39, 92, 39, 39] from rfl, replace_esc]; rfl
set_option maxRecDepth 100000 in
set_option maxHeartbeats 2000000 in
theorem pquote_any (l : List UInt8) (w : World) (hM : HasMax w) (hlen : l.length ≤ 100000) : Calls Tryd.prog 61 #[.string (bs l)] w (Ret w (.string (bs (quoteN l)))) := by
  have z0 : (bs l).size = l.length := bs_size l
  obtain ⟨t0, _, _, t3⟩ := txt_tests (p := l)
  have hel := escN_len l
  obtain ⟨E, hE⟩ : ∃ E, E = escN l := ⟨_, rfl⟩
  have hqn := quoteN_not (l := l)
  rw [← hE] at hel hqn
  have HE := Lib.hid hE
  clear hE
  have z1 : (bs E).size = E.length := bs_size E
  have z2 : (bs (39 :: E)).size = E.length + 1 := by rw [bs_size]; simp
  have c1 : (⟨#[39]⟩ : ByteArray) ++ bs E = bs (39 :: E) := bs_append [39] E
  have c2 : bs (39 :: E) ++ (⟨#[39]⟩ : ByteArray) = bs (39 :: (E ++ [39])) := by have := bs_append (39 :: E) [39]; exact this
  have b1 : ¬ 9223372036854775807 < 1 + E.length := by omega
  have b2 : ¬ 9223372036854775807 < E.length + 1 + 1 := by omega
  by_cases hn : l = []
  · have hf := Lib.hid (hqn (.inl hn))
    rw [show (l == []) = true from by rw [hn]; rfl] at t0 t3
    clear hqn hn
    go_enter Tryd.func61, Tryd.ntmps61
    go_wp2_with fail
    refine (esc_any l _ hM (by omega)).mono ?_
    rintro e w1 ⟨rfl, hE1⟩
    rw [← HE.out]
    go_wp2_with fail
    go_ret
    exact Ret.mk (ret_str (by rw [hf.out])) hE1
  · rw [show (l == []) = false from beq_eq_false_iff_ne.2 hn] at t0 t3
    cases ha : anyS l with
    | false =>
      have hf := Lib.hid (quoteN_bare hn ha)
      have HA := Lib.hid ha
      clear hqn hn ha
      go_enter Tryd.func61, Tryd.ntmps61
      go_wp2_with fail
      refine (cany_any l _ (by omega)).mono ?_
      rintro e w1 ⟨rfl, hE1⟩
      rw [HA.out]
      go_wp2_with fail
      go_ret
      exact Ret.mk (ret_str (by rw [hf.out])) hE1
    | true =>
      have hf := Lib.hid (hqn (.inr ha))
      have HA := Lib.hid ha
      clear hqn hn ha
      go_enter Tryd.func61, Tryd.ntmps61
      go_wp2_with fail
      refine (cany_any l _ (by omega)).mono ?_
      rintro e w1 ⟨rfl, hE1⟩
      rw [HA.out]
      have hM1 := Lib.hid (hM.ext hE1)
      go_wp2_with fail
      refine (esc_any l _ hM1.out (by omega)).mono ?_
      rintro e w2 ⟨rfl, hE2⟩
      rw [← HE.out]
      go_wp2_with fail
      go_ret
      exact Ret.mk (ret_str (by rw [hf.out])) (hE1.trans hE2)
theorem anyS_has (l : List UInt8) : anyS l = (hasB l 32 || (hasB l 39 || hasB l 92)) := by
  unfold anyS
  rw [Bool.eq_iff_iff, List.any_eq_true, Bool.or_eq_true, Bool.or_eq_true]
  unfold hasB
  rw [decide_eq_true_iff, decide_eq_true_iff, decide_eq_true_iff]
  constructor
  · rintro ⟨x, hx, hs⟩
    have : x = 32 ∨ x = 39 ∨ x = 92 := by simpa [signs] using hs
    rcases this with rfl | rfl | rfl
    · exact .inl hx
    · exact .inr (.inl hx)
    · exact .inr (.inr hx)
  · rintro (h | h | h)
    · exact ⟨_, h, by decide⟩
    · exact ⟨_, h, by decide⟩
    · exact ⟨_, h, by decide⟩
set_option maxRecDepth 100000 in
set_option maxHeartbeats 4000000 in
/-- Behind the reference's tests: the text with its signs. -/
theorem rquote_any (l : List UInt8) (w : World) (hlen : l.length ≤ 100000) : Calls Tryd.prog 62 #[.string (bs l)] w (Ret w (.string (bs (quoteN l)))) := by
  have z0 : (bs l).size = l.length := bs_size l
  have hs : (bs l).size ≤ 1000000 := by omega
  obtain ⟨t0, _, _, t3⟩ := txt_tests (p := l)
  have hel := escN_len l
  have hbl : Hid ((bs l).data.toList = l) := bs_list l
  have hqn := quoteN_not (l := l)
  have hqb := quoteN_bare (l := l)
  have hah := anyS_has l
  by_cases hn : l = []
  · have hf := Lib.hid (hqn (.inl hn))
    rw [show (l == []) = true from by rw [hn]; rfl] at t0 t3
    clear hqn hqb hah hn
    go_enter Tryd.func62, Tryd.ntmps62
    go_wp2_with fail
    go_loopw [3, 4] (fun u i wr => ∃ k : Nat, k ≤ l.length ∧ i = .int .i64 k ∧ u = .string (bs (39 :: escN (l.take k))) ∧ wr = w) (fun _ i _ => l.length - (intOf i).toNat)
    case atStart => exact ⟨0, Nat.zero_le _, rfl, rfl, rfl⟩
    case round =>
      obtain ⟨k, hk, rfl, rfl, rfl⟩ := hrel
      by_cases hlt : (k : Int) < l.length
      · have hkl : k < l.length := by omega
        have hks : k < (bs l).size := by omega
        have hg : (bs l)[k] = l[k] := bs_get l k hks hkl
        have hle : (escN (l.take k)).length ≤ 4 * k := by have := escN_len (l.take k); rw [List.length_take] at this; omega
        obtain ⟨c, hc⟩ : ∃ c, c = l[k] := ⟨_, rfl⟩
        rw [← hc] at hg
        have htk := escN_take l k hkl c hc
        obtain ⟨T, hT⟩ : ∃ T, T = escN (l.take k) := ⟨_, rfl⟩
        rw [← hT] at htk hle ⊢
        have y1 : (bs (39 :: T)).size = T.length + 1 := by rw [bs_size]; simp
        have hb : (((bs l)[k].toNat : Int) == 39) = (c == 39) := by rw [hg]; exact u8_eq (c := c) (d := 39)
        have hx1 : (bs l).extract k (k + 1) = bs [c] := by rw [ext_one (bs l) k hks, hg]
        have hsl := slice_str (P := Tryd.prog) Tryd.underlying9 (bs l) (k : Int) ((k : Int) + 1) k (k + 1) rfl (by omega) (by omega) (by omega) (bs [c]) hx1
        have hwk : IntKind.i64.wrap ((k : Int) + 1) = k + 1 := wrap_i64_in (by omega) (by omega)
        have y2 : (bs [c]).size = 1 := bs_size [c]
        have hc1 : bs (39 :: T) ++ bs [c] = bs (39 :: (T ++ [c])) := by have := bs_append (39 :: T) [c]; exact this
        have hc2 : bs (39 :: T) ++ (⟨#[39, 92, 39, 39]⟩ : ByteArray) = bs (39 :: (T ++ [39, 92, 39, 39])) := by have := bs_append (39 :: T) [39, 92, 39, 39]; exact this
        have hb1 : ¬ 9223372036854775807 < T.length + 1 + 1 := by omega
        have hb2 : ¬ 9223372036854775807 < T.length + 1 + 4 := by omega
        by_cases h3 : c = 39
        · rw [show (c == 39) = true from by rw [h3]; rfl] at hb
          rw [if_pos h3] at htk
          have HT := Lib.hid htk
          clear htk hg hc hT h3 hx1 hc1 hsl y2
          go_wp2_with fail
          go_roundw
          case rel => exact ⟨k + 1, by omega, by go_num, by rw [HT.out], by first | rfl | trivial⟩
          case measure => simp [intOf]; omega
        · rw [show (c == 39) = false from beq_eq_false_iff_ne.2 h3] at hb
          rw [if_neg h3] at htk
          have HT := Lib.hid htk
          clear htk hg hc hT h3 hx1 hc2
          go_wp2_with fail
          go_roundw
          case rel => exact ⟨k + 1, by omega, by go_num, by rw [HT.out], by first | rfl | trivial⟩
          case measure => simp [intOf]; omega
      · obtain rfl : k = l.length := by omega
        rw [List.take_length]
        obtain ⟨T, hT⟩ : ∃ T, T = escN l := ⟨_, rfl⟩
        rw [← hT] at hel hf ⊢
        have y1 : (bs (39 :: T)).size = T.length + 1 := by rw [bs_size]; simp
        have hc1 : bs (39 :: T) ++ (⟨#[39]⟩ : ByteArray) = bs (39 :: (T ++ [39])) := by have := bs_append (39 :: T) [39]; exact this
        have hb1 : ¬ 9223372036854775807 < T.length + 1 + 1 := by omega
        clear hT
        go_wp2_with fail
        go_ret
        exact Ret.mk (ret_str (by rw [hf.out])) (Ext.refl _)
  · rw [show (l == []) = false from beq_eq_false_iff_ne.2 hn] at t0 t3
    cases h32 : hasB l 32 with
    | true =>
      have hf := Lib.hid (hqn (.inr (by rw [hah, h32]; rfl)))
      have H1 := Lib.hid h32
      clear hqn hqb hah hn h32
      go_enter Tryd.func62, Tryd.ntmps62
      go_wp2_with fail
      refine (rhas_any _ 32 _ (by rfl) hs _).mono ?_
      rintro e w1 ⟨rfl, hE1⟩
      rw [hbl.out, H1.out]
      go_wp2_with fail
      go_loopw [3, 4] (fun u i wr => ∃ k : Nat, k ≤ l.length ∧ i = .int .i64 k ∧ u = .string (bs (39 :: escN (l.take k))) ∧ wr = w1) (fun _ i _ => l.length - (intOf i).toNat)
      case atStart => exact ⟨0, Nat.zero_le _, rfl, rfl, rfl⟩
      case round =>
        obtain ⟨k, hk, rfl, rfl, rfl⟩ := hrel
        by_cases hlt : (k : Int) < l.length
        · have hkl : k < l.length := by omega
          have hks : k < (bs l).size := by omega
          have hg : (bs l)[k] = l[k] := bs_get l k hks hkl
          have hle : (escN (l.take k)).length ≤ 4 * k := by have := escN_len (l.take k); rw [List.length_take] at this; omega
          obtain ⟨c, hc⟩ : ∃ c, c = l[k] := ⟨_, rfl⟩
          rw [← hc] at hg
          have htk := escN_take l k hkl c hc
          obtain ⟨T, hT⟩ : ∃ T, T = escN (l.take k) := ⟨_, rfl⟩
          rw [← hT] at htk hle ⊢
          have y1 : (bs (39 :: T)).size = T.length + 1 := by rw [bs_size]; simp
          have hb : (((bs l)[k].toNat : Int) == 39) = (c == 39) := by rw [hg]; exact u8_eq (c := c) (d := 39)
          have hx1 : (bs l).extract k (k + 1) = bs [c] := by rw [ext_one (bs l) k hks, hg]
          have hsl := slice_str (P := Tryd.prog) Tryd.underlying9 (bs l) (k : Int) ((k : Int) + 1) k (k + 1) rfl (by omega) (by omega) (by omega) (bs [c]) hx1
          have hwk : IntKind.i64.wrap ((k : Int) + 1) = k + 1 := wrap_i64_in (by omega) (by omega)
          have y2 : (bs [c]).size = 1 := bs_size [c]
          have hc1 : bs (39 :: T) ++ bs [c] = bs (39 :: (T ++ [c])) := by have := bs_append (39 :: T) [c]; exact this
          have hc2 : bs (39 :: T) ++ (⟨#[39, 92, 39, 39]⟩ : ByteArray) = bs (39 :: (T ++ [39, 92, 39, 39])) := by have := bs_append (39 :: T) [39, 92, 39, 39]; exact this
          have hb1 : ¬ 9223372036854775807 < T.length + 1 + 1 := by omega
          have hb2 : ¬ 9223372036854775807 < T.length + 1 + 4 := by omega
          by_cases h3 : c = 39
          · rw [show (c == 39) = true from by rw [h3]; rfl] at hb
            rw [if_pos h3] at htk
            have HT := Lib.hid htk
            clear htk hg hc hT h3 hx1 hc1 hsl y2
            go_wp2_with fail
            go_roundw
            case rel => exact ⟨k + 1, by omega, by go_num, by rw [HT.out], by first | rfl | trivial⟩
            case measure => simp [intOf]; omega
          · rw [show (c == 39) = false from beq_eq_false_iff_ne.2 h3] at hb
            rw [if_neg h3] at htk
            have HT := Lib.hid htk
            clear htk hg hc hT h3 hx1 hc2
            go_wp2_with fail
            go_roundw
            case rel => exact ⟨k + 1, by omega, by go_num, by rw [HT.out], by first | rfl | trivial⟩
            case measure => simp [intOf]; omega
        · obtain rfl : k = l.length := by omega
          rw [List.take_length]
          obtain ⟨T, hT⟩ : ∃ T, T = escN l := ⟨_, rfl⟩
          rw [← hT] at hel hf ⊢
          have y1 : (bs (39 :: T)).size = T.length + 1 := by rw [bs_size]; simp
          have hc1 : bs (39 :: T) ++ (⟨#[39]⟩ : ByteArray) = bs (39 :: (T ++ [39])) := by have := bs_append (39 :: T) [39]; exact this
          have hb1 : ¬ 9223372036854775807 < T.length + 1 + 1 := by omega
          clear hT
          go_wp2_with fail
          go_ret
          exact Ret.mk (ret_str (by rw [hf.out])) hE1
    | false =>
      cases h39 : hasB l 39 with
      | true =>
        have hf := Lib.hid (hqn (.inr (by rw [hah, h32, h39]; rfl)))
        have H1 := Lib.hid h32
        have H2 := Lib.hid h39
        clear hqn hqb hah hn h32 h39
        go_enter Tryd.func62, Tryd.ntmps62
        go_wp2_with fail
        refine (rhas_any _ 32 _ (by rfl) hs _).mono ?_
        rintro e w0 ⟨rfl, hE0⟩
        rw [hbl.out, H1.out]
        go_wp2_with fail
        refine (rhas_any _ 39 _ (by rfl) hs _).mono ?_
        rintro e w1 ⟨rfl, hE2⟩
        have hE1 := hE0.trans hE2
        rw [hbl.out, H2.out]
        go_wp2_with fail
        go_loopw [3, 4] (fun u i wr => ∃ k : Nat, k ≤ l.length ∧ i = .int .i64 k ∧ u = .string (bs (39 :: escN (l.take k))) ∧ wr = w1) (fun _ i _ => l.length - (intOf i).toNat)
        case atStart => exact ⟨0, Nat.zero_le _, rfl, rfl, rfl⟩
        case round =>
          obtain ⟨k, hk, rfl, rfl, rfl⟩ := hrel
          by_cases hlt : (k : Int) < l.length
          · have hkl : k < l.length := by omega
            have hks : k < (bs l).size := by omega
            have hg : (bs l)[k] = l[k] := bs_get l k hks hkl
            have hle : (escN (l.take k)).length ≤ 4 * k := by have := escN_len (l.take k); rw [List.length_take] at this; omega
            obtain ⟨c, hc⟩ : ∃ c, c = l[k] := ⟨_, rfl⟩
            rw [← hc] at hg
            have htk := escN_take l k hkl c hc
            obtain ⟨T, hT⟩ : ∃ T, T = escN (l.take k) := ⟨_, rfl⟩
            rw [← hT] at htk hle ⊢
            have y1 : (bs (39 :: T)).size = T.length + 1 := by rw [bs_size]; simp
            have hb : (((bs l)[k].toNat : Int) == 39) = (c == 39) := by rw [hg]; exact u8_eq (c := c) (d := 39)
            have hx1 : (bs l).extract k (k + 1) = bs [c] := by rw [ext_one (bs l) k hks, hg]
            have hsl := slice_str (P := Tryd.prog) Tryd.underlying9 (bs l) (k : Int) ((k : Int) + 1) k (k + 1) rfl (by omega) (by omega) (by omega) (bs [c]) hx1
            have hwk : IntKind.i64.wrap ((k : Int) + 1) = k + 1 := wrap_i64_in (by omega) (by omega)
            have y2 : (bs [c]).size = 1 := bs_size [c]
            have hc1 : bs (39 :: T) ++ bs [c] = bs (39 :: (T ++ [c])) := by have := bs_append (39 :: T) [c]; exact this
            have hc2 : bs (39 :: T) ++ (⟨#[39, 92, 39, 39]⟩ : ByteArray) = bs (39 :: (T ++ [39, 92, 39, 39])) := by have := bs_append (39 :: T) [39, 92, 39, 39]; exact this
            have hb1 : ¬ 9223372036854775807 < T.length + 1 + 1 := by omega
            have hb2 : ¬ 9223372036854775807 < T.length + 1 + 4 := by omega
            by_cases h3 : c = 39
            · rw [show (c == 39) = true from by rw [h3]; rfl] at hb
              rw [if_pos h3] at htk
              have HT := Lib.hid htk
              clear htk hg hc hT h3 hx1 hc1 hsl y2
              go_wp2_with fail
              go_roundw
              case rel => exact ⟨k + 1, by omega, by go_num, by rw [HT.out], by first | rfl | trivial⟩
              case measure => simp [intOf]; omega
            · rw [show (c == 39) = false from beq_eq_false_iff_ne.2 h3] at hb
              rw [if_neg h3] at htk
              have HT := Lib.hid htk
              clear htk hg hc hT h3 hx1 hc2
              go_wp2_with fail
              go_roundw
              case rel => exact ⟨k + 1, by omega, by go_num, by rw [HT.out], by first | rfl | trivial⟩
              case measure => simp [intOf]; omega
          · obtain rfl : k = l.length := by omega
            rw [List.take_length]
            obtain ⟨T, hT⟩ : ∃ T, T = escN l := ⟨_, rfl⟩
            rw [← hT] at hel hf ⊢
            have y1 : (bs (39 :: T)).size = T.length + 1 := by rw [bs_size]; simp
            have hc1 : bs (39 :: T) ++ (⟨#[39]⟩ : ByteArray) = bs (39 :: (T ++ [39])) := by have := bs_append (39 :: T) [39]; exact this
            have hb1 : ¬ 9223372036854775807 < T.length + 1 + 1 := by omega
            clear hT
            go_wp2_with fail
            go_ret
            exact Ret.mk (ret_str (by rw [hf.out])) hE1
      | false =>
        cases h92 : hasB l 92 with
        | true =>
          have hf := Lib.hid (hqn (.inr (by rw [hah, h32, h39, h92]; rfl)))
          have H1 := Lib.hid h32
          have H2 := Lib.hid h39
          have H3 := Lib.hid h92
          clear hqn hqb hah hn h32 h39 h92
          go_enter Tryd.func62, Tryd.ntmps62
          go_wp2_with fail
          refine (rhas_any _ 32 _ (by rfl) hs _).mono ?_
          rintro e w0 ⟨rfl, hE0⟩
          rw [hbl.out, H1.out]
          go_wp2_with fail
          refine (rhas_any _ 39 _ (by rfl) hs _).mono ?_
          rintro e w2 ⟨rfl, hE2⟩
          rw [hbl.out, H2.out]
          go_wp2_with fail
          refine (rhas_any _ 92 _ (by rfl) hs _).mono ?_
          rintro e w1 ⟨rfl, hE3⟩
          have hE1 := hE0.trans (hE2.trans hE3)
          rw [hbl.out, H3.out]
          go_wp2_with fail
          go_loopw [3, 4] (fun u i wr => ∃ k : Nat, k ≤ l.length ∧ i = .int .i64 k ∧ u = .string (bs (39 :: escN (l.take k))) ∧ wr = w1) (fun _ i _ => l.length - (intOf i).toNat)
          case atStart => exact ⟨0, Nat.zero_le _, rfl, rfl, rfl⟩
          case round =>
            obtain ⟨k, hk, rfl, rfl, rfl⟩ := hrel
            by_cases hlt : (k : Int) < l.length
            · have hkl : k < l.length := by omega
              have hks : k < (bs l).size := by omega
              have hg : (bs l)[k] = l[k] := bs_get l k hks hkl
              have hle : (escN (l.take k)).length ≤ 4 * k := by have := escN_len (l.take k); rw [List.length_take] at this; omega
              obtain ⟨c, hc⟩ : ∃ c, c = l[k] := ⟨_, rfl⟩
              rw [← hc] at hg
              have htk := escN_take l k hkl c hc
              obtain ⟨T, hT⟩ : ∃ T, T = escN (l.take k) := ⟨_, rfl⟩
              rw [← hT] at htk hle ⊢
              have y1 : (bs (39 :: T)).size = T.length + 1 := by rw [bs_size]; simp
              have hb : (((bs l)[k].toNat : Int) == 39) = (c == 39) := by rw [hg]; exact u8_eq (c := c) (d := 39)
              have hx1 : (bs l).extract k (k + 1) = bs [c] := by rw [ext_one (bs l) k hks, hg]
              have hsl := slice_str (P := Tryd.prog) Tryd.underlying9 (bs l) (k : Int) ((k : Int) + 1) k (k + 1) rfl (by omega) (by omega) (by omega) (bs [c]) hx1
              have hwk : IntKind.i64.wrap ((k : Int) + 1) = k + 1 := wrap_i64_in (by omega) (by omega)
              have y2 : (bs [c]).size = 1 := bs_size [c]
              have hc1 : bs (39 :: T) ++ bs [c] = bs (39 :: (T ++ [c])) := by have := bs_append (39 :: T) [c]; exact this
              have hc2 : bs (39 :: T) ++ (⟨#[39, 92, 39, 39]⟩ : ByteArray) = bs (39 :: (T ++ [39, 92, 39, 39])) := by have := bs_append (39 :: T) [39, 92, 39, 39]; exact this
              have hb1 : ¬ 9223372036854775807 < T.length + 1 + 1 := by omega
              have hb2 : ¬ 9223372036854775807 < T.length + 1 + 4 := by omega
              by_cases h3 : c = 39
              · rw [show (c == 39) = true from by rw [h3]; rfl] at hb
                rw [if_pos h3] at htk
                have HT := Lib.hid htk
                clear htk hg hc hT h3 hx1 hc1 hsl y2
                go_wp2_with fail
                go_roundw
                case rel => exact ⟨k + 1, by omega, by go_num, by rw [HT.out], by first | rfl | trivial⟩
                case measure => simp [intOf]; omega
              · rw [show (c == 39) = false from beq_eq_false_iff_ne.2 h3] at hb
                rw [if_neg h3] at htk
                have HT := Lib.hid htk
                clear htk hg hc hT h3 hx1 hc2
                go_wp2_with fail
                go_roundw
                case rel => exact ⟨k + 1, by omega, by go_num, by rw [HT.out], by first | rfl | trivial⟩
                case measure => simp [intOf]; omega
            · obtain rfl : k = l.length := by omega
              rw [List.take_length]
              obtain ⟨T, hT⟩ : ∃ T, T = escN l := ⟨_, rfl⟩
              rw [← hT] at hel hf ⊢
              have y1 : (bs (39 :: T)).size = T.length + 1 := by rw [bs_size]; simp
              have hc1 : bs (39 :: T) ++ (⟨#[39]⟩ : ByteArray) = bs (39 :: (T ++ [39])) := by have := bs_append (39 :: T) [39]; exact this
              have hb1 : ¬ 9223372036854775807 < T.length + 1 + 1 := by omega
              clear hT
              go_wp2_with fail
              go_ret
              exact Ret.mk (ret_str (by rw [hf.out])) hE1
        | false =>
          have hf := Lib.hid (hqb hn (by rw [hah, h32, h39, h92]; rfl))
          have H1 := Lib.hid h32
          have H2 := Lib.hid h39
          have H3 := Lib.hid h92
          clear hqn hqb hah hn h32 h39 h92
          go_enter Tryd.func62, Tryd.ntmps62
          go_wp2_with fail
          refine (rhas_any _ 32 _ (by rfl) hs _).mono ?_
          rintro e w0 ⟨rfl, hE0⟩
          rw [hbl.out, H1.out]
          go_wp2_with fail
          refine (rhas_any _ 39 _ (by rfl) hs _).mono ?_
          rintro e w2 ⟨rfl, hE2⟩
          rw [hbl.out, H2.out]
          go_wp2_with fail
          refine (rhas_any _ 92 _ (by rfl) hs _).mono ?_
          rintro e w1 ⟨rfl, hE3⟩
          have hE1 := hE0.trans (hE2.trans hE3)
          rw [hbl.out, H3.out]
          go_wp2_with fail
          go_ret
          exact Ret.mk (ret_str (by rw [hf.out])) hE1
end Go.Proofs.YtmppjbimdonfmaaDoor
