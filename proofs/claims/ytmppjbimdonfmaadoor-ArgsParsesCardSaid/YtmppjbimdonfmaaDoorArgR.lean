/- Layer 46 (args): Line of both. -/
import Derived.Test.YtmppjbimdonfmaaDoorArgQ
import Derived.Test.YtmppjbimdonfmaaDoorBldB
namespace Go.Proofs.YtmppjbimdonfmaaDoor
open Go.ChangeShapes Go.WideShapes Go.ChangeAt Go.RowKit

theorem lineN_snoc (L : List (List UInt8)) (s : List UInt8) : lineN (L ++ [s]) = if L = [] then quoteN s else lineN L ++ 32 :: quoteN s := by
  induction L with
  | nil => rfl
  | cons a L ih =>
    cases L with
    | nil => simp [lineN]
    | cons b L =>
      rw [List.cons_append, List.cons_append, lineN, ← List.cons_append, ih, if_neg (by simp), if_neg (by simp), lineN]
      simp
theorem lineN_take (L : List (List UInt8)) (k : Nat) (h : k < L.length) : lineN (L.take (k + 1)) = if k = 0 then quoteN L[k] else lineN (L.take k) ++ 32 :: quoteN L[k] := by
  rw [List.take_succ_eq_append_getElem h, lineN_snoc]
  by_cases hk : k = 0
  · subst hk; rw [if_pos (by simp), if_pos rfl]
  · rw [if_neg, if_neg hk]
    intro e
    have h2 : (L.take k).length = 0 := by rw [e]; rfl
    rw [List.length_take] at h2
    omega
theorem quoteN_len (s : List UInt8) : (quoteN s).length ≤ 4 * s.length + 2 := by
  have := escN_len s
  unfold quoteN
  split
  · omega
  · simp; omega
theorem lineN_len (L : List (List UInt8)) (m : Nat) (h : ∀ s ∈ L, s.length ≤ m) : (lineN L).length ≤ L.length * (4 * m + 3) := by
  induction L with
  | nil => simp [lineN]
  | cons a L ih =>
    have ha := quoteN_len a
    have hm := h a (List.mem_cons_self ..)
    have hl := ih (fun s hs => h s (List.mem_cons_of_mem _ hs))
    cases L with
    | nil => simp [lineN]; omega
    | cons b L =>
      rw [lineN]
      simp only [List.length_append, List.length_cons] at hl ⊢
      rw [Nat.add_mul]
      omega
theorem byteCells_same (l : List UInt8) : Lib.byteCells l = byteCells l := rfl
set_option maxRecDepth 100000 in
set_option maxHeartbeats 4000000 in
theorem pline_any (A : Option Addr) (cap : Nat) (L : List Txt) (w : World) (hat : TxtAt w A L) (hM : HasMax w) (hN : L.length ≤ 1000) (hS : ∀ s ∈ L, s.length ≤ 10000) : Calls Tryd.prog 59 #[.slice A L.length cap] w (Ret w (.string (bs (lineN L)))) := by
  have HS := Lib.hid hS
  clear hS
  go_enter Tryd.func59, Tryd.ntmps59
  go_wp2_with fail
  go_loopw [8] (fun i wr => ∃ k : Nat, k ≤ L.length ∧ i = .int .i64 k ∧ Lib.IsBuilder 79 5 w.heap.size w.heap.size (Lib.byteCells (lineN (L.take k))) wr ∧ Ext w wr) (fun i _ => L.length - (intOf i).toNat)
  case atStart => exact ⟨0, Nat.zero_le _, rfl, Lib.fresh_isBuilder _ _ w, (Ext.refl _).alloc _⟩
  case round =>
    obtain ⟨k, hk, rfl, hB, hE⟩ := hrel
    have hsz := hE.size
    by_cases hlt : (k : Int) < L.length
    · have hkl : k < L.length := by omega
      obtain ⟨b, o, rfl, hb, hcx⟩ := hat.at_ hE k hkl
      have hlt2 := lineN_take L k hkl
      have hs1 := HS.out L[k] (List.getElem_mem hkl)
      have hll : (lineN (L.take k)).length ≤ 1000 * 40003 := by
        have h1 := lineN_len (L.take k) 10000 (fun s hs => HS.out s (List.mem_of_mem_take hs))
        have h2 : (L.take k).length ≤ 1000 := by rw [List.length_take]; omega
        calc (lineN (L.take k)).length ≤ (L.take k).length * (4 * 10000 + 3) := h1
          _ ≤ 1000 * 40003 := Nat.mul_le_mul_right _ h2
      obtain ⟨x, hx⟩ : ∃ x, x = L[k] := ⟨_, rfl⟩
      rw [← hx] at hcx hlt2 hs1
      have hql := quoteN_len x
      obtain ⟨T, hT⟩ : ∃ T, T = lineN (L.take k) := ⟨_, rfl⟩
      obtain ⟨q, hq⟩ : ∃ q, q = quoteN x := ⟨_, rfl⟩
      rw [← hT] at hB hlt2 hll
      rw [← hq] at hql hlt2
      have HQ := Lib.hid hq
      have hM1 := Lib.hid (hM.ext hE)
      have hTz : Hid (k = 0 → T = []) := fun h => by rw [hT, h]; rfl
      clear hx hT hq
      by_cases hk0 : k = 0
      · rw [if_pos hk0] at hlt2
        have hT0 : Hid (T = []) := hTz.out hk0
        have hkp : ¬ (0 : Int) < (k : Int) := by omega
        have HL := Lib.hid hlt2
        clear hlt2 hk0
        go_wp2_with fail
        refine (pquote_any x _ hM1.out (by omega)).mono ?_
        rintro e w1 ⟨rfl, b1⟩
        rw [← HQ.out]
        have hB1 := Lib.hid (bld_keep hB b1)
        go_wp2_with fail
        refine (bld_string _ _ _ _ _ hB1.out (by rw [bs_size]; simp [Lib.byteCells]; omega) (hE.trans b1).size).mono ?_
        rintro e w2 ⟨rfl, h2, b2⟩
        have H2 := Lib.hid h2
        clear h2
        go_wp2_with fail
        go_roundw
        case rel => exact ⟨k + 1, by omega, by go_num, .inr (by rw [HL.out]; have := H2.out; rw [hT0.out] at this; simpa [Lib.byteCells, Lib.strCells, bs] using this), Below.trans (hE.trans b1) b2⟩
        case measure => simp [intOf]; omega
      · rw [if_neg hk0] at hlt2
        have hkp : (0 : Int) < (k : Int) := by omega
        have HL := Lib.hid hlt2
        clear hlt2 hk0
        go_wp2_with fail
        refine (bld_byte _ _ _ _ _ hB (by simp [Lib.byteCells]; omega) hsz).mono ?_
        rintro e w0 ⟨rfl, h0, b0⟩
        have H0 : Hid (Lib.IsBuilder 79 5 w.heap.size w.heap.size (Lib.byteCells (T ++ [32])) w0) := .inr (by simpa [Lib.byteCells] using h0)
        have E0 : Ext w w0 := Below.trans hE b0
        have hM0 := Lib.hid (hM.ext E0)
        clear h0
        go_wp2_with fail
        refine (pquote_any x _ hM0.out (by omega)).mono ?_
        rintro e w1 ⟨rfl, b1⟩
        rw [← HQ.out]
        have hB1 := Lib.hid (bld_keep H0.out b1)
        have E1 := E0.trans b1
        go_wp2_with fail
        refine (bld_string _ _ _ _ _ hB1.out (by rw [bs_size]; simp [Lib.byteCells]; omega) E1.size).mono ?_
        rintro e w2 ⟨rfl, h2, b2⟩
        have H2 := Lib.hid h2
        clear h2
        go_wp2_with fail
        go_roundw
        case rel => exact ⟨k + 1, by omega, by go_num, .inr (by rw [HL.out]; have := H2.out; simpa [Lib.byteCells, Lib.strCells, bs] using this), Below.trans E1 b2⟩
        case measure => simp [intOf]; omega
    · obtain rfl : k = L.length := by omega
      rw [List.take_length] at hB
      go_wp2_with fail
      refine (Tryd.Builder_String_any _ _ _ _ hB hE.size).mono ?_
      rintro e w1 ⟨rfl, b1⟩
      go_wp2_with fail
      go_ret
      exact Ret.mk rfl (Below.trans hE b1)
set_option maxRecDepth 100000 in
set_option maxHeartbeats 4000000 in
theorem rline_any (A : Option Addr) (cap : Nat) (L : List Txt) (w : World) (hat : TxtAt w A L) (hN : L.length ≤ 1000) (hS : ∀ s ∈ L, s.length ≤ 10000) : Calls Tryd.prog 60 #[.slice A L.length cap] w (Ret w (.string (bs (lineN L)))) := by
  have HS := Lib.hid hS
  clear hS
  go_enter Tryd.func60, Tryd.ntmps60
  go_wp2_with fail
  go_loopw [3, 4] (fun u i wr => ∃ k : Nat, k ≤ L.length ∧ i = .int .i64 k ∧ u = .string (bs (lineN (L.take k))) ∧ Ext w wr) (fun _ i _ => L.length - (intOf i).toNat)
  case atStart => exact ⟨0, Nat.zero_le _, rfl, rfl, Ext.refl _⟩
  case round =>
    obtain ⟨k, hk, rfl, rfl, hE⟩ := hrel
    by_cases hlt : (k : Int) < L.length
    · have hkl : k < L.length := by omega
      obtain ⟨b, o, rfl, hb, hcx⟩ := hat.at_ hE k hkl
      have hlt2 := lineN_take L k hkl
      have hs1 := HS.out L[k] (List.getElem_mem hkl)
      have hll : (lineN (L.take k)).length ≤ 1000 * 40003 := by
        have h1 := lineN_len (L.take k) 10000 (fun s hs => HS.out s (List.mem_of_mem_take hs))
        have h2 : (L.take k).length ≤ 1000 := by rw [List.length_take]; omega
        calc (lineN (L.take k)).length ≤ (L.take k).length * (4 * 10000 + 3) := h1
          _ ≤ 1000 * 40003 := Nat.mul_le_mul_right _ h2
      obtain ⟨x, hx⟩ : ∃ x, x = L[k] := ⟨_, rfl⟩
      rw [← hx] at hcx hlt2 hs1
      have hql := quoteN_len x
      obtain ⟨T, hT⟩ : ∃ T, T = lineN (L.take k) := ⟨_, rfl⟩
      obtain ⟨q, hq⟩ : ∃ q, q = quoteN x := ⟨_, rfl⟩
      rw [← hT] at hlt2 hll ⊢
      rw [← hq] at hql hlt2
      have HQ := Lib.hid hq
      have hTz : Hid (k = 0 → T = []) := fun h => by rw [hT, h]; rfl
      have y1 : (bs T).size = T.length := bs_size T
      have y2 : (bs q).size = q.length := bs_size q
      have y3 : (bs (T ++ [32])).size = T.length + 1 := by rw [bs_size]; simp
      have c1 : bs T ++ (⟨#[32]⟩ : ByteArray) = bs (T ++ [32]) := bs_append T [32]
      have c2 : bs (T ++ [32]) ++ bs q = bs (T ++ 32 :: q) := by rw [bs_append]; simp
      have c3 : bs T ++ bs q = bs (T ++ q) := bs_append T q
      have b1 : ¬ 9223372036854775807 < T.length + 1 := by omega
      have b2 : ¬ 9223372036854775807 < T.length + 1 + q.length := by omega
      have b3 : ¬ 9223372036854775807 < T.length + q.length := by omega
      clear hx hT hq
      by_cases hk0 : k = 0
      · rw [if_pos hk0] at hlt2
        have hT0 : Hid (T = []) := hTz.out hk0
        have hkp : ¬ (0 : Int) < (k : Int) := by omega
        have HL := Lib.hid hlt2
        clear hlt2 hk0
        go_wp2_with fail
        refine (rquote_any x _ (by omega)).mono ?_
        rintro e w1 ⟨rfl, e1⟩
        rw [← HQ.out]
        go_wp2_with fail
        go_roundw
        case rel => exact ⟨k + 1, by omega, by go_num, by rw [HL.out, hT0.out]; rfl, hE.trans e1⟩
        case measure => simp [intOf]; omega
      · rw [if_neg hk0] at hlt2
        have hkp : (0 : Int) < (k : Int) := by omega
        have HL := Lib.hid hlt2
        clear hlt2 hk0
        go_wp2_with fail
        refine (rquote_any x _ (by omega)).mono ?_
        rintro e w1 ⟨rfl, e1⟩
        rw [← HQ.out]
        go_wp2_with fail
        go_roundw
        case rel => exact ⟨k + 1, by omega, by go_num, by rw [HL.out], hE.trans e1⟩
        case measure => simp [intOf]; omega
    · obtain rfl : k = L.length := by omega
      rw [List.take_length]
      go_wp2_with fail
      go_ret
      exact Ret.mk rfl hE
end Go.Proofs.YtmppjbimdonfmaaDoor
