/- Layer 7 (sizes): the law SizesBack. -/
import Derived.Test.YtmppjbimdonfmaaDoorSizB
namespace Go.Proofs.YtmppjbimdonfmaaDoor
open Go.ChangeShapes Go.WideShapes Go.ChangeAt Go.RowKit

/-! ### Plain: what Write writes, Parse reads. -/
theorem digL_chars {n : Nat} {c : UInt8} (h : c ∈ digL 10 n) : 48 ≤ c.toNat ∧ c.toNat ≤ 57 := by
  have h1 := List.all_eq_true.1 (digL_all 10 (by decide) (by decide) n) c h
  obtain ⟨h2, h3⟩ := digit_chr (by decide) h1
  have h4 := chr_toNat (c.toNat - 48) h3
  rw [← h2] at h4
  omega
theorem decI_chars {n : Int} {c : UInt8} (h : c ∈ decI n) : c = 45 ∨ (48 ≤ c.toNat ∧ c.toNat ≤ 57) := by
  by_cases hn : n < 0
  · rw [decI_neg hn] at h
    rcases List.mem_cons.1 h with h | h
    · exact .inl h
    · exact .inr (digL_chars h)
  · rw [decI_pos hn] at h
    exact .inr (digL_chars h)
theorem decI_no {n : Int} {c : UInt8} (hc : c = 10 ∨ c = 32) : c ∉ decI n := by
  intro h
  rcases decI_chars h with h1 | h1
  · subst h1; rcases hc with h | h <;> exact absurd h (by decide)
  · rcases hc with rfl | rfl
    · have : (10 : UInt8).toNat = 10 := rfl
      omega
    · have : (32 : UInt8).toNat = 32 := rfl
      omega
theorem lineB_no (x : EntD) : 10 ∉ lineB x := by
  unfold lineB
  intro h
  rcases List.mem_append.1 h with h | h
  · exact decI_no (.inl rfl) h
  · rcases List.mem_cons.1 h with h | h
    · exact absurd h (by decide)
    · rcases List.mem_append.1 h with h | h
      · exact decI_no (.inl rfl) h
      · rcases List.mem_cons.1 h with h | h
        · exact absurd h (by decide)
        · have := encL_vis _ _ h
          have e : (10 : UInt8).toNat = 10 := rfl
          omega
theorem lineO_lineB {x : EntD} (h1 : I64 x.2.1) (h2 : I64 x.2.2) (hm : mayL x = true) : lineO (lineB x) = some x :=
  lineO_some ⟨decI x.2.1, decI x.2.2, encL x.1, cutB_at _ _ (decI_no (.inr rfl)), decI_no (.inr rfl), h1, rfl, h2, rfl, decL_encL _, hm⟩
def textL (R : List EntD) : List UInt8 := R.flatMap fun x => lineB x ++ [10]
theorem writeL_may {R : List EntD} (h : ∀ x ∈ R, mayL x = true) : writeL R = textL R := by unfold writeL textL; rw [List.filter_eq_self.2 h]
theorem pcB_text : ∀ R : List EntD, pcB 10 [] (textL R) = R.map lineB ++ [[]]
  | [] => rfl
  | x :: R => by
    have e : textL (x :: R) = lineB x ++ 10 :: textL R := by unfold textL; rw [List.flatMap_cons]; simp
    rw [e, pcB_at _ _ _ (lineB_no x), pcB_text R]; rfl
theorem putF_last {q : List EntD} {x : EntD} (h : ∀ y ∈ q, bl y.1 x.1 = true) : putF q x = q ++ [x] := by
  unfold putF
  have h1 : lessF q x.1 = q := filter_all h
  have h2 : moreF q x.1 = [] := filter_none fun y hy => bl_asymm (h y hy)
  rw [h1, h2, List.append_nil]
theorem fold_back : ∀ (R q : List EntD), Rise (q ++ R) → (∀ x ∈ R, I64 x.2.1 ∧ I64 x.2.2 ∧ mayL x = true) → (R.map lineB).foldl stepF q = q ++ R
  | [], q, _, _ => by simp
  | x :: R, q, hr, hx => by
    obtain ⟨h1, h2, h3⟩ := hx x (List.mem_cons_self ..)
    have hq : ∀ y ∈ q, bl y.1 x.1 = true := fun y hy => (List.pairwise_append.1 hr).2.2 y hy x (List.mem_cons_self ..)
    rw [List.map_cons, List.foldl_cons, stepF_some (lineO_lineB h1 h2 h3), putF_last hq, fold_back R (q ++ [x]) (by simpa using hr) (fun y hy => hx y (List.mem_cons_of_mem _ hy))]
    simp
theorem empty_line : lineO [] = none := ex_d
theorem parse_text {R : List EntD} (hr : Rise R) (hx : ∀ x ∈ R, I64 x.2.1 ∧ I64 x.2.2 ∧ mayL x = true) : parseL (pcB 10 [] (writeL R)) = R := by
  rw [writeL_may (fun x h => (hx x h).2.2), pcB_text]
  unfold parseL
  rw [List.foldl_append, fold_back R [] (by simpa using hr) hx, List.foldl_cons, List.foldl_nil, stepF_none empty_line, List.nil_append]
theorem textL_len : ∀ {R : List EntD}, (∀ x ∈ R, x.1.length ≤ 300) → (textL R).length ≤ R.length * 1034
  | [], _ => by simp [textL]
  | x :: R, h => by
    have ih := textL_len (R := R) (fun y hy => h y (List.mem_cons_of_mem _ hy))
    have h1 := decI_len x.2.1
    have h2 := decI_len x.2.2
    have h3 := encL_le x.1
    have h4 := h x (List.mem_cons_self ..)
    have e : textL (x :: R) = lineB x ++ 10 :: textL R := by unfold textL; rw [List.flatMap_cons]; simp
    rw [e]
    unfold lineB
    simp only [List.length_append, List.length_cons]
    omega
/-! ### The rows of the lines that may be. -/
def rowF (q : List EntD) (x : EntD) : List EntD := if mayL x = true then putF q x else q
def rowsF (L : List EntD) : List EntD := L.foldl rowF []
theorem rowsF_snoc (L : List EntD) (x : EntD) : rowsF (L ++ [x]) = rowF (rowsF L) x := by unfold rowsF; rw [List.foldl_append]; rfl
theorem rowsF_yes {L : List EntD} {x : EntD} (h : mayL x = true) : rowsF (L ++ [x]) = putF (rowsF L) x := by rw [rowsF_snoc]; unfold rowF; rw [if_pos h]
theorem rowsF_no {L : List EntD} {x : EntD} (h : mayL x = false) : rowsF (L ++ [x]) = rowsF L := by rw [rowsF_snoc]; unfold rowF; rw [if_neg (by rw [h]; decide)]
theorem mem_putF {q : List EntD} {x y : EntD} (h : y ∈ putF q x) : y = x ∨ y ∈ q := by
  unfold putF at h
  rcases List.mem_append.1 h with h | h
  · rcases List.mem_append.1 h with h | h
    · exact .inr (List.mem_filter.1 h).1
    · exact .inl (List.mem_singleton.1 h)
  · exact .inr (List.mem_filter.1 h).1
theorem rowsF_good (L : List EntD) : Rise (rowsF L) ∧ (∀ x ∈ rowsF L, x ∈ L ∧ mayL x = true) ∧ (rowsF L).length ≤ L.length := by
  have key : ∀ (L q : List EntD), Rise q → Rise (L.foldl rowF q) ∧ (∀ x ∈ L.foldl rowF q, (x ∈ q ∨ (x ∈ L ∧ mayL x = true))) ∧ (L.foldl rowF q).length ≤ q.length + L.length := by
    intro L
    induction L with
    | nil => intro q h; exact ⟨h, fun x hx => .inl hx, by simp⟩
    | cons y L ih =>
      intro q h
      have hr : Rise (rowF q y) := by unfold rowF; split; exact rise_putF y h; exact h
      have hl : (rowF q y).length ≤ q.length + 1 := by unfold rowF; split; exact putF_len q y; omega
      obtain ⟨i1, i2, i3⟩ := ih (rowF q y) hr
      refine ⟨i1, fun x hx => ?_, by simp only [List.foldl_cons, List.length_cons]; omega⟩
      rcases i2 x hx with h1 | ⟨h1, h2⟩
      · unfold rowF at h1
        split at h1
        · rename_i hm
          rcases mem_putF h1 with rfl | h1
          · exact .inr ⟨List.mem_cons_self .., hm⟩
          · exact .inl h1
        · exact .inl h1
      · exact .inr ⟨List.mem_cons_of_mem _ h1, h2⟩
  obtain ⟨k1, k2, k3⟩ := key L [] List.Pairwise.nil
  refine ⟨k1, fun x hx => ?_, by simpa [rowsF] using k3⟩
  rcases k2 x hx with h | h
  · cases h
  · exact h
/-! ### The law. -/
set_option maxRecDepth 100000 in
set_option maxHeartbeats 4000000 in
theorem sizesBack_any (A : Option Addr) (cap : Nat) (L : List EntD) (w : World) (hat : EntsAt w A L) (hlen : L.length ≤ 9223372036854775807) (hI : LinesI L) (hM : HasMax w) :
    Calls Tryd.prog 10 #[.slice A L.length cap] w (Ret w (.bool true)) := by
  have hf := few7_any A cap L w hat hlen
  have hA := fun w' (hE : Ext w w') => awake7 w' (hM.ext hE)
  have HAW := Lib.hid hA
  cases hfew : few7B L with
  | false =>
    rw [hfew] at hf
    have HF := Lib.hid hf
    clear hf hfew hA
    go_enter Tryd.func10, Tryd.ntmps10
    go_wp2_with fail
    refine (HF.out).mono ?_
    rintro e w1 ⟨rfl, b1⟩
    go_wp2_with fail
    refine (HAW.out _ b1).mono ?_
    rintro e w2 ⟨rfl, b2⟩
    go_wp2_with fail
    go_ret
    exact Ret.mk rfl (b1.trans b2)
  | true =>
    rw [hfew] at hf
    have HF := Lib.hid hf
    obtain ⟨h30, h300⟩ := few7_yes hfew
    have HI := Lib.hid hI
    have H300 := Lib.hid h300
    have HAT := Lib.hid hat
    have HM := Lib.hid hM
    obtain ⟨n, hn⟩ : ∃ n, n = L.length := ⟨_, rfl⟩
    rw [← hn] at hf HF h30 hlen ⊢
    have HN := Lib.hid hn
    clear hf hfew hA hI h300 hat hM hn
    go_enter Tryd.func10, Tryd.ntmps10
    go_wp2_with fail
    refine (HF.out).mono ?_
    rintro e w1 ⟨rfl, b1⟩
    go_wp2_with fail
    go_loopw [3, 4] (fun u i wr => ∃ k : Nat, k ≤ n ∧ i = .int .i64 k ∧ OwnE wr w1.heap.size u (rowsF (L.take k)) ∧ Ext w1 wr) (fun _ i _ => n - (intOf i).toNat)
    case atStart => exact ⟨0, Nat.zero_le _, rfl, World.ownsRow_nil _ _ _ _, Ext.refl _⟩
    case round =>
      obtain ⟨k, hk, rfl, hown, hE⟩ := hrel
      by_cases hlt : (k : Int) < n
      · have hkl : k < L.length := by rw [← HN.out]; omega
        obtain ⟨b, o, rfl, hbb, p0, p1, p2⟩ := HAT.out.at_ (b1.trans hE) k hkl
        have hx3 := H300.out L[k] (List.getElem_mem hkl)
        have htk : L.take (k + 1) = L.take k ++ [L[k]] := List.take_succ_eq_append_getElem hkl
        have hql : (rowsF (L.take k)).length ≤ 30 := by
          have h1 := (rowsF_good (L.take k)).2.2
          have h2 := List.length_take_le k L
          omega
        obtain ⟨x, hx⟩ : ∃ x, x = L[k] := ⟨_, rfl⟩
        rw [← hx] at p0 p1 p2 hx3 htk
        obtain ⟨q, hq⟩ : ∃ q, q = rowsF (L.take k) := ⟨_, rfl⟩
        rw [← hq] at hown hql
        have HQ := Lib.hid hq
        have HTK := Lib.hid htk
        obtain ⟨A2, c2, rfl, _, _, hat2⟩ := hown.at_
        have HO := Lib.hid hown
        have HAT2 := Lib.hid hat2
        have hmy := fun w' => rmay_any x w' (by omega)
        obtain ⟨nm, sz, tm⟩ := x
        simp only [] at p0 p1 p2 hx3
        dsimp only [lineA] at hmy
        have HMY := Lib.hid hmy
        clear hx hq hown hat2 hmy htk
        cases hm : mayL (nm, sz, tm) with
        | false =>
          have HR : Hid (rowsF (L.take (k + 1)) = q) := by show _ = _; rw [HTK.out, rowsF_no hm, HQ.out]
          have H0 := Lib.hid hm
          clear hm
          go_wp2_with fail
          refine (HMY.out _).mono ?_
          rintro e w2 ⟨rfl, b2⟩
          rw [H0.out]
          go_wp2_with fail
          go_roundw
          case rel => exact ⟨k + 1, by omega, by go_num, by rw [HR.out]; exact HO.out.keep b2, hE.trans b2⟩
          case measure => simp [intOf]; omega
        | true =>
          have HR : Hid (rowsF (L.take (k + 1)) = putF q (nm, sz, tm)) := by show _ = _; rw [HTK.out, rowsF_yes hm, HQ.out]
          have H0 := Lib.hid hm
          clear hm
          go_wp2_with fail
          refine (HMY.out _).mono ?_
          rintro e w2 ⟨rfl, b2⟩
          rw [H0.out]
          have hbb2 : b < w2.heap.size := by have := b2.size; omega
          have r0 := (b2.cell (o := o + k * 3) hbb).trans p0
          have r1 := (b2.cell (o := o + k * 3 + 1) hbb).trans p1
          have r2 := (b2.cell (o := o + k * 3 + 2) hbb).trans p2
          have hput := lput_any A2 q c2 (nm, sz, tm) w2 (HAT2.out.ext b2) (by omega)
          have HPUT := Lib.hid hput
          clear hput p0 p1 p2
          go_wp2_with fail
          refine (HPUT.out).mono ?_
          rintro e w3 ⟨v3, rfl, ho3, b3⟩
          have HO3 := Lib.hid (ho3.base (B' := w1.heap.size) (hE.trans b2).size)
          clear ho3
          go_wp2_with fail
          go_roundw
          case rel => exact ⟨k + 1, by omega, by go_num, by rw [HR.out]; exact HO3.out, (hE.trans b2).trans b3⟩
          case measure => simp [intOf]; omega
      · obtain rfl : n = k := by omega
        have hfin : L.take n = L := by rw [HN.out, List.take_length]
        rw [hfin] at hown
        obtain ⟨g1, g2, g3⟩ := rowsF_good L
        obtain ⟨R, hR⟩ : ∃ R, R = rowsF L := ⟨_, rfl⟩
        rw [← hR] at hown g1 g2 g3
        have hRl : R.length ≤ 30 := by have := HN.out; omega
        have hall : ∀ x ∈ R, I64 x.2.1 ∧ I64 x.2.2 ∧ mayL x = true := fun x hx => ⟨(HI.out x (g2 x hx).1).1, (HI.out x (g2 x hx).1).2.1, (g2 x hx).2⟩
        have h3 : ∀ x ∈ R, x.1.length ≤ 300 := fun x hx => H300.out x (g2 x hx).1
        have hfit : ∀ x ∈ R, I64 x.2.1 ∧ I64 x.2.2 ∧ x.1.length ≤ 10000 := fun x hx => ⟨(hall x hx).1, (hall x hx).2.1, by have := h3 x hx; omega⟩
        have hwl : (writeL R).length ≤ 31020 := by
          rw [writeL_may (fun x h => (hall x h).2.2)]
          have := textL_len h3
          omega
        have hpcl : (pcB 10 [] (writeL R)).length ≤ 1000 := by
          rw [writeL_may (fun x h => (hall x h).2.2), pcB_text]
          simp; omega
        have hback := parse_text g1 hall
        obtain ⟨A2, c2, rfl, _, _, hat2⟩ := hown.at_
        have hw1 := swrite_any A2 c2 R wr hat2 (by omega) hfit
        have hp1 := fun w' (hE' : Ext w w') => sparse_any (writeL R) w' (HM.out.ext hE') (by omega) hpcl
        rw [hback] at hp1
        obtain ⟨T, hT⟩ : ∃ T, T = bs (writeL R) := ⟨_, rfl⟩
        rw [← hT] at hw1 hp1
        have W1 := Lib.hid hw1
        have P1 := Lib.hid hp1
        have HAT2 := Lib.hid hat2
        clear hown hfin g1 g2 g3 hR hall h3 hfit hwl hpcl hback hw1 hp1 hT hat2
        go_wp2_with fail
        refine (W1.out).mono ?_
        rintro e w2 ⟨rfl, b2⟩
        have E2 := (b1.trans hE).trans b2
        go_wp2_with fail
        refine (P1.out _ E2).mono ?_
        rintro e w3 ⟨v3, rfl, ho3, b3⟩
        obtain ⟨A3, c3, rfl, _, _, t3⟩ := ho3.at_
        have E3 := E2.trans b3
        have hs := same7_any A3 A2 c3 c2 R w3 t3 ((HAT2.out.ext b2).ext b3) (by omega)
        have HS := Lib.hid hs
        clear ho3 t3 hs
        go_wp2_with fail
        refine (HS.out).mono ?_
        rintro e w4 ⟨rfl, b4⟩
        have E4 := E3.trans b4
        go_wp2_with fail
        refine (HAW.out _ E4).mono ?_
        rintro e w5 ⟨rfl, b5⟩
        go_wp2_with fail
        go_ret
        exact Ret.mk rfl (E4.trans b5)
set_option maxRecDepth 100000 in
theorem sizesBack_walk {H : Type} {enc : TypeId × Value → H} (W : World) (base : Nat) (v0 : Value) (d0 : DataW H) (p0 : List MemPlace)
    (hs : W.ShapedOpen Tryd.prog)
    (k0 : Value.okWide Tryd.prog W .any base 40 v0) (h0 : DataW.Trod enc Tryd.prog W 0 (fun _ => true) true 40 v0 d0 p0)
    : Calls Tryd.prog 10 #[v0] W (Ret W (.bool true)) := by
  obtain ⟨A, L, cap, rfl, hat, _, hl, hc, hI⟩ := open_lines k0 h0
  exact sizesBack_any A cap L W hat (by unfold maxLen at hc; omega) hI (HasMax.of hs)
end Go.Proofs.YtmppjbimdonfmaaDoor
