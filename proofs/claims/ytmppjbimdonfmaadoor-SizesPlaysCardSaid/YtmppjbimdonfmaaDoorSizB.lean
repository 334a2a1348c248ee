/- Layer 7 (sizes): the law SizesTells. -/
import Derived.Test.YtmppjbimdonfmaaDoorSizA
namespace Go.Proofs.YtmppjbimdonfmaaDoor
open Go.ChangeShapes Go.WideShapes Go.ChangeAt Go.RowKit

def LinesI (L : List EntD) : Prop := ∀ x ∈ L, I64 x.2.1 ∧ I64 x.2.2 ∧ x.1.length ≤ maxLen
theorem fit_of {L : List EntD} (hI : LinesI L) (h : ∀ s ∈ L, s.1.length ≤ 300) : ∀ x ∈ L, I64 x.2.1 ∧ I64 x.2.2 ∧ x.1.length ≤ 10000 := fun x hx => ⟨(hI x hx).1, (hI x hx).2.1, by have := h x hx; omega⟩
set_option maxRecDepth 100000 in
set_option maxHeartbeats 4000000 in
theorem sizesTells_any (A : Option Addr) (cap : Nat) (L : List EntD) (l : List UInt8) (w : World) (hat : EntsAt w A L) (hlen : L.length ≤ 9223372036854775807) (hI : LinesI L) (hM : HasMax w) :
    Calls Tryd.prog 9 #[.slice A L.length cap, .string (bs l)] w (Ret w (.bool true)) := by
  have hf := few7_any A cap L w hat hlen
  have hA := fun w' (hE : Ext w w') => awake7 w' (hM.ext hE)
  have HAW := Lib.hid hA
  have zl := bs_size l
  cases hfew : few7B L with
  | false =>
    rw [hfew] at hf
    have HF := Lib.hid hf
    clear hf hfew hA
    go_enter Tryd.func9, Tryd.ntmps9
    go_wp2_with fail
    refine (HF.out).mono ?_
    rintro e w1 ⟨rfl, b1⟩
    go_wp2_with fail
    refine (HAW.out _ b1).mono ?_
    rintro e w2 ⟨rfl, b2⟩
    go_wp2_with fail
    go_ret
    exact Ret.mk rfl (b1.trans b2)
  | true =>
    rw [hfew] at hf
    have HF := Lib.hid hf
    obtain ⟨h30, h300⟩ := few7_yes hfew
    by_cases hl8 : l.length ≤ 800
    · have hl8i : ¬ (800 : Int) < (l.length : Int) := by omega
      have hw1 := fun w' (hE : Ext w w') => swrite_any A cap L w' (hat.ext hE) (by omega) (fit_of hI h300)
      have hw2 := fun w' (hE : Ext w w') => rwrite_any A cap L w' (hat.ext hE) (by omega) (fit_of hI h300)
      have hp1 := fun w' (hE : Ext w w') => sparse_any l w' (hM.ext hE) (by omega) (by have := pcB_len 10 l []; omega)
      have hp2 := fun w' => rparseL_any l w' (by omega)
      have hql : (parseL (pcB 10 [] l)).length ≤ 801 := by
        have h1 := parseL_len (pcB 10 [] l)
        have h2 := pcB_len 10 l []
        omega
      obtain ⟨q, hq⟩ : ∃ q, q = parseL (pcB 10 [] l) := ⟨_, rfl⟩
      rw [← hq] at hp1 hp2 hql
      have W1 := Lib.hid hw1
      have W2 := Lib.hid hw2
      have P1 := Lib.hid hp1
      have P2 := Lib.hid hp2
      clear hf hfew hA hw1 hw2 hp1 hp2 hq h300 hI hat
      go_enter Tryd.func9, Tryd.ntmps9
      go_wp2_with fail
      refine (HF.out).mono ?_
      rintro e w1 ⟨rfl, b1⟩
      go_wp2_with fail
      refine (W1.out _ b1).mono ?_
      rintro e w2 ⟨rfl, b2⟩
      have E2 := b1.trans b2
      go_wp2_with fail
      refine (W2.out _ E2).mono ?_
      rintro e w3 ⟨rfl, b3⟩
      have E3 := E2.trans b3
      go_wp2_with fail
      refine (P1.out _ E3).mono ?_
      rintro e w4 ⟨v4, rfl, ho4, b4⟩
      obtain ⟨A4, c4, rfl, _, _, t4⟩ := ho4.at_
      have E4 := E3.trans b4
      go_wp2_with fail
      refine (P2.out _).mono ?_
      rintro e w5 ⟨v5, rfl, ho5, b5⟩
      obtain ⟨A5, c5, rfl, _, _, t5⟩ := ho5.at_
      have E5 := E4.trans b5
      have hs := same7_any A4 A5 c4 c5 q w5 (t4.ext b5) t5 (by omega)
      have HS := Lib.hid hs
      clear ho4 ho5 t4 t5 hs
      go_wp2_with fail
      refine (HS.out).mono ?_
      rintro e w6 ⟨rfl, b6⟩
      have E6 := E5.trans b6
      go_wp2_with fail
      refine (HAW.out _ E6).mono ?_
      rintro e w7 ⟨rfl, b7⟩
      go_wp2_with fail
      go_ret
      exact Ret.mk rfl (E6.trans b7)
    · have hl8i : (800 : Int) < (l.length : Int) := by omega
      clear hf hfew hA h300 hI hat
      go_enter Tryd.func9, Tryd.ntmps9
      go_wp2_with fail
      refine (HF.out).mono ?_
      rintro e w1 ⟨rfl, b1⟩
      go_wp2_with fail
      refine (HAW.out _ b1).mono ?_
      rintro e w2 ⟨rfl, b2⟩
      go_wp2_with fail
      go_ret
      exact Ret.mk rfl (b1.trans b2)
set_option maxRecDepth 100000 in
theorem sizesTells_walk {H : Type} {enc : TypeId × Value → H} (W : World) (base : Nat) (v0 v1 : Value) (d0 d1 : DataW H) (p0 p1 : List MemPlace)
    (hs : W.ShapedOpen Tryd.prog)
    (k0 : Value.okWide Tryd.prog W .any base 40 v0) (h0 : DataW.Trod enc Tryd.prog W 0 (fun _ => true) true 40 v0 d0 p0)
    (k1 : Value.okWide Tryd.prog W .any base 9 v1) (h1 : DataW.Trod enc Tryd.prog W 0 (fun _ => true) true 9 v1 d1 p1)
    : Calls Tryd.prog 9 #[v0, v1] W (Ret W (.bool true)) := by
  obtain ⟨A, L, cap, rfl, hat, _, hl, hc, hI⟩ := open_lines k0 h0
  obtain ⟨a1, rfl, rfl, rfl, w1⟩ := Go.ChangeMaps.open_string Tryd.underlying9 k1 h1
  rw [← bs_self a1]
  exact sizesTells_any A cap L _ W hat (by unfold maxLen at hc; omega) hI (HasMax.of hs)
end Go.Proofs.YtmppjbimdonfmaaDoor
