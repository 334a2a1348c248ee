/- Layer 46 (args): the walks of ArgsTells and ArgsBack over what came in. -/
import Derived.Test.YtmppjbimdonfmaaDoorArgM
import Derived.Test.YtmppjbimdonfmaaDoorArgN
namespace Go.Proofs.YtmppjbimdonfmaaDoor
open Go.ChangeShapes Go.WideShapes Go.ChangeAt Go.RowKit

set_option maxRecDepth 100000 in
theorem argsTells_walk {H : Type} {enc : TypeId × Value → H} (W : World) (base : Nat) (v0 v1 : Value) (d0 d1 : DataW H) (p0 p1 : List MemPlace)
    (hs : W.ShapedOpen Tryd.prog) (hl : laidMetH Tryd.prog Rows.argsTellsRow.laid W)
    (k0 : Value.okWide Tryd.prog W .any base 9 v0) (h0 : DataW.Trod enc Tryd.prog W 0 (fun _ => true) true 9 v0 d0 p0)
    (k1 : Value.okWide Tryd.prog W .any base 24 v1) (h1 : DataW.Trod enc Tryd.prog W 0 (fun _ => true) true 24 v1 d1 p1)
    : Calls Tryd.prog 12 #[v0, v1] W (Ret W (.bool true)) := by
  obtain ⟨a0, rfl, rfl, rfl, w0⟩ := Go.ChangeMaps.open_string Tryd.underlying9 k0 h0
  obtain ⟨A, L, cap, rfl, hat, _, hlc, hcm⟩ := open_txts k1 h1
  rw [← bs_self a0]
  unfold maxLen at hcm
  exact argsTells_any _ A cap L W hat (by omega) (names_of hl) (HasMax.of hs)
theorem safe_has {L : List Txt} (h : ∀ k, (hk : k < L.length) → hasB L[k] 0 = false ∧ hasB L[k] 10 = false) : ∀ s ∈ L, safe s := by
  intro s hs
  obtain ⟨k, hk, rfl⟩ := List.getElem_of_mem hs
  have := h k hk
  unfold hasB at this
  exact ⟨of_decide_eq_false this.1, of_decide_eq_false this.2⟩
set_option maxRecDepth 100000 in
set_option maxHeartbeats 8000000 in
theorem argsBack_any (A : Option Addr) (cap : Nat) (L : List Txt) (w : World) (hat : TxtAt w A L) (hlen : L.length ≤ 9223372036854775807) (hN : NamesAt w) (hM : HasMax w) :
    Calls Tryd.prog 13 #[.slice A L.length cap] w (Ret w (.bool true)) := by
  cases hfew : few46B L with
  | false =>
    have hf := few46_any A cap L w hat hlen
    rw [hfew] at hf
    have HF := Lib.hid hf
    clear hf hfew
    go_enter Tryd.func13, Tryd.ntmps13
    go_wp2_with fail
    refine (HF.out).mono ?_
    clear HF
    rintro e w0 ⟨rfl, hE0⟩
    go_wp2_with fail
    refine (awake46 _ (hN.ext hE0) (hM.ext hE0)).mono ?_
    rintro e w3 ⟨rfl, hE3⟩
    go_wp2_with fail
    go_ret
    exact Ret.mk rfl (hE0.trans hE3)
  | true =>
    obtain ⟨h12, h200⟩ := few46_yes hfew
    have H200 := Lib.hid h200
    have hf := few46_any A cap L w hat hlen
    rw [hfew] at hf
    obtain ⟨n, hn⟩ : ∃ n, n = L.length := ⟨_, rfl⟩
    have HL1 := Lib.hid (fun w' (hE : Ext w w') => pline_any A cap L w' (hat.ext hE) (hM.ext hE) (by omega) (fun s hs => by have := H200.out s hs; omega))
    have HSA := Lib.hid (fun (A' : Option Addr) (cap' : Nat) (w' : World) (hE : Ext w w') (ht : TxtAt w' A' L) => rsame_any A A' cap cap' L w' (hat.ext hE) ht (by omega))
    rw [← hn] at hf HL1 HSA h12 hlen ⊢
    have HF := Lib.hid hf
    have HN := Lib.hid hn
    have HAT := Lib.hid hat
    have hll := Lib.hid (lineN_len L 200 h200)
    clear hf hfew h200 hat hn
    go_enter Tryd.func13, Tryd.ntmps13
    go_wp2_with fail
    refine (HF.out).mono ?_
    clear HF
    rintro e w0 ⟨rfl, hE0⟩
    go_wp2_with fail
    go_loopw [3] (fun i wr => ∃ k : Nat, k ≤ n ∧ i = .int .i64 k ∧ Hid (∀ j, j < k → (hj : j < L.length) → hasB L[j] 0 = false ∧ hasB L[j] 10 = false) ∧ Ext w wr) (fun i _ => n - (intOf i).toNat)
    case atStart => exact ⟨0, Nat.zero_le _, rfl, (fun j hj => by omega), hE0⟩
    case round =>
      obtain ⟨k, hk, rfl, hall, hE⟩ := hrel
      by_cases hlt : (k : Int) < n
      · have hkl : k < L.length := by rw [← HN.out]; omega
        obtain ⟨b, o, rfl, hbb, hcl⟩ := HAT.out.at_ hE k hkl
        obtain ⟨x, hx⟩ : ∃ x, x = L[k] := ⟨_, rfl⟩
        have hxl := H200.out L[k] (List.getElem_mem hkl)
        rw [← hx] at hcl hxl
        have zz := bs_size x
        have hbl : Hid ((bs x).data.toList = x) := bs_list x
        have HX := Lib.hid hx
        obtain ⟨Y, hY⟩ : ∃ Y, Y = bs x := ⟨_, rfl⟩
        rw [← hY] at hcl zz hbl
        have hys : Y.size ≤ 1000000 := by omega
        clear hx hY
        cases h0 : hasB x 0 with
        | true =>
          have H0 := Lib.hid h0
          clear h0
          go_wp2_with fail
          refine (rhas_any Y 0 _ (by rfl) hys _).mono ?_
          rintro e w1 ⟨rfl, hE1⟩
          rw [hbl.out, H0.out]
          go_wp2_with fail
          refine (awake46 _ ((hN.ext hE).ext hE1) ((hM.ext hE).ext hE1)).mono ?_
          rintro e w3 ⟨rfl, hE3⟩
          go_wp2_with fail
          go_ret
          exact Ret.mk rfl ((hE.trans hE1).trans hE3)
        | false =>
          have H0 := Lib.hid h0
          clear h0
          cases h1 : hasB x 10 with
          | true =>
            have H1 := Lib.hid h1
            clear h1
            go_wp2_with fail
            refine (rhas_any Y 0 _ (by rfl) hys _).mono ?_
            rintro e w1 ⟨rfl, hE1⟩
            rw [hbl.out, H0.out]
            have hc2 := (hE1.cell (o := o + k) hbb).trans hcl
            go_wp2_with fail
            refine (rhas_any Y 10 _ (by rfl) hys _).mono ?_
            rintro e w2 ⟨rfl, hE2⟩
            rw [hbl.out, H1.out]
            go_wp2_with fail
            refine (awake46 _ (((hN.ext hE).ext hE1).ext hE2) (((hM.ext hE).ext hE1).ext hE2)).mono ?_
            rintro e w3 ⟨rfl, hE3⟩
            go_wp2_with fail
            go_ret
            exact Ret.mk rfl (((hE.trans hE1).trans hE2).trans hE3)
          | false =>
            have H1 := Lib.hid h1
            clear h1
            go_wp2_with fail
            refine (rhas_any Y 0 _ (by rfl) hys _).mono ?_
            rintro e w1 ⟨rfl, hE1⟩
            rw [hbl.out, H0.out]
            have hc2 := (hE1.cell (o := o + k) hbb).trans hcl
            go_wp2_with fail
            refine (rhas_any Y 10 _ (by rfl) hys _).mono ?_
            rintro e w2 ⟨rfl, hE2⟩
            rw [hbl.out, H1.out]
            go_wp2_with fail
            go_roundw
            case rel => exact ⟨k + 1, by omega, by go_num, (fun j hj hjl => by
              by_cases he : j = k
              · subst he; rw [← HX.out]; exact ⟨H0.out, H1.out⟩
              · exact hall.out j (by omega) hjl), (hE.trans hE1).trans hE2⟩
            case measure => simp [intOf]; omega
      · obtain rfl : n = k := by omega
        have hw : Hid (wordsN (lineN L) = some L) := words_line L (safe_has (fun j hj => hall.out j (by rw [HN.out]; exact hj) hj))
        obtain ⟨X, hX⟩ : ∃ X, X = lineN L := ⟨_, rfl⟩
        rw [← hX] at hw hll
        have HX := Lib.hid hX
        have hxl : X.length ≤ 100000 := by have := hll.out; have h13 : L.length ≤ 12 := by rw [← HN.out]; exact h12
                                           have : L.length * (4 * 200 + 3) ≤ 12 * 803 := Nat.mul_le_mul h13 (Nat.le_refl _)
                                           omega
        clear hX
        go_wp2_with fail
        refine (HL1.out _ hE).mono ?_
        rintro e w1 ⟨rfl, hE1⟩
        rw [← HX.out]
        go_wp2_with fail
        refine (pwords_any X _ hxl).mono ?_
        rintro e w2 (⟨h1, _⟩ | ⟨L1, v1, h1, rfl, hO1, hE2⟩)
        · rw [hw.out] at h1; cases h1
        rw [hw.out] at h1
        obtain rfl : L = L1 := Option.some.inj h1
        clear h1
        obtain ⟨A1, c1, rfl, _, hm1, t1, _⟩ := hO1.at_
        have T1 := Lib.hid t1
        clear hO1 t1
        rw [← HN.out]
        go_wp2_with fail
        refine (HSA.out A1 c1 w2 ((hE.trans hE1).trans hE2) T1.out).mono ?_
        rintro e w3 ⟨rfl, hE3⟩
        have hI := ((hE.trans hE1).trans hE2).trans hE3
        go_wp2_with fail
        refine (awake46 _ (hN.ext hI) (hM.ext hI)).mono ?_
        rintro e w8 ⟨rfl, hE8⟩
        go_wp2_with fail
        go_ret
        exact Ret.mk rfl (hI.trans hE8)
set_option maxRecDepth 100000 in
theorem argsBack_walk {H : Type} {enc : TypeId × Value → H} (W : World) (base : Nat) (v0 : Value) (d0 : DataW H) (p0 : List MemPlace)
    (hs : W.ShapedOpen Tryd.prog) (hl : laidMetH Tryd.prog Rows.argsBackRow.laid W)
    (k0 : Value.okWide Tryd.prog W .any base 24 v0) (h0 : DataW.Trod enc Tryd.prog W 0 (fun _ => true) true 24 v0 d0 p0)
    : Calls Tryd.prog 13 #[v0] W (Ret W (.bool true)) := by
  obtain ⟨A, L, cap, rfl, hat, _, hlc, hcm⟩ := open_txts k0 h0
  unfold maxLen at hcm
  exact argsBack_any A cap L W hat (by omega) (names_of hl) (HasMax.of hs)
end Go.Proofs.YtmppjbimdonfmaaDoor
