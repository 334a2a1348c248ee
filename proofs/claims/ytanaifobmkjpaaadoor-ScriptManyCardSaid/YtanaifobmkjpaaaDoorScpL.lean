/- Layer 48 (script): the walk of ScriptMany. -/
import Derived.Test.YtanaifobmkjpaaaDoorScpK
import Derived.Lib.AppendZerosOnto
namespace Go.Proofs.YtanaifobmkjpaaaDoor
open Go.ChangeShapes Go.WideShapes Go.ChangeAt Go.RowKit

set_option maxRecDepth 100000 in
set_option maxHeartbeats 16000000 in
theorem scriptMany_any (n : Int) (h0 : 0 ≤ n) (h1 : n ≤ 65535) (w : World) (hM : HasMax w) : Calls Tryd.prog 5 #[.int .u16 n] w (Ret w (.bool true)) := by
  obtain ⟨K, hK⟩ : ∃ K : Nat, (K : Int) = 900 + n % 200 := ⟨(900 + n % 200).toNat, by omega⟩
  have hKb : K ≤ 1099 := by omega
  have HK := Lib.hid hK
  have hn1 : 0 ≤ n % 200 := by omega
  have hn2 : n % 200 ≤ 199 := by omega
  clear hK
  go_enter Tryd.func5, Tryd.ntmps5
  go_wp2_with fail
  rw [← HK.out]
  clear hn1 hn2 h0 h1
  go_loopw [4, 5, 6] (fun v t i wr => ∃ j : Nat, j ≤ K ∧ i = .int .i64 j ∧ OwnS wr w.heap.size v (mends j) ∧ t = .string (bs (catS (mends j))) ∧ Ext w wr) (fun _ _ i _ => K - (intOf i).toNat)
  case atStart => exact ⟨0, Nat.zero_le _, rfl, OwnS.nil _ _, rfl, Ext.refl _⟩
  case round =>
    obtain ⟨j, hj, rfl, hO, rfl, hE⟩ := hrel
    by_cases hlt : (j : Int) < K
    · obtain ⟨v9, w9, hr9, hO9, hg9⟩ := app_step mendS none 0 wr hO (TxtB.nil _ _) (fun _ => rfl) (Nat.le_refl _) hE.size (by rw [mends_len]; omega)
      have HR := Lib.hid hr9
      have E9 : Ext w w9 := (hE.alloc _).grown hg9 (fun g hv => by
        obtain ⟨_, _, ho, _⟩ := hO
        exact (World.ownsRow.lt ho g hv).1)
      have hO10 : OwnS w9 w.heap.size v9 (mends (j + 1)) := by rw [mends_succ]; exact hO9
      have HS := Lib.hid (catS_mends_succ j)
      obtain ⟨T, hT⟩ : ∃ T, T = catS (mends j) := ⟨_, rfl⟩
      have zl := catS_mends_len j
      rw [← hT] at HS zl ⊢
      have zT : (bs T).size = T.length := bs_size T
      have hadd : bs T ++ (⟨#[109, 101, 110, 100, 10]⟩ : ByteArray) = bs (T ++ [109, 101, 110, 100, 10]) := bs_append T [109, 101, 110, 100, 10]
      have hb1 : ¬ 9223372036854775807 < T.length + 5 := by omega
      clear hT hr9 hg9 hO hO9 zl
      go_wp2_with (at_builtin; refine Lib.wpList_append_run _ rfl _ _ 22 22 rfl _ _ rfl rfl _ _ HR.out ?_)
      go_roundw
      case rel => exact ⟨j + 1, by omega, by go_num, hO10, by rw [HS.out], E9⟩
      case measure => simp [intOf]; omega
    · obtain rfl : K = j := by omega
      obtain ⟨A, c, rfl, _, _, hat, _⟩ := hO.at_
      have hp := writeS_any A c (mends K) wr hat (by rw [mends_len]; omega) (mends_fit K) (hM.ext hE)
      rw [mends_len] at hp ⊢
      obtain ⟨T, hT⟩ : ∃ T, T = catS (mends K) := ⟨_, rfl⟩
      have zl := catS_mends_len K
      by_cases hbig : 1000 < K
      · rw [writeS_big (by rw [mends_len]; exact hbig)] at hp
        have HP := Lib.hid hp
        have HQ := Lib.hid (parse_mends_big hbig)
        rw [← hT] at HQ zl ⊢
        have hki : (1000 : Int) < (K : Int) := by omega
        have HTT := Lib.hid hT
        clear hO hp hT hbig hat
        go_wp2_with fail
        refine (HP.out).mono ?_
        rintro e w1 ⟨rfl, b1⟩
        go_wp2_with fail
        refine (pparseS_any T w1 ((hM.ext hE).ext b1) (by omega)).mono ?_
        rw [HQ.out]
        rintro e w2 ⟨rfl, b2⟩
        have E2 := (hE.trans b1).trans b2
        go_wp2_with fail
        refine (awake48 _ (hM.ext E2)).mono ?_
        rintro e w3 ⟨rfl, b3⟩
        go_wp2_with fail
        go_ret
        exact Ret.mk rfl (E2.trans b3)
      · rw [writeS_fit (by rw [mends_len]; omega), linesV_yes (mends_all K), ← hT] at hp
        have HP := Lib.hid hp
        have HQ := Lib.hid (parse_mends (k := K) (by omega))
        rw [← hT] at HQ zl ⊢
        have hki : ¬ (1000 : Int) < (K : Int) := by omega
        have HTT := Lib.hid hT
        clear hO hp hT hbig hat
        go_wp2_with fail
        refine (HP.out).mono ?_
        rintro e w1 ⟨rfl, b1⟩
        go_wp2_with fail
        refine (pparseS_any T w1 ((hM.ext hE).ext b1) (by omega)).mono ?_
        rw [HQ.out]
        rintro e w2 ⟨v2, rfl, hO2, b2⟩
        obtain ⟨A2, c2, rfl, _, _, _, _⟩ := hO2.at_
        rw [mends_len]
        have E2 := (hE.trans b1).trans b2
        clear hO2
        go_wp2_with fail
        refine (awake48 _ (hM.ext E2)).mono ?_
        rintro e w3 ⟨rfl, b3⟩
        go_wp2_with fail
        go_ret
        exact Ret.mk rfl (E2.trans b3)
set_option maxRecDepth 100000 in
theorem scriptMany_walk {H : Type} {enc : TypeId × Value → H} (W : World) (base : Nat) (v0 : Value) (d0 : DataW H) (p0 : List MemPlace)
    (hs : W.ShapedOpen Tryd.prog) (hl : laidMetH Tryd.prog Rows.scriptManyRow.laid W)
    (k0 : Value.okWide Tryd.prog W .any base 45 v0) (h0 : DataW.Trod enc Tryd.prog W 0 (fun _ => true) true 45 v0 d0 p0)
    : Calls Tryd.prog 5 #[v0] W (Ret W (.bool true)) := by
  obtain ⟨a0, rfl, rfl, rfl, w0⟩ := open_int Tryd.underlying45 k0 h0
  simp only [Lit.wf, Bool.and_eq_true, decide_eq_true_eq] at w0
  exact scriptMany_any a0 w0.1 w0.2 W (HasMax.of hs)
end Go.Proofs.YtanaifobmkjpaaaDoor
