/- The law SeekHome, walked. -/
import Derived.Test.YtjblimclakfhfaaBunO
import Derived.Test.YtjblimclakfhfaaBunP
namespace Go.Proofs.Ytjblimclakfhfaa
open Go.ChangeShapes Go.WideShapes Go.ChangeAt Go.RowKit
attribute [local irreducible] wpQuiet

set_option maxRecDepth 100000 in
set_option maxHeartbeats 4000000 in
theorem hidden_any {c : Nat} (B : Nat) (f : GhF) (S : TreeD) (X : Xtra) (no : Int) (w : World) (h : FAt w B f S X) (T : Tre c S) (hl : S.last ≤ 100000) :
    Calls Try.prog 15 #[.pointer (some ⟨f.bF, 0, none⟩), .int .i64 no] w (Ret w (.bool (hiddenB S (S.last + 1).toNat no))) := by
  obtain ⟨R, hR⟩ : ∃ R, R = hiddenB S (S.last + 1).toNat no := ⟨_, rfl⟩
  rw [← hR]
  have HR := Lib.hid hR
  obtain ⟨L, hL⟩ : ∃ L : Int, L = S.last := ⟨_, rfl⟩
  have HC2 : Hid (∀ u, Ext w u → u.cell? ⟨f.bF, 2, none⟩ = some (.int .i64 L)) := fun u hu => by rw [hL]; obtain ⟨_, cn, ce, h2, _, _⟩ := h.ext hu; exact h2.cell 2
  have HZF : Hid (∀ u, Ext w u → f.bF < u.heap.size) := fun u hu => by obtain ⟨_, cn, ce, h2, _, _⟩ := h.ext hu; exact h2.lt
  have hL1 := T.last
  have hnl : S.nodes.length ≤ 1000000 := by have := T.count; omega
  have hL2 : 1 ≤ L ∧ L ≤ 100000 := by omega
  rw [← hL] at HR
  clear hR hL
  go_enter Try.func15, Try.ntmps15
  go_wp2_with fail
  go_loopw [1, 5] (fun v1 v5 wr => ∃ (k : Nat) (n : Int), v1 = .int .i64 n ∧ v5 = .int .i64 (k : Int) ∧ (k : Int) ≤ L + 1 ∧ Hid (R = hiddenB S ((L + 1).toNat - k) n) ∧ Ext w wr) (fun _ v5 _ => (L + 1 - intOf v5).toNat)
  case atStart => exact ⟨0, no, rfl, rfl, by omega, by show _ = _; rw [HR.out]; rfl, Ext.refl _⟩
  case round =>
    obtain ⟨k, n, rfl, rfl, hk, HRR, hE⟩ := hrel
    have c2 := HC2.out _ hE
    have cz := HZF.out _ hE
    have w2w : IntKind.i64.wrap ((k : Int) + 1) = ((k + 1 : Nat) : Int) := by rw [IntWalk.i64_in _ (by omega)]; omega
    by_cases hlt : (k : Int) ≤ L
    case neg =>
      have e1 : Hid (R = false) := by show _ = _; rw [HRR.out, show (L + 1).toNat - k = 0 by omega]; rfl
      clear HRR
      go_wp2_with fail
      go_ret
      exact Ret.mk (by rw [e1.out]; rfl) hE
    obtain ⟨a, ha⟩ : ∃ a, a = aboveF S n := ⟨_, rfl⟩
    have HR2 : Hid (R = if overF S.devs a = a then hiddenB S ((L + 1).toNat - (k + 1)) a else true) := by
      show _ = _
      rw [HRR.out, show (L + 1).toNat - k = ((L + 1).toNat - (k + 1)) + 1 by omega, ha]
      rfl
    have HA := Lib.hid ha
    clear HRR ha
    go_wp2_with fail
    refine (rabove_any B f S X n _ (h.ext hE) hnl T.eight T.roots T.nos).mono ?_
    rw [← HA.out]
    rintro e w1 ⟨rfl, b1⟩
    go_wp2_with fail
    refine (rover_any B f S X a _ (h.ext (hE.trans b1)) (by have := T.eight; omega)).mono ?_
    rintro e w2 ⟨rfl, b2⟩
    by_cases ho : overF S.devs a = a
    · have t0 : (overF S.devs a != a) = false := by simpa using ho
      have t0b : (overF S.devs a == a) = true := by simpa using ho
      have e1 : Hid (R = hiddenB S ((L + 1).toNat - (k + 1)) a) := by show _ = _; rw [HR2.out, if_pos ho]
      clear ho HR2
      go_wp2_with fail
      go_roundw
      case rel => exact ⟨k + 1, a, rfl, rfl, by omega, e1, (hE.trans b1).trans b2⟩
      case measure => simp [intOf]; omega
    · have t0 : (overF S.devs a != a) = true := by simpa using ho
      have t0b : (overF S.devs a == a) = false := by simpa using ho
      have e1 : Hid (R = true) := by show _ = _; rw [HR2.out, if_neg ho]
      clear ho HR2
      go_wp2_with fail
      go_ret
      exact Ret.mk (by rw [e1.out]; rfl) ((hE.trans b1).trans b2)
set_option maxRecDepth 100000 in
set_option maxHeartbeats 16000000 in
theorem seekHome_any (A : Option Addr) (l : List ItemD) (cap : Nat) (w : World) (hA : ItemsAt w A l) (hlen : l.length ≤ 9223372036854775807) :
    Calls Try.prog 5 #[.slice A l.length cap] w (Ret w (.bool true)) := by
  have E1 : Ext w w := Ext.refl _
  obtain ⟨m, hm⟩ : ∃ m, m = l.length := ⟨_, rfl⟩
  have hlen' := hlen
  rw [← hm] at hlen' ⊢
  have HM := Lib.hid hm
  have KF : Hid (Calls Try.prog 7 #[.slice A m cap] w (FewR w l)) := by show Calls _ _ _ _ _; rw [HM.out]; exact few14_any A l cap w (hA.ext E1) hlen
  clear hm
  go_enter Try.func5, Try.ntmps5
  go_wp2_with fail
  refine KF.out.mono ?_
  rintro e w2 ⟨rfl, ⟨hf, rfl⟩ | ⟨hf, rfl⟩⟩
  case inr =>
    clear hf
    go_wp2_with fail
    refine (awake15 _).mono ?_
    rintro e wz ⟨rfl, bz⟩
    go_wp2_with fail
    go_ret
    exact Ret.mk rfl (E1.trans bz)
  have HF := Lib.hid hf
  have HX1 := Lib.hid E1
  have hG0 := tre_growAll (b := 60000) (n := 60000) (by decide) HF.out
  have hga := good_all (good_first (b := 60000) (n := 60000) (by decide)) l
  have hl40 := HF.out.2
  have KG : Hid (Calls Try.prog 9 #[.int .i64 60000, .int .i64 60000, .slice A m cap] w (GrowAllR w 60000 60000 l)) := by show Calls _ _ _ _ _; rw [HM.out]; exact growAll_any 60000 60000 A l cap w (by decide) HF.out (hA.ext E1)
  clear hf KF E1
  go_wp2_with fail
  refine KG.out.mono ?_
  rintro e w3 ⟨g, f, rfl, ⟨K3, F3⟩, E3⟩
  obtain ⟨B, hB⟩ : ∃ B, B = w.heap.size := ⟨_, rfl⟩
  rw [← hB] at K3 F3
  obtain ⟨S, hS⟩ : ∃ S, S = growAll (firstT 60000 60000) l := ⟨_, rfl⟩
  rw [← hS] at K3 F3
  have hSl : S.last ≤ 41 := by
    have h2 := hga.2
    rw [hS]
    rw [show growAll (rootT emptyT 0 60000 60000) l = growAll (firstT 60000 60000) l from rfl, show (rootT emptyT 0 60000 60000).last = 1 from rfl] at h2
    omega
  have hT0 : Tre 40 S := by rw [hS]; exact hG0
  have HGN : Hid (GoodNames S) := by show GoodNames S; rw [hS]; exact goodnames_first 60000 60000 l
  have HOV : Hid (OneOver S) := by show OneOver S; rw [hS]; exact oneover_all (S := firstT 60000 60000) (tre_first (by decide)) (by show (List.map _ _).Nodup; decide) l HF.out.1
  obtain ⟨r, hr⟩ := hT0.rank
  have HFT := Lib.hid (hT0.fit (by decide) (by omega))
  have HRK := Lib.hid hr
  have HT0 := Lib.hid hT0
  have HK3 := Lib.hid K3
  have HF3 := Lib.hid F3
  have HX3 := Lib.hid (HX1.out.trans E3)
  have KK : Hid (∀ u, Ext w3 u → WAt u B g S) := fun u h => HK3.out.ext h
  have KFF : Hid (∀ u, Ext w3 u → FAt u B f S x0) := fun u h => HF3.out.ext h
  have hLL : Hid (S.last ≤ 100000) := by show _ ≤ _; omega
  clear hS hga hG0 hl40 KG hB K3 F3 E3 hr
  have hN1 : Hid (S.nodes.length ≤ 1000) := by show _ ≤ _; have := HT0.out.count; omega
  obtain ⟨L, hL⟩ : ∃ L : Int, L = S.last := ⟨_, rfl⟩
  have HC2 : Hid (∀ u, Ext w3 u → u.cell? ⟨f.bF, 2, none⟩ = some (.int .i64 L)) := fun u h => by rw [hL]; obtain ⟨_, cn, ce, h2, _, _⟩ := HF3.out.ext h; exact h2.cell 2
  have HZF : Hid (∀ u, Ext w3 u → f.bF < u.heap.size) := fun u h => by obtain ⟨_, cn, ce, h2, _, _⟩ := HF3.out.ext h; exact h2.lt
  have hL1 : 0 ≤ L ∧ L ≤ 41 := by have := hT0.last; omega
  clear hL hT0 hSl
  go_wp2_with fail
  go_loopw [6] (fun i wr => ∃ k : Int, i = .int .i64 k ∧ 1 ≤ k ∧ k ≤ L + 1 ∧ Ext w3 wr) (fun i _ => (L + 1 - intOf i).toNat)
  case atStart => exact ⟨1, rfl, by omega, by omega, Ext.refl _⟩
  case round =>
    obtain ⟨k, rfl, hk1, hk2, hE⟩ := hrel
    have c2 := HC2.out _ hE
    have cz := HZF.out _ hE
    have w2w : IntKind.i64.wrap (k + 1) = k + 1 := IntWalk.i64_in _ (by omega)
    by_cases hlt : k ≤ L
    case neg =>
      go_wp2_with fail
      refine (awake15 _).mono ?_
      rintro e wz ⟨rfl, bz⟩
      go_wp2_with fail
      go_ret
      exact Ret.mk rfl (HX3.out.trans (hE.trans bz))
    go_wp2_with fail
    refine (pwhere_any B g S r k _ (KK.out _ hE) hN1.out HT0.out.devs HT0.out.eight HT0.out.roots HT0.out.nos HFT.out.names HFT.out.ents HRK.out HFT.out.top HFT.out.one).mono ?_
    rintro e w4 hwh
    cases hws : whereF S k with
    | none =>
      rw [hws] at hwh
      obtain ⟨rfl, b4⟩ := hwh
      have HE4 := Lib.hid (hE.trans b4)
      clear hws
      go_wp2_with fail
      go_roundw
      case rel => exact ⟨k + 1, rfl, by omega, by omega, HE4.out⟩
      case measure => simp [intOf]; omega
    | some s =>
      rw [hws] at hwh
      obtain ⟨rfl, b4⟩ := hwh
      have HE4 := Lib.hid (hE.trans b4)
      have HWS := Lib.hid hws
      have hsz : (bs s).size = s.length := bs_size s
      obtain ⟨q, hq⟩ : ∃ q, q = bs s := ⟨_, rfl⟩
      rw [← hq] at hsz ⊢
      have HQ := Lib.hid hq
      clear hws hq hE b4 c2 cz
      by_cases h4 : 4000 < (q.size : Int)
      case pos =>
        go_wp2_with fail
        go_roundw
        case rel => exact ⟨k + 1, rfl, by omega, by omega, HE4.out⟩
        case measure => simp [intOf]; omega
      go_wp2_with fail
      refine (hidden_any B f S x0 k _ (KFF.out _ HE4.out) HT0.out hLL.out).mono ?_
      rintro e w5 ⟨rfl, b5⟩
      obtain ⟨hb, hhb⟩ : ∃ hb, hb = hiddenB S (S.last + 1).toNat k := ⟨_, rfl⟩
      rw [← hhb]
      have HE5 := Lib.hid (HE4.out.trans b5)
      have HHB := Lib.hid hhb
      clear hhb b5
      cases hb with
      | true =>
        go_wp2_with fail
        go_roundw
        case rel => exact ⟨k + 1, rfl, by omega, by omega, HE5.out⟩
        case measure => simp [intOf]; omega
      | false =>
        obtain ⟨g1, g2, g3, g4⟩ := home HT0.out HOV.out HGN.out HWS.out (by omega) HHB.out.symm
        obtain ⟨R, hR⟩ : ∃ R, R = pathF S 0 0 s true := ⟨_, rfl⟩
        obtain ⟨Q, hQ⟩ : ∃ Q, Q = pathF S 0 0 (s ++ [47, 46]) false := ⟨_, rfl⟩
        rw [← hR] at g1 g2
        rw [← hQ] at g3 g4
        have hsl : s.length ≤ 1000000 := by omega
        have K1 : Hid (∀ u : World, Ext w3 u → Calls Try.prog 10 #[.pointer (some ⟨g.bW, 0, none⟩), .agg #[.int .i64 0, .int .i64 0], .string q, .bool true] u (Ret u (.tuple #[.agg (fndC R.1).toArray, .int .i64 R.2]))) := by
          show ∀ u, _
          intro u hu
          rw [HQ.out, hR]
          exact ppath15_any B g S 0 0 s true u (KK.out u hu) HT0.out (by decide) hsl
        have K2 : Hid (∀ u : World, Ext w3 u → Calls Try.prog 10 #[.pointer (some ⟨g.bW, 0, none⟩), .agg #[.int .i64 0, .int .i64 0], .string (q ++ ⟨#[47, 46]⟩), .bool false] u (Ret u (.tuple #[.agg (fndC Q.1).toArray, .int .i64 Q.2]))) := by
          show ∀ u, _
          intro u hu
          rw [HQ.out, hQ, show (⟨#[47, 46]⟩ : ByteArray) = bs [47, 46] from rfl, bs_append]
          exact ppath15_any B g S 0 0 (s ++ [47, 46]) false u (KK.out u hu) HT0.out (by decide) (by simp; omega)
        have HG1 := Lib.hid g1
        have HG2 := Lib.hid g2
        have HG3 := Lib.hid g3
        have HG4 := Lib.hid g4
        clear hR hQ g1 g2 g3 g4 hsl
        go_wp2_with fail
        refine (K1.out _ HE5.out).mono ?_
        rintro e w6 ⟨rfl, b6⟩
        rw [HG1.out]
        obtain ⟨z, hz⟩ : ∃ z, z = overF S.devs k := ⟨_, rfl⟩
        obtain ⟨W7, hW7⟩ : ∃ W, W = w6.alloc (.cells #[.int .i64 R.1.dir, .string (bs R.1.name), .int .i64 R.1.no, .bool R.1.slash] 33) := ⟨_, rfl⟩
        obtain ⟨b9, hb9⟩ : ∃ b, b = w6.heap.size := ⟨_, rfl⟩
        have N7 : Has W7 b9 (.cells (fndC R.1).toArray 33) := by rw [hW7, hb9]; exact Has.new _ _
        have E67 : Ext w6 W7 := by rw [hW7]; exact (Ext.refl _).alloc _
        have HE7 := Lib.hid ((HE5.out.trans b6).trans E67)
        go_upto_region 12 with fail
        rw [← hW7, ← hb9]
        clear hW7 hb9 E67 b6
        go_wp2_with fail
        refine (K2.out _ HE7.out).mono ?_
        rintro e w8 ⟨rfl, b8⟩
        rw [HG3.out]
        obtain ⟨W9, hW9⟩ : ∃ W, W = w8.alloc (.cells #[.int .i64 Q.1.dir, .string (bs Q.1.name), .int .i64 Q.1.no, .bool Q.1.slash] 33) := ⟨_, rfl⟩
        obtain ⟨b11, hb11⟩ : ∃ b, b = w8.heap.size := ⟨_, rfl⟩
        have M9 : Has W9 b11 (.cells (fndC Q.1).toArray 33) := by rw [hW9, hb11]; exact Has.new _ _
        have E89 : Ext w8 W9 := by rw [hW9]; exact (Ext.refl _).alloc _
        have N9 := (N7.ext b8).ext E89
        have HE9 := Lib.hid ((HE7.out.trans b8).trans E89)
        go_upto_region 13 with fail
        rw [← hW9, ← hb11]
        clear hW9 hb11 E89 b8 N7 K1 K2
        have y1 : W9.cell? ⟨b9, 2, none⟩ = some (.int .i64 z) := by rw [hz, ← HG2.out]; exact N9.cell 2
        have y2 : W9.cell? ⟨b11, 2, none⟩ = some (.int .i64 z) := by rw [hz, ← HG4.out]; exact M9.cell 2
        have KO : Hid (∀ u : Gr W9, Calls Try.prog 16 #[.pointer (some ⟨g.bW, 0, none⟩), .int .i64 k] u.w (Ret u.w (.int .i64 z))) := by
          show ∀ u : Gr W9, _
          intro u
          rw [hz]
          exact pover_any B g S k _ (KK.out _ (HE9.out.trans u.h)) HT0.out.devs (by have := HT0.out.eight; omega)
        have y1 := Gr.cell N9.lt y1
        have y2 := Gr.cell M9.lt y2
        clear hz
        refine wp_region_grow W9 (by kernel_rfl) (by kernel_rfl) (Ext.refl _).drew ?_
        repeat (quiet_step (((with_reducible refine (KO.out _).mono ?_); rintro e w'' ⟨rfl, hEx⟩; exact ⟨rfl, ⟨w'', Ext.trans (Gr.h _) hEx⟩, rfl⟩)))
        refine wpQuiet_nil ?_
        rintro w10 ⟨⟨w10', b10'⟩, h10⟩
        dsimp only at h10
        subst h10
        clear y1 y2 KO
        go_wp2_with fail
        go_roundw
        case rel => exact ⟨k + 1, rfl, by omega, by omega, HE9.out.trans b10'⟩
        case measure => simp [intOf]; omega
set_option maxRecDepth 100000 in
theorem seekHome_walk {H : Type} {enc : TypeId × Value → H} (W : World) (base : Nat) (v0 : Value) (d0 : DataW H) (p0 : List MemPlace)
    (k0 : Value.okWide Try.prog W .any base 22 v0) (h0 : DataW.Trod enc Try.prog W 0 (fun _ => true) true 22 v0 d0 p0)
    : Calls Try.prog 5 #[v0] W (Ret W (.bool true)) := by
  obtain ⟨A, l, cap, rfl, hA, _, hl, hc⟩ := open_Items k0 h0
  exact seekHome_any A l cap W hA (by unfold maxLen at hc; omega)
end Go.Proofs.Ytjblimclakfhfaa
