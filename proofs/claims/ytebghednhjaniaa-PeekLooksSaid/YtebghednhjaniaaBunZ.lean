/- The law PeekLooks, walked. (Printed by gen_pekh.py.) -/
import Derived.Test.YtebghednhjaniaaBunX
namespace Go.Proofs.Ytebghednhjaniaa
open Go.ChangeShapes Go.WideShapes Go.ChangeAt Go.RowKit

attribute [local irreducible] wpQuiet
theorem findF_mem16 {l : List EntD} {nm : List UInt8} (hr : Rise l) {x : EntD} (hx : x ∈ l) (he : x.1 = nm) : findF l nm = x.2 := by
  unfold findF
  cases hf : l.find? (fun x => x.1 == nm) with
  | none => have := List.find?_eq_none.1 hf x hx; simp at this; exact absurd he this
  | some y =>
    have h2 := List.find?_some (p := fun x : EntD => x.1 == nm) hf
    have h2' : y.1 = nm := by simpa using h2
    have hy := List.mem_of_find?_eq_some hf
    have : y = x := by
      obtain ⟨i, hi, rfl⟩ := List.getElem_of_mem hy
      obtain ⟨j, hj, rfl⟩ := List.getElem_of_mem hx
      rcases Nat.lt_trichotomy i j with g | g | g
      · have := bl_ne (List.pairwise_iff_getElem.1 hr i j hi hj g)
        rw [h2', he] at this; exact absurd rfl this
      · subst g; rfl
      · have := bl_ne (List.pairwise_iff_getElem.1 hr j i hj hi g)
        rw [h2', he] at this; exact absurd rfl this
    subst this; rfl
/-- What a directory lists, it finds, or may not look for. -/
theorem look_ok {c : Nat} {S : TreeD} (T : Tre c S) {cu cg k : Int} {x : EntD} (hx : x ∈ (openN S cu cg k 1 4).ents) : lookE S cu cg k x.1 = 6 ∨ (lookE S cu cg k x.1 = 0 ∧ lookN S cu cg k x.1 = overF S.devs x.2) := by
  have h0 : openE S cu cg k 1 4 = 0 := by
    by_cases h : openE S cu cg k 1 4 = 0
    · exact h
    · unfold openN at hx
      rw [if_neg h] at hx
      cases hx
  have hN : openN S cu cg k 1 4 = getN S.nodes k := by unfold openN; rw [if_pos h0]
  rw [hN] at hx
  have hi : isN S.nodes k = true := by
    cases h : isN S.nodes k
    · rw [(isN_false h).1] at hx; cases hx
    · rfl
  have hmem := (isN_true hi).2.2
  have hkd : (getN S.nodes k).kind = 1 := by
    unfold openE at h0
    rw [hi] at h0
    simp at h0
    split at h0
    · assumption
    · omega
  have hf : findF (getN S.nodes k).ents x.1 = x.2 := findF_mem16 (T.rise _ hmem) hx rfl
  have hp := (T.pos _ hmem x hx).1
  have h1 : openE S cu cg k 1 1 = 6 ∨ openE S cu cg k 1 1 = 0 := by
    unfold openE
    rw [if_neg (by rw [hi]; decide), if_pos hkd]
    split
    · exact .inl rfl
    · exact .inr rfl
  rcases h1 with h1 | h1
  · left
    unfold lookE
    rw [h1]; rfl
  · right
    have hN1 : openN S cu cg k 1 1 = getN S.nodes k := by unfold openN; rw [if_pos h1]
    have hl : lookE S cu cg k x.1 = 0 := by
      unfold lookE
      rw [if_pos h1, hN1, hf, if_neg (by omega)]
    refine ⟨hl, ?_⟩
    unfold lookN
    rw [if_pos hl, hN1, hf]
theorem list_rise {c : Nat} {S : TreeD} (T : Tre c S) (cu cg k : Int) {D : List EntD} (hD : D = listF S (openN S cu cg k 1 4).ents) {i : Nat} (hi : i + 1 < D.length) : bl D[i].1 D[i + 1].1 = true := by
  have hr : Rise D := by
    rw [hD]
    unfold listF Rise
    rw [List.pairwise_map]
    exact (T.openN cu cg k 1 4).1
  exact List.pairwise_iff_getElem.1 hr i (i + 1) (by omega) hi (by omega)
theorem list_look {c : Nat} {S : TreeD} (T : Tre c S) (cu cg k : Int) {D : List EntD} (hD : D = listF S (openN S cu cg k 1 4).ents) {i : Nat} (hi : i < D.length) : lookE S cu cg k D[i].1 = 6 ∨ (lookE S cu cg k D[i].1 = 0 ∧ lookN S cu cg k D[i].1 = D[i].2) := by
  subst hD
  have hl : i < (openN S cu cg k 1 4).ents.length := by rw [← listF_len S]; exact hi
  have e : (listF S (openN S cu cg k 1 4).ents)[i] = ((openN S cu cg k 1 4).ents[i].1, overF S.devs (openN S cu cg k 1 4).ents[i].2) := List.getElem_map _
  rw [e]
  exact look_ok T (List.getElem_mem hl)
theorem list_none {S : TreeD} {cu cg k : Int} {D : List EntD} (hD : D = listF S (openN S cu cg k 1 4).ents) (h : openE S cu cg k 1 4 ≠ 0) : D.length = 0 := by
  rw [hD, listF_len]
  unfold openN
  rw [if_neg h]; rfl
set_option maxRecDepth 100000 in
set_option maxHeartbeats 16000000 in
theorem peekLooks_any (A : Option Addr) (l : List ItemD) (cap : Nat) (cu cg : Int) (w : World) (hA : ItemsAt w A l) (hlen : l.length ≤ 9223372036854775807) :
    Calls Try.prog 5 #[.slice A l.length cap, .agg #[.int .i64 cu, .int .i64 cg]] w (Ret w (.bool true)) := by
  obtain ⟨W1, hW1⟩ : ∃ W, W = w.alloc (.cells #[.int .i64 cu, .int .i64 cg] 62) := ⟨_, rfl⟩
  have E1 : Ext w W1 := by rw [hW1]; exact (Ext.refl _).alloc _
  have B1 : Has W1 w.heap.size (.cells #[.int .i64 cu, .int .i64 cg] 62) := by rw [hW1]; exact Has.new _ _
  obtain ⟨m, hm⟩ : ∃ m, m = l.length := ⟨_, rfl⟩
  have hlen' := hlen
  rw [← hm] at hlen' ⊢
  have HM := Lib.hid hm
  have KF : Hid (Calls Try.prog 29 #[.slice A m cap] W1 (FewR W1 l)) := by show Calls _ _ _ _ _; rw [HM.out]; exact few14_any A l cap W1 (hA.ext E1) hlen
  clear hm
  go_enter Try.func5, Try.ntmps5
  go_upto_region 1 with fail
  rw [← hW1]
  clear hW1
  go_wp2_with fail
  refine KF.out.mono ?_
  rintro e w2 ⟨rfl, ⟨hf, rfl⟩ | ⟨hf, rfl⟩⟩
  case inr =>
    clear hf
    go_wp2_with fail
    refine (awake16 _).mono ?_
    rintro e wz ⟨rfl, bz⟩
    go_wp2_with fail
    go_ret
    exact Ret.mk rfl (E1.trans bz)
  have HF := Lib.hid hf
  have HX1 := Lib.hid E1
  have HB1 := Lib.hid B1
  have hG0 := tre_growAll (b := 60000) (n := 60000) (by decide) HF.out
  have hga := good_all (good_first (b := 60000) (n := 60000) (by decide)) l
  have hl40 := HF.out.2
  have KG : Hid (Calls Try.prog 19 #[.int .i64 60000, .int .i64 60000, .slice A m cap] W1 (GrowAllR W1 60000 60000 l)) := by show Calls _ _ _ _ _; rw [HM.out]; exact growAll_any 60000 60000 A l cap W1 (by decide) HF.out (hA.ext E1)
  clear hf KF B1 E1
  go_wp2_with fail
  refine KG.out.mono ?_
  rintro e w3 ⟨g, f, rfl, ⟨K3, F3⟩, E3⟩
  obtain ⟨B, hB⟩ : ∃ B, B = W1.heap.size := ⟨_, rfl⟩
  rw [← hB] at K3 F3
  obtain ⟨S, hS⟩ : ∃ S, S = growAll (firstT 60000 60000) l := ⟨_, rfl⟩
  rw [← hS] at K3 F3
  have hSl : S.last ≤ 41 := by
    have h2 := hga.2
    rw [hS]
    rw [show growAll (rootT emptyT 0 60000 60000) l = growAll (firstT 60000 60000) l from rfl, show (rootT emptyT 0 60000 60000).last = 1 from rfl] at h2
    omega
  have hT0 : Tre 40 S := by rw [hS]; exact hG0
  have hS1 := hT0.last
  have HE3 := Lib.hid E3
  have HT0 := Lib.hid hT0
  have HK3 := Lib.hid K3
  have HF3 := Lib.hid F3
  have HX3 := Lib.hid (HX1.out.trans E3)
  have HB3 := Lib.hid (HB1.out.ext E3)
  have KK : Hid (∀ u, Ext w3 u → WAt u B g S) := fun u h => HK3.out.ext h
  have KFF : Hid (∀ u, Ext w3 u → FAt u B f S x0) := fun u h => HF3.out.ext h
  have hLL : Hid (S.last ≤ 100000) := by show _ ≤ _; omega
  have hNN : Hid (S.nodes.length ≤ 1000000) := by show _ ≤ _; have := hT0.count; omega
  obtain ⟨L, hL⟩ : ∃ L : Int, L = S.last := ⟨_, rfl⟩
  have HC2 : Hid (∀ u, Ext w3 u → u.cell? ⟨f.bF, 2, none⟩ = some (.int .i64 L)) := fun u h => by rw [hL]; obtain ⟨_, cn, ce, h2, _, _⟩ := HF3.out.ext h; exact h2.cell 2
  have HZF : Hid (∀ u, Ext w3 u → f.bF < u.heap.size) := fun u h => by obtain ⟨_, cn, ce, h2, _, _⟩ := HF3.out.ext h; exact h2.lt
  have hL1 : 0 ≤ L ∧ L ≤ 41 := by omega
  clear hS hga hG0 hl40 KG hB hT0 K3 F3 E3 hSl hS1 hL
  go_wp2_with fail
  go_loopw [8] (fun i wr => ∃ k : Int, i = .int .i64 k ∧ 1 ≤ k ∧ k ≤ L + 1 ∧ Ext w3 wr) (fun i _ => (L + 1 - intOf i).toNat)
  case atStart => exact ⟨1, rfl, by omega, by omega, Ext.refl _⟩
  case round =>
    obtain ⟨k, rfl, hk1, hk2, hE⟩ := hrel
    have c2 := HC2.out _ hE
    have cz := HZF.out _ hE
    have w2w : IntKind.i64.wrap (k + 1) = k + 1 := IntWalk.i64_in _ (by omega)
    by_cases hlt : k ≤ L
    case neg =>
      go_wp2_with fail
      refine (awake16 _).mono ?_
      rintro e wz ⟨rfl, bz⟩
      go_wp2_with fail
      go_ret
      exact Ret.mk rfl (HX3.out.trans (hE.trans bz))
    have HE := Lib.hid hE
    have BX := HB3.out.ext hE
    have c0 := BX.cell 0
    have c1 := BX.cell 1
    have cbz := BX.lt
    obtain ⟨le, hle⟩ : ∃ y, y = openE S cu cg k 1 4 := ⟨_, rfl⟩
    obtain ⟨D, hD⟩ : ∃ D, D = listF S (openN S cu cg k 1 4).ents := ⟨_, rfl⟩
    have hDl : D.length ≤ 1000 := by rw [hD, listF_len]; have := (HT0.out.openN cu cg k 1 4).2; omega
    have hD0 : le ≠ 0 → D.length = 0 := fun h => list_none hD (by rw [← hle]; exact h)
    have C3 : Hid (Calls Try.prog 35 #[.pointer (some ⟨g.bW, 0, none⟩), .agg #[.int .i64 cu, .int .i64 cg], .int .i64 k] wr (ListQ wr D le)) := by
      show Calls _ _ _ _ _
      rw [hD, hle]
      exact plist_any B g S cu cg k wr (KK.out wr hE) HT0.out (by decide)
    have KR : Hid (∀ i : Nat, (hi : i + 1 < D.length) → bl D[i].1 D[i + 1].1 = true) := fun i hi => list_rise HT0.out cu cg k hD hi
    have KL : Hid (∀ i : Nat, (hi : i < D.length) → lookE S cu cg k D[i].1 = 6 ∨ (lookE S cu cg k D[i].1 = 0 ∧ lookN S cu cg k D[i].1 = D[i].2)) := fun i hi => list_look HT0.out cu cg k hD hi
    clear hD hle hE
    go_wp2_with fail
    refine C3.out.mono ?_
    rintro e r3 ⟨A1, k1, rfl, d1, Ea⟩
    have X3 := Lib.hid (HE.out.trans Ea)
    have D1 := Lib.hid d1
    clear BX c0 c1 cbz Ea d1 C3 c2 cz
    obtain ⟨n, hn⟩ : ∃ n, n = D.length := ⟨_, rfl⟩
    rw [← hn] at hDl hD0 ⊢
    have HN := Lib.hid hn
    clear hn
    have hcase : le = 0 ∨ (le ≠ 0 ∧ n = 0) := by
      by_cases h : le = 0
      · exact .inl h
      · exact .inr ⟨h, hD0 h⟩
    have HCASE := Lib.hid hcase
    clear hD0 hcase
    go_upto_region 10 with fail
    go_cut [47] (fun v wc => v = .bool false ∧ wc = r3)
    case first =>
      rcases HCASE.out with h0 | ⟨h0, h1⟩
      · have t0 : (le != 0) = false := by simpa using h0
        clear h0
        go_wp2_with fail
        go_meet
        exact ⟨rfl, rfl⟩
      · have t0 : (le != 0) = true := by simpa using h0
        have t1 : (n : Int) = 0 := by omega
        clear h0
        go_wp2_with fail
        go_meet
        exact ⟨rfl, rfl⟩
    case rest =>
    obtain ⟨rfl, hwc⟩ := hcut
    obtain rfl : wc = r3 := hwc
    go_wp2_with fail
    go_loopw [11] (fun i wr' => ∃ j : Nat, i = .int .i64 j ∧ j ≤ n ∧ Ext wc wr') (fun i _ => n - (intOf i).toNat)
    case atStart => exact ⟨0, rfl, Nat.zero_le _, Ext.refl _⟩
    case round =>
      obtain ⟨j, rfl, hj, hEi⟩ := hrel
      have XI := Lib.hid (X3.out.trans hEi)
      by_cases hlt2 : (j : Int) < n
      case neg =>
        go_wp2_with fail
        go_roundw
        case rel => exact ⟨k + 1, by go_num, by omega, by omega, XI.out⟩
        case measure => simp [intOf]; omega
      have hjl : j < D.length := by have := HN.out; omega
      obtain ⟨b, o, rfl, hb, e0, e1⟩ := (D1.out.ext hEi).lt0 hjl
      have hkl := KL.out j hjl
      have hpre : j = 0 ∨ ∃ i : Nat, j = i + 1 ∧ ∃ y : EntD, bl y.1 D[j].1 = true ∧ wr.cell? ⟨b, o + i * 2, none⟩ = some (.string (bs y.1)) := by
        cases j with
        | zero => exact .inl rfl
        | succ i =>
          refine .inr ⟨i, rfl, D[i], KR.out i hjl, ?_⟩
          obtain ⟨b', o', hA', _, q0, _⟩ := (D1.out.ext hEi).lt0 (k := i) (by omega)
          injection hA' with hA'
          injection hA' with hb' ho'
          rw [hb', ho']; exact q0
      generalize D[j] = z at e0 e1 hkl hpre
      have y1 : (0 : Int) ≤ (j : Int) := Int.natCast_nonneg _
      have BX := HB3.out.ext XI.out
      have x0 := Gr.cell BX.lt (BX.cell 0)
      have x1 := Gr.cell BX.lt (BX.cell 1)
      have x2 := Gr.cell hb e0
      have x3 := Gr.cell hb e1
      obtain ⟨ke, hke⟩ : ∃ y, y = lookE S cu cg k z.1 := ⟨_, rfl⟩
      obtain ⟨kn, hkn⟩ : ∃ y, y = lookN S cu cg k z.1 := ⟨_, rfl⟩
      have CL : Hid (∀ u : Gr wr, Calls Try.prog 36 #[.pointer (some ⟨g.bW, 0, none⟩), .agg #[.int .i64 cu, .int .i64 cg], .int .i64 k, .string (bs z.1)] u.w (Ret u.w (.tuple #[.int .i64 kn, .int .i64 ke]))) := by
        show ∀ u, _
        intro u
        rw [hke, hkn]
        exact plook_any B g S cu cg k z.1 u.w (KK.out _ (XI.out.trans u.h)) HT0.out (by decide) hLL.out
      rw [← hke, ← hkn] at hkl
      have HKL := Lib.hid hkl
      have HPRE := Lib.hid hpre
      have HEI := Lib.hid hEi
      have w3w : IntKind.i64.wrap ((j : Int) + 1) = (j : Int) + 1 := IntWalk.i64_in _ (by omega)
      clear hke hkn hkl hpre hEi BX
      go_wp2_with fail
      refine wp_region_grow wr (by kernel_rfl) (by kernel_rfl) (Ext.refl _).drew ?_
      repeat (quiet_step (first
        | ((with_reducible refine (CL.out _).mono ?_); rintro e w'' ⟨rfl, hEx⟩; exact ⟨rfl, ⟨w'', Ext.trans (Gr.h _) hEx⟩, rfl⟩)))
      refine wpQuiet_nil ?_
      rintro w12 ⟨⟨wy, E12⟩, h12⟩
      dsimp only at h12
      subst h12
      have X12 := Lib.hid (HEI.out.trans E12)
      have v2 := (E12.cell hb).trans e0
      have v3 := (E12.cell hb).trans e1
      have hby : b < w12.heap.size := by have := E12.size; omega
      have x2 := Gr.cell hby v2
      have x3 := Gr.cell hby v3
      rcases HPRE.out with h0 | ⟨i, hi, y, hbl, hy⟩
      · have hj0 : (j : Int) = 0 := by omega
        have tj : decide ((0 : Int) < (j : Int)) = false := decide_eq_false (by omega)
        have tjn : decide (0 < j) = false := decide_eq_false (by omega)
        have tjp : ¬ 0 < j := by omega
        clear h0 x0 x1 hj0
        rcases HKL.out with h6 | ⟨h0, h1⟩
        · subst h6
          go_wp2_with fail
          refine wp_region_grow w12 (by kernel_rfl) (by kernel_rfl) (Ext.refl _).drew ?_
          repeat (quiet_step (fail))
          refine wpQuiet_nil ?_
          rintro w13 ⟨⟨wz, E13⟩, h13⟩
          dsimp only at h13
          subst h13
          have X13 := Lib.hid (X12.out.trans E13)
          clear x2 x3 v2 v3
          go_wp2_with fail
          go_roundw
          case rel => exact ⟨j + 1, by go_num, by omega, X13.out⟩
          case measure => simp [intOf]; omega
        · subst h0 h1
          go_wp2_with fail
          refine wp_region_grow w12 (by kernel_rfl) (by kernel_rfl) (Ext.refl _).drew ?_
          repeat (quiet_step (fail))
          refine wpQuiet_nil ?_
          rintro w13 ⟨⟨wz, E13⟩, h13⟩
          dsimp only at h13
          subst h13
          have X13 := Lib.hid (X12.out.trans E13)
          clear x2 x3 v2 v3
          go_wp2_with fail
          go_roundw
          case rel => exact ⟨j + 1, by go_num, by omega, X13.out⟩
          case measure => simp [intOf]; omega
      · have tj : decide ((0 : Int) < (j : Int)) = true := decide_eq_true (by omega)
        have tjn : decide (0 < j) = true := decide_eq_true (by omega)
        have tjp : 0 < j := by omega
        have z3 : IntKind.i64.wrap ((j : Int) - 1) = (i : Int) := by rw [show (j : Int) - 1 = i by omega]; exact wrap_i64_in (by omega) (by omega)
        have z0 : (0 : Int) ≤ (i : Int) := Int.natCast_nonneg _
        have z1 : (i : Int) < (n : Int) := by omega
        have tb : Go.Op.bytesLess (bs y.1).toList (bs z.1).toList = true := by rw [bs_toList, bs_toList]; exact hbl
        have x4 := Gr.cell hby ((E12.cell hb).trans hy)
        clear hi hbl hy x0 x1
        rcases HKL.out with h6 | ⟨h0, h1⟩
        · subst h6
          go_wp2_with fail
          refine wp_region_grow w12 (by kernel_rfl) (by kernel_rfl) (Ext.refl _).drew ?_
          repeat (quiet_step (fail))
          refine wpQuiet_nil ?_
          rintro w13 ⟨⟨wz, E13⟩, h13⟩
          dsimp only at h13
          subst h13
          have X13 := Lib.hid (X12.out.trans E13)
          clear x2 x3 v2 v3
          go_wp2_with fail
          go_roundw
          case rel => exact ⟨j + 1, by go_num, by omega, X13.out⟩
          case measure => simp [intOf]; omega
        · subst h0 h1
          go_wp2_with fail
          refine wp_region_grow w12 (by kernel_rfl) (by kernel_rfl) (Ext.refl _).drew ?_
          repeat (quiet_step (fail))
          refine wpQuiet_nil ?_
          rintro w13 ⟨⟨wz, E13⟩, h13⟩
          dsimp only at h13
          subst h13
          have X13 := Lib.hid (X12.out.trans E13)
          clear x2 x3 v2 v3
          go_wp2_with fail
          go_roundw
          case rel => exact ⟨j + 1, by go_num, by omega, X13.out⟩
          case measure => simp [intOf]; omega
set_option maxRecDepth 100000 in
theorem peekLooks_walk {H : Type} {enc : TypeId × Value → H} (W : World) (base : Nat) (v0 v1 : Value) (d0 d1 : DataW H) (p0 p1 : List MemPlace)
    (k0 : Value.okWide Try.prog W .any base 24 v0) (h0 : DataW.Trod enc Try.prog W 0 (fun _ => true) true 24 v0 d0 p0)
    (k1 : Value.okWide Try.prog W .any base 62 v1) (h1 : DataW.Trod enc Try.prog W 0 (fun _ => true) true 62 v1 d1 p1)
    : Calls Try.prog 5 #[v0, v1] W (Ret W (.bool true)) := by
  obtain ⟨A, l, cap, rfl, hA, _, hl, hc⟩ := open_Items k0 h0
  obtain ⟨x, rfl⟩ := open_Cred k1 h1
  exact peekLooks_any A l cap x.1 x.2 W hA (by unfold maxLen at hc; omega)
end Go.Proofs.Ytebghednhjaniaa
