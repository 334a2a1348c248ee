/- Layer 46 (args): the reference's Parse. -/
import Derived.Test.YtmppjbimdonfmaaDoorArgA
import Derived.Deep.DeepCutAuto
namespace Go.Proofs.YtmppjbimdonfmaaDoor
open Go.ChangeShapes Go.WideShapes Go.ChangeAt Go.RowKit

theorem enough_facts {k n : Nat} {b x : Bool} (h : enoughB k n b = x) : (k = 1 ∨ k = 3 → x = decide (1 ≤ n)) ∧ (k = 6 → x = (decide (1 ≤ n) && b)) ∧ (k = 7 ∨ k = 8 → x = decide (2 ≤ n)) ∧ (k = 5 → x = decide (n = 2)) ∧ (k = 2 ∨ k = 4 ∨ k = 9 → x = decide (n = 0)) := by
  subst h
  unfold enoughB
  refine ⟨?_, ?_, ?_, ?_, ?_⟩
  · intro h; rw [if_pos h]
  · rintro rfl; simp
  · rintro (rfl | rfl) <;> simp
  · rintro rfl; simp
  · rintro (rfl | rfl | rfl) <;> simp
set_option maxRecDepth 100000 in
set_option maxHeartbeats 64000000 in
theorem rparseC_any (A : Option Addr) (cap : Nat) (L : List Txt) (w : World) (hat : TxtAt w A L) (hlen : L.length ≤ 1000) : Calls Tryd.prog 64 #[.slice A L.length cap] w (PR w (parseC L)) := by
  cases L with
  | nil =>
    go_enter Tryd.func64, Tryd.ntmps64
    go_wp2_with fail
    refine bodyPost_ret (resC _ rfl _ _ w.heap.size ZC (.int .i64 1) rfl rfl (Has.new _ _) (cmd_size _ _ _ _ _ _)) rfl ?_
    exact PR.bad rfl rfl ((Ext.refl _).alloc _)
  | cons s l =>
    obtain ⟨bl, o, rfl, hb, h0⟩ := hat.at_ (Ext.refl w) 0 (by simp)
    have E0 : Ext w (w.alloc (.cells ZC 62)) := (Ext.refl _).alloc _
    have h0a : w.cell? ⟨bl, o, none⟩ = some (.string (bs s)) := h0
    have HK := Lib.hid (rkind_any s (w.alloc (.cells ZC 62)))
    have hZ0 := Has.new w (.cells ZC 62)
    obtain ⟨kk, hkk⟩ : ∃ kk, kk = kindN s := ⟨_, rfl⟩
    have hk9 := kindN_le s
    rw [← hkk] at HK hk9
    obtain ⟨n, hn⟩ : ∃ n, n = (s :: l).length := ⟨_, rfl⟩
    have hn0 : 0 < n := by rw [hn]; simp
    rw [← hn] at hlen ⊢
    have HKK := Lib.hid hkk
    have HM := Lib.hid hn
    have hat2 := hat
    have HA := Lib.hid hat2
    clear hn hat2 hat h0 hkk
    go_enter Tryd.func64, Tryd.ntmps64
    go_wp2_with fail
    refine (HK.out).mono ?_
    rintro e w0 ⟨rfl, b0⟩
    have hZ1 := hZ0.ext b0
    have E1 := E0.trans b0
    have h0b := (E1.cell (o := o) hb).trans h0a
    have hs0 := Has.lt hZ1
    have hb1 : bl < w0.heap.size := by have := E1.size; omega
    clear hZ0 h0a
    by_cases hk0 : kk = 0
    · have hf : Hid (parseC (s :: l) = none) := parseC_k0 l (by rw [← HKK.out]; exact hk0)
      have he0 : ((kk : Int) == 0) = true := by rw [hk0]; rfl
      have hZ2 := hZ1
      have hE2 := E1
      clear hk0
      obtain ⟨z0, z1, z2, z3, z4, z5⟩ := CmdAt.cells hZ2
      have hzF := CmdAt.frz hZ2
      have hzl := Has.lt hZ2
      go_wp2_with fail
      refine bodyPost_ret (resC _ rfl _ _ w.heap.size ZC (.int .i64 1) rfl rfl (Has.put6 hZ2 _ _ _ _ _ _) (cmd_size _ _ _ _ _ _)) rfl ?_
      exact PR.bad hf rfl (hE2.put6 (Nat.le_refl _) _ _ _ _ _ _)
    · have he0 : ((kk : Int) == 0) = false := by rw [beq_eq_false_iff_ne]; omega
      have HK2 := rkind_any s w0
      rw [← HKK.out] at HK2
      have HK2 := Lib.hid HK2
      go_wp2_with fail
      refine (HK2.out).mono ?_
      rintro e w1 ⟨rfl, b1⟩
      have hZ2 := hZ1.ext b1
      have E2 := E1.trans b1
      have hs1 := Has.lt hZ2
      clear hZ1
      obtain ⟨V, hV⟩ : ∃ V, V = w1.alloc (.cells (cmdC kk (.slice none 0 0) false false 0 0) 62) := ⟨_, rfl⟩
      have hC : CmdAt V w1.heap.size kk (.slice none 0 0) false false 0 0 := by rw [hV]; exact Has.new _ _
      have hZ : Has V w.heap.size (.cells ZC 62) := by rw [hV]; exact hZ2.alloc _
      have E3 : Ext w V := by rw [hV]; exact E2.alloc _
      unfold cmdC at hV
      have HV := Lib.hid hV
      clear hV
      go_wp2_with (rw [← HV.out])
      obtain ⟨i0, hi, hi0, hi1, hi2⟩ := info_parts infoStr
      go_loopw [5, 6] (fun ov i wr => ∃ (j : Nat) (over : Bool) (ps : List Txt) (b d : Bool) (v : Value), 1 ≤ j ∧ j ≤ n ∧ i = .int .i64 j ∧ ov = .bool over ∧ CmdAt wr w1.heap.size kk v b d 0 0 ∧ OwnT wr w.heap.size v ps ∧ Hid (scan kk ((s :: l).drop j) over ps b d = scan kk l false [] false false) ∧ ps.length ≤ j ∧ Has wr w.heap.size (.cells ZC 62) ∧ Ext w wr) (fun _ i _ => n - (intOf i).toNat)
      case atStart => exact ⟨1, false, [], false, false, .slice none 0 0, Nat.le_refl _, hn0, rfl, rfl, hC, World.ownsRow_nil _ _ _ _, rfl, Nat.zero_le _, hZ, E3⟩
      case round =>
        clear hC hZ E2 E3 HV HK HK2 E0 h0b
        obtain ⟨j, over, ps, b, d, v, hj1, hj, rfl, rfl, hC, hO, hS, hpl, hZ, hE⟩ := hrel
        have hbl := hE.size
        by_cases hlt : (j : Int) < n
        · have hjm : j < n := by omega
          have hjl : j < (s :: l).length := by rw [← HM.out]; exact hjm
          obtain ⟨b', o', hAe, hbb, hcx⟩ := HA.out.at_ hE j hjl
          injection hAe with hAe
          injection hAe with hAe1 hAe2
          subst hAe1; subst hAe2
          obtain ⟨x, hx⟩ : ∃ x, x = (s :: l)[j] := ⟨_, rfl⟩
          have hdk : (s :: l).drop j = x :: (s :: l).drop (j + 1) := by rw [hx]; exact List.drop_eq_getElem_cons hjl
          rw [← hx] at hcx
          have hsc := hS.out
          rw [hdk] at hsc
          have y1 : (bs x).size = x.length := bs_size x
          have hwk : IntKind.i64.wrap ((j : Int) + 1) = j + 1 := wrap_i64_in (by omega) (by omega)
          have hC1 := Lib.hid hC
          have hZ1' := Lib.hid hZ
          have hlC := Has.lt hC
          obtain ⟨c0, c1, c2, c3, c4, c5⟩ := hC.cells
          have hO' : wr.ownsRow w.heap.size 9 1 v ps.length (txtCells ps) := hO
          have hbne := row_ne hO' hC (by decide)
          have HB := Lib.hid hbne
          clear hS hx hdk hO hjl hbne
          by_cases ho : over = true
          · subst ho
            have hop : opB true x = true := by simp [opB]
            rw [scan, if_pos hop] at hsc
            have HW := Lib.hid hsc
            clear hop hsc c0 c2 c3 c4 c5 hC hZ
            go_wp2_with (at_builtin; refine wpList_append_own _ rfl _ _ 24 rfl w.heap.size 9 i0 (.string ⟨#[]⟩) 1 16 Tryd.underlying24 hi hi0 hi1 hi2 rfl (by decide) _ _ _ rfl (hO'.alloc _) ⟨wr.heap.size, 0, none⟩ 1 1 (txtCells [x]) rfl rfl (txt_news wr x) (txtCells_one [x]) (by unfold maxLen; omega) (by omega) (by have := hE.size; simp; omega) ?_)
            intro v' w2 hown2 hgrow _
            obtain ⟨ho2, hE2⟩ := txt_app hO' hE hown2 hgrow
            obtain ⟨A2, cap2, rfl, _, _, _, _⟩ := ho2.at_
            have hC2 : CmdAt w2 w1.heap.size kk v b d 0 0 := Has.grown (hC1.out.alloc _) hgrow HB.out
            have hZ2 : Has w2 w.heap.size (.cells ZC 62) := Has.grown (hZ1'.out.alloc _) hgrow (row_ne hO' hZ1'.out (by decide))
            obtain ⟨c0, c1, c2, c3, c4, c5⟩ := hC2.cells
            have hfz := hC2.frz 1
            have HO : Hid (OwnT w2 w.heap.size (.slice A2 (ps.length + 1) cap2) (ps ++ [x])) := by have h := ho2; rw [show (ps ++ [x]).length = ps.length + 1 by simp] at h; exact h
            have HC2 := Lib.hid hC2
            clear hown2 hgrow hO' ho2 c0 c2 c3 c4 c5 hC2
            go_wp2_with fail
            go_roundw
            case rel => exact ⟨j + 1, true, ps ++ [x], b, d, _, by omega, by omega, by go_num, rfl, HC2.out.set1 _, OwnT.set HO.out HC2.out (by decide) _, HW.out, by simp; omega, hZ2.other (by omega) _, hE2.setCell (by show w.heap.size ≤ w1.heap.size; omega) _⟩
            case measure => simp [intOf]; omega
          · obtain rfl : over = false := by cases over <;> simp_all
            clear ho
            by_cases h2 : x.length < 2
            · have h2i : (x.length : Int) < 2 := by omega
              have hop : opB false x = true := by simp [opB, h2]
              rw [scan, if_pos hop] at hsc
              have HW := Lib.hid hsc
              clear hop hsc c0 c2 c3 c4 c5 hC hZ
              go_wp2_with (at_builtin; refine wpList_append_own _ rfl _ _ 24 rfl w.heap.size 9 i0 (.string ⟨#[]⟩) 1 16 Tryd.underlying24 hi hi0 hi1 hi2 rfl (by decide) _ _ _ rfl (hO'.alloc _) ⟨wr.heap.size, 0, none⟩ 1 1 (txtCells [x]) rfl rfl (txt_news wr x) (txtCells_one [x]) (by unfold maxLen; omega) (by omega) (by have := hE.size; simp; omega) ?_)
              intro v' w2 hown2 hgrow _
              obtain ⟨ho2, hE2⟩ := txt_app hO' hE hown2 hgrow
              obtain ⟨A2, cap2, rfl, _, _, _, _⟩ := ho2.at_
              have hC2 : CmdAt w2 w1.heap.size kk v b d 0 0 := Has.grown (hC1.out.alloc _) hgrow HB.out
              have hZ2 : Has w2 w.heap.size (.cells ZC 62) := Has.grown (hZ1'.out.alloc _) hgrow (row_ne hO' hZ1'.out (by decide))
              obtain ⟨c0, c1, c2, c3, c4, c5⟩ := hC2.cells
              have hfz := hC2.frz 1
              have HO : Hid (OwnT w2 w.heap.size (.slice A2 (ps.length + 1) cap2) (ps ++ [x])) := by have h := ho2; rw [show (ps ++ [x]).length = ps.length + 1 by simp] at h; exact h
              have HC2 := Lib.hid hC2
              clear hown2 hgrow hO' ho2 c0 c2 c3 c4 c5 hC2
              go_wp2_with fail
              go_roundw
              case rel => exact ⟨j + 1, false, ps ++ [x], b, d, _, by omega, by omega, by go_num, rfl, HC2.out.set1 _, OwnT.set HO.out HC2.out (by decide) _, HW.out, by simp; omega, hZ2.other (by omega) _, hE2.setCell (by show w.heap.size ≤ w1.heap.size; omega) _⟩
              case measure => simp [intOf]; omega
            · have h2i : (2 : Int) ≤ (x.length : Int) := by omega
              have h0s : 0 < (bs x).size := by omega
              have hg : (bs x)[0] = x[0]'(by omega) := bs_get x 0 h0s (by omega)
              have hh : x.head? = some (x[0]'(by omega)) := by cases x with | nil => simp at h2 | cons a t => rfl
              obtain ⟨c, hc⟩ : ∃ c, c = x[0]'(by omega) := ⟨_, rfl⟩
              rw [← hc] at hg hh
              have h00 : (0 : Int) < (x.length : Int) := by omega
              have e45 : (((bs x)[0].toNat : Int) != 45) = (c != 45) := by rw [hg]; exact congrArg Bool.not (u8_eq (c := c) (d := 45))
              have HG := Lib.hid hg
              clear hc hg
              by_cases h45 : c = 45
              · rw [show (c != 45) = false from by rw [h45]; rfl] at e45
                have hhd : (x.head? == some 45) = true := by rw [hh, h45]; rfl
                have hop : opB false x = false := by simp [opB, h2, hhd]
                rw [scan, if_neg (by rw [hop]; decide)] at hsc
                have hO : OwnT wr w.heap.size v ps := hO'
                have tS : ((bs x).toList == [45, 45]) = (x == wS) := by rw [bs_toList]; rfl
                have tB : ((bs x).toList == [45, 98]) = (x == wB) := by rw [bs_toList]; rfl
                have tL : ((bs x).toList == [45, 45, 98, 97, 99, 107, 117, 112, 61, 110, 117, 109, 98, 101, 114, 101, 100]) = (x == wL) := by rw [bs_toList]; rfl
                have tR : ((bs x).toList == [45, 114]) = (x == wR) := by rw [bs_toList]; rfl
                have e8 : ((kk : Int) == 8) = decide (kk = 8) := kbeq kk 8
                have HC := Lib.hid hC
                have HZ := Lib.hid hZ
                have HOO := Lib.hid hO
                have hcF2 := hC.frz 2
                have hcF3 := hC.frz 3
                clear hh h45 hhd hop h2 c1 c4 c5 hO hO' hC hZ
                by_cases hs2 : x = wS
                · rw [if_pos hs2] at hsc
                  have HW := Lib.hid hsc
                  rw [show (x == wS) = true from by rw [hs2]; rfl] at tS
                  clear hs2 hsc tB tL tR e8 c0 c2 c3
                  go_wp2_with fail
                  go_roundw
                  case rel => exact ⟨j + 1, true, ps, b, d, v, by omega, by omega, by go_num, rfl, HC.out, HOO.out, HW.out, by omega, HZ.out, hE⟩
                  case measure => simp [intOf]; omega
                · rw [if_neg hs2] at hsc
                  rw [show (x == wS) = false from beq_eq_false_iff_ne.2 hs2] at tS
                  clear hs2
                  by_cases hbl2 : x = wB ∨ x = wL
                  · have hxr : x ≠ wR := by rintro rfl; rcases hbl2 with h | h <;> exact absurd h (by decide)
                    rw [show (x == wR) = false from beq_eq_false_iff_ne.2 hxr] at tR
                    have hbb2 : ((x == wB) = true) ∨ ((x == wB) = false ∧ (x == wL) = true) := by
                      rcases hbl2 with h | h
                      · exact .inl (by rw [h]; rfl)
                      · exact .inr ⟨by rw [h]; decide, by rw [h]; rfl⟩
                    by_cases h68 : 6 ≤ kk ∧ kk ≤ 8
                    · rw [if_pos ⟨hbl2, h68⟩] at hsc
                      have HW := Lib.hid hsc
                      have k6 : (6 : Int) ≤ (kk : Int) := by omega
                      have k8 : (kk : Int) ≤ 8 := by omega
                      have hZ2 := Lib.hid (Has.other (i := 2) HZ.out (show w.heap.size ≠ w1.heap.size by omega) (.bool true))
                      have hE2 : Ext w (wr.setCell ⟨w1.heap.size, 2, none⟩ (.bool true)) := hE.setCell (by show w.heap.size ≤ w1.heap.size; omega) _
                      have hO2 := Lib.hid (OwnT.set (i := 2) HOO.out HC.out (by decide) (.bool true))
                      clear hsc hbl2 hxr h68 e8
                      rcases hbb2 with hb2 | ⟨hb2, hb3⟩
                      · rw [hb2] at tB
                        clear hb2
                        go_wp2_with fail
                        go_roundw
                        case rel => exact ⟨j + 1, false, ps, true, d, v, by omega, by omega, by go_num, rfl, HC.out.set2 true, hO2.out, HW.out, by omega, hZ2.out, hE2⟩
                        case measure => simp [intOf]; omega
                      · rw [hb2] at tB
                        rw [hb3] at tL
                        clear hb2 hb3
                        go_wp2_with fail
                        go_roundw
                        case rel => exact ⟨j + 1, false, ps, true, d, v, by omega, by omega, by go_num, rfl, HC.out.set2 true, hO2.out, HW.out, by omega, hZ2.out, hE2⟩
                        case measure => simp [intOf]; omega
                    · rw [if_neg (fun h => h68 h.2), if_neg (fun h => hxr h.1)] at hsc
                      have hf : Hid (parseC (s :: l) = none) := parseC_scan (by rw [← HKK.out]; exact hk0) (by rw [← HKK.out]; exact hsc.symm)
                      have hZ2 := HZ.out
                      have hE2 := hE
                      have hkx : (kk : Int) < 6 ∨ ((6 : Int) ≤ kk ∧ (8 : Int) < (kk : Int)) := by omega
                      clear hsc hbl2 hxr h68 e8
                      rcases hbb2 with hb2 | ⟨hb2, hb3⟩
                      · rw [hb2] at tB
                        clear hb2
                        rcases hkx with k6 | ⟨k6, k8⟩
                        · obtain ⟨z0, z1, z2, z3, z4, z5⟩ := CmdAt.cells hZ2
                          have hzF := CmdAt.frz hZ2
                          have hzl := Has.lt hZ2
                          go_wp2_with fail
                          (try simp only [Exit.inBlock, Exit.then])
                          refine bodyPost_ret (resC _ rfl _ _ w.heap.size ZC (.int .i64 1) rfl rfl (Has.put6 hZ2 _ _ _ _ _ _) (cmd_size _ _ _ _ _ _)) rfl ?_
                          exact PR.bad hf rfl (hE2.put6 (Nat.le_refl _) _ _ _ _ _ _)
                        · obtain ⟨z0, z1, z2, z3, z4, z5⟩ := CmdAt.cells hZ2
                          have hzF := CmdAt.frz hZ2
                          have hzl := Has.lt hZ2
                          go_wp2_with fail
                          (try simp only [Exit.inBlock, Exit.then])
                          refine bodyPost_ret (resC _ rfl _ _ w.heap.size ZC (.int .i64 1) rfl rfl (Has.put6 hZ2 _ _ _ _ _ _) (cmd_size _ _ _ _ _ _)) rfl ?_
                          exact PR.bad hf rfl (hE2.put6 (Nat.le_refl _) _ _ _ _ _ _)
                      · rw [hb2] at tB
                        rw [hb3] at tL
                        clear hb2 hb3
                        rcases hkx with k6 | ⟨k6, k8⟩
                        · obtain ⟨z0, z1, z2, z3, z4, z5⟩ := CmdAt.cells hZ2
                          have hzF := CmdAt.frz hZ2
                          have hzl := Has.lt hZ2
                          go_wp2_with fail
                          (try simp only [Exit.inBlock, Exit.then])
                          refine bodyPost_ret (resC _ rfl _ _ w.heap.size ZC (.int .i64 1) rfl rfl (Has.put6 hZ2 _ _ _ _ _ _) (cmd_size _ _ _ _ _ _)) rfl ?_
                          exact PR.bad hf rfl (hE2.put6 (Nat.le_refl _) _ _ _ _ _ _)
                        · obtain ⟨z0, z1, z2, z3, z4, z5⟩ := CmdAt.cells hZ2
                          have hzF := CmdAt.frz hZ2
                          have hzl := Has.lt hZ2
                          go_wp2_with fail
                          (try simp only [Exit.inBlock, Exit.then])
                          refine bodyPost_ret (resC _ rfl _ _ w.heap.size ZC (.int .i64 1) rfl rfl (Has.put6 hZ2 _ _ _ _ _ _) (cmd_size _ _ _ _ _ _)) rfl ?_
                          exact PR.bad hf rfl (hE2.put6 (Nat.le_refl _) _ _ _ _ _ _)
                  · rw [if_neg (fun h => hbl2 h.1)] at hsc
                    rw [show (x == wB) = false from beq_eq_false_iff_ne.2 (fun h => hbl2 (.inl h))] at tB
                    rw [show (x == wL) = false from beq_eq_false_iff_ne.2 (fun h => hbl2 (.inr h))] at tL
                    by_cases hxr : x = wR
                    · rw [show (x == wR) = true from by rw [hxr]; rfl] at tR
                      by_cases h8 : kk = 8
                      · rw [if_pos ⟨hxr, h8⟩] at hsc
                        rw [decide_eq_true h8] at e8
                        have HW := Lib.hid hsc
                        have hZ2 := Lib.hid (Has.other (i := 3) HZ.out (show w.heap.size ≠ w1.heap.size by omega) (.bool true))
                        have hE2 : Ext w (wr.setCell ⟨w1.heap.size, 3, none⟩ (.bool true)) := hE.setCell (by show w.heap.size ≤ w1.heap.size; omega) _
                        have hO2 := Lib.hid (OwnT.set (i := 3) HOO.out HC.out (by decide) (.bool true))
                        clear hbl2 hxr hsc h8
                        go_wp2_with fail
                        go_roundw
                        case rel => exact ⟨j + 1, false, ps, b, true, v, by omega, by omega, by go_num, rfl, HC.out.set3 true, hO2.out, HW.out, by omega, hZ2.out, hE2⟩
                        case measure => simp [intOf]; omega
                      · rw [if_neg (fun h => h8 h.2)] at hsc
                        rw [decide_eq_false h8] at e8
                        have hf : Hid (parseC (s :: l) = none) := parseC_scan (by rw [← HKK.out]; exact hk0) (by rw [← HKK.out]; exact hsc.symm)
                        have hZ2 := HZ.out
                        have hE2 := hE
                        clear hsc hxr hbl2 h8
                        obtain ⟨z0, z1, z2, z3, z4, z5⟩ := CmdAt.cells hZ2
                        have hzF := CmdAt.frz hZ2
                        have hzl := Has.lt hZ2
                        go_wp2_with fail
                        (try simp only [Exit.inBlock, Exit.then])
                        refine bodyPost_ret (resC _ rfl _ _ w.heap.size ZC (.int .i64 1) rfl rfl (Has.put6 hZ2 _ _ _ _ _ _) (cmd_size _ _ _ _ _ _)) rfl ?_
                        exact PR.bad hf rfl (hE2.put6 (Nat.le_refl _) _ _ _ _ _ _)
                    · rw [show (x == wR) = false from beq_eq_false_iff_ne.2 hxr] at tR
                      rw [if_neg (fun h => hxr h.1)] at hsc
                      have hf : Hid (parseC (s :: l) = none) := parseC_scan (by rw [← HKK.out]; exact hk0) (by rw [← HKK.out]; exact hsc.symm)
                      have hZ2 := HZ.out
                      have hE2 := hE
                      clear hsc hxr hbl2 e8
                      obtain ⟨z0, z1, z2, z3, z4, z5⟩ := CmdAt.cells hZ2
                      have hzF := CmdAt.frz hZ2
                      have hzl := Has.lt hZ2
                      go_wp2_with fail
                      (try simp only [Exit.inBlock, Exit.then])
                      refine bodyPost_ret (resC _ rfl _ _ w.heap.size ZC (.int .i64 1) rfl rfl (Has.put6 hZ2 _ _ _ _ _ _) (cmd_size _ _ _ _ _ _)) rfl ?_
                      exact PR.bad hf rfl (hE2.put6 (Nat.le_refl _) _ _ _ _ _ _)
              · rw [show (c != 45) = true from bne_iff_ne.2 h45] at e45
                have hhd : (x.head? == some 45) = false := by rw [hh]; simpa using h45
                clear hh h45
                have hop : opB false x = true := by simp [opB, hhd]
                rw [scan, if_pos hop] at hsc
                have HW := Lib.hid hsc
                clear hop hsc c0 c2 c3 c4 c5 hC hZ
                go_wp2_with (at_builtin; refine wpList_append_own _ rfl _ _ 24 rfl w.heap.size 9 i0 (.string ⟨#[]⟩) 1 16 Tryd.underlying24 hi hi0 hi1 hi2 rfl (by decide) _ _ _ rfl (hO'.alloc _) ⟨wr.heap.size, 0, none⟩ 1 1 (txtCells [x]) rfl rfl (txt_news wr x) (txtCells_one [x]) (by unfold maxLen; omega) (by omega) (by have := hE.size; simp; omega) ?_)
                intro v' w2 hown2 hgrow _
                obtain ⟨ho2, hE2⟩ := txt_app hO' hE hown2 hgrow
                obtain ⟨A2, cap2, rfl, _, _, _, _⟩ := ho2.at_
                have hC2 : CmdAt w2 w1.heap.size kk v b d 0 0 := Has.grown (hC1.out.alloc _) hgrow HB.out
                have hZ2 : Has w2 w.heap.size (.cells ZC 62) := Has.grown (hZ1'.out.alloc _) hgrow (row_ne hO' hZ1'.out (by decide))
                obtain ⟨c0, c1, c2, c3, c4, c5⟩ := hC2.cells
                have hfz := hC2.frz 1
                have HO : Hid (OwnT w2 w.heap.size (.slice A2 (ps.length + 1) cap2) (ps ++ [x])) := by have h := ho2; rw [show (ps ++ [x]).length = ps.length + 1 by simp] at h; exact h
                have HC2 := Lib.hid hC2
                clear hown2 hgrow hO' ho2 c0 c2 c3 c4 c5 hC2
                go_wp2_with fail
                go_roundw
                case rel => exact ⟨j + 1, false, ps ++ [x], b, d, _, by omega, by omega, by go_num, rfl, HC2.out.set1 _, OwnT.set HO.out HC2.out (by decide) _, HW.out, by simp; omega, hZ2.other (by omega) _, hE2.setCell (by show w.heap.size ≤ w1.heap.size; omega) _⟩
                case measure => simp [intOf]; omega
        · obtain rfl : j = n := by omega
          have hd : (s :: l).drop j = [] := List.drop_eq_nil_of_le (by have := HM.out; omega)
          have hsc := hS.out
          rw [hd] at hsc
          have hsc : scan kk l false [] false false = some (ps, b, d) := hsc.symm
          obtain ⟨A', cap', rfl, hca, hcm, htA, hnil⟩ := hO.at_
          obtain ⟨c0, c1, c2, c3, c4, c5⟩ := hC.cells
          have hlC := Has.lt hC
          have HC := Lib.hid hC
          have HZ := Lib.hid hZ
          have HO := Lib.hid hO
          have HT := Lib.hid htA
          have HSC := Lib.hid hsc
          obtain ⟨q, hq⟩ : ∃ q, q = enoughB kk ps.length b := ⟨_, rfl⟩
          have HQ := Lib.hid hq
          clear hd hS hC hZ hO htA hnil hca hcm hsc hq
          go_upto_region 19 with (fail)
          go_cut [155] (fun s155 wx => s155 = .bool (!q) ∧ wx = wr)
          case first =>
            have hsc := HSC.out
            rcases ten (k := kk) (by omega) with hk | hk | hk | hk | hk | hk | hk | hk | hk | hk
            · exact absurd hk hk0
            · as_aux_lemma =>
                subst hk
                have F := enough_facts (k := 1) (n := ps.length) (b := b) rfl
                have F := F.1 (by decide)
                by_cases hc : 1 ≤ ps.length
                · have hi1 : (1 : Int) ≤ (ps.length : Int) := by omega
                  have hv : Hid ((!q) = false) := by show _ = _; rw [HQ.out]; rw [F, decide_eq_true hc]; try rfl
                  clear F
                  clear hk0 he0 hsc
                  simp only [List.append]
                  go_wp2_with fail
                  go_meet
                  exact ⟨by first | (rw [hv.out]; done) | (rw [hv.out]; exact congrArg Value.bool (decide_eq_false (by omega))) | (rw [hv.out]; exact congrArg Value.bool (decide_eq_true (by omega))), rfl⟩
                · have hi1 : (ps.length : Int) < 1 := by omega
                  have hv : Hid ((!q) = true) := by show _ = _; rw [HQ.out]; rw [F, decide_eq_false hc]; try rfl
                  clear F
                  clear hk0 he0 hsc
                  simp only [List.append]
                  go_wp2_with fail
                  go_meet
                  exact ⟨by first | (rw [hv.out]; done) | (rw [hv.out]; exact congrArg Value.bool (decide_eq_false (by omega))) | (rw [hv.out]; exact congrArg Value.bool (decide_eq_true (by omega))), rfl⟩
            · as_aux_lemma =>
                subst hk
                have F := enough_facts (k := 2) (n := ps.length) (b := b) rfl
                have F := F.2.2.2.2 (by decide)
                by_cases hc : ps.length = 0
                · have hi1 : (ps.length : Int) ≤ 0 := by omega
                  have hv : Hid ((!q) = false) := by show _ = _; rw [HQ.out]; rw [F, decide_eq_true hc]; try rfl
                  clear F hc
                  clear hk0 he0 hsc
                  simp only [List.append]
                  go_wp2_with fail
                  go_meet
                  exact ⟨by first | (rw [hv.out]; done) | (rw [hv.out]; exact congrArg Value.bool (decide_eq_false (by omega))) | (rw [hv.out]; exact congrArg Value.bool (decide_eq_true (by omega))), rfl⟩
                · have hi1 : (0 : Int) < (ps.length : Int) := by omega
                  have hv : Hid ((!q) = true) := by show _ = _; rw [HQ.out]; rw [F, decide_eq_false hc]; try rfl
                  clear F
                  clear hk0 he0 hsc
                  simp only [List.append]
                  go_wp2_with fail
                  go_meet
                  exact ⟨by first | (rw [hv.out]; done) | (rw [hv.out]; exact congrArg Value.bool (decide_eq_false (by omega))) | (rw [hv.out]; exact congrArg Value.bool (decide_eq_true (by omega))), rfl⟩
            · as_aux_lemma =>
                subst hk
                have F := enough_facts (k := 3) (n := ps.length) (b := b) rfl
                have F := F.1 (by decide)
                by_cases hc : 1 ≤ ps.length
                · have hi1 : (1 : Int) ≤ (ps.length : Int) := by omega
                  have hv : Hid ((!q) = false) := by show _ = _; rw [HQ.out]; rw [F, decide_eq_true hc]; try rfl
                  clear F
                  clear hk0 he0 hsc
                  simp only [List.append]
                  go_wp2_with fail
                  go_meet
                  exact ⟨by first | (rw [hv.out]; done) | (rw [hv.out]; exact congrArg Value.bool (decide_eq_false (by omega))) | (rw [hv.out]; exact congrArg Value.bool (decide_eq_true (by omega))), rfl⟩
                · have hi1 : (ps.length : Int) < 1 := by omega
                  have hv : Hid ((!q) = true) := by show _ = _; rw [HQ.out]; rw [F, decide_eq_false hc]; try rfl
                  clear F
                  clear hk0 he0 hsc
                  simp only [List.append]
                  go_wp2_with fail
                  go_meet
                  exact ⟨by first | (rw [hv.out]; done) | (rw [hv.out]; exact congrArg Value.bool (decide_eq_false (by omega))) | (rw [hv.out]; exact congrArg Value.bool (decide_eq_true (by omega))), rfl⟩
            · as_aux_lemma =>
                subst hk
                have F := enough_facts (k := 4) (n := ps.length) (b := b) rfl
                have F := F.2.2.2.2 (by decide)
                by_cases hc : ps.length = 0
                · have hi1 : (ps.length : Int) ≤ 0 := by omega
                  have hv : Hid ((!q) = false) := by show _ = _; rw [HQ.out]; rw [F, decide_eq_true hc]; try rfl
                  clear F hc
                  clear hk0 he0 hsc
                  simp only [List.append]
                  go_wp2_with fail
                  go_meet
                  exact ⟨by first | (rw [hv.out]; done) | (rw [hv.out]; exact congrArg Value.bool (decide_eq_false (by omega))) | (rw [hv.out]; exact congrArg Value.bool (decide_eq_true (by omega))), rfl⟩
                · have hi1 : (0 : Int) < (ps.length : Int) := by omega
                  have hv : Hid ((!q) = true) := by show _ = _; rw [HQ.out]; rw [F, decide_eq_false hc]; try rfl
                  clear F
                  clear hk0 he0 hsc
                  simp only [List.append]
                  go_wp2_with fail
                  go_meet
                  exact ⟨by first | (rw [hv.out]; done) | (rw [hv.out]; exact congrArg Value.bool (decide_eq_false (by omega))) | (rw [hv.out]; exact congrArg Value.bool (decide_eq_true (by omega))), rfl⟩
            · as_aux_lemma =>
                subst hk
                have F := enough_facts (k := 5) (n := ps.length) (b := b) rfl
                have F := F.2.2.2.1 rfl
                by_cases hc : ps.length = 2
                · have hi1 : ((ps.length : Int) != 2) = false := by rw [hc]; rfl
                  have hv : Hid ((!q) = false) := by show _ = _; rw [HQ.out]; rw [F, decide_eq_true hc]; try rfl
                  clear F hc
                  clear hk0 he0 hsc
                  simp only [List.append]
                  go_wp2_with fail
                  go_meet
                  exact ⟨by first | (rw [hv.out]; done) | (rw [hv.out]; exact congrArg Value.bool (decide_eq_false (by omega))) | (rw [hv.out]; exact congrArg Value.bool (decide_eq_true (by omega))), rfl⟩
                · have hi1 : ((ps.length : Int) != 2) = true := by rw [bne_iff_ne]; omega
                  have hv : Hid ((!q) = true) := by show _ = _; rw [HQ.out]; rw [F, decide_eq_false hc]; try rfl
                  clear F
                  clear hk0 he0 hsc
                  simp only [List.append]
                  go_wp2_with fail
                  go_meet
                  exact ⟨by first | (rw [hv.out]; done) | (rw [hv.out]; exact congrArg Value.bool (decide_eq_false (by omega))) | (rw [hv.out]; exact congrArg Value.bool (decide_eq_true (by omega))), rfl⟩
            · as_aux_lemma =>
                subst hk
                have F := enough_facts (k := 6) (n := ps.length) (b := b) rfl
                have F := F.2.1 rfl
                by_cases hc : 1 ≤ ps.length
                · have hi1 : (1 : Int) ≤ (ps.length : Int) := by omega
                  cases b
                  · have hv : Hid ((!q) = true) := by show _ = _; rw [HQ.out]; rw [F]; simp
                    clear F
                    clear hk0 he0 hsc
                    simp only [List.append]
                    go_wp2_with fail
                    go_meet
                    exact ⟨by first | (rw [hv.out]; done) | (rw [hv.out]; exact congrArg Value.bool (decide_eq_false (by omega))) | (rw [hv.out]; exact congrArg Value.bool (decide_eq_true (by omega))), rfl⟩
                  · have hv : Hid ((!q) = false) := by show _ = _; rw [HQ.out]; rw [F]; simp [hc]
                    clear F
                    clear hk0 he0 hsc
                    simp only [List.append]
                    go_wp2_with fail
                    go_meet
                    exact ⟨by first | (rw [hv.out]; done) | (rw [hv.out]; exact congrArg Value.bool (decide_eq_false (by omega))) | (rw [hv.out]; exact congrArg Value.bool (decide_eq_true (by omega))), rfl⟩
                · have hi1 : (ps.length : Int) < 1 := by omega
                  have hv : Hid ((!q) = true) := by show _ = _; rw [HQ.out]; rw [F]; simp [hc]
                  clear F
                  clear hk0 he0 hsc
                  simp only [List.append]
                  go_wp2_with fail
                  go_meet
                  exact ⟨by first | (rw [hv.out]; done) | (rw [hv.out]; exact congrArg Value.bool (decide_eq_false (by omega))) | (rw [hv.out]; exact congrArg Value.bool (decide_eq_true (by omega))), rfl⟩
            · as_aux_lemma =>
                subst hk
                have F := enough_facts (k := 7) (n := ps.length) (b := b) rfl
                have F := F.2.2.1 (by decide)
                by_cases hc : 2 ≤ ps.length
                · have hi1 : (2 : Int) ≤ (ps.length : Int) := by omega
                  have hv : Hid ((!q) = false) := by show _ = _; rw [HQ.out]; rw [F, decide_eq_true hc]; try rfl
                  clear F
                  clear hk0 he0 hsc
                  simp only [List.append]
                  go_wp2_with fail
                  go_meet
                  exact ⟨by first | (rw [hv.out]; done) | (rw [hv.out]; exact congrArg Value.bool (decide_eq_false (by omega))) | (rw [hv.out]; exact congrArg Value.bool (decide_eq_true (by omega))), rfl⟩
                · have hi1 : (ps.length : Int) < 2 := by omega
                  have hv : Hid ((!q) = true) := by show _ = _; rw [HQ.out]; rw [F, decide_eq_false hc]; try rfl
                  clear F
                  clear hk0 he0 hsc
                  simp only [List.append]
                  go_wp2_with fail
                  go_meet
                  exact ⟨by first | (rw [hv.out]; done) | (rw [hv.out]; exact congrArg Value.bool (decide_eq_false (by omega))) | (rw [hv.out]; exact congrArg Value.bool (decide_eq_true (by omega))), rfl⟩
            · as_aux_lemma =>
                subst hk
                have F := enough_facts (k := 8) (n := ps.length) (b := b) rfl
                have F := F.2.2.1 (by decide)
                by_cases hc : 2 ≤ ps.length
                · have hi1 : (2 : Int) ≤ (ps.length : Int) := by omega
                  have hv : Hid ((!q) = false) := by show _ = _; rw [HQ.out]; rw [F, decide_eq_true hc]; try rfl
                  clear F
                  clear hk0 he0 hsc
                  simp only [List.append]
                  go_wp2_with fail
                  go_meet
                  exact ⟨by first | (rw [hv.out]; done) | (rw [hv.out]; exact congrArg Value.bool (decide_eq_false (by omega))) | (rw [hv.out]; exact congrArg Value.bool (decide_eq_true (by omega))), rfl⟩
                · have hi1 : (ps.length : Int) < 2 := by omega
                  have hv : Hid ((!q) = true) := by show _ = _; rw [HQ.out]; rw [F, decide_eq_false hc]; try rfl
                  clear F
                  clear hk0 he0 hsc
                  simp only [List.append]
                  go_wp2_with fail
                  go_meet
                  exact ⟨by first | (rw [hv.out]; done) | (rw [hv.out]; exact congrArg Value.bool (decide_eq_false (by omega))) | (rw [hv.out]; exact congrArg Value.bool (decide_eq_true (by omega))), rfl⟩
            · as_aux_lemma =>
                subst hk
                have F := enough_facts (k := 9) (n := ps.length) (b := b) rfl
                have F := F.2.2.2.2 (by decide)
                by_cases hc : ps.length = 0
                · have hi1 : (ps.length : Int) ≤ 0 := by omega
                  have hv : Hid ((!q) = false) := by show _ = _; rw [HQ.out]; rw [F, decide_eq_true hc]; try rfl
                  clear F hc
                  clear hk0 he0 hsc
                  simp only [List.append]
                  go_wp2_with fail
                  go_meet
                  exact ⟨by first | (rw [hv.out]; done) | (rw [hv.out]; exact congrArg Value.bool (decide_eq_false (by omega))) | (rw [hv.out]; exact congrArg Value.bool (decide_eq_true (by omega))), rfl⟩
                · have hi1 : (0 : Int) < (ps.length : Int) := by omega
                  have hv : Hid ((!q) = true) := by show _ = _; rw [HQ.out]; rw [F, decide_eq_false hc]; try rfl
                  clear F
                  clear hk0 he0 hsc
                  simp only [List.append]
                  go_wp2_with fail
                  go_meet
                  exact ⟨by first | (rw [hv.out]; done) | (rw [hv.out]; exact congrArg Value.bool (decide_eq_false (by omega))) | (rw [hv.out]; exact congrArg Value.bool (decide_eq_true (by omega))), rfl⟩
          case rest =>
            obtain ⟨rfl, hwx⟩ := hcut
            have hwx := hwx.symm
            subst hwx
            have hsc := HSC.out
            cases hqq : q
            · have he : enoughB kk ps.length b = false := HQ.out.symm.trans hqq
              as_aux_lemma =>
                have hf : Hid (parseC (s :: l) = none) := parseC_few (by rw [← HKK.out]; exact hk0) (by rw [← HKK.out]; exact hsc) (by rw [← HKK.out]; exact he)
                have hZ2 := HZ.out
                have hE2 := hE
                clear he hsc hqq
                obtain ⟨z0, z1, z2, z3, z4, z5⟩ := CmdAt.cells hZ2
                have hzF := CmdAt.frz hZ2
                have hzl := Has.lt hZ2
                go_wp2_with fail
                (try simp only [Exit.inBlock, Exit.then])
                refine bodyPost_ret (resC _ rfl _ _ w.heap.size ZC (.int .i64 1) rfl rfl (Has.put6 hZ2 _ _ _ _ _ _) (cmd_size _ _ _ _ _ _)) rfl ?_
                exact PR.bad hf rfl (hE2.put6 (Nat.le_refl _) _ _ _ _ _ _)
            · have he : enoughB kk ps.length b = true := HQ.out.symm.trans hqq
              by_cases h5 : kk = 5
              · subst h5
                clear hqq hk0 he0
                as_aux_lemma =>
                  obtain ⟨p, q, rfl⟩ := two_of (enough_5 he)
                  rcases HT.out with h | ⟨g, og, rfl, hg, hcs⟩
                  · cases h
                  have hp0 : wr.cell? ⟨g, og, none⟩ = some (.string (bs p)) := hcs 0 (by simp)
                  have hq0 : wr.cell? ⟨g, og + 1, none⟩ = some (.string (bs q)) := hcs 1 (by simp)
                  have HSC : Hid (scan (kindN s) l false [] false false = some ([p, q], b, d)) := by show _ = _; rw [← HKK.out]; exact hsc
                  have HK5 : Hid (kindN s = 5) := HKK.out.symm
                  obtain ⟨a, pa, ha, ha2⟩ := pv_cases p
                  obtain ⟨u, pu, hu, hu2⟩ := pv_cases q
                  have HP1 := rparse_any (bs p) wr
                  rw [bs_data, ha] at HP1
                  have HP1 := Lib.hid HP1
                  clear he hcs hsc c2 c3 c4 c5
                  go_wp2_with fail
                  refine (HP1.out).mono ?_
                  rintro e w3 ⟨rfl, b3⟩
                  have hC3 := Has.ext HC.out b3
                  have hc1 := (b3.cell (o := 1) (Has.lt HC.out)).trans c1
                  have hq3 := (b3.cell (o := og + 1) hg).trans hq0
                  have hg3 : g < w3.heap.size := by have := b3.size; omega
                  have HP2 := rparse_any (bs q) w3
                  rw [bs_data, hu] at HP2
                  have HP2 := Lib.hid HP2
                  have HA1 := Lib.hid ha2
                  have HU1 := Lib.hid hu2
                  clear c0 c1 hp0 hq0 ha hu ha2 hu2
                  go_wp2_with fail
                  refine (HP2.out).mono ?_
                  rintro e w4 ⟨rfl, b4⟩
                  have hC4 := Has.ext hC3 b4
                  have hZ2 := (HZ.out.ext b3).ext b4
                  have hE2 := (hE.trans b3).trans b4
                  obtain ⟨c0, c1, c2, c3, c4, c5⟩ := CmdAt.cells hC4
                  obtain ⟨z0, z1, z2, z3, z4, z5⟩ := CmdAt.cells hZ2
                  have hzF := CmdAt.frz hZ2
                  have hcF := CmdAt.frz hC4
                  have hzl := Has.lt hZ2
                  have hcl := Has.lt hC4
                  clear hc1 hq3
                  cases pa
                  · have hf : Hid (parseC (s :: l) = none) := parseC_noage (x := p) (y := q) (b := b) (d := d) HSC.out HK5.out (by
                      rintro ⟨a1, q1, h1, h2⟩
                      rcases HA1.out with ⟨h, _⟩ | ⟨_, h⟩
                      · cases h
                      · exact h a1 h1.1 h1.2.2)
                    go_wp2_with fail
                    (try simp only [Exit.inBlock, Exit.then])
                    refine bodyPost_ret (resC _ rfl _ _ w.heap.size ZC (.int .i64 1) rfl rfl (Has.put6 hZ2 _ _ _ _ _ _) (cmd_size _ _ _ _ _ _)) rfl ?_
                    exact PR.bad hf rfl (hE2.put6 (Nat.le_refl _) _ _ _ _ _ _)
                  · cases pu
                    · have hf : Hid (parseC (s :: l) = none) := parseC_noage (x := p) (y := q) (b := b) (d := d) HSC.out HK5.out (by
                        rintro ⟨a1, q1, h1, h2⟩
                        rcases HU1.out with ⟨h, _⟩ | ⟨_, h⟩
                        · cases h
                        · exact h q1 h2.1 h2.2.2)
                      go_wp2_with fail
                      (try simp only [Exit.inBlock, Exit.then])
                      refine bodyPost_ret (resC _ rfl _ _ w.heap.size ZC (.int .i64 1) rfl rfl (Has.put6 hZ2 _ _ _ _ _ _) (cmd_size _ _ _ _ _ _)) rfl ?_
                      exact PR.bad hf rfl (hE2.put6 (Nat.le_refl _) _ _ _ _ _ _)
                    · obtain ⟨hA1, hA2⟩ : I64 a ∧ decI a = p := by
                        rcases HA1.out with ⟨_, h⟩ | ⟨h, _⟩
                        · exact h
                        · cases h
                      obtain ⟨hU1, hU2⟩ : I64 u ∧ decI u = q := by
                        rcases HU1.out with ⟨_, h⟩ | ⟨h, _⟩
                        · exact h
                        · cases h
                      have HAD := Lib.hid hA2
                      have HUD := Lib.hid hU2
                      clear hA2 hU2
                      by_cases ha0 : a < 0
                      · have hf : Hid (parseC (s :: l) = none) := parseC_noage (x := p) (y := q) (b := b) (d := d) HSC.out HK5.out (by
                          rintro ⟨a1, q1, h1, h2⟩
                          have := decI_inj h1.1 hA1 (h1.2.2.trans HAD.out.symm)
                          have := h1.2.1; omega)
                        go_wp2_with fail
                        (try simp only [Exit.inBlock, Exit.then])
                        refine bodyPost_ret (resC _ rfl _ _ w.heap.size ZC (.int .i64 1) rfl rfl (Has.put6 hZ2 _ _ _ _ _ _) (cmd_size _ _ _ _ _ _)) rfl ?_
                        exact PR.bad hf rfl (hE2.put6 (Nat.le_refl _) _ _ _ _ _ _)
                      · by_cases hu0 : u < 0
                        · have hf : Hid (parseC (s :: l) = none) := parseC_noage (x := p) (y := q) (b := b) (d := d) HSC.out HK5.out (by
                            rintro ⟨a1, q1, h1, h2⟩
                            have := decI_inj h2.1 hU1 (h2.2.2.trans HUD.out.symm)
                            have := h2.2.1; omega)
                          go_wp2_with fail
                          (try simp only [Exit.inBlock, Exit.then])
                          refine bodyPost_ret (resC _ rfl _ _ w.heap.size ZC (.int .i64 1) rfl rfl (Has.put6 hZ2 _ _ _ _ _ _) (cmd_size _ _ _ _ _ _)) rfl ?_
                          exact PR.bad hf rfl (hE2.put6 (Nat.le_refl _) _ _ _ _ _ _)
                        · have hf : Hid (parseC (s :: l) = some ⟨5, [], b, d, a, u⟩) := parseC_age (x := p) (y := q) HSC.out HK5.out ⟨hA1, by omega, HAD.out⟩ ⟨hU1, by omega, HUD.out⟩
                          obtain ⟨V1, hV1⟩ : ∃ W, W = w4.setCell ⟨w1.heap.size, 4, none⟩ (.int .i64 a) := ⟨_, rfl⟩
                          have d1 : CmdAt V1 w1.heap.size (5 : Nat) (.slice (some ⟨g, og, none⟩) 2 cap') b d a 0 := by rw [hV1]; exact Has.set hC4 4 _
                          have e1 := d1.cells
                          have f1 := d1.frz
                          have l1 := Has.lt d1
                          have E1' : Ext w V1 := by rw [hV1]; exact hE2.setCell (by show w.heap.size ≤ w1.heap.size; omega) _
                          have Z1' : Has V1 w.heap.size (.cells ZC 62) := by rw [hV1]; exact hZ2.other (by omega) _
                          obtain ⟨V2, hV2⟩ : ∃ W, W = V1.setCell ⟨w1.heap.size, 5, none⟩ (.int .i64 u) := ⟨_, rfl⟩
                          have d2 : CmdAt V2 w1.heap.size (5 : Nat) (.slice (some ⟨g, og, none⟩) 2 cap') b d a u := by rw [hV2]; exact Has.set d1 5 _
                          have e2 := d2.cells
                          have f2 := d2.frz
                          have l2 := Has.lt d2
                          have E2' : Ext w V2 := by rw [hV2]; exact E1'.setCell (by show w.heap.size ≤ w1.heap.size; omega) _
                          have Z2' : Has V2 w.heap.size (.cells ZC 62) := by rw [hV2]; exact Z1'.other (by omega) _
                          obtain ⟨V3, hV3⟩ : ∃ W, W = V2.setCell ⟨w1.heap.size, 1, none⟩ (.slice none 0 0) := ⟨_, rfl⟩
                          have d3 : CmdAt V3 w1.heap.size (5 : Nat) (.slice none 0 0) b d a u := by rw [hV3]; exact Has.set d2 1 _
                          have E3' : Ext w V3 := by rw [hV3]; exact E2'.setCell (by show w.heap.size ≤ w1.heap.size; omega) _
                          have Z3' : Has V3 w.heap.size (.cells ZC 62) := by rw [hV3]; exact Z2'.other (by omega) _
                          have l3 := Has.lt d3
                          have HV1 := Lib.hid hV1
                          have HV2 := Lib.hid hV2
                          have HV3 := Lib.hid hV3
                          clear hV1 hV2 hV3 z0 z1 z2 z3 z4 z5
                          obtain ⟨x0, x1, x2, x3, x4, x5⟩ := CmdAt.cells d3
                          obtain ⟨z0, z1, z2, z3, z4, z5⟩ := CmdAt.cells Z3'
                          have hzF3 := CmdAt.frz Z3'
                          have hzl3 := Has.lt Z3'
                          obtain ⟨y0, y1, y2, y3, y4, y5⟩ := e1
                          obtain ⟨v0, v1, v2, v3, v4, v5⟩ := e2
                          go_wp2_with (first | rw [← HV1.out] | rw [← HV2.out] | rw [← HV3.out])
                          refine bodyPost_ret (resC _ rfl _ _ w.heap.size _ (.int .i64 0) rfl rfl (Has.put6 Z3' _ _ _ _ _ _) (cmd_size _ _ _ _ _ _)) rfl ?_
                          exact PR.good hf rfl (World.ownsRow_nil _ _ _ _) (E3'.put6 (Nat.le_refl _) _ _ _ _ _ _)
              · have hf : Hid (parseC (s :: l) = some ⟨kk, ps, b, d, 0, 0⟩) := by
                  have h := parseC_some (s := s) (l := l) (ps := ps) (b := b) (d := d) (by rw [← HKK.out]; exact hk0) (by rw [← HKK.out]; exact hsc) (by rw [← HKK.out]; exact he) (by rw [← HKK.out]; exact h5)
                  rw [← HKK.out] at h; exact h
                have e5 : ((kk : Int) == 5) = false := by rw [beq_eq_false_iff_ne]; omega
                clear he hsc hqq h5
                have hP := Lib.hid (OwnT.put6 HO.out HZ.out (by decide) (.int .i64 kk) (.slice A' ps.length cap') (.bool b) (.bool d) (.int .i64 0) (.int .i64 0))
                have hZ2 := HZ.out
                obtain ⟨z0, z1, z2, z3, z4, z5⟩ := CmdAt.cells hZ2
                have hzF := CmdAt.frz hZ2
                have hzl := Has.lt hZ2
                go_wp2_with fail
                refine bodyPost_ret (resC _ rfl _ _ w.heap.size _ (.int .i64 0) rfl rfl (Has.put6 hZ2 _ _ _ _ _ _) (cmd_size _ _ _ _ _ _)) rfl ?_
                exact PR.good hf rfl hP.out (hE.put6 (Nat.le_refl _) _ _ _ _ _ _)
end Go.Proofs.YtmppjbimdonfmaaDoor
