/- Layer 46 (args): the program's Parse. -/
import Derived.Test.YtmppjbimdonfmaaDoorArgZ
namespace Go.Proofs.YtmppjbimdonfmaaDoor
open Go.ChangeShapes Go.WideShapes Go.ChangeAt Go.RowKit

theorem resC (fn : Func) (h : fn.results = #[.cell 2 62, .tmp 3]) (tmps : Array Value) (w : World) (g : Nat) (cs : Array Value) (v : Value) (hp : tmps.getD 2 undef = .pointer (some ⟨g, 0, none⟩)) (hv : tmps.getD 3 undef = v) (hg : Has w g (.cells cs 62)) (hi : (Tryd.prog.info? 62).map (·.size) = some cs.size) :
    (results fn tmps).run Tryd.prog w = .ok (.tuple #[.agg cs, v]) w :=
  res_cell_tmp h tmps w g _ cs _ v hp hv hg Tryd.underlying62 rfl hi
theorem cmd_size (k : Int) (v : Value) (b d : Bool) (a q : Int) : (Tryd.prog.info? 62).map (·.size) = some (cmdC k v b d a q).size := by
  have h : (Tryd.prog.info? 62).map (·.size) = some 6 := by kernel_rfl
  exact h
def put6 (w : World) (b : Nat) (v0 v1 v2 v3 v4 v5 : Value) : World :=
  (((((w.setCell ⟨b, 0, none⟩ v0).setCell ⟨b, 1, none⟩ v1).setCell ⟨b, 2, none⟩ v2).setCell ⟨b, 3, none⟩ v3).setCell ⟨b, 4, none⟩ v4).setCell ⟨b, 5, none⟩ v5
theorem Has.put6 {w : World} {b : Nat} {u0 u1 u2 u3 u4 u5 : Value} {t : TypeId} {fr : Nat × Nat} (h : Has w b (.cells #[u0, u1, u2, u3, u4, u5] t fr)) (v0 v1 v2 v3 v4 v5 : Value) : Has (put6 w b v0 v1 v2 v3 v4 v5) b (.cells #[v0, v1, v2, v3, v4, v5] t fr) :=
  (((((h.set 0 v0).set 1 v1).set 2 v2).set 3 v3).set 4 v4).set 5 v5
theorem Ext.put6 {a w : World} (h : Ext a w) {b : Nat} (hp : a.heap.size ≤ b) (v0 v1 v2 v3 v4 v5 : Value) : Ext a (put6 w b v0 v1 v2 v3 v4 v5) :=
  (((((h.setCell hp v0).setCell hp v1).setCell hp v2).setCell hp v3).setCell hp v4).setCell hp v5
theorem OwnT.put6 {w : World} {base B : Nat} {v : Value} {l : List Txt} {u0 u1 u2 u3 u4 u5 : Value} {t : TypeId} {fr : Nat × Nat} (h : OwnT w base v l) (hb : Has w B (.cells #[u0, u1, u2, u3, u4, u5] t fr)) (ht : t ≠ 9) (v0 v1 v2 v3 v4 v5 : Value) : OwnT (put6 w B v0 v1 v2 v3 v4 v5) base v l := by
  have h0 := h.set (i := 0) hb ht v0
  have b0 := hb.set 0 v0
  have h1 := h0.set (i := 1) b0 ht v1
  have b1 := b0.set 1 v1
  have h2 := h1.set (i := 2) b1 ht v2
  have b2 := b1.set 2 v2
  have h3 := h2.set (i := 3) b2 ht v3
  have b3 := b2.set 3 v3
  have h4 := h3.set (i := 4) b3 ht v4
  have b4 := b3.set 4 v4
  exact h4.set (i := 5) b4 ht v5
abbrev ZC : Array Value := #[.int .i64 0, .slice none 0 0, .bool false, .bool false, .int .i64 0, .int .i64 0]
theorem Has.other {w : World} {b B i : Nat} {o : Obj} (h : Has w b o) (hne : b ≠ B) (v : Value) : Has (w.setCell ⟨B, i, none⟩ v) b o := (setCell_block w ⟨B, i, none⟩ v b hne).trans h
theorem from_one (bl o n m cap : Nat) (h0 : n = m + 1) (hc : n ≤ cap) : ∃ X : Addr, (∀ W, (Instr.slice 24 (.slice (some ⟨bl, o, none⟩) n cap) (some (.int .i64 1)) none none).run Tryd.prog W = .ok (.slice (some X) m (cap - 1)) W) ∧ (0 < m → X = ⟨bl, o + 1, none⟩) := by
  have h4 : n - 1 = m := by omega
  have hu := Tryd.underlying24
  have h1 : (1 : Int) ≤ n := by omega
  have hi : (Tryd.prog.info? 9).map (·.size) = some 1 := by kernel_rfl
  by_cases h : cap = 1
  · refine ⟨⟨bl, o, none⟩, fun W => ?_, fun h2 => by omega⟩
    subst h
    go_simp
    intro h; omega
  · refine ⟨⟨bl, o + 1, none⟩, fun W => ?_, fun _ => rfl⟩
    go_simp
    intro h; omega
theorem pv_cases (x : Txt) : ∃ n p, parseV x = .tuple #[.int .i64 n, .bool p] ∧ ((p = true ∧ I64 n ∧ decI n = x) ∨ (p = false ∧ ∀ n, I64 n → decI n ≠ x)) := by
  by_cases h : ∃ n, I64 n ∧ decI n = x
  · obtain ⟨n, h1, h2⟩ := h
    exact ⟨n, true, parseV_yes h1 h2, .inl ⟨rfl, h1, h2⟩⟩
  · have h2 : ∀ n, I64 n → decI n ≠ x := fun n h1 h2 => h ⟨n, h1, h2⟩
    exact ⟨0, false, parseV_no h2, .inr ⟨rfl, h2⟩⟩
theorem bs_data (x : Txt) : (bs x).data.toList = x := by simp [bs]
set_option maxRecDepth 100000 in
set_option maxHeartbeats 16000000 in
theorem pparseC_any (A : Option Addr) (cap : Nat) (L : List Txt) (w : World) (hat : TxtAt w A L) (hN : NamesAt w) (hcap : L.length ≤ cap) (hlen : L.length ≤ 1000) : Calls Tryd.prog 63 #[.slice A L.length cap] w (PR w (parseC L)) := by
  cases L with
  | nil =>
    go_enter Tryd.func63, Tryd.ntmps63
    go_wp2_with fail
    refine bodyPost_ret (resC _ rfl _ _ w.heap.size ZC (.int .i64 1) rfl rfl (Has.new _ _) (cmd_size _ _ _ _ _ _)) rfl ?_
    exact PR.bad rfl rfl ((Ext.refl _).alloc _)
  | cons s l =>
    obtain ⟨bl, o, rfl, hb, h0⟩ := hat.at_ (Ext.refl w) 0 (by simp)
    have E0 : Ext w (w.alloc (.cells ZC 62)) := (Ext.refl _).alloc _
    have h0a : w.cell? ⟨bl, o, none⟩ = some (.string (bs s)) := h0
    have HK := Lib.hid (pkind_any s _ (hN.ext E0))
    have hZ0 := Has.new w (.cells ZC 62)
    obtain ⟨kk, hkk⟩ : ∃ kk, kk = kindN s := ⟨_, rfl⟩
    have hk9 := kindN_le s
    rw [← hkk] at HK hk9
    obtain ⟨n, hn⟩ : ∃ n, n = (s :: l).length := ⟨_, rfl⟩
    obtain ⟨m, hm⟩ : ∃ m, m = l.length := ⟨_, rfl⟩
    have hnl : n = m + 1 := by rw [hn, hm]; simp
    rw [← hn] at hcap hlen ⊢
    have hn0 : 0 < n := by omega
    have hm9 : m ≤ 999 := by omega
    obtain ⟨X, hsl, hX⟩ := from_one bl o n m cap hnl hcap
    have HKK := Lib.hid hkk
    have HX := Lib.hid hX
    have HN := Lib.hid hnl
    have HM := Lib.hid hm
    have hat2 := hat
    have HA := Lib.hid hat2
    clear hn hat2 hat hN h0 hkk hX hnl hm
    go_enter Tryd.func63, Tryd.ntmps63
    go_wp2_with fail
    refine (HK.out).mono ?_
    rintro e w1 ⟨rfl, b1⟩
    have hZ1 := hZ0.ext b1
    have E1 := E0.trans b1
    have hs1 := Has.lt hZ1
    clear hZ0
    obtain ⟨V, hV⟩ : ∃ V, V = w1.alloc (.cells (cmdC kk (.slice none 0 0) false false 0 0) 62) := ⟨_, rfl⟩
    have hC : CmdAt V w1.heap.size kk (.slice none 0 0) false false 0 0 := by rw [hV]; exact Has.new _ _
    have hZ : Has V w.heap.size (.cells ZC 62) := by rw [hV]; exact hZ1.alloc _
    have E2 : Ext w V := by rw [hV]; exact E1.alloc _
    obtain ⟨z0, z1, z2, z3, z4, z5⟩ := CmdAt.cells hZ
    obtain ⟨c0, c1, c2, c3, c4, c5⟩ := hC.cells
    have hzF := CmdAt.frz hZ
    have hzl := Has.lt hZ
    have hcl := Has.lt hC
    unfold cmdC at hV
    have HV := Lib.hid hV
    clear hV
    by_cases hk0 : kk = 0
    · have hf : Hid (parseC (s :: l) = none) := parseC_k0 l (by rw [← HKK.out]; exact hk0)
      have he0 : ((kk : Int) == 0) = true := by rw [hk0]; rfl
      clear hk0 c1 c2 c3 c4 c5
      go_wp2_with (rw [← HV.out])
      refine bodyPost_ret (resC _ rfl _ _ w.heap.size ZC (.int .i64 1) rfl rfl (Has.put6 hZ _ _ _ _ _ _) (cmd_size _ _ _ _ _ _)) rfl ?_
      exact PR.bad hf rfl (E2.put6 (Nat.le_refl _) _ _ _ _ _ _)
    · have he0 : ((kk : Int) == 0) = false := by rw [beq_eq_false_iff_ne]; omega
      clear z0 z1 z2 z3 z4 z5 c1 c2 c3 c4 c5 
      go_wp2_with (rw [← HV.out])
      clear c0 hzF hzl hcl
      obtain ⟨i0, hi, hi0, hi1, hi2⟩ := info_parts infoStr
      go_loopw [5, 28] (fun ov i wr => ∃ (j : Nat) (over : Bool) (ps : List Txt) (b d : Bool) (v : Value), j ≤ m ∧ i = .int .i64 j ∧ ov = .bool over ∧ CmdAt wr w1.heap.size kk v b d 0 0 ∧ OwnT wr w.heap.size v ps ∧ Hid (scan kk (l.drop j) over ps b d = scan kk l false [] false false) ∧ ps.length ≤ j ∧ Has wr w.heap.size (.cells ZC 62) ∧ Ext w wr) (fun _ i _ => m - (intOf i).toNat)
      case atStart => exact ⟨0, false, [], false, false, .slice none 0 0, Nat.zero_le _, rfl, rfl, hC, World.ownsRow_nil _ _ _ _, rfl, Nat.le_refl _, hZ, E2⟩
      case round =>
        clear hC hZ E2 HV HK E0
        obtain ⟨j, over, ps, b, d, v, hj, rfl, rfl, hC, hO, hS, hpl, hZ, hE⟩ := hrel
        have hbl := hE.size
        by_cases hlt : (j : Int) < m
        · have hjm : j < m := by omega
          have hjl : j < l.length := by rw [← HM.out]; exact hjm
          obtain rfl := HX.out (by omega)
          obtain ⟨b', o', hAe, hbb, hcx0⟩ := HA.out.at_ hE (j + 1) (by simp; omega)
          injection hAe with hAe
          injection hAe with hAe1 hAe2
          subst hAe1; subst hAe2
          have hcx : wr.cell? ⟨bl, o + (j + 1), none⟩ = some (.string (bs l[j])) := hcx0
          rw [show o + (j + 1) = o + 1 + j by omega] at hcx
          obtain ⟨x, hx⟩ : ∃ x, x = l[j] := ⟨_, rfl⟩
          have hdk : l.drop j = x :: l.drop (j + 1) := by rw [hx]; exact List.drop_eq_getElem_cons hjl
          rw [← hx] at hcx
          have hsc := hS.out
          rw [hdk] at hsc
          have y1 : (bs x).size = x.length := bs_size x
          have hwk : IntKind.i64.wrap ((j : Int) + 1) = j + 1 := wrap_i64_in (by omega) (by omega)
          have hC1 := Lib.hid hC
          have hZ1' := Lib.hid hZ
          have hlC := Has.lt hC
          obtain ⟨c0, c1, c2, c3, c4, c5⟩ := hC.cells
          have hO' : wr.ownsRow w.heap.size 9 1 v ps.length (txtCells ps) := hO
          have hbne := row_ne hO' hC (by decide)
          have HB := Lib.hid hbne
          clear hcx0 hS hx hdk hO hjl hbne
          by_cases ho : over = true
          · subst ho
            have hop : opB true x = true := by simp [opB]
            rw [scan, if_pos hop] at hsc
            have HW := Lib.hid hsc
            clear hop hsc c0 c2 c3 c4 c5 hC hZ
            go_wp2_with (at_builtin; refine wpList_append_own _ rfl _ _ 24 rfl w.heap.size 9 i0 (.string ⟨#[]⟩) 1 16 Tryd.underlying24 hi hi0 hi1 hi2 rfl (by decide) _ _ _ rfl (hO'.alloc _) ⟨wr.heap.size, 0, none⟩ 1 1 (txtCells [x]) rfl rfl (txt_news wr x) (txtCells_one [x]) (by unfold maxLen; omega) (by omega) (by have := hE.size; simp; omega) ?_)
            intro v' w2 hown2 hgrow _
            obtain ⟨ho2, hE2⟩ := txt_app hO' hE hown2 hgrow
            obtain ⟨A2, cap2, rfl, _, _, _, _⟩ := ho2.at_
            have hC2 : CmdAt w2 w1.heap.size kk v b d 0 0 := Has.grown (hC1.out.alloc _) hgrow HB.out
            have hZ2 : Has w2 w.heap.size (.cells ZC 62) := Has.grown (hZ1'.out.alloc _) hgrow (row_ne hO' hZ1'.out (by decide))
            obtain ⟨c0, c1, c2, c3, c4, c5⟩ := hC2.cells
            have hfz := hC2.frz 1
            have HO : Hid (OwnT w2 w.heap.size (.slice A2 (ps.length + 1) cap2) (ps ++ [x])) := by have h := ho2; rw [show (ps ++ [x]).length = ps.length + 1 by simp] at h; exact h
            have HC2 := Lib.hid hC2
            clear hown2 hgrow hO' ho2 c0 c2 c3 c4 c5 hC2
            go_wp2_with fail
            go_roundw
            case rel => exact ⟨j + 1, true, ps ++ [x], b, d, _, by omega, by go_num, rfl, HC2.out.set1 _, OwnT.set HO.out HC2.out (by decide) _, HW.out, by simp; omega, hZ2.other (by omega) _, hE2.setCell (by show w.heap.size ≤ w1.heap.size; omega) _⟩
            case measure => simp [intOf]; omega
          · obtain rfl : over = false := by cases over <;> simp_all
            clear ho
            by_cases h2 : x.length < 2
            · have h2i : (x.length : Int) < 2 := by omega
              have hop : opB false x = true := by simp [opB, h2]
              rw [scan, if_pos hop] at hsc
              have HW := Lib.hid hsc
              clear hop hsc c0 c2 c3 c4 c5 hC hZ
              go_wp2_with (at_builtin; refine wpList_append_own _ rfl _ _ 24 rfl w.heap.size 9 i0 (.string ⟨#[]⟩) 1 16 Tryd.underlying24 hi hi0 hi1 hi2 rfl (by decide) _ _ _ rfl (hO'.alloc _) ⟨wr.heap.size, 0, none⟩ 1 1 (txtCells [x]) rfl rfl (txt_news wr x) (txtCells_one [x]) (by unfold maxLen; omega) (by omega) (by have := hE.size; simp; omega) ?_)
              intro v' w2 hown2 hgrow _
              obtain ⟨ho2, hE2⟩ := txt_app hO' hE hown2 hgrow
              obtain ⟨A2, cap2, rfl, _, _, _, _⟩ := ho2.at_
              have hC2 : CmdAt w2 w1.heap.size kk v b d 0 0 := Has.grown (hC1.out.alloc _) hgrow HB.out
              have hZ2 : Has w2 w.heap.size (.cells ZC 62) := Has.grown (hZ1'.out.alloc _) hgrow (row_ne hO' hZ1'.out (by decide))
              obtain ⟨c0, c1, c2, c3, c4, c5⟩ := hC2.cells
              have hfz := hC2.frz 1
              have HO : Hid (OwnT w2 w.heap.size (.slice A2 (ps.length + 1) cap2) (ps ++ [x])) := by have h := ho2; rw [show (ps ++ [x]).length = ps.length + 1 by simp] at h; exact h
              have HC2 := Lib.hid hC2
              clear hown2 hgrow hO' ho2 c0 c2 c3 c4 c5 hC2
              go_wp2_with fail
              go_roundw
              case rel => exact ⟨j + 1, false, ps ++ [x], b, d, _, by omega, by go_num, rfl, HC2.out.set1 _, OwnT.set HO.out HC2.out (by decide) _, HW.out, by simp; omega, hZ2.other (by omega) _, hE2.setCell (by show w.heap.size ≤ w1.heap.size; omega) _⟩
              case measure => simp [intOf]; omega
            · have h2i : (2 : Int) ≤ (x.length : Int) := by omega
              have h0s : 0 < (bs x).size := by omega
              have hg : (bs x)[0] = x[0]'(by omega) := bs_get x 0 h0s (by omega)
              have hh : x.head? = some (x[0]'(by omega)) := by cases x with | nil => simp at h2 | cons a t => rfl
              obtain ⟨c, hc⟩ : ∃ c, c = x[0]'(by omega) := ⟨_, rfl⟩
              rw [← hc] at hg hh
              have h00 : (0 : Int) < (x.length : Int) := by omega
              have e45 : (((bs x)[0].toNat : Int) != 45) = (c != 45) := by rw [hg]; exact congrArg Bool.not (u8_eq (c := c) (d := 45))
              have HG := Lib.hid hg
              clear hc hg
              by_cases h45 : c = 45
              · rw [show (c != 45) = false from by rw [h45]; rfl] at e45
                have hhd : (x.head? == some 45) = true := by rw [hh, h45]; rfl
                have hop : opB false x = false := by simp [opB, h2, hhd]
                rw [scan, if_neg (by rw [hop]; decide)] at hsc
                have hO : OwnT wr w.heap.size v ps := hO'
                have tS : ((bs x).toList == [45, 45]) = (x == wS) := by rw [bs_toList]; rfl
                have hopt := option_any w1.heap.size kk v b d 0 0 x wr hC1.out
                unfold OptR at hopt
                have HC := Lib.hid hC
                have HZ := Lib.hid hZ
                have HOO := Lib.hid hO
                clear hh h45 hhd hop h2 c1 c2 c3 c4 c5 c0 hO hO' hC hZ
                by_cases hs2 : x = wS
                · rw [if_pos hs2] at hsc
                  have HW := Lib.hid hsc
                  rw [show (x == wS) = true from by rw [hs2]; rfl] at tS
                  clear hs2 hsc hopt
                  go_wp2_with fail
                  go_roundw
                  case rel => exact ⟨j + 1, true, ps, b, d, v, by omega, by go_num, rfl, HC.out, HOO.out, HW.out, by omega, HZ.out, hE⟩
                  case measure => simp [intOf]; omega
                · rw [if_neg hs2] at hsc
                  rw [show (x == wS) = false from beq_eq_false_iff_ne.2 hs2] at tS
                  clear hs2
                  by_cases hbl2 : x = wB ∨ x = wL
                  · simp only [if_pos hbl2] at hopt
                    have hZ2 := Has.other (i := 2) HZ.out (show w.heap.size ≠ w1.heap.size by omega) (.bool true)
                    have hE2 : Ext w (wr.setCell ⟨w1.heap.size, 2, none⟩ (.bool true)) := hE.setCell (by show w.heap.size ≤ w1.heap.size; omega) _
                    have hO2 := OwnT.set (i := 2) HOO.out HC.out (by decide) (.bool true)
                    by_cases hf : fileB kk = true
                    · have h68 : 6 ≤ kk ∧ kk ≤ 8 := by have := of_decide_eq_true hf; omega
                      rw [if_pos ⟨hbl2, h68⟩] at hsc
                      rw [hf] at hopt
                      have HW := Lib.hid hsc
                      have HO2 := Lib.hid hopt
                      have HP := Lib.hid hO2
                      have HZ2 := Lib.hid hZ2
                      clear hbl2 hsc hf h68 hopt hO2 hZ2
                      go_wp2_with fail
                      refine (HO2.out).mono ?_
                      rintro e w2 ⟨rfl, rfl⟩
                      go_wp2_with fail
                      go_roundw
                      case rel => exact ⟨j + 1, false, ps, true, d, v, by omega, by go_num, rfl, HC.out.set2 true, HP.out, HW.out, by omega, HZ2.out, hE2⟩
                      case measure => simp [intOf]; omega
                    · have h68 : ¬ (6 ≤ kk ∧ kk ≤ 8) := fun h => hf (decide_eq_true (by omega))
                      have hxr : x ≠ wR := by rintro rfl; rcases hbl2 with h | h <;> exact absurd h (by decide)
                      rw [if_neg (fun h => h68 h.2), if_neg (fun h => hxr h.1)] at hsc
                      have hff : fileB kk = false := by simpa using hf
                      rw [hff] at hopt
                      have hf : Hid (parseC (s :: l) = none) := parseC_scan (by rw [← HKK.out]; exact hk0) (by rw [← HKK.out]; exact hsc.symm)
                      have HO2 := Lib.hid hopt
                      clear hsc hff h68 hxr hopt hbl2 hO2
                      go_wp2_with fail
                      refine (HO2.out).mono ?_
                      rintro e w2 ⟨rfl, hw2⟩
                      rw [← hw2] at hZ2 hE2
                      clear hw2
                      obtain ⟨z0, z1, z2, z3, z4, z5⟩ := CmdAt.cells hZ2
                      have hzF := CmdAt.frz hZ2
                      have hzl := Has.lt hZ2
                      go_wp2_with fail
                      (try simp only [Exit.inBlock, Exit.then])
                      refine bodyPost_ret (resC _ rfl _ _ w.heap.size ZC (.int .i64 1) rfl rfl (Has.put6 hZ2 _ _ _ _ _ _) (cmd_size _ _ _ _ _ _)) rfl ?_
                      exact PR.bad hf rfl (hE2.put6 (Nat.le_refl _) _ _ _ _ _ _)
                  · simp only [if_neg hbl2] at hopt
                    rw [if_neg (fun h => hbl2 h.1)] at hsc
                    by_cases hxr : x = wR
                    · simp only [if_pos hxr] at hopt
                      have hZ2 := Has.other (i := 3) HZ.out (show w.heap.size ≠ w1.heap.size by omega) (.bool true)
                      have hE2 : Ext w (wr.setCell ⟨w1.heap.size, 3, none⟩ (.bool true)) := hE.setCell (by show w.heap.size ≤ w1.heap.size; omega) _
                      have hO2 := OwnT.set (i := 3) HOO.out HC.out (by decide) (.bool true)
                      by_cases h8 : kk = 8
                      · rw [if_pos ⟨hxr, h8⟩] at hsc
                        rw [decide_eq_true h8] at hopt
                        have HW := Lib.hid hsc
                        have HO2 := Lib.hid hopt
                        have HP := Lib.hid hO2
                        have HZ2 := Lib.hid hZ2
                        clear hbl2 hxr hsc h8 hopt hO2 hZ2
                        go_wp2_with fail
                        refine (HO2.out).mono ?_
                        rintro e w2 ⟨rfl, rfl⟩
                        go_wp2_with fail
                        go_roundw
                        case rel => exact ⟨j + 1, false, ps, b, true, v, by omega, by go_num, rfl, HC.out.set3 true, HP.out, HW.out, by omega, HZ2.out, hE2⟩
                        case measure => simp [intOf]; omega
                      · rw [if_neg (fun h => h8 h.2)] at hsc
                        rw [decide_eq_false h8] at hopt
                        have hf : Hid (parseC (s :: l) = none) := parseC_scan (by rw [← HKK.out]; exact hk0) (by rw [← HKK.out]; exact hsc.symm)
                        have HO2 := Lib.hid hopt
                        clear hsc hxr hopt hbl2 hO2 h8
                        go_wp2_with fail
                        refine (HO2.out).mono ?_
                        rintro e w2 ⟨rfl, hw2⟩
                        rw [← hw2] at hZ2 hE2
                        clear hw2
                        obtain ⟨z0, z1, z2, z3, z4, z5⟩ := CmdAt.cells hZ2
                        have hzF := CmdAt.frz hZ2
                        have hzl := Has.lt hZ2
                        go_wp2_with fail
                        (try simp only [Exit.inBlock, Exit.then])
                        refine bodyPost_ret (resC _ rfl _ _ w.heap.size ZC (.int .i64 1) rfl rfl (Has.put6 hZ2 _ _ _ _ _ _) (cmd_size _ _ _ _ _ _)) rfl ?_
                        exact PR.bad hf rfl (hE2.put6 (Nat.le_refl _) _ _ _ _ _ _)
                    · simp only [if_neg hxr] at hopt
                      rw [if_neg (fun h => hxr h.1)] at hsc
                      have hf : Hid (parseC (s :: l) = none) := parseC_scan (by rw [← HKK.out]; exact hk0) (by rw [← HKK.out]; exact hsc.symm)
                      have HO2 := Lib.hid hopt
                      have hZ2 := HZ.out
                      have hE2 := hE
                      clear hsc hxr hopt hbl2
                      go_wp2_with fail
                      refine (HO2.out).mono ?_
                      rintro e w2 ⟨rfl, hw2⟩
                      rw [← hw2] at hZ2 hE2
                      clear hw2
                      obtain ⟨z0, z1, z2, z3, z4, z5⟩ := CmdAt.cells hZ2
                      have hzF := CmdAt.frz hZ2
                      have hzl := Has.lt hZ2
                      go_wp2_with fail
                      (try simp only [Exit.inBlock, Exit.then])
                      refine bodyPost_ret (resC _ rfl _ _ w.heap.size ZC (.int .i64 1) rfl rfl (Has.put6 hZ2 _ _ _ _ _ _) (cmd_size _ _ _ _ _ _)) rfl ?_
                      exact PR.bad hf rfl (hE2.put6 (Nat.le_refl _) _ _ _ _ _ _)
              · rw [show (c != 45) = true from bne_iff_ne.2 h45] at e45
                have hhd : (x.head? == some 45) = false := by rw [hh]; simpa using h45
                clear hh h45
                have hop : opB false x = true := by simp [opB, hhd]
                rw [scan, if_pos hop] at hsc
                have HW := Lib.hid hsc
                clear hop hsc c0 c2 c3 c4 c5 hC hZ
                go_wp2_with (at_builtin; refine wpList_append_own _ rfl _ _ 24 rfl w.heap.size 9 i0 (.string ⟨#[]⟩) 1 16 Tryd.underlying24 hi hi0 hi1 hi2 rfl (by decide) _ _ _ rfl (hO'.alloc _) ⟨wr.heap.size, 0, none⟩ 1 1 (txtCells [x]) rfl rfl (txt_news wr x) (txtCells_one [x]) (by unfold maxLen; omega) (by omega) (by have := hE.size; simp; omega) ?_)
                intro v' w2 hown2 hgrow _
                obtain ⟨ho2, hE2⟩ := txt_app hO' hE hown2 hgrow
                obtain ⟨A2, cap2, rfl, _, _, _, _⟩ := ho2.at_
                have hC2 : CmdAt w2 w1.heap.size kk v b d 0 0 := Has.grown (hC1.out.alloc _) hgrow HB.out
                have hZ2 : Has w2 w.heap.size (.cells ZC 62) := Has.grown (hZ1'.out.alloc _) hgrow (row_ne hO' hZ1'.out (by decide))
                obtain ⟨c0, c1, c2, c3, c4, c5⟩ := hC2.cells
                have hfz := hC2.frz 1
                have HO : Hid (OwnT w2 w.heap.size (.slice A2 (ps.length + 1) cap2) (ps ++ [x])) := by have h := ho2; rw [show (ps ++ [x]).length = ps.length + 1 by simp] at h; exact h
                have HC2 := Lib.hid hC2
                clear hown2 hgrow hO' ho2 c0 c2 c3 c4 c5 hC2
                go_wp2_with fail
                go_roundw
                case rel => exact ⟨j + 1, false, ps ++ [x], b, d, _, by omega, by go_num, rfl, HC2.out.set1 _, OwnT.set HO.out HC2.out (by decide) _, HW.out, by simp; omega, hZ2.other (by omega) _, hE2.setCell (by show w.heap.size ≤ w1.heap.size; omega) _⟩
                case measure => simp [intOf]; omega
        · obtain rfl : j = m := by omega
          have hd : l.drop j = [] := List.drop_eq_nil_of_le (by have := HM.out; omega)
          have hsc := hS.out
          rw [hd] at hsc
          have hsc : scan kk l false [] false false = some (ps, b, d) := hsc.symm
          obtain ⟨A', cap', rfl, hca, hcm, htA, hnil⟩ := hO.at_
          obtain ⟨c0, c1, c2, c3, c4, c5⟩ := hC.cells
          have HEn := enough_any kk ps.length cap' A' b d 0 0 wr hk9 hk0
          unfold cmdC at HEn
          have HEn := Lib.hid HEn
          have hlC := Has.lt hC
          have HC := Lib.hid hC
          have HZ := Lib.hid hZ
          have HO := Lib.hid hO
          have HT := Lib.hid htA
          clear hd hS hC hZ hO htA hnil hca hcm
          cases he : enoughB kk ps.length b
          · have hf : Hid (parseC (s :: l) = none) := parseC_few (by rw [← HKK.out]; exact hk0) (by rw [← HKK.out]; exact hsc) (by rw [← HKK.out]; exact he)
            rw [he] at HEn
            clear hsc he
            go_wp2_with fail
            refine (HEn.out).mono ?_
            rintro e w2 ⟨rfl, b2⟩
            have hZ2 := HZ.out.ext b2
            have hE2 := hE.trans b2
            obtain ⟨z0, z1, z2, z3, z4, z5⟩ := CmdAt.cells hZ2
            have hzF := CmdAt.frz hZ2
            have hzl := Has.lt hZ2
            go_wp2_with fail
            (try simp only [Exit.inBlock, Exit.then])
            refine bodyPost_ret (resC _ rfl _ _ w.heap.size ZC (.int .i64 1) rfl rfl (Has.put6 hZ2 _ _ _ _ _ _) (cmd_size _ _ _ _ _ _)) rfl ?_
            exact PR.bad hf rfl (hE2.put6 (Nat.le_refl _) _ _ _ _ _ _)
          · rw [he] at HEn
            by_cases h5 : kk = 5
            · subst h5
              obtain ⟨p, q, rfl⟩ := two_of (enough_5 he)
              rcases HT.out with h | ⟨g, og, rfl, hg, hcs⟩
              · cases h
              have hp0 : wr.cell? ⟨g, og, none⟩ = some (.string (bs p)) := hcs 0 (by simp)
              have hq0 : wr.cell? ⟨g, og + 1, none⟩ = some (.string (bs q)) := hcs 1 (by simp)
              have HSC : Hid (scan (kindN s) l false [] false false = some ([p, q], b, d)) := by show _ = _; rw [← HKK.out]; exact hsc
              have HK5 : Hid (kindN s = 5) := HKK.out.symm
              obtain ⟨a, pa, ha, ha2⟩ := pv_cases p
              obtain ⟨u, pu, hu, hu2⟩ := pv_cases q
              clear he hcs hsc
              go_wp2_with fail
              refine (HEn.out).mono ?_
              rintro e w2 ⟨rfl, b2⟩
              have hC2 := Has.ext HC.out b2
              obtain ⟨c0, c1, c2, c3, c4, c5⟩ := CmdAt.cells hC2
              have hp2 := (b2.cell (o := og) hg).trans hp0
              have hq2 := (b2.cell (o := og + 1) hg).trans hq0
              have hg2 : g < w2.heap.size := by have := b2.size; omega
              have HP1 := pparse_any (bs p) w2
              rw [bs_data, ha] at HP1
              have HP1 := Lib.hid HP1
              clear c2 c3 c4 c5 hp0 hq0
              go_wp2_with fail
              refine (HP1.out).mono ?_
              rintro e w3 ⟨rfl, b3⟩
              have hC3 := Has.ext hC2 b3
              have hc1 := (b3.cell (o := 1) (Has.lt hC2)).trans c1
              have hq3 := (b3.cell (o := og + 1) hg2).trans hq2
              have hg3 : g < w3.heap.size := by have := b3.size; omega
              have HP2 := pparse_any (bs q) w3
              rw [bs_data, hu] at HP2
              have HP2 := Lib.hid HP2
              have HA1 := Lib.hid ha2
              have HU1 := Lib.hid hu2
              clear c0 c1 hp2 hq2 ha hu ha2 hu2
              go_wp2_with fail
              refine (HP2.out).mono ?_
              rintro e w4 ⟨rfl, b4⟩
              have hC4 := Has.ext hC3 b4
              have hZ2 := ((HZ.out.ext b2).ext b3).ext b4
              have hE2 := ((hE.trans b2).trans b3).trans b4
              obtain ⟨c0, c1, c2, c3, c4, c5⟩ := CmdAt.cells hC4
              obtain ⟨z0, z1, z2, z3, z4, z5⟩ := CmdAt.cells hZ2
              have hzF := CmdAt.frz hZ2
              have hcF := CmdAt.frz hC4
              have hzl := Has.lt hZ2
              have hcl := Has.lt hC4
              clear hc1 hq3
              cases pa
              · have hf : Hid (parseC (s :: l) = none) := parseC_noage (x := p) (y := q) (b := b) (d := d) HSC.out HK5.out (by
                  rintro ⟨a1, q1, h1, h2⟩
                  rcases HA1.out with ⟨h, _⟩ | ⟨_, h⟩
                  · cases h
                  · exact h a1 h1.1 h1.2.2)
                go_wp2_with fail
                (try simp only [Exit.inBlock, Exit.then])
                refine bodyPost_ret (resC _ rfl _ _ w.heap.size ZC (.int .i64 1) rfl rfl (Has.put6 hZ2 _ _ _ _ _ _) (cmd_size _ _ _ _ _ _)) rfl ?_
                exact PR.bad hf rfl (hE2.put6 (Nat.le_refl _) _ _ _ _ _ _)
              · cases pu
                · have hf : Hid (parseC (s :: l) = none) := parseC_noage (x := p) (y := q) (b := b) (d := d) HSC.out HK5.out (by
                    rintro ⟨a1, q1, h1, h2⟩
                    rcases HU1.out with ⟨h, _⟩ | ⟨_, h⟩
                    · cases h
                    · exact h q1 h2.1 h2.2.2)
                  go_wp2_with fail
                  (try simp only [Exit.inBlock, Exit.then])
                  refine bodyPost_ret (resC _ rfl _ _ w.heap.size ZC (.int .i64 1) rfl rfl (Has.put6 hZ2 _ _ _ _ _ _) (cmd_size _ _ _ _ _ _)) rfl ?_
                  exact PR.bad hf rfl (hE2.put6 (Nat.le_refl _) _ _ _ _ _ _)
                · obtain ⟨hA1, hA2⟩ : I64 a ∧ decI a = p := by
                    rcases HA1.out with ⟨_, h⟩ | ⟨h, _⟩
                    · exact h
                    · cases h
                  obtain ⟨hU1, hU2⟩ : I64 u ∧ decI u = q := by
                    rcases HU1.out with ⟨_, h⟩ | ⟨h, _⟩
                    · exact h
                    · cases h
                  have HAD := Lib.hid hA2
                  have HUD := Lib.hid hU2
                  clear hA2 hU2
                  by_cases ha0 : a < 0
                  · have hf : Hid (parseC (s :: l) = none) := parseC_noage (x := p) (y := q) (b := b) (d := d) HSC.out HK5.out (by
                      rintro ⟨a1, q1, h1, h2⟩
                      have := decI_inj h1.1 hA1 (h1.2.2.trans HAD.out.symm)
                      have := h1.2.1; omega)
                    go_wp2_with fail
                    (try simp only [Exit.inBlock, Exit.then])
                    refine bodyPost_ret (resC _ rfl _ _ w.heap.size ZC (.int .i64 1) rfl rfl (Has.put6 hZ2 _ _ _ _ _ _) (cmd_size _ _ _ _ _ _)) rfl ?_
                    exact PR.bad hf rfl (hE2.put6 (Nat.le_refl _) _ _ _ _ _ _)
                  · by_cases hu0 : u < 0
                    · have hf : Hid (parseC (s :: l) = none) := parseC_noage (x := p) (y := q) (b := b) (d := d) HSC.out HK5.out (by
                        rintro ⟨a1, q1, h1, h2⟩
                        have := decI_inj h2.1 hU1 (h2.2.2.trans HUD.out.symm)
                        have := h2.2.1; omega)
                      go_wp2_with fail
                      (try simp only [Exit.inBlock, Exit.then])
                      refine bodyPost_ret (resC _ rfl _ _ w.heap.size ZC (.int .i64 1) rfl rfl (Has.put6 hZ2 _ _ _ _ _ _) (cmd_size _ _ _ _ _ _)) rfl ?_
                      exact PR.bad hf rfl (hE2.put6 (Nat.le_refl _) _ _ _ _ _ _)
                    · have hf : Hid (parseC (s :: l) = some ⟨5, [], b, d, a, u⟩) := parseC_age (x := p) (y := q) HSC.out HK5.out ⟨hA1, by omega, HAD.out⟩ ⟨hU1, by omega, HUD.out⟩
                      obtain ⟨V1, hV1⟩ : ∃ W, W = w4.setCell ⟨w1.heap.size, 4, none⟩ (.int .i64 a) := ⟨_, rfl⟩
                      have d1 : CmdAt V1 w1.heap.size (5 : Nat) (.slice (some ⟨g, og, none⟩) 2 cap') b d a 0 := by rw [hV1]; exact Has.set hC4 4 _
                      have e1 := d1.cells
                      have f1 := d1.frz
                      have l1 := Has.lt d1
                      have E1' : Ext w V1 := by rw [hV1]; exact hE2.setCell (by show w.heap.size ≤ w1.heap.size; omega) _
                      have Z1' : Has V1 w.heap.size (.cells ZC 62) := by rw [hV1]; exact hZ2.other (by omega) _
                      obtain ⟨V2, hV2⟩ : ∃ W, W = V1.setCell ⟨w1.heap.size, 5, none⟩ (.int .i64 u) := ⟨_, rfl⟩
                      have d2 : CmdAt V2 w1.heap.size (5 : Nat) (.slice (some ⟨g, og, none⟩) 2 cap') b d a u := by rw [hV2]; exact Has.set d1 5 _
                      have e2 := d2.cells
                      have f2 := d2.frz
                      have l2 := Has.lt d2
                      have E2' : Ext w V2 := by rw [hV2]; exact E1'.setCell (by show w.heap.size ≤ w1.heap.size; omega) _
                      have Z2' : Has V2 w.heap.size (.cells ZC 62) := by rw [hV2]; exact Z1'.other (by omega) _
                      obtain ⟨V3, hV3⟩ : ∃ W, W = V2.setCell ⟨w1.heap.size, 1, none⟩ (.slice none 0 0) := ⟨_, rfl⟩
                      have d3 : CmdAt V3 w1.heap.size (5 : Nat) (.slice none 0 0) b d a u := by rw [hV3]; exact Has.set d2 1 _
                      have E3' : Ext w V3 := by rw [hV3]; exact E2'.setCell (by show w.heap.size ≤ w1.heap.size; omega) _
                      have Z3' : Has V3 w.heap.size (.cells ZC 62) := by rw [hV3]; exact Z2'.other (by omega) _
                      have l3 := Has.lt d3
                      have HV1 := Lib.hid hV1
                      have HV2 := Lib.hid hV2
                      have HV3 := Lib.hid hV3
                      clear hV1 hV2 hV3 z0 z1 z2 z3 z4 z5
                      obtain ⟨x0, x1, x2, x3, x4, x5⟩ := CmdAt.cells d3
                      obtain ⟨z0, z1, z2, z3, z4, z5⟩ := CmdAt.cells Z3'
                      have hzF3 := CmdAt.frz Z3'
                      have hzl3 := Has.lt Z3'
                      obtain ⟨y0, y1, y2, y3, y4, y5⟩ := e1
                      obtain ⟨v0, v1, v2, v3, v4, v5⟩ := e2
                      go_wp2_with (first | rw [← HV1.out] | rw [← HV2.out] | rw [← HV3.out])
                      refine bodyPost_ret (resC _ rfl _ _ w.heap.size _ (.int .i64 0) rfl rfl (Has.put6 Z3' _ _ _ _ _ _) (cmd_size _ _ _ _ _ _)) rfl ?_
                      exact PR.good hf rfl (World.ownsRow_nil _ _ _ _) (E3'.put6 (Nat.le_refl _) _ _ _ _ _ _)
            · have h5b : ((kk : Int) == 5) = false := by rw [beq_eq_false_iff_ne]; omega
              have hf : Hid (parseC (s :: l) = some ⟨kk, ps, b, d, 0, 0⟩) := by
                have h := parseC_some (s := s) (l := l) (ps := ps) (b := b) (d := d) (by rw [← HKK.out]; exact hk0) (by rw [← HKK.out]; exact hsc) (by rw [← HKK.out]; exact he) (by rw [← HKK.out]; exact h5)
                rw [← HKK.out] at h; exact h
              clear hsc he h5
              go_wp2_with fail
              refine (HEn.out).mono ?_
              rintro e w2 ⟨rfl, b2⟩
              have hZ2 := HZ.out.ext b2
              have hE2 := hE.trans b2
              have hC2 := Has.ext HC.out b2
              obtain ⟨c0, c1, c2, c3, c4, c5⟩ := CmdAt.cells hC2
              obtain ⟨z0, z1, z2, z3, z4, z5⟩ := CmdAt.cells hZ2
              have hzF := CmdAt.frz hZ2
              have hzl := Has.lt hZ2
              have hcl := Has.lt hC2
              have HP := Lib.hid (OwnT.put6 (HO.out.ext b2) hZ2 (by decide) (.int .i64 kk) (.slice A' ps.length cap') (.bool b) (.bool d) (.int .i64 0) (.int .i64 0))
              go_wp2_with fail
              refine bodyPost_ret (resC _ rfl _ _ w.heap.size _ (.int .i64 0) rfl rfl (Has.put6 hZ2 _ _ _ _ _ _) (cmd_size _ _ _ _ _ _)) rfl ?_
              exact PR.good hf rfl HP.out (hE2.put6 (Nat.le_refl _) _ _ _ _ _ _)
end Go.Proofs.YtmppjbimdonfmaaDoor
