/- Layer 6 (info): the reference's Group. -/
import Derived.Test.YtanaifobmkjpaaaDoorInfV
import Derived.Test.YtanaifobmkjpaaaDoorLinR
namespace Go.Proofs.YtanaifobmkjpaaaDoor
open Go.ChangeShapes Go.WideShapes Go.ChangeAt Go.RowKit

theorem OwnT.extI {w w' : World} {b : Nat} {v : Value} {l : List Txt} (h : OwnT w b v l) (hE : Ext w w') : OwnT w' b v l :=
  World.ownsRow.kept h (⟨hE.os, hE.tape, hE.output, hE.size, fun k hk _ => Below.block hE k hk⟩ : w.grownBy w' none) (by cases v.ownBlock <;> simp)
theorem grp_skip {l : Ln} {r : List Ln} (h : Lib.trimS l bl3 = [] ∨ (Lib.trimS l bl3).head? = some 35) : grp (l :: r) = grp r := by rw [grp, if_pos h]
theorem grp_end {l : Ln} {r : List Ln} (h : ¬ (Lib.trimS l bl3 = [] ∨ (Lib.trimS l bl3).head? = some 35)) (h2 : (Lib.trimS l bl3).head? = some 91) : grp (l :: r) = [] := by rw [grp, if_neg h, if_pos h2]
theorem grp_put {l : Ln} {r : List Ln} (h : ¬ (Lib.trimS l bl3 = [] ∨ (Lib.trimS l bl3).head? = some 35)) (h2 : ¬ (Lib.trimS l bl3).head? = some 91) : grp (l :: r) = Lib.trimS l bl3 :: grp r := by rw [grp, if_neg h, if_neg h2]
theorem grpO_skip {l : Ln} {r : List Ln} (h : Lib.trimS l bl3 = [] ∨ (Lib.trimS l bl3).head? = some 35) : grpO (l :: r) = grpO r := by rw [grpO, if_pos h]
theorem grpO_head {l : Ln} {r : List Ln} (h : ¬ (Lib.trimS l bl3 = [] ∨ (Lib.trimS l bl3).head? = some 35)) (h2 : Lib.trimS l bl3 = headT) : grpO (l :: r) = some (grp r) := by rw [grpO, if_neg h, if_pos h2]
theorem grpO_no {l : Ln} {r : List Ln} (h : ¬ (Lib.trimS l bl3 = [] ∨ (Lib.trimS l bl3).head? = some 35)) (h2 : ¬ Lib.trimS l bl3 = headT) : grpO (l :: r) = none := by rw [grpO, if_neg h, if_neg h2]
/-- What has been gathered. -/
def GrpInv (Ls : List Ln) (i : Nat) (inn : Bool) (acc : List Ln) : Prop := if inn then grpO Ls = some (acc ++ grp (Ls.drop i)) else acc = [] ∧ grpO Ls = grpO (Ls.drop i)
theorem GrpInv.skip {Ls : List Ln} {i : Nat} {inn : Bool} {acc : List Ln} (h : GrpInv Ls i inn acc) (hi : i < Ls.length) (hs : Lib.trimS Ls[i] bl3 = [] ∨ (Lib.trimS Ls[i] bl3).head? = some 35) : GrpInv Ls (i + 1) inn acc := by
  unfold GrpInv at *
  cases inn with
  | true => simp only [if_true] at h ⊢; rw [h, List.drop_eq_getElem_cons hi, grp_skip hs]
  | false => simp only [Bool.false_eq_true, if_false] at h ⊢; rw [h.2, List.drop_eq_getElem_cons hi, grpO_skip hs]; exact ⟨h.1, rfl⟩
def GrpR (w : World) (o : Option (List Ln)) (e : Ending) (w' : World) : Prop := ∃ v, e = .returned (.tuple #[v, .bool o.isSome]) ∧ OwnT w' w.heap.size v (o.getD []) ∧ Ext w w'
set_option maxRecDepth 100000 in
set_option maxHeartbeats 4000000 in
theorem rgroup_any (l : Ln) (w : World) (hlen : l.length ≤ 1000000) : Calls Tryd.prog 52 #[.string (bs l)] w (GrpR w (grpO (pcB 10 [] l))) := by
  obtain ⟨i0, hi, hz0, hz1, hz2⟩ := info_parts infoStr
  obtain ⟨Ls, hLs⟩ : ∃ Ls, Ls = pcB 10 [] l := ⟨_, rfl⟩
  have HL := Lib.hid (lines_any l w hlen)
  have hsm : Hid (∀ t ∈ Ls, t.length ≤ 1000000) := fun t ht => by
    rw [hLs] at ht
    have := pcB_small 10 l [] t ht
    simp at this; omega
  have hLn : Ls.length ≤ 1000001 := by
    rw [hLs]
    have := pcB_len 10 l []
    omega
  rw [← hLs] at HL ⊢
  clear hLs
  go_enter Tryd.func52, Tryd.ntmps52
  go_wp2_with fail
  refine (HL.out).mono ?_
  rintro e w1 ⟨v1, rfl, ho1, b1⟩
  obtain ⟨A, cap, rfl, _, hmx, t1, _⟩ := ho1.at_
  have HAT := Lib.hid t1
  obtain ⟨nL, hnL⟩ : ∃ nL, nL = Ls.length := ⟨_, rfl⟩
  rw [← hnL]
  have hn1 : nL ≤ Ls.length := by omega
  have hn2 : Ls.length ≤ nL := by omega
  clear ho1 t1 hnL HL
  go_wp2_with fail
  go_loopw [4, 5, 7] (fun u b v wr => ∃ (i : Nat) (inn : Bool) (acc : List Ln), i ≤ nL ∧ v = .int .i64 i ∧ b = .bool inn ∧ acc.length ≤ i ∧ Hid (GrpInv Ls i inn acc) ∧ OwnT wr w1.heap.size u acc ∧ Ext w1 wr) (fun _ _ v _ => nL - (intOf v).toNat)
  case atStart => exact ⟨0, false, [], Nat.zero_le _, rfl, rfl, Nat.le_refl _, ⟨rfl, rfl⟩, World.ownsRow_nil _ _ _ _, Ext.refl _⟩
  case round =>
    obtain ⟨i, inn, acc, hi, rfl, rfl, hac, hv, hown, hE⟩ := hrel
    by_cases hlt : (i : Int) < nL
    · have hil : i < Ls.length := by omega
      obtain ⟨bl, o, rfl, hbl, hcl⟩ := HAT.out.at_ hE i hil
      obtain ⟨t, ht⟩ : ∃ t, t = Ls[i] := ⟨_, rfl⟩
      rw [← ht] at hcl
      obtain ⟨X, hX⟩ : ∃ X, X = Lib.trimS t bl3 := ⟨_, rfl⟩
      have HB := Lib.hid (fun w' => rbare_any t true w' (by rw [ht]; exact hsm.out _ (List.getElem_mem hil)))
      simp only [setB, if_true] at HB
      rw [← hX] at HB
      have hXd : Hid (X = Lib.trimS Ls[i] bl3) := by show _ = _; rw [← ht]; exact hX
      have hXl : X.length ≤ 1000000 := by
        have h1 := trimS_len t bl3
        have h2 := hsm.out _ (List.getElem_mem hil)
        rw [← ht] at h2
        rw [hX]; omega
      have hw1 : IntKind.i64.wrap ((i : Int) + 1) = i + 1 := wrap_i64_in (by omega) (by omega)
      have HO := Lib.hid hown
      clear hX ht hown
      cases X with
      | nil =>
        have hem : (bs []).toList.isEmpty = true := by rw [bs_toList]; rfl
        have hG := hv.out.skip hil (.inl hXd.out.symm)
        have HG := Lib.hid hG
        clear hG
        go_wp2_with fail
        refine (HB.out _).mono ?_
        rintro e w2 ⟨rfl, hE2⟩
        go_wp2_with fail
        go_roundw
        case rel => exact ⟨i + 1, inn, acc, by omega, by go_num, rfl, by omega, HG.out, HO.out.extI hE2, hE.trans hE2⟩
        case measure => simp [intOf]; omega
      | cons c r =>
        obtain ⟨X, hXc⟩ : ∃ X, X = c :: r := ⟨_, rfl⟩
        rw [← hXc] at HB hXd hXl
        have hx0 : 0 < X.length := by rw [hXc]; simp
        have hks : 0 < (bs X).size := by rw [bs_size]; exact hx0
        have hg : (bs X)[0] = c := by
          rw [bs_get X 0 hks hx0]
          subst hXc
          rfl
        have he0 : (bs X).toList.isEmpty = false := by rw [bs_toList, hXc]; rfl
        have hsz : ((bs X).size : Int) = X.length := by rw [bs_size]
        have hpos : (0 : Int) < ((bs X).size : Int) := by omega
        have hhd : Hid (X.head? = some c) := by show _ = _; rw [hXc]; rfl
        have hne : Hid (X ≠ []) := by show _ ≠ _; rw [hXc]; simp
        clear hXc
        by_cases hc35 : c = 35
        · have q35 : ((c.toNat : Int) == 35) = true := beqY hc35
          have hG := hv.out.skip hil (.inr (by rw [← hXd.out, hhd.out, hc35]))
          have HG := Lib.hid hG
          clear hG
          go_wp2_with fail
          refine (HB.out _).mono ?_
          rintro e w2 ⟨rfl, hE2⟩
          go_wp2_with fail
          go_roundw
          case rel => exact ⟨i + 1, inn, acc, by omega, by go_num, rfl, by omega, HG.out, HO.out.extI hE2, hE.trans hE2⟩
          case measure => simp [intOf]; omega
        · have q35 : ((c.toNat : Int) == 35) = false := beqN hc35
          have hns : Hid (¬ (Lib.trimS Ls[i] bl3 = [] ∨ (Lib.trimS Ls[i] bl3).head? = some 35)) := by
            show ¬ _
            rw [← hXd.out]
            rintro (h | h)
            · exact hne.out h
            · rw [hhd.out] at h; exact hc35 (Option.some.inj h)
          cases inn with
          | false =>
            obtain ⟨ha, hv2⟩ : acc = [] ∧ grpO Ls = grpO (Ls.drop i) := hv.out
            rw [List.drop_eq_getElem_cons hil] at hv2
            by_cases hh : X = headT
            · have qh : ((bs X).toList == [91, 84, 114, 97, 115, 104, 32, 73, 110, 102, 111, 93]) = true := by rw [bs_toList, hh]; rfl
              rw [grpO_head hns.out (by rw [← hXd.out]; exact hh)] at hv2
              have HG : Hid (GrpInv Ls (i + 1) true acc) := by show GrpInv _ _ _ _; unfold GrpInv; rw [if_pos rfl, hv2, ha]; rfl
              clear hv2 ha hh
              go_wp2_with fail
              refine (HB.out _).mono ?_
              rintro e w2 ⟨rfl, hE2⟩
              go_wp2_with fail
              go_roundw
              case rel => exact ⟨i + 1, true, acc, by omega, by go_num, rfl, by omega, HG.out, HO.out.extI hE2, hE.trans hE2⟩
              case measure => simp [intOf]; omega
            · have qh : ((bs X).toList == [91, 84, 114, 97, 115, 104, 32, 73, 110, 102, 111, 93]) = false := by
                rw [bs_toList, beq_eq_false_iff_ne]; exact hh
              rw [grpO_no hns.out (by rw [← hXd.out]; exact hh)] at hv2
              have HG := Lib.hid hv2
              clear hv2 ha hh
              go_wp2_with fail
              refine (HB.out _).mono ?_
              rintro e w2 ⟨rfl, hE2⟩
              go_wp2_with fail
              go_ret2
              exact ⟨_, by rw [HG.out]; rfl, by rw [HG.out]; exact World.ownsRow_nil _ _ _ _, (b1.trans hE).trans hE2⟩
          | true =>
            have hv2 : grpO Ls = some (acc ++ grp (Ls.drop i)) := hv.out
            rw [List.drop_eq_getElem_cons hil] at hv2
            by_cases hc91 : c = 91
            · have q91 : ((c.toNat : Int) == 91) = true := beqY hc91
              rw [grp_end hns.out (by rw [← hXd.out, hhd.out, hc91]), List.append_nil] at hv2
              have HG := Lib.hid hv2
              clear hv2
              go_wp2_with fail
              refine (HB.out _).mono ?_
              rintro e w2 ⟨rfl, hE2⟩
              go_wp2_with fail
              go_ret2
              exact ⟨_, by rw [HG.out]; rfl, by rw [HG.out]; exact (HO.out.extI hE2).base b1.size, (b1.trans hE).trans hE2⟩
            · have q91 : ((c.toNat : Int) == 91) = false := beqN hc91
              rw [grp_put hns.out (by rw [← hXd.out, hhd.out]; intro h; exact hc91 (Option.some.inj h)), ← hXd.out] at hv2
              have HG : Hid (GrpInv Ls (i + 1) true (acc ++ [X])) := by show GrpInv _ _ _ _; unfold GrpInv; rw [if_pos rfl, hv2]; simp
              clear hv2
              go_wp2_with fail
              refine (HB.out _).mono ?_
              rintro e w2 ⟨rfl, hE2⟩
              have hown := HO.out.extI hE2
              have hE3 := hE.trans hE2
              unfold OwnT at hown
              go_wp2_with (at_builtin; refine wpList_append_own _ rfl _ _ 28 rfl w1.heap.size 9 i0 (.string ⟨#[]⟩) 1 16 Tryd.underlying28 (by assumption) hz0 hz1 hz2 rfl (by decide) _ _ _ rfl (hown.alloc _) ⟨w2.heap.size, 0, none⟩ 1 1 (txtCells [X]) rfl rfl (txt_news w2 X) (txtCells_one [X]) (by unfold maxLen; omega) (by omega) (by have := hE3.size; simp; omega) ?_)
              intro v' w3 hown3 hgrow _
              obtain ⟨ho3, hE4⟩ := txt_app hown hE3 hown3 hgrow
              have HO3 := Lib.hid ho3
              clear hown3 hgrow ho3
              go_wp2_with fail
              go_roundw
              case rel => exact ⟨i + 1, true, acc ++ [X], by omega, by go_num, rfl, by simp; omega, HG.out, HO3.out, hE4⟩
              case measure => simp [intOf]; omega
    · have hin : i = Ls.length := by omega
      have HG : Hid (grpO Ls = (if inn then some acc else none) ∧ (inn = false → acc = [])) := by
        have h := hv.out
        unfold GrpInv at h
        rw [hin, List.drop_length] at h
        cases inn with
        | true => simp only [if_true] at h; exact ⟨by rw [h]; simp [grp], fun e => by cases e⟩
        | false => simp only [Bool.false_eq_true, if_false] at h; exact ⟨by rw [h.2]; rfl, fun _ => h.1⟩
      have HO := Lib.hid hown
      clear hown hin
      go_wp2_with fail
      go_ret2
      obtain ⟨g1, g2⟩ := HG.out
      refine ⟨u4, ?_, ?_, b1.trans hE⟩
      · rw [g1]; cases inn <;> rfl
      · rw [g1]
        have h := HO.out.base b1.size
        cases inn with
        | true => exact h
        | false => rw [g2 rfl] at h; exact h
end Go.Proofs.YtanaifobmkjpaaaDoor
