/- Layer 6 (info): the reader's line. -/
import Derived.Test.YtanaifobmkjpaaaDoorInfP
import Derived.Test.YtanaifobmkjpaaaDoorStr
import Derived.Test.YtanaifobmkjpaaaDoorShelf
import Derived.Shelf.Strings.SlTrimAscii
import Derived.Test.YtanaifobmkjpaaaDoorCutB
import Derived.Test.YtanaifobmkjpaaaDoorDateO
import Derived.RangeFuncBox
namespace Go.Proofs.YtanaifobmkjpaaaDoor
open Go.ChangeShapes Go.WideShapes Go.ChangeAt Go.RowKit

theorem ptrim3 (s : Ln) (w : World) (hs : s.length ≤ 1000000) : Calls Tryd.prog 42 #[.string (bs s), .string ⟨#[32, 9, 13]⟩] w (Ret w (.string (bs (Lib.trimS s bl3)))) := by
  have h := Any.strings_Trim_laid Tryd.lays160 (by kernel_rfl) (bs s) ⟨#[32, 9, 13]⟩ w (by rw [bs_size]; omega) (by decide) (Go.Proofs.ascii_of_all (by decide))
  rw [bs_list] at h
  exact h.mono fun e w' h => ⟨h.1, h.2⟩
theorem ptrim2 (s : Ln) (w : World) (hs : s.length ≤ 1000000) : Calls Tryd.prog 42 #[.string (bs s), .string ⟨#[32, 9]⟩] w (Ret w (.string (bs (Lib.trimS s bl2)))) := by
  have h := Any.strings_Trim_laid Tryd.lays160 (by kernel_rfl) (bs s) ⟨#[32, 9]⟩ w (by rw [bs_size]; omega) (by decide) (Go.Proofs.ascii_of_all (by decide))
  rw [bs_list] at h
  exact h.mono fun e w' h => ⟨h.1, h.2⟩
theorem beqYl {c : UInt8} {k : UInt8} (h : c = k) : ((c.toNat : Int) == (k.toNat : Int)) = true := by rw [h]; simp
theorem beqNl {c : UInt8} {k : UInt8} (h : ¬ c = k) : ((c.toNat : Int) == (k.toNat : Int)) = false := by
  rw [beq_eq_false_iff_ne]
  intro e
  exact h (UInt8.toNat_inj.1 (by omega))
/-- A reader's cells. -/
def cellsS (st : InfS) : Array Value := #[.string (bs st.path), .string (bs st.day), .bool st.inn, .int .i64 st.paths, .int .i64 st.days]
theorem grown_ext {w w' : World} {row : Option Nat} (h : Ext w w') : w.grownBy w' row := ⟨h.os, h.tape, h.output, h.size, fun k hk _ => Below.block h k hk⟩
theorem grown_put {w w' : World} {B : Nat} (h : w.grownBy w' (some B)) (i : Nat) (v : Value) : w.grownBy (w'.setCell ⟨B, i, none⟩ v) (some B) :=
  ⟨h.os, h.tape, h.output, Nat.le_trans h.size (KeepsWalks.setCell w' _ v).size, fun k hk hne => (Below.heap_setCell _ _ _ k (fun e => hne (by rw [e]))).trans (h.block k hk hne)⟩
set_option maxRecDepth 100000 in
set_option maxHeartbeats 8000000 in
theorem pline6_any (B : Nat) (st : InfS) (s : Ln) (w : World) (hB : Has w B (.cells (cellsS st) 86 (0, 0))) (hM : HasMax w) (hlen : s.length ≤ 1000000) (hp : st.paths ≤ 1000000) (hd : st.days ≤ 1000000) :
    Calls Tryd.prog 48 #[.pointer (some ⟨B, 0, none⟩), .string (bs s)] w (fun e w' => e = .returned (.bool (lineF st s).2) ∧ Has w' B (.cells (cellsS (lineF st s).1) 86 (0, 0)) ∧ w.grownBy w' (some B)) := by
  obtain ⟨pa, da, inn, np, nd⟩ := st
  have HH := Lib.hid hB
  have HC : Hid (∀ w', Ext w w' → w'.cell? ⟨B, 0, none⟩ = some (.string (bs pa)) ∧ w'.cell? ⟨B, 1, none⟩ = some (.string (bs da)) ∧ w'.cell? ⟨B, 2, none⟩ = some (.bool inn) ∧ w'.cell? ⟨B, 3, none⟩ = some (.int .i64 np) ∧ w'.cell? ⟨B, 4, none⟩ = some (.int .i64 nd)) := fun w' hE => by
    have h := hB.ext hE
    exact ⟨h.cell 0, h.cell 1, h.cell 2, h.cell 3, h.cell 4⟩
  have HF : Hid (∀ w', Ext w w' → ∀ i, w'.frozen? ⟨B, i, none⟩ = false) := fun w' hE i => by
    rw [(hB.ext hE).free i]; simp
  obtain ⟨X, hX⟩ : ∃ X, X = Lib.trimS s bl3 := ⟨_, rfl⟩
  have HT1 := Lib.hid (fun w' => ptrim3 s w' hlen)
  rw [← hX] at HT1
  have hXl : X.length ≤ 1000000 := by have := trimS_len s bl3; rw [hX]; omega
  have HX := Lib.hid hX.symm
  have HM := Lib.hid hM
  simp only [] at hp hd
  have hwp : IntKind.i64.wrap ((np : Int) + 1) = np + 1 := wrap_i64_in (by omega) (by omega)
  have hwd : IntKind.i64.wrap ((nd : Int) + 1) = nd + 1 := wrap_i64_in (by omega) (by omega)
  clear hB hX hM
  cases hXc : X with
  | nil =>
    have HLF : Hid (lineF ⟨pa, da, inn, np, nd⟩ s = (⟨pa, da, inn, np, nd⟩, true)) := by show _ = _; unfold lineF; rw [HX.out, if_pos (.inl hXc)]
    rw [hXc] at HT1
    have hem : (bs []).toList.isEmpty = true := by rw [bs_toList]; rfl
    clear hXc
    go_enter Tryd.func48, Tryd.ntmps48
    go_wp2_with fail
    refine (HT1.out w).mono ?_
    rintro e w1 ⟨rfl, b1⟩
    obtain ⟨x0, x1, x2, x3, x4⟩ := HC.out w1 b1
    have xf := HF.out w1 b1
    go_wp2_with fail
    go_ret
    exact ⟨(by rw [HLF.out]; all_goals rfl), (by rw [HLF.out]; exact HH.out.ext b1), grown_ext b1⟩
  | cons c r =>
    have hx0 : 0 < X.length := by rw [hXc]; simp
    have hks : 0 < (bs X).size := by rw [bs_size]; exact hx0
    have hg : (bs X)[0] = c := by
      rw [bs_get X 0 hks hx0]
      subst hXc
      rfl
    have hem : (bs X).toList.isEmpty = false := by rw [bs_toList, hXc]; rfl
    have hsz : ((bs X).size : Int) = X.length := by rw [bs_size]
    have hpos : (0 : Int) < ((bs X).size : Int) := by omega
    have hhd : Hid (X.head? = some c) := by show _ = _; rw [hXc]; rfl
    have hne : Hid (X ≠ []) := by show _ ≠ _; rw [hXc]; simp
    clear hXc
    by_cases hc35 : c = 35
    · have q35 : ((c.toNat : Int) == 35) = true := beqYl hc35
      have HLF : Hid (lineF ⟨pa, da, inn, np, nd⟩ s = (⟨pa, da, inn, np, nd⟩, true)) := by show _ = _; unfold lineF; rw [HX.out, if_pos (.inr (by rw [hhd.out, hc35]))]
      go_enter Tryd.func48, Tryd.ntmps48
      go_wp2_with fail
      refine (HT1.out w).mono ?_
      rintro e w1 ⟨rfl, b1⟩
      obtain ⟨x0, x1, x2, x3, x4⟩ := HC.out w1 b1
      have xf := HF.out w1 b1
      go_wp2_with fail
      go_ret
      exact ⟨(by rw [HLF.out]; all_goals rfl), (by rw [HLF.out]; exact HH.out.ext b1), grown_ext b1⟩
    · have q35 : ((c.toNat : Int) == 35) = false := beqNl hc35
      have hns : Hid (¬ (X = [] ∨ X.head? = some 35)) := by
        show ¬ _
        rintro (h | h)
        · exact hne.out h
        · rw [hhd.out] at h; exact hc35 (Option.some.inj h)
      cases inn with
      | false =>
        obtain ⟨y, hy⟩ : ∃ y, y = decide (X = headT) := ⟨_, rfl⟩
        have qh : ((bs X).toList == [91, 84, 114, 97, 115, 104, 32, 73, 110, 102, 111, 93]) = y := by
          rw [bs_toList, hy]
          by_cases h : X = headT
          · rw [decide_eq_true h, h]; rfl
          · rw [decide_eq_false h, beq_eq_false_iff_ne]; exact h
        have HLF : Hid (lineF ⟨pa, da, false, np, nd⟩ s = (⟨pa, da, y, np, nd⟩, y)) := by show _ = _; unfold lineF; rw [HX.out, if_neg hns.out, if_pos rfl, ← hy]
        clear hy
        go_enter Tryd.func48, Tryd.ntmps48
        go_wp2_with fail
        refine (HT1.out w).mono ?_
        rintro e w1 ⟨rfl, b1⟩
        obtain ⟨x0, x1, x2, x3, x4⟩ := HC.out w1 b1
        have xf := HF.out w1 b1
        go_wp2_with fail
        go_ret
        refine ⟨(by rw [HLF.out]; all_goals rfl), ?_, grown_put (grown_ext b1) 2 _⟩
        rw [HLF.out]
        exact (HH.out.ext b1).set 2 _
      | true =>
        by_cases hc91 : c = 91
        · have q91 : ((c.toNat : Int) == 91) = true := beqYl hc91
          have HLF : Hid (lineF ⟨pa, da, true, np, nd⟩ s = (⟨pa, da, true, np, nd⟩, false)) := by show _ = _; unfold lineF; rw [HX.out, if_neg hns.out, if_neg (by simp), if_pos (by rw [hhd.out, hc91])]
          go_enter Tryd.func48, Tryd.ntmps48
          go_wp2_with fail
          refine (HT1.out w).mono ?_
          rintro e w1 ⟨rfl, b1⟩
          obtain ⟨x0, x1, x2, x3, x4⟩ := HC.out w1 b1
          have xf := HF.out w1 b1
          go_wp2_with fail
          go_ret
          exact ⟨(by rw [HLF.out]; all_goals rfl), (by rw [HLF.out]; exact HH.out.ext b1), grown_ext b1⟩
        · have q91 : ((c.toNat : Int) == 91) = false := beqNl hc91
          have HL0 : Hid (lineF ⟨pa, da, true, np, nd⟩ s = (putL ⟨pa, da, true, np, nd⟩ X, true)) := by show _ = _; unfold lineF; rw [HX.out, if_neg hns.out, if_neg (by simp), if_neg (by rw [hhd.out]; intro h; exact hc91 (Option.some.inj h))]
          have HCU := Lib.hid (fun w' hM => pcut_any 61 X w' hM hXl)
          clear hns hne hhd
          cases hcu : cutB 61 X with
          | none =>
            have HLF : Hid (lineF ⟨pa, da, true, np, nd⟩ s = (⟨pa, da, true, np, nd⟩, true)) := by show _ = _; rw [HL0.out]; unfold putL; rw [hcu]
            simp only [cutV, hcu] at HCU
            clear hcu
            go_enter Tryd.func48, Tryd.ntmps48
            go_wp2_with fail
            refine (HT1.out w).mono ?_
            rintro e w1 ⟨rfl, b1⟩
            obtain ⟨x0, x1, x2, x3, x4⟩ := HC.out w1 b1
            have xf := HF.out w1 b1
            go_wp2_with fail
            refine (HCU.out w1 (HM.out.ext b1)).mono ?_
            rintro e w2 ⟨rfl, b2⟩
            have b12 := b1.trans b2
            clear x0 x1 x2 x3 x4 xf
            go_wp2_with fail
            go_ret
            exact ⟨(by rw [HLF.out]; all_goals rfl), (by rw [HLF.out]; exact HH.out.ext b12), grown_ext b12⟩
          | some kv =>
            obtain ⟨k, v⟩ := kv
            have hkl : k.length ≤ 1000000 ∧ v.length ≤ 1000000 := by
              have h1 := (cutB_len hcu).1
              have h2 : X.length = k.length + (v.length + 1) := by rw [h1]; simp
              omega
            simp only [cutV, hcu] at HCU
            obtain ⟨K, hK⟩ : ∃ K, K = Lib.trimS k bl2 := ⟨_, rfl⟩
            obtain ⟨V, hV⟩ : ∃ V, V = Lib.trimS v bl2 := ⟨_, rfl⟩
            have HTK := Lib.hid (fun w' => ptrim2 k w' hkl.1)
            have HTV := Lib.hid (fun w' => ptrim2 v w' hkl.2)
            rw [← hK] at HTK
            rw [← hV] at HTV
            have hput : putL ⟨pa, da, true, np, nd⟩ X = (if K = pathK then ⟨if np = 0 then V else pa, da, true, np + 1, nd⟩ else if K = dayK then ⟨pa, if nd = 0 then V else da, true, np, nd + 1⟩ else ⟨pa, da, true, np, nd⟩) := by
              unfold putL
              rw [hcu, hK, hV]
            clear hcu hK hV hkl
            by_cases hkp : K = pathK
            · have qk : ((bs K).toList == [80, 97, 116, 104]) = true := by rw [bs_toList, hkp]; rfl
              by_cases hn0 : np = 0
              · have qn : ((np : Int) == 0) = true := by rw [hn0]; rfl
                have HLF : Hid (lineF ⟨pa, da, true, np, nd⟩ s = (⟨V, da, true, np + 1, nd⟩, true)) := by show _ = _; rw [HL0.out, hput, if_pos hkp, if_pos hn0]
                clear hput hkp hn0
                go_enter Tryd.func48, Tryd.ntmps48
                go_wp2_with fail
                refine (HT1.out w).mono ?_
                rintro e w1 ⟨rfl, b1⟩
                obtain ⟨x0, x1, x2, x3, x4⟩ := HC.out w1 b1
                have xf := HF.out w1 b1
                go_wp2_with fail
                refine (HCU.out w1 (HM.out.ext b1)).mono ?_
                rintro e w2 ⟨rfl, b2⟩
                have b12 := b1.trans b2
                clear x0 x1 x2 x3 x4 xf
                go_wp2_with fail
                refine (HTV.out w2).mono ?_
                rintro e w3 ⟨rfl, b3⟩
                have b13 := b12.trans b3
                go_wp2_with fail
                refine (HTK.out w3).mono ?_
                rintro e w4 ⟨rfl, b4⟩
                have b14 := b13.trans b4
                obtain ⟨x0, x1, x2, x3, x4⟩ := HC.out w4 b14
                have xf := HF.out w4 b14
                go_wp2_with fail
                go_ret
                refine ⟨(by rw [HLF.out]; all_goals rfl), ?_, grown_put (grown_put (grown_ext b14) 0 _) 3 _⟩
                rw [HLF.out]
                exact ((HH.out.ext b14).set 0 _).set 3 _
              · have qn : ((np : Int) == 0) = false := beq_eq_false_iff_ne.2 (by omega)
                have HLF : Hid (lineF ⟨pa, da, true, np, nd⟩ s = (⟨pa, da, true, np + 1, nd⟩, true)) := by show _ = _; rw [HL0.out, hput, if_pos hkp, if_neg hn0]
                clear hput hkp hn0
                go_enter Tryd.func48, Tryd.ntmps48
                go_wp2_with fail
                refine (HT1.out w).mono ?_
                rintro e w1 ⟨rfl, b1⟩
                obtain ⟨x0, x1, x2, x3, x4⟩ := HC.out w1 b1
                have xf := HF.out w1 b1
                go_wp2_with fail
                refine (HCU.out w1 (HM.out.ext b1)).mono ?_
                rintro e w2 ⟨rfl, b2⟩
                have b12 := b1.trans b2
                clear x0 x1 x2 x3 x4 xf
                go_wp2_with fail
                refine (HTV.out w2).mono ?_
                rintro e w3 ⟨rfl, b3⟩
                have b13 := b12.trans b3
                go_wp2_with fail
                refine (HTK.out w3).mono ?_
                rintro e w4 ⟨rfl, b4⟩
                have b14 := b13.trans b4
                obtain ⟨x0, x1, x2, x3, x4⟩ := HC.out w4 b14
                have xf := HF.out w4 b14
                go_wp2_with fail
                go_ret
                refine ⟨(by rw [HLF.out]; all_goals rfl), ?_, grown_put (grown_ext b14) 3 _⟩
                rw [HLF.out]
                exact (HH.out.ext b14).set 3 _
            · have qk : ((bs K).toList == [80, 97, 116, 104]) = false := by rw [bs_toList, beq_eq_false_iff_ne]; exact hkp
              by_cases hkd : K = dayK
              · have qd : ((bs K).toList == [68, 101, 108, 101, 116, 105, 111, 110, 68, 97, 116, 101]) = true := by rw [bs_toList, hkd]; rfl
                by_cases hn0 : nd = 0
                · have qn : ((nd : Int) == 0) = true := by rw [hn0]; rfl
                  have HLF : Hid (lineF ⟨pa, da, true, np, nd⟩ s = (⟨pa, V, true, np, nd + 1⟩, true)) := by show _ = _; rw [HL0.out, hput, if_neg hkp, if_pos hkd, if_pos hn0]
                  clear hput hkp hkd hn0
                  go_enter Tryd.func48, Tryd.ntmps48
                  go_wp2_with fail
                  refine (HT1.out w).mono ?_
                  rintro e w1 ⟨rfl, b1⟩
                  obtain ⟨x0, x1, x2, x3, x4⟩ := HC.out w1 b1
                  have xf := HF.out w1 b1
                  go_wp2_with fail
                  refine (HCU.out w1 (HM.out.ext b1)).mono ?_
                  rintro e w2 ⟨rfl, b2⟩
                  have b12 := b1.trans b2
                  clear x0 x1 x2 x3 x4 xf
                  go_wp2_with fail
                  refine (HTV.out w2).mono ?_
                  rintro e w3 ⟨rfl, b3⟩
                  have b13 := b12.trans b3
                  go_wp2_with fail
                  refine (HTK.out w3).mono ?_
                  rintro e w4 ⟨rfl, b4⟩
                  have b14 := b13.trans b4
                  obtain ⟨x0, x1, x2, x3, x4⟩ := HC.out w4 b14
                  have xf := HF.out w4 b14
                  go_wp2_with fail
                  go_ret
                  refine ⟨(by rw [HLF.out]; all_goals rfl), ?_, grown_put (grown_put (grown_ext b14) 1 _) 4 _⟩
                  rw [HLF.out]
                  exact ((HH.out.ext b14).set 1 _).set 4 _
                · have qn : ((nd : Int) == 0) = false := beq_eq_false_iff_ne.2 (by omega)
                  have HLF : Hid (lineF ⟨pa, da, true, np, nd⟩ s = (⟨pa, da, true, np, nd + 1⟩, true)) := by show _ = _; rw [HL0.out, hput, if_neg hkp, if_pos hkd, if_neg hn0]
                  clear hput hkp hkd hn0
                  go_enter Tryd.func48, Tryd.ntmps48
                  go_wp2_with fail
                  refine (HT1.out w).mono ?_
                  rintro e w1 ⟨rfl, b1⟩
                  obtain ⟨x0, x1, x2, x3, x4⟩ := HC.out w1 b1
                  have xf := HF.out w1 b1
                  go_wp2_with fail
                  refine (HCU.out w1 (HM.out.ext b1)).mono ?_
                  rintro e w2 ⟨rfl, b2⟩
                  have b12 := b1.trans b2
                  clear x0 x1 x2 x3 x4 xf
                  go_wp2_with fail
                  refine (HTV.out w2).mono ?_
                  rintro e w3 ⟨rfl, b3⟩
                  have b13 := b12.trans b3
                  go_wp2_with fail
                  refine (HTK.out w3).mono ?_
                  rintro e w4 ⟨rfl, b4⟩
                  have b14 := b13.trans b4
                  obtain ⟨x0, x1, x2, x3, x4⟩ := HC.out w4 b14
                  have xf := HF.out w4 b14
                  go_wp2_with fail
                  go_ret
                  refine ⟨(by rw [HLF.out]; all_goals rfl), ?_, grown_put (grown_ext b14) 4 _⟩
                  rw [HLF.out]
                  exact (HH.out.ext b14).set 4 _
              · have qd : ((bs K).toList == [68, 101, 108, 101, 116, 105, 111, 110, 68, 97, 116, 101]) = false := by rw [bs_toList, beq_eq_false_iff_ne]; exact hkd
                have HLF : Hid (lineF ⟨pa, da, true, np, nd⟩ s = (⟨pa, da, true, np, nd⟩, true)) := by show _ = _; rw [HL0.out, hput, if_neg hkp, if_neg hkd]
                clear hput hkp hkd
                go_enter Tryd.func48, Tryd.ntmps48
                go_wp2_with fail
                refine (HT1.out w).mono ?_
                rintro e w1 ⟨rfl, b1⟩
                obtain ⟨x0, x1, x2, x3, x4⟩ := HC.out w1 b1
                have xf := HF.out w1 b1
                go_wp2_with fail
                refine (HCU.out w1 (HM.out.ext b1)).mono ?_
                rintro e w2 ⟨rfl, b2⟩
                have b12 := b1.trans b2
                clear x0 x1 x2 x3 x4 xf
                go_wp2_with fail
                refine (HTV.out w2).mono ?_
                rintro e w3 ⟨rfl, b3⟩
                have b13 := b12.trans b3
                go_wp2_with fail
                refine (HTK.out w3).mono ?_
                rintro e w4 ⟨rfl, b4⟩
                have b14 := b13.trans b4
                obtain ⟨x0, x1, x2, x3, x4⟩ := HC.out w4 b14
                have xf := HF.out w4 b14
                go_wp2_with fail
                go_ret
                exact ⟨(by rw [HLF.out]; all_goals rfl), (by rw [HLF.out]; exact HH.out.ext b14), grown_ext b14⟩
end Go.Proofs.YtanaifobmkjpaaaDoor
