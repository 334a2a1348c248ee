/- Layer 48 (script): the program's Parse. -/
import Derived.Test.YtanaifobmkjpaaaDoorScpF
import Derived.Test.YtanaifobmkjpaaaDoorScpY
import Derived.Test.YtanaifobmkjpaaaDoorScpZ
import Derived.Test.YtanaifobmkjpaaaDoorScpW0
import Derived.Test.YtanaifobmkjpaaaDoorScpW1
import Derived.Test.YtanaifobmkjpaaaDoorScpW2
import Derived.Test.YtanaifobmkjpaaaDoorScpW3
import Derived.Lib.AppendZerosOnto
namespace Go.Proofs.YtanaifobmkjpaaaDoor
open Go.ChangeShapes Go.WideShapes Go.ChangeAt Go.RowKit

theorem two_txt {l : List Txt} (h : l.length = 2) : ∃ x z, l = [x, z] := by
  rcases l with _ | ⟨x, _ | ⟨z, _ | ⟨y, r⟩⟩⟩
  · cases h
  · cases h
  · exact ⟨x, z, rfl⟩
  · simp at h
/-- The reference's Step, of every line. -/
theorem rstep_any (line : Txt) (w : World) (hlen : line.length ≤ 100000) : Calls Tryd.prog 18 #[.string (bs line)] w (StR w (stepN line)) := by
  cases hw : wordsN line with
  | none => exact rstep_none line w hlen (.inl hw)
  | some L =>
    cases L with
    | nil => exact rstep_none line w hlen (.inr hw)
    | cons x0 l =>
      rcases six_words x0 with hx | hx | hx | hx | hx | ⟨n1, n2, n3, n4, n5⟩
      · exact rstep_run line x0 l w hlen hw hx
      · by_cases hl : l.length = 0
        · obtain rfl := List.eq_nil_of_length_eq_zero hl
          exact rstep_mend_ok line x0 w hlen hw hx
        · exact rstep_mend_len line x0 l w hlen hw hx hl
      · by_cases hl : l.length = 1
        · obtain ⟨x, rfl⟩ := List.length_eq_one_iff.1 hl
          exact rstep_tick_ok line x0 x w hlen hw hx
        · exact rstep_tick_len line x0 l w hlen hw hx hl
      · by_cases hl : l.length = 1
        · obtain ⟨x, rfl⟩ := List.length_eq_one_iff.1 hl
          exact rstep_as_ok line x0 x w hlen hw hx
        · exact rstep_as_len line x0 l w hlen hw hx hl
      · by_cases hl : l.length = 2
        · obtain ⟨x, z, rfl⟩ := two_txt hl
          exact rstep_fail_ok line x0 x z w hlen hw hx
        · exact rstep_fail_len line x0 l w hlen hw hx hl
      · exact rstep_other line x0 l w hlen hw n1 n2 n3 n4 n5
/-- The program's Step, of every line. -/
theorem pstep_any (line : Txt) (w : World) (hlen : line.length ≤ 100000) : Calls Tryd.prog 17 #[.string (bs line)] w (StR w (stepN line)) := by
  cases hw : wordsN line with
  | none => exact pstep_none line w hlen (.inl hw)
  | some L =>
    rcases L with _ | ⟨x0, _ | ⟨x, _ | ⟨z, _ | ⟨y, r⟩⟩⟩⟩
    · exact pstep_none line w hlen (.inr hw)
    · exact pstep_0 line x0 w hlen hw
    · exact pstep_1 line x0 x w hlen hw
    · exact pstep_2 line x0 x z w hlen hw
    · exact pstep_3 line x0 x z y r w hlen hw
def cutV (s : Txt) : Value := match cutNl s with
  | some p => .tuple #[.string (bs p.1), .string (bs p.2), .bool true]
  | none => .tuple #[.string (bs s), .string ⟨#[]⟩, .bool false]
theorem pcut_any (s : Txt) (w : World) (hM : HasMax w) (hlen : s.length ≤ 1000000) : Calls Tryd.prog 41 #[.string (bs s), .string ⟨#[10]⟩] w (Ret w (cutV s)) := by
  obtain ⟨m, _, hm⟩ := hM
  refine (Tryd.strings_Cut (bs s) ⟨#[10]⟩ m w (by rw [bs_size]; omega) hm).mono ?_
  rintro e w' ⟨rfl, n, rfl⟩
  refine Ret.mk ?_ ((Ext.refl _).drewN n)
  rw [bs_list, show (⟨#[10]⟩ : ByteArray).data.toList = [10] from rfl, cut_nl]
  unfold cutV
  cases cutNl s <;> rfl
theorem ptrim_any (s : Txt) (w : World) (hlen : s.length ≤ 1000000) : Calls Tryd.prog 42 #[.string (bs s), .string ⟨#[32]⟩] w (Ret w (.string (bs (Lib.trimB s 32)))) := by
  refine (Tryd.strings_Trim_one (bs s) 32 (by decide) w (by rw [bs_size]; omega)).mono ?_
  rintro e w' ⟨rfl, hw⟩
  refine Ret.mk (by rw [bs_list]; rfl) ?_
  rcases hw with rfl | rfl
  · exact Ext.refl _
  · exact (Ext.refl _).drew
/-- What Parse answers. -/
def PaR (w : World) (r : PRes) (e : Ending) (w' : World) : Prop := match r with
  | .inl L => ∃ v, e = .returned (.tuple #[v, .int .i64 0, .int .i64 0]) ∧ OwnS w' w.heap.size v L ∧ Ext w w'
  | .inr p => e = .returned (.tuple #[.slice none 0 0, .int .i64 p.1, .int .i64 p.2]) ∧ Ext w w'
theorem PaR.bad {w w' : World} {r : PRes} {e : Ending} {no : Nat} {er : Int} (h : Hid (r = .inr (no, er))) (he : e = .returned (.tuple #[.slice none 0 0, .int .i64 no, .int .i64 er])) (hE : Ext w w') : PaR w r e w' := by rw [h.out]; exact ⟨he, hE⟩
theorem PaR.good {w w' : World} {r : PRes} {e : Ending} {L : List StepN} {v : Value} (h : Hid (r = .inl L)) (he : e = .returned (.tuple #[v, .int .i64 0, .int .i64 0])) (hv : OwnS w' w.heap.size v L) (hE : Ext w w') : PaR w r e w' := by rw [h.out]; exact ⟨v, he, hv, hE⟩
theorem str_empty (p : Txt) : ((bs p).toList == []) = (p == []) ∧ (bs p).toList.isEmpty = (p == []) := by
  rw [bs_toList]; exact ⟨rfl, by cases p <;> rfl⟩
set_option maxRecDepth 100000 in
set_option maxHeartbeats 16000000 in
theorem pparseS_any (s : Txt) (w : World) (hM : HasMax w) (hlen : s.length ≤ 100000) : Calls Tryd.prog 20 #[.string (bs s)] w (PaR w (parseS s)) := by
  go_enter Tryd.func20, Tryd.ntmps20
  go_wp2_with fail
  go_loopw [0, 5, 6] (fun t v q wr => ∃ (f : Nat) (out : List StepN) (no : Nat) (u : Txt), t = .string (bs u) ∧ q = .int .i64 no ∧ OwnS wr w.heap.size v out ∧ Hid (parseF f out no u = parseS s) ∧ u.length < f ∧ out.length ≤ no ∧ no + u.length ≤ s.length ∧ Ext w wr) (fun t _ _ _ => match t with | .string x => x.size | _ => 0)
  case atStart => exact ⟨s.length + 1, [], 0, s, rfl, rfl, OwnS.nil _ _, rfl, by omega, Nat.le_refl _, by omega, Ext.refl _⟩
  case round =>
    obtain ⟨f, out, no, u, rfl, rfl, hO, hP, hf, hon, hnu, hE⟩ := hrel
    have zu : (bs u).size = u.length := bs_size u
    by_cases hu : u = []
    · have HF : Hid (parseS s = .inl out) := by show _ = _; rw [← hP.out, hu, parseF_nil]
      have hu0 : ¬ (0 : Int) < (u.length : Int) := by rw [hu]; decide
      clear hu
      go_wp2_with fail
      go_ret3
      exact PaR.good HF rfl hO hE
    · have hu0 : (0 : Int) < (u.length : Int) := by have := List.length_pos_iff.2 hu; omega
      obtain ⟨f', rfl⟩ : ∃ f', f = f' + 1 := ⟨f - 1, by omega⟩
      have HM1 := Lib.hid (hM.ext hE)
      have hw1 : IntKind.i64.wrap ((no : Int) + 1) = ((no + 1 : Nat) : Int) := by rw [wrap_i64_in (by omega) (by omega)]; omega
      cases hc : cutNl u with
      | none =>
        have HF : Hid (parseS s = .inr (no + 1, 2)) := by show _ = _; rw [← hP.out]; exact parseF_none hu hc
        have HC : Hid (cutV u = .tuple #[.string (bs u), .string ⟨#[]⟩, .bool false]) := by show _ = _; unfold cutV; rw [hc]
        clear hu hc
        go_wp2_with fail
        refine (pcut_any u _ HM1.out (by omega)).mono ?_
        rintro e w1 ⟨rfl, b1⟩
        rw [HC.out]
        go_wp2_with fail
        go_ret3
        exact PaR.bad HF (by first | rfl | (congr 1)) (hE.trans b1)
      | some p =>
        obtain ⟨a, r⟩ := p
        obtain ⟨hua, _⟩ := cutNl_len hc
        have hal : a.length + r.length + 1 = u.length := by rw [hua]; simp; omega
        have HC : Hid (cutV u = .tuple #[.string (bs a), .string (bs r), .bool true]) := by show _ = _; unfold cutV; rw [hc]
        have za : (bs a).size = a.length := bs_size a
        have zr : (bs r).size = r.length := bs_size r
        obtain ⟨X, hX⟩ : ∃ X, X = Lib.trimB a 32 := ⟨_, rfl⟩
        obtain ⟨x1, x2⟩ := str_empty X
        have HX := Lib.hid hX
        have HCU := Lib.hid hc
        have hbl : Hid ((X == []) = blankB a) := by
          show _ = _
          have h := trim_blank a
          rw [← hX] at h
          cases hb : blankB a with
          | true => rw [h.2 hb]; rfl
          | false => exact beq_eq_false_iff_ne.2 (fun he => by rw [h.1 he] at hb; cases hb)
        clear hu hc hua hX
        cases hb : blankB a with
        | true =>
          have HN : Hid (parseF f' out (no + 1) r = parseS s) := by show _ = _; rw [← hP.out, parseF_skip HCU.out (skip_blank hb)]
          have hxb := hbl.out
          rw [hb] at hxb
          rw [hxb] at x1 x2
          clear hxb hb
          go_wp2_with fail
          refine (pcut_any u _ HM1.out (by omega)).mono ?_
          rintro e w1 ⟨rfl, b1⟩
          rw [HC.out]
          have E1 := hE.trans b1
          go_wp2_with fail
          refine (ptrim_any a _ (by omega)).mono ?_
          rintro e w2 ⟨rfl, b2⟩
          rw [← HX.out]
          have E2 := E1.trans b2
          go_wp2_with fail
          go_roundw
          case rel => exact ⟨f', out, no + 1, r, rfl, by first | rfl | (congr 1), OwnS.ext hO (b1.trans b2), HN.out, by omega, by omega, by omega, E2⟩
          case measure => simp; omega
        | false =>
          have hxb := hbl.out
          rw [hb] at hxb
          rw [hxb] at x1 x2
          have ha0 : 0 < a.length := by
            rcases Nat.eq_zero_or_pos a.length with h | h
            · rw [List.eq_nil_of_length_eq_zero h] at hb; cases hb
            · exact h
          have has : 0 < (bs a).size := by omega
          have hai : (0 : Int) < (a.length : Int) := by omega
          have hg : (bs a)[0] = a[0] := bs_get a 0 has ha0
          have hh : a.head? = some a[0] := by cases a with | nil => simp at ha0 | cons c t => rfl
          obtain ⟨c, hcc⟩ : ∃ c, c = a[0] := ⟨_, rfl⟩
          rw [← hcc] at hg hh
          have e35 : (((bs a)[0].toNat : Int) == 35) = (c == 35) := by rw [hg]; exact u8_eq (c := c) (d := 35)
          have HB := Lib.hid hb
          have HH := Lib.hid hh
          clear hxb hb hg hcc hh
          by_cases h35 : c = 35
          · have HN : Hid (parseF f' out (no + 1) r = parseS s) := by show _ = _; rw [← hP.out, parseF_skip HCU.out (skip_mark (by rw [HH.out, h35]))]
            rw [show (c == 35) = true from by rw [h35]; rfl] at e35
            clear h35
            go_wp2_with fail
            refine (pcut_any u _ HM1.out (by omega)).mono ?_
            rintro e w1 ⟨rfl, b1⟩
            rw [HC.out]
            have E1 := hE.trans b1
            go_wp2_with fail
            refine (ptrim_any a _ (by omega)).mono ?_
            rintro e w2 ⟨rfl, b2⟩
            rw [← HX.out]
            have E2 := E1.trans b2
            go_wp2_with fail
            go_roundw
            case rel => exact ⟨f', out, no + 1, r, rfl, by first | rfl | (congr 1), OwnS.ext hO (b1.trans b2), HN.out, by omega, by omega, by omega, E2⟩
            case measure => simp; omega
          · have hsk : skipB a = false := skip_no HB.out (by rw [HH.out]; exact fun h => h35 (Option.some.inj h))
            rw [show (c == 35) = false from beq_eq_false_iff_ne.2 h35] at e35
            have HSK := Lib.hid hsk
            clear h35 hsk
            cases hst : stepN a with
            | none =>
              have HF : Hid (parseS s = .inr (no + 1, 2)) := by show _ = _; rw [← hP.out]; exact parseF_bad HCU.out HSK.out hst
              have HST := Lib.hid hst
              clear hst
              go_wp2_with fail
              refine (pcut_any u _ HM1.out (by omega)).mono ?_
              rintro e w1 ⟨rfl, b1⟩
              rw [HC.out]
              have E1 := hE.trans b1
              go_wp2_with fail
              refine (ptrim_any a _ (by omega)).mono ?_
              rintro e w2 ⟨rfl, b2⟩
              rw [← HX.out]
              have E2 := E1.trans b2
              go_wp2_with fail
              refine (pstep_any a _ (by omega)).mono ?_
              rw [HST.out]
              rintro e w3 ⟨rfl, b3⟩
              go_wp2_with fail
              go_ret3
              exact PaR.bad HF (by first | rfl | (congr 1)) ((E2.trans b3).alloc _)
            | some x =>
              have HST := Lib.hid hst
              obtain ⟨Ao, ko, rfl, _, _, _, _⟩ := hO.at_
              have HO := Lib.hid hO
              have hol : out.length ≤ 100000 := by omega
              clear hO
              by_cases hm : 1000 ≤ out.length
              · have HF : Hid (parseS s = .inr (no + 1, 3)) := by show _ = _; rw [← hP.out]; exact parseF_many HCU.out HSK.out hst hm
                have hmi : (1000 : Int) ≤ (out.length : Int) := by omega
                clear hst hm
                go_wp2_with fail
                refine (pcut_any u _ HM1.out (by omega)).mono ?_
                rintro e w1 ⟨rfl, b1⟩
                rw [HC.out]
                have E1 := hE.trans b1
                go_wp2_with fail
                refine (ptrim_any a _ (by omega)).mono ?_
                rintro e w2 ⟨rfl, b2⟩
                rw [← HX.out]
                have E2 := E1.trans b2
                go_wp2_with fail
                refine (pstep_any a _ (by omega)).mono ?_
                rw [HST.out]
                rintro e w3 ⟨B, c3, rfl, pt, pn, pc, b3⟩
                obtain ⟨V, hV⟩ : ∃ V, V = w3.alloc (.cells #[.int .i64 x.k, .slice B x.ws.length c3, .int .i64 x.n, .int .i64 x.y] 30) := ⟨_, rfl⟩
                have EV : Ext w3 V := by rw [hV]; exact (Ext.refl _).alloc _
                have HV := Lib.hid hV
                clear hV pt pn pc
                go_wp2_with (rw [← HV.out])
                go_ret3
                exact PaR.bad HF (by first | rfl | (congr 1)) ((E2.trans b3).trans EV)
              · have HN : Hid (parseF f' (out ++ [x]) (no + 1) r = parseS s) := by show _ = _; rw [← hP.out, parseF_step HCU.out HSK.out hst (by omega)]
                have hmi : ¬ (1000 : Int) ≤ (out.length : Int) := by omega
                clear hst
                go_wp2_with fail
                refine (pcut_any u _ HM1.out (by omega)).mono ?_
                rintro e w1 ⟨rfl, b1⟩
                rw [HC.out]
                have E1 := hE.trans b1
                go_wp2_with fail
                refine (ptrim_any a _ (by omega)).mono ?_
                rintro e w2 ⟨rfl, b2⟩
                rw [← HX.out]
                have E2 := E1.trans b2
                go_wp2_with fail
                refine (pstep_any a _ (by omega)).mono ?_
                rw [HST.out]
                rintro e w3 ⟨B, c3, rfl, pt, pn, pc, b3⟩
                obtain ⟨V, hV⟩ : ∃ V, V = w3.alloc (.cells #[.int .i64 x.k, .slice B x.ws.length c3, .int .i64 x.n, .int .i64 x.y] 30) := ⟨_, rfl⟩
                have EV : Ext w3 V := by rw [hV]; exact (Ext.refl _).alloc _
                have hC : Has V w3.heap.size (.cells #[.int .i64 x.k, .slice B x.ws.length c3, .int .i64 x.n, .int .i64 x.y] 30) := by rw [hV]; exact Has.new _ _
                have c0 : V.cell? ⟨w3.heap.size, 0, none⟩ = some (.int .i64 x.k) := hC.cell 0
                have c1 : V.cell? ⟨w3.heap.size, 1, none⟩ = some (.slice B x.ws.length c3) := hC.cell 1
                have c2 : V.cell? ⟨w3.heap.size, 2, none⟩ = some (.int .i64 x.n) := hC.cell 2
                have c3' : V.cell? ⟨w3.heap.size, 3, none⟩ = some (.int .i64 x.y) := hC.cell 3
                have HV := Lib.hid hV
                have E4 := (E2.trans b3).trans EV
                have hOV : OwnS V w.heap.size (.slice Ao out.length ko) out := OwnS.ext HO.out (((b1.trans b2).trans b3).trans EV)
                obtain ⟨v9, w9, hr9, hO9, hg9⟩ := app_step x B c3 V hOV (pt.ext EV) pn pc E4.size hol
                have HR := Lib.hid hr9
                have E9 : Ext w w9 := (E4.alloc _).grown hg9 (fun g hv => by
                  obtain ⟨_, _, ho, _⟩ := hOV
                  exact (World.ownsRow.lt ho g hv).1)
                clear hV pt pn pc hC hr9 hg9 hOV
                go_wp2_with (first | rw [← HV.out] | (at_builtin; refine Lib.wpList_append_run _ rfl _ _ 22 22 rfl _ _ rfl rfl _ _ HR.out ?_))
                go_roundw
                case rel => exact ⟨f', out ++ [x], no + 1, r, rfl, by first | rfl | (congr 1), hO9, HN.out, by omega, by simp; omega, by omega, E9⟩
                case measure => simp; omega
end Go.Proofs.YtanaifobmkjpaaaDoor
