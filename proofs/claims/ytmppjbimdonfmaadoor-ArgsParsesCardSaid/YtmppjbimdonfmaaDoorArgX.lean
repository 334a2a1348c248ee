/- Layer 46 (args): the reference's Words. -/
import Derived.Test.YtmppjbimdonfmaaDoorArgW
import Derived.Test.YtmppjbimdonfmaaDoorStrC
namespace Go.Proofs.YtmppjbimdonfmaaDoor
open Go.ChangeShapes Go.WideShapes Go.ChangeAt Go.RowKit

def inB : Nat → Bool
  | 0 => false
  | _ => true
def quB : Nat → Bool
  | 2 => true
  | _ => false
theorem quB_no {st : Nat} (h : st ≠ 2) : quB st = false := by
  unfold quB
  split
  · exact absurd rfl h
  · rfl
set_option maxRecDepth 100000 in
set_option maxHeartbeats 8000000 in
theorem rwords_any (l : List UInt8) (w : World) (hlen : l.length ≤ 100000) : Calls Tryd.prog 58 #[.string (bs l)] w (WordsR w (wordsN l)) := by
  have z0 : (bs l).size = l.length := bs_size l
  obtain ⟨i0, hi, hz0, hz1, hz2⟩ := info_parts infoStr
  go_enter Tryd.func58, Tryd.ntmps58
  go_wp2_with fail
  go_loopw [4, 5, 6, 7, 8] (fun u v a b i wr => ∃ (k st : Nat) (O : List Txt) (C : List UInt8), k ≤ l.length ∧ i = .int .i64 k ∧ (a = .bool (inB st) ∧ b = .bool (quB st)) ∧ st ≤ 2 ∧ OwnT wr w.heap.size u O ∧ v = .string (bs C) ∧ Hid (wN (l.drop k) O C st = wordsN l) ∧ Hid (st = 0 → C = []) ∧ O.length ≤ k ∧ C.length ≤ k ∧ Ext w wr) (fun _ _ _ _ i _ => l.length - (intOf i).toNat)
  case atStart => exact ⟨0, 0, [], [], Nat.zero_le _, rfl, ⟨rfl, rfl⟩, by omega, World.ownsRow_nil _ _ _ _, rfl, rfl, fun _ => rfl, Nat.le_refl _, Nat.le_refl _, Ext.refl _⟩
  case round =>
    obtain ⟨k, st, O, C, hk, rfl, ⟨rfl, rfl⟩, hst, hO, rfl, hwn, hc0, hol, hcl, hE⟩ := hrel
    by_cases hlt : (k : Int) < l.length
    · have hkl : k < l.length := by omega
      have hks : k < (bs l).size := by omega
      have hg : (bs l)[k] = l[k] := bs_get l k hks hkl
      obtain ⟨c, hc⟩ : ∃ c, c = l[k] := ⟨_, rfl⟩
      have hdk : l.drop k = c :: l.drop (k + 1) := by rw [hc]; exact List.drop_eq_getElem_cons hkl
      rw [← hc] at hg
      have hx1 : (bs l).extract k (k + 1) = bs [c] := by rw [ext_one (bs l) k hks, hg]
      have hsl := slice_str (P := Tryd.prog) Tryd.underlying9 (bs l) (k : Int) ((k : Int) + 1) k (k + 1) rfl (by omega) (by omega) (by omega) (bs [c]) hx1
      have hwk : IntKind.i64.wrap ((k : Int) + 1) = k + 1 := wrap_i64_in (by omega) (by omega)
      have y1 : (bs C).size = C.length := bs_size C
      have y2 : (bs [c]).size = 1 := bs_size [c]
      have hcat : bs C ++ bs [c] = bs (C ++ [c]) := bs_append C [c]
      have hbig : ¬ 9223372036854775807 < C.length + 1 := by omega
      have hwd : wN (c :: l.drop (k + 1)) O C st = wordsN l := by rw [← hdk]; exact hwn.out
      have e0 : (((bs l)[k].toNat : Int) == 0) = (c == 0) := by rw [hg]; exact u8_eq (c := c) (d := 0)
      have e10 : (((bs l)[k].toNat : Int) == 10) = (c == 10) := by rw [hg]; exact u8_eq (c := c) (d := 10)
      have e39 : (((bs l)[k].toNat : Int) == 39) = (c == 39) := by rw [hg]; exact u8_eq (c := c) (d := 39)
      have e32 : (((bs l)[k].toNat : Int) == 32) = (c == 32) := by rw [hg]; exact u8_eq (c := c) (d := 32)
      have e92 : (((bs l)[k].toNat : Int) == 92) = (c == 92) := by rw [hg]; exact u8_eq (c := c) (d := 92)
      have hcb : ((bs l)[k].toNat : Int) < 256 := by have := (bs l)[k].toNat_lt; omega
      have HG := Lib.hid hg
      clear hwn hc hg hdk
      have hO' : wr.ownsRow w.heap.size 9 1 u4 O.length (txtCells O) := hO
      clear hO
      by_cases h0 : c = 0
      · have hf : Hid (wordsN l = none) := by show _ = _; rw [← hwd]; exact wN_bad (.inl h0)
        rw [show (c == 0) = true from by rw [h0]; rfl] at e0
        clear h0 e10 e39 e32 e92 hwd hO'
        go_wp2_with fail
        go_ret2
        exact .inl ⟨hf.out, rfl, hE⟩
      · rw [show (c == 0) = false from beq_eq_false_iff_ne.2 h0] at e0
        by_cases h10 : c = 10
        · have hf : Hid (wordsN l = none) := by show _ = _; rw [← hwd]; exact wN_bad (.inr h10)
          rw [show (c == 10) = true from by rw [h10]; rfl] at e10
          clear h0 h10 e39 e32 e92 hwd hO'
          go_wp2_with fail
          go_ret2
          exact .inl ⟨hf.out, rfl, hE⟩
        · rw [show (c == 10) = false from beq_eq_false_iff_ne.2 h10] at e10
          have hbad : ¬ (c = 0 ∨ c = 10) := by rintro (h | h); exact h0 h; exact h10 h
          clear h0 h10
          by_cases hq : st = 2
          · subst hq
            rw [show quB 2 = true from rfl, show inB 2 = true from rfl]
            by_cases h39 : c = 39
            · rw [show (c == 39) = true from by rw [h39]; rfl] at e39
              rw [h39, wN_qend] at hwd
              have HW := Lib.hid hwd
              clear h39 e32 e92 hwd hbad
              have HO := Lib.hid hO'
              clear hO'
              go_wp2_with fail
              go_roundw
              case rel => exact ⟨k + 1, 1, O, C, by omega, by go_num, ⟨rfl, rfl⟩, by omega, HO.out, rfl, HW.out, fun h => absurd h (by decide), by omega, by omega, hE⟩
              case measure => simp [intOf]; omega
            · rw [show (c == 39) = false from beq_eq_false_iff_ne.2 h39] at e39
              rw [wN_q hbad h39] at hwd
              have HW := Lib.hid hwd
              clear h39 e32 e92 hwd hbad
              have HO := Lib.hid hO'
              clear hO'
              go_wp2_with fail
              go_roundw
              case rel => exact ⟨k + 1, 2, O, C ++ [c], by omega, by go_num, ⟨rfl, rfl⟩, by omega, HO.out, rfl, HW.out, fun h => absurd h (by decide), by omega, by simp; omega, hE⟩
              case measure => simp [intOf]; omega
          · rw [quB_no hq]
            by_cases h32 : c = 32
            · rw [show (c == 32) = true from by rw [h32]; rfl] at e32
              by_cases h1 : st = 1
              · subst h1
                rw [show inB 1 = true from rfl]
                rw [h32, wN_sp1] at hwd
                have HW := Lib.hid hwd
                clear h32 e39 e92 hwd hbad
                go_wp2_with (at_builtin; refine wpList_append_own _ rfl _ _ 24 rfl w.heap.size 9 i0 (.string ⟨#[]⟩) 1 16 Tryd.underlying24 hi hz0 hz1 hz2 rfl (by decide) _ _ _ rfl (hO'.alloc _) ⟨wr.heap.size, 0, none⟩ 1 1 (txtCells [C]) rfl rfl (txt_news wr C) (txtCells_one [C]) (by unfold maxLen; omega) (by omega) (by have := hE.size; simp; omega) ?_)
                intro v' w2 hown2 hgrow _
                obtain ⟨ho2, hE2⟩ := txt_app hO' hE hown2 hgrow
                have HO := Lib.hid ho2
                clear hown2 hgrow hO' ho2
                go_wp2_with fail
                go_roundw
                case rel => exact ⟨k + 1, 0, O ++ [C], [], by omega, by go_num, ⟨rfl, rfl⟩, by omega, HO.out, rfl, HW.out, fun _ => rfl, by simp; omega, by simp, hE2⟩
                case measure => simp [intOf]; omega
              · obtain rfl : st = 0 := by omega
                rw [show inB 0 = false from rfl]
                have hC0 := hc0.out rfl
                rw [h32, wN_sp0] at hwd
                have HW : Hid (wN (l.drop (k + 1)) O [] 0 = wordsN l) := hwd
                clear h32 e39 e92 hwd hbad hC0 h1
                have HO := Lib.hid hO'
                clear hO'
                go_wp2_with fail
                go_roundw
                case rel => exact ⟨k + 1, 0, O, [], by omega, by go_num, ⟨rfl, rfl⟩, by omega, HO.out, rfl, HW.out, fun _ => rfl, by omega, by simp, hE⟩
                case measure => simp [intOf]; omega
            · rw [show (c == 32) = false from beq_eq_false_iff_ne.2 h32] at e32
              by_cases h39 : c = 39
              · rw [show (c == 39) = true from by rw [h39]; rfl] at e39
                rw [h39, wN_quote hq] at hwd
                have HW := Lib.hid hwd
                clear h39 h32 e92 hwd hbad hq
                have HO := Lib.hid hO'
                clear hO'
                go_wp2_with fail
                go_roundw
                case rel => exact ⟨k + 1, 2, O, C, by omega, by go_num, ⟨rfl, rfl⟩, by omega, HO.out, rfl, HW.out, fun h => absurd h (by decide), by omega, by omega, hE⟩
                case measure => simp [intOf]; omega
              · rw [show (c == 39) = false from beq_eq_false_iff_ne.2 h39] at e39
                by_cases h92 : c = 92
                · rw [show (c == 92) = true from by rw [h92]; rfl] at e92
                  rw [h92] at hwd
                  by_cases hend : k + 1 = l.length
                  · have hd : l.drop (k + 1) = [] := by rw [hend]; exact List.drop_length
                    rw [hd, wN_back0 hq] at hwd
                    have hf : Hid (wordsN l = none) := hwd.symm
                    have he2 : (l.length : Int) ≤ (k : Int) + 1 := by omega
                    clear hsl hwk
                    clear h92 h39 h32 hwd hbad hq hd hO' hend
                    go_wp2_with fail
                    go_ret2
                    exact .inl ⟨hf.out, rfl, hE⟩
                  · have hkl2 : k + 1 < l.length := by omega
                    have hks2 : k + 1 < (bs l).size := by omega
                    have hg2 : (bs l)[k + 1] = l[k + 1] := bs_get l (k + 1) hks2 hkl2
                    obtain ⟨d, hd⟩ : ∃ d, d = l[k + 1] := ⟨_, rfl⟩
                    have hdk2 : l.drop (k + 1) = d :: l.drop (k + 2) := by rw [hd]; exact List.drop_eq_getElem_cons hkl2
                    rw [← hd] at hg2
                    have hx2 : (bs l).extract (k + 1) (k + 2) = bs [d] := by rw [ext_one (bs l) (k + 1) hks2, hg2]
                    have hsl2 := slice_str (P := Tryd.prog) Tryd.underlying9 (bs l) ((k : Int) + 1) ((k : Int) + 1 + 1) (k + 1) (k + 2) (by omega) (by omega) (by omega) (by omega) (bs [d]) hx2
                    have hwk2 : IntKind.i64.wrap ((k : Int) + 1 + 1) = (k : Int) + 1 + 1 := wrap_i64_in (by omega) (by omega)
                    have y3 : (bs [d]).size = 1 := bs_size [d]
                    have hcat2 : bs C ++ bs [d] = bs (C ++ [d]) := bs_append C [d]
                    rw [hdk2, wN_back hq] at hwd
                    have hlt2 : ((k : Int) + 1) < (l.length : Int) := by omega
                    have hlt3 : (((k + 1 : Nat) : Int)) < (l.length : Int) := by omega
                    have htn : ((k : Int) + 1).toNat = k + 1 := by omega
                    have f0 : (((bs l)[k + 1].toNat : Int) == 0) = (d == 0) := by rw [hg2]; exact u8_eq (c := d) (d := 0)
                    have f10 : (((bs l)[k + 1].toNat : Int) == 10) = (d == 10) := by rw [hg2]; exact u8_eq (c := d) (d := 10)
                    have hcb2 : ((bs l)[k + 1].toNat : Int) < 256 := by have := (bs l)[k + 1].toNat_lt; omega
                    have HG2 := Lib.hid hg2
                    clear h92 h39 h32 hbad hq hend hd hg2 hdk2
                    by_cases d0 : d = 0
                    · rw [if_pos (.inl d0)] at hwd
                      have hf : Hid (wordsN l = none) := hwd.symm
                      rw [show (d == 0) = true from by rw [d0]; rfl] at f0
                      clear d0 hwd hO' f10
                      go_wp2_with fail
                      go_ret2
                      exact .inl ⟨hf.out, rfl, hE⟩
                    · rw [show (d == 0) = false from beq_eq_false_iff_ne.2 d0] at f0
                      by_cases d10 : d = 10
                      · rw [if_pos (.inr d10)] at hwd
                        have hf : Hid (wordsN l = none) := hwd.symm
                        rw [show (d == 10) = true from by rw [d10]; rfl] at f10
                        clear d0 d10 hwd hO'
                        go_wp2_with fail
                        go_ret2
                        exact .inl ⟨hf.out, rfl, hE⟩
                      · rw [show (d == 10) = false from beq_eq_false_iff_ne.2 d10] at f10
                        rw [if_neg (by rintro (h | h); exact d0 h; exact d10 h)] at hwd
                        have HW := Lib.hid hwd
                        clear d0 d10 hwd
                        have HO := Lib.hid hO'
                        clear hO'
                        go_wp2_with fail
                        go_roundw
                        case rel => exact ⟨k + 2, 1, O, C ++ [d], by omega, by go_num, ⟨rfl, rfl⟩, by omega, HO.out, rfl, HW.out, fun h => absurd h (by decide), by omega, by simp; omega, hE⟩
                        case measure => simp [intOf]; omega
                · rw [show (c == 92) = false from beq_eq_false_iff_ne.2 h92] at e92
                  rw [wN_plain hbad h32 h39 h92 hq] at hwd
                  have HW := Lib.hid hwd
                  clear h92 h39 h32 hwd hbad hq
                  have HO := Lib.hid hO'
                  clear hO'
                  go_wp2_with fail
                  go_roundw
                  case rel => exact ⟨k + 1, 1, O, C ++ [c], by omega, by go_num, ⟨rfl, rfl⟩, by omega, HO.out, rfl, HW.out, fun h => absurd h (by decide), by omega, by simp; omega, hE⟩
                  case measure => simp [intOf]; omega
    · obtain rfl : k = l.length := by omega
      have hwd := hwn.out
      rw [List.drop_length, wN_end] at hwd
      by_cases hq : st = 2
      · subst hq
        rw [show quB 2 = true from rfl, show inB 2 = true from rfl]
        rw [if_pos rfl] at hwd
        have hf : Hid (wordsN l = none) := hwd.symm
        clear hwd hO
        go_wp2_with fail
        go_ret2
        exact .inl ⟨hf.out, rfl, hE⟩
      · rw [if_neg hq] at hwd
        rw [quB_no hq]
        by_cases h1 : st = 1
        · subst h1
          rw [show inB 1 = true from rfl]
          rw [if_pos rfl] at hwd
          have hf : Hid (wordsN l = some (O ++ [C])) := hwd.symm
          have hO' : wr.ownsRow w.heap.size 9 1 u4 O.length (txtCells O) := hO
          clear hwd hO hq
          go_wp2_with (at_builtin; refine wpList_append_own _ rfl _ _ 24 rfl w.heap.size 9 i0 (.string ⟨#[]⟩) 1 16 Tryd.underlying24 hi hz0 hz1 hz2 rfl (by decide) _ _ _ rfl (hO'.alloc _) ⟨wr.heap.size, 0, none⟩ 1 1 (txtCells [C]) rfl rfl (txt_news wr C) (txtCells_one [C]) (by unfold maxLen; omega) (by omega) (by have := hE.size; simp; omega) ?_)
          intro v' w2 hown2 hgrow _
          obtain ⟨ho2, hE2⟩ := txt_app hO' hE hown2 hgrow
          have HO := Lib.hid ho2
          clear hown2 hgrow hO' ho2
          go_wp2_with fail
          go_ret2
          exact .inr ⟨_, _, hf.out, rfl, HO.out, hE2⟩
        · obtain rfl : st = 0 := by omega
          rw [show inB 0 = false from rfl]
          rw [if_neg (by decide)] at hwd
          have hf : Hid (wordsN l = some O) := hwd.symm
          have HO := Lib.hid hO
          clear hwd hO hq h1
          go_wp2_with fail
          go_ret2
          exact .inr ⟨_, _, hf.out, rfl, HO.out, hE⟩
end Go.Proofs.YtmppjbimdonfmaaDoor
