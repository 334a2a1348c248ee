/- Layer 46 (args): bytes in a row of the call's own; the program's Words. -/
import Derived.Test.YtmppjbimdonfmaaDoorNamR
import Derived.Test.YtmppjbimdonfmaaDoorArgP
import Derived.Laws.IdiomStrings
import Derived.Laws.BytesArg
namespace Go.Proofs.YtmppjbimdonfmaaDoor
open Go.ChangeShapes Go.WideShapes Go.ChangeAt Go.RowKit

def byteCells (l : List UInt8) : List Value := l.map fun c => .int .u8 c.toNat
theorem byteCells_len (l : List UInt8) : (byteCells l).length = l.length := by simp [byteCells]
theorem byteCells_append (a b : List UInt8) : byteCells (a ++ b) = byteCells a ++ byteCells b := by simp [byteCells]
theorem infoU8 : (Tryd.prog.info? 5).map (fun i => (i.zero, i.size, i.bytes)) = some (some (.int .u8 0), 1, 1) := by kernel_rfl
/-- Bytes in a row of the call's own. -/
def OwnB (w : World) (base : Nat) (v : Value) (l : List UInt8) : Prop := w.ownsRow base 5 1 v l.length (byteCells l)
theorem byte_news (wr : World) (n : Int) : ∀ j u, [Value.int .u8 n][j]? = some u → (wr.alloc (.cells #[.int .u8 n] 5)).cell? ((⟨wr.heap.size, 0, none⟩ : Addr).add j) = some u := by
  intro j u hu
  have hj : j = 0 := by
    rcases Nat.eq_zero_or_pos j with h | h
    · exact h
    · rw [List.getElem?_eq_none (by simp; omega)] at hu; cases hu
  subst hj
  injection hu with hu
  subst hu
  rw [Addr.add_lit]
  exact (Has.new wr _).cell 0
theorem byte_one (n : Int) : ∀ u ∈ [Value.int .u8 n], u.oneCell' = true := by
  intro u hu
  rw [List.mem_singleton] at hu
  subst hu; rfl
/-- 'string(b)' of such a row. -/
theorem OwnB.text {w : World} {base : Nat} {v : Value} {l : List UInt8} (h : OwnB w base v l) : (convert 77 9 v).run Tryd.prog w = .ok (.string (bs l)) w := by
  unfold OwnB at h
  have hs := Tryd.underlying77
  have he := Tryd.underlying5
  have hd := Tryd.underlying9
  rcases h.2 with ⟨rfl, h0⟩ | ⟨g, cap, cur, rfl, _, _, _, _, _, _⟩
  · have : l = [] := List.eq_nil_of_length_eq_zero h0
    subst this
    exact run_convert_bytes_nil (w := w) _ _ hs he 0 0 _ hd
  · exact run_convert_bytes_back w _ _ _ ⟨g, 0, none⟩ cap l hs he hd (fun j hj => by
      have := h.cells (g := g) rfl j (.int .u8 l[j].toNat) (by simp [byteCells, hj])
      exact this)
/-- Rows of elements of two types lie in two blocks. -/
theorem rows_ne {W : World} {b b' : Nat} {e e' : TypeId} {s s' n n' : Nat} {v v' : Value} {xs xs' : List Value} (h : W.ownsRow b e s v n xs) (h' : W.ownsRow b' e' s' v' n' xs') (hne : e ≠ e') : v.ownBlock = none ∨ v.ownBlock ≠ v'.ownBlock := by
  rcases h.2 with ⟨rfl, _⟩ | ⟨g, cap, cur, rfl, _, hg, _⟩
  · exact .inl (by simp [Value.ownBlock])
  · right
    rcases h'.2 with ⟨rfl, _⟩ | ⟨g', cap', cur', rfl, _, hg', _⟩
    · simp [Value.ownBlock]
    · intro heq
      obtain rfl : g = g' := by simpa [Value.ownBlock] using heq
      rw [hg] at hg'
      injection hg' with hg'
      injection hg' with _ h2 _
      exact hne h2
def WordsR (w : World) (o : Option (List Txt)) (e : Ending) (w' : World) : Prop :=
  (o = none ∧ e = .returned (.tuple #[.slice none 0 0, .int .i64 2]) ∧ Ext w w') ∨ ∃ L v, o = some L ∧ e = .returned (.tuple #[v, .int .i64 0]) ∧ OwnT w' w.heap.size v L ∧ Ext w w'
set_option maxRecDepth 100000 in
set_option maxHeartbeats 8000000 in
theorem pwords_any (l : List UInt8) (w : World) (hlen : l.length ≤ 100000) : Calls Tryd.prog 57 #[.string (bs l)] w (WordsR w (wordsN l)) := by
  have z0 : (bs l).size = l.length := bs_size l
  obtain ⟨i0, hi, hz0, hz1, hz2⟩ := info_parts infoStr
  obtain ⟨i1, gi, gz0, gz1, gz2⟩ := info_parts infoU8
  go_enter Tryd.func57, Tryd.ntmps57
  go_wp2_with fail
  go_loopw [4, 5, 6, 7] (fun u v a i wr => ∃ (k st : Nat) (O : List Txt) (C : List UInt8), k ≤ l.length ∧ i = .int .i64 k ∧ a = .int .i64 st ∧ st ≤ 2 ∧ OwnT wr w.heap.size u O ∧ OwnB wr w.heap.size v C ∧ Hid (wN (l.drop k) O C st = wordsN l) ∧ Hid (st = 0 → C = []) ∧ O.length ≤ k ∧ C.length ≤ k ∧ Ext w wr) (fun _ _ _ i _ => l.length - (intOf i).toNat)
  case atStart => exact ⟨0, 0, [], [], Nat.zero_le _, rfl, rfl, by omega, World.ownsRow_nil _ _ _ _, World.ownsRow_nil _ _ _ _, rfl, fun _ => rfl, Nat.le_refl _, Nat.le_refl _, Ext.refl _⟩
  case round =>
    obtain ⟨k, st, O, C, hk, rfl, rfl, hst, hO, hC, hwn, hc0, hol, hcl, hE⟩ := hrel
    by_cases hlt : (k : Int) < l.length
    · have hkl : k < l.length := by omega
      have hks : k < (bs l).size := by omega
      have hg : (bs l)[k] = l[k] := bs_get l k hks hkl
      obtain ⟨c, hc⟩ : ∃ c, c = l[k] := ⟨_, rfl⟩
      have hdk : l.drop k = c :: l.drop (k + 1) := by rw [hc]; exact List.drop_eq_getElem_cons hkl
      rw [← hc] at hg
      have hbyte : Hid (byteCells [c] = [.int .u8 ((bs l)[k].toNat : Int)]) := by show _ = _; rw [hg]; rfl
      have hwd : wN (c :: l.drop (k + 1)) O C st = wordsN l := by rw [← hdk]; exact hwn.out
      have e0 : (((bs l)[k].toNat : Int) == 0) = (c == 0) := by rw [hg]; exact u8_eq (c := c) (d := 0)
      have e10 : (((bs l)[k].toNat : Int) == 10) = (c == 10) := by rw [hg]; exact u8_eq (c := c) (d := 10)
      have e39 : (((bs l)[k].toNat : Int) == 39) = (c == 39) := by rw [hg]; exact u8_eq (c := c) (d := 39)
      have e32 : (((bs l)[k].toNat : Int) == 32) = (c == 32) := by rw [hg]; exact u8_eq (c := c) (d := 32)
      have e92 : (((bs l)[k].toNat : Int) == 92) = (c == 92) := by rw [hg]; exact u8_eq (c := c) (d := 92)
      have hcb : ((bs l)[k].toNat : Int) < 256 := by have := (bs l)[k].toNat_lt; omega
      have HG := Lib.hid hg
      clear hwn hc hg hdk
      have hO' : wr.ownsRow w.heap.size 9 1 u4 O.length (txtCells O) := hO
      have hC' : wr.ownsRow w.heap.size 5 1 u5 C.length (byteCells C) := hC
      have hconv := Lib.hid hC.text
      clear hO hC
      by_cases h0 : c = 0
      · have hf : Hid (wordsN l = none) := by show _ = _; rw [← hwd]; exact wN_bad (.inl h0)
        rw [show (c == 0) = true from by rw [h0]; rfl] at e0
        clear h0 e10 e39 e32 e92 hwd hO' hC'
        go_wp2_with fail
        go_ret2
        exact .inl ⟨hf.out, rfl, hE⟩
      · rw [show (c == 0) = false from beq_eq_false_iff_ne.2 h0] at e0
        by_cases h10 : c = 10
        · have hf : Hid (wordsN l = none) := by show _ = _; rw [← hwd]; exact wN_bad (.inr h10)
          rw [show (c == 10) = true from by rw [h10]; rfl] at e10
          clear h0 h10 e39 e32 e92 hwd hO' hC'
          go_wp2_with fail
          go_ret2
          exact .inl ⟨hf.out, rfl, hE⟩
        · rw [show (c == 10) = false from beq_eq_false_iff_ne.2 h10] at e10
          have hbad : ¬ (c = 0 ∨ c = 10) := by rintro (h | h); exact h0 h; exact h10 h
          clear h0 h10
          by_cases hq : st = 2
          · subst hq
            by_cases h39 : c = 39
            · rw [show (c == 39) = true from by rw [h39]; rfl] at e39
              rw [h39, wN_qend] at hwd
              have HW := Lib.hid hwd
              clear h39 e32 e92 hwd hbad hconv
              have HO := Lib.hid hO'
              have HC := Lib.hid hC'
              clear hO' hC'
              go_wp2_with fail
              go_roundw
              case rel => exact ⟨k + 1, 1, O, C, by omega, by go_num, rfl, by omega, HO.out, HC.out, HW.out, fun h => absurd h (by decide), by omega, by omega, hE⟩
              case measure => simp [intOf]; omega
            · rw [show (c == 39) = false from beq_eq_false_iff_ne.2 h39] at e39
              rw [wN_q hbad h39] at hwd
              have HW := Lib.hid hwd
              clear h39 e32 e92 hwd hbad hconv
              go_wp2_with (at_builtin; refine wpList_append_own _ rfl _ _ 77 rfl w.heap.size 5 i1 (.int .u8 0) 1 1 Tryd.underlying77 gi gz0 gz1 gz2 rfl (by decide) _ _ _ rfl (hC'.alloc _) ⟨wr.heap.size, 0, none⟩ 1 1 [.int .u8 ((bs l)[k].toNat : Int)] rfl rfl (byte_news wr _) (byte_one _) (by unfold maxLen; omega) (by omega) (by have := hE.size; simp; omega) ?_)
              intro v' w2 hown2 hgrow _
              have hE2 : Ext w w2 := (hE.alloc _).grown hgrow (fun g hv => (hC'.lt g hv).1)
              have HO : Hid (OwnT w2 w.heap.size u4 O) := (hO'.alloc _).kept hgrow (rows_ne hO' hC' (by decide))
              have HC : Hid (OwnB w2 w.heap.size v' (C ++ [c])) := by
                show OwnB _ _ _ _
                unfold OwnB
                rw [byteCells_append, List.length_append, hbyte.out]
                exact hown2
              clear hown2 hgrow hO' hC'
              go_wp2_with fail
              go_roundw
              case rel => exact ⟨k + 1, 2, O, C ++ [c], by omega, by go_num, rfl, by omega, HO.out, HC.out, HW.out, fun h => absurd h (by decide), by omega, by simp; omega, hE2⟩
              case measure => simp [intOf]; omega
          · have hs2 : ((st : Int) == 2) = false := beq_eq_false_iff_ne.2 (by omega)
            by_cases h32 : c = 32
            · rw [show (c == 32) = true from by rw [h32]; rfl] at e32
              by_cases h1 : st = 1
              · subst h1
                rw [h32, wN_sp1] at hwd
                have HW := Lib.hid hwd
                have hconv2 := hconv.out
                clear h32 e39 e92 hwd hbad
                go_wp2_with (at_builtin; refine wpList_append_own _ rfl _ _ 24 rfl w.heap.size 9 i0 (.string ⟨#[]⟩) 1 16 Tryd.underlying24 hi hz0 hz1 hz2 rfl (by decide) _ _ _ rfl (hO'.alloc _) ⟨wr.heap.size, 0, none⟩ 1 1 (txtCells [C]) rfl rfl (txt_news wr C) (txtCells_one [C]) (by unfold maxLen; omega) (by omega) (by have := hE.size; simp; omega) ?_)
                intro v' w2 hown2 hgrow _
                obtain ⟨ho2, hE2⟩ := txt_app hO' hE hown2 hgrow
                have HO := Lib.hid ho2
                clear hown2 hgrow hO' hC' ho2 hconv2
                go_wp2_with fail
                go_roundw
                case rel => exact ⟨k + 1, 0, O ++ [C], [], by omega, by go_num, rfl, by omega, HO.out, World.ownsRow_nil _ _ _ _, HW.out, fun _ => rfl, by simp; omega, by simp, hE2⟩
                case measure => simp [intOf]; omega
              · obtain rfl : st = 0 := by omega
                have hC0 := hc0.out rfl
                rw [h32, wN_sp0] at hwd
                have HW : Hid (wN (l.drop (k + 1)) O C 0 = wordsN l) := by show _ = _; rw [hC0]; exact hwd
                clear h32 e39 e92 hwd hbad hconv hC0 h1
                have HO := Lib.hid hO'
                have HC := Lib.hid hC'
                clear hO' hC'
                go_wp2_with fail
                go_roundw
                case rel => exact ⟨k + 1, 0, O, C, by omega, by go_num, rfl, by omega, HO.out, HC.out, HW.out, hc0.out, by omega, by omega, hE⟩
                case measure => simp [intOf]; omega
            · rw [show (c == 32) = false from beq_eq_false_iff_ne.2 h32] at e32
              by_cases h39 : c = 39
              · rw [show (c == 39) = true from by rw [h39]; rfl] at e39
                rw [h39, wN_quote hq] at hwd
                have HW := Lib.hid hwd
                clear h39 h32 e92 hwd hbad hconv hq
                have HO := Lib.hid hO'
                have HC := Lib.hid hC'
                clear hO' hC'
                go_wp2_with fail
                go_roundw
                case rel => exact ⟨k + 1, 2, O, C, by omega, by go_num, rfl, by omega, HO.out, HC.out, HW.out, fun h => absurd h (by decide), by omega, by omega, hE⟩
                case measure => simp [intOf]; omega
              · rw [show (c == 39) = false from beq_eq_false_iff_ne.2 h39] at e39
                by_cases h92 : c = 92
                · rw [show (c == 92) = true from by rw [h92]; rfl] at e92
                  rw [h92] at hwd
                  have hw1 : IntKind.i64.wrap ((k : Int) + 1) = ((k + 1 : Nat) : Int) := by rw [wrap_i64_in (by omega) (by omega)]; omega
                  have hw3 : IntKind.i64.wrap (((k + 1 : Nat) : Int) + 1) = ((k + 2 : Nat) : Int) := by rw [wrap_i64_in (by omega) (by omega)]; omega
                  by_cases hend : k + 1 = l.length
                  · have hd : l.drop (k + 1) = [] := by rw [hend]; exact List.drop_length
                    rw [hd, wN_back0 hq] at hwd
                    have hf : Hid (wordsN l = none) := hwd.symm
                    have he : (((k + 1 : Nat) : Int) == (l.length : Int)) = true := by rw [hend]; exact beq_self_eq_true _
                    have he2 : ((k : Int) + 1 == (l.length : Int)) = true := by rw [beq_iff_eq]; omega
                    clear h92 h39 h32 hwd hbad hq hd hO' hC' hconv hend
                    go_wp2_with fail
                    go_ret2
                    exact .inl ⟨hf.out, rfl, hE⟩
                  · have hkl2 : k + 1 < l.length := by omega
                    have hks2 : k + 1 < (bs l).size := by omega
                    have hg2 : (bs l)[k + 1] = l[k + 1] := bs_get l (k + 1) hks2 hkl2
                    obtain ⟨d, hd⟩ : ∃ d, d = l[k + 1] := ⟨_, rfl⟩
                    have hdk2 : l.drop (k + 1) = d :: l.drop (k + 2) := by rw [hd]; exact List.drop_eq_getElem_cons hkl2
                    rw [← hd] at hg2
                    have hbyte2 : Hid (byteCells [d] = [.int .u8 ((bs l)[k + 1].toNat : Int)]) := by show _ = _; rw [hg2]; rfl
                    rw [hdk2, wN_back hq] at hwd
                    have he : (((k + 1 : Nat) : Int) == (l.length : Int)) = false := beq_eq_false_iff_ne.2 (by omega)
                    have he2 : ((k : Int) + 1 == (l.length : Int)) = false := beq_eq_false_iff_ne.2 (by omega)
                    have hlt2 : ((k : Int) + 1) < (l.length : Int) := by omega
                    have hlt3 : (((k + 1 : Nat) : Int)) < (l.length : Int) := by omega
                    have htn : ((k : Int) + 1).toNat = k + 1 := by omega
                    have f0 : (((bs l)[k + 1].toNat : Int) == 0) = (d == 0) := by rw [hg2]; exact u8_eq (c := d) (d := 0)
                    have f10 : (((bs l)[k + 1].toNat : Int) == 10) = (d == 10) := by rw [hg2]; exact u8_eq (c := d) (d := 10)
                    have hcb2 : ((bs l)[k + 1].toNat : Int) < 256 := by have := (bs l)[k + 1].toNat_lt; omega
                    have HG2 := Lib.hid hg2
                    clear h92 h39 h32 hbad hq hconv hend hd hg2 hdk2
                    by_cases d0 : d = 0
                    · rw [if_pos (.inl d0)] at hwd
                      have hf : Hid (wordsN l = none) := hwd.symm
                      rw [show (d == 0) = true from by rw [d0]; rfl] at f0
                      clear d0 hwd hO' hC' f10
                      go_wp2_with fail
                      go_ret2
                      exact .inl ⟨hf.out, rfl, hE⟩
                    · rw [show (d == 0) = false from beq_eq_false_iff_ne.2 d0] at f0
                      by_cases d10 : d = 10
                      · rw [if_pos (.inr d10)] at hwd
                        have hf : Hid (wordsN l = none) := hwd.symm
                        rw [show (d == 10) = true from by rw [d10]; rfl] at f10
                        clear d0 d10 hwd hO' hC'
                        go_wp2_with fail
                        go_ret2
                        exact .inl ⟨hf.out, rfl, hE⟩
                      · rw [show (d == 10) = false from beq_eq_false_iff_ne.2 d10] at f10
                        rw [if_neg (by rintro (h | h); exact d0 h; exact d10 h)] at hwd
                        have HW := Lib.hid hwd
                        clear d0 d10 hwd
                        go_wp2_with (at_builtin; refine wpList_append_own _ rfl _ _ 77 rfl w.heap.size 5 i1 (.int .u8 0) 1 1 Tryd.underlying77 gi gz0 gz1 gz2 rfl (by decide) _ _ _ rfl (hC'.alloc _) ⟨wr.heap.size, 0, none⟩ 1 1 [.int .u8 ((bs l)[k + 1].toNat : Int)] rfl rfl (byte_news wr _) (byte_one _) (by unfold maxLen; omega) (by omega) (by have := hE.size; simp; omega) ?_)
                        intro v' w2 hown2 hgrow _
                        have hE2 : Ext w w2 := (hE.alloc _).grown hgrow (fun g hv => (hC'.lt g hv).1)
                        have HO : Hid (OwnT w2 w.heap.size u4 O) := (hO'.alloc _).kept hgrow (rows_ne hO' hC' (by decide))
                        have HC : Hid (OwnB w2 w.heap.size v' (C ++ [d])) := by
                          show OwnB _ _ _ _
                          unfold OwnB
                          rw [byteCells_append, List.length_append, hbyte2.out]
                          exact hown2
                        clear hown2 hgrow hO' hC'
                        go_wp2_with fail
                        go_roundw
                        case rel => exact ⟨k + 2, 1, O, C ++ [d], by omega, by go_num, rfl, by omega, HO.out, HC.out, HW.out, fun h => absurd h (by decide), by omega, by simp; omega, hE2⟩
                        case measure => simp [intOf]; omega
                · rw [show (c == 92) = false from beq_eq_false_iff_ne.2 h92] at e92
                  rw [wN_plain hbad h32 h39 h92 hq] at hwd
                  have HW := Lib.hid hwd
                  clear h92 h39 h32 hwd hbad hq hconv
                  go_wp2_with (at_builtin; refine wpList_append_own _ rfl _ _ 77 rfl w.heap.size 5 i1 (.int .u8 0) 1 1 Tryd.underlying77 gi gz0 gz1 gz2 rfl (by decide) _ _ _ rfl (hC'.alloc _) ⟨wr.heap.size, 0, none⟩ 1 1 [.int .u8 ((bs l)[k].toNat : Int)] rfl rfl (byte_news wr _) (byte_one _) (by unfold maxLen; omega) (by omega) (by have := hE.size; simp; omega) ?_)
                  intro v' w2 hown2 hgrow _
                  have hE2 : Ext w w2 := (hE.alloc _).grown hgrow (fun g hv => (hC'.lt g hv).1)
                  have HO : Hid (OwnT w2 w.heap.size u4 O) := (hO'.alloc _).kept hgrow (rows_ne hO' hC' (by decide))
                  have HC : Hid (OwnB w2 w.heap.size v' (C ++ [c])) := by
                    show OwnB _ _ _ _
                    unfold OwnB
                    rw [byteCells_append, List.length_append, hbyte.out]
                    exact hown2
                  clear hown2 hgrow hO' hC'
                  go_wp2_with fail
                  go_roundw
                  case rel => exact ⟨k + 1, 1, O, C ++ [c], by omega, by go_num, rfl, by omega, HO.out, HC.out, HW.out, fun h => absurd h (by decide), by omega, by simp; omega, hE2⟩
                  case measure => simp [intOf]; omega
    · obtain rfl : k = l.length := by omega
      have hwd := hwn.out
      rw [List.drop_length, wN_end] at hwd
      by_cases hq : st = 2
      · subst hq
        rw [if_pos rfl] at hwd
        have hf : Hid (wordsN l = none) := hwd.symm
        clear hwd hO hC
        go_wp2_with fail
        go_ret2
        exact .inl ⟨hf.out, rfl, hE⟩
      · rw [if_neg hq] at hwd
        by_cases h1 : st = 1
        · subst h1
          rw [if_pos rfl] at hwd
          have hf : Hid (wordsN l = some (O ++ [C])) := hwd.symm
          have hconv2 := hC.text
          have hO' : wr.ownsRow w.heap.size 9 1 u4 O.length (txtCells O) := hO
          have hC' : wr.ownsRow w.heap.size 5 1 u5 C.length (byteCells C) := hC
          clear hwd hO hC hq
          go_wp2_with (at_builtin; refine wpList_append_own _ rfl _ _ 24 rfl w.heap.size 9 i0 (.string ⟨#[]⟩) 1 16 Tryd.underlying24 hi hz0 hz1 hz2 rfl (by decide) _ _ _ rfl (hO'.alloc _) ⟨wr.heap.size, 0, none⟩ 1 1 (txtCells [C]) rfl rfl (txt_news wr C) (txtCells_one [C]) (by unfold maxLen; omega) (by omega) (by have := hE.size; simp; omega) ?_)
          intro v' w2 hown2 hgrow _
          obtain ⟨ho2, hE2⟩ := txt_app hO' hE hown2 hgrow
          have HO := Lib.hid ho2
          clear hown2 hgrow hO' hC' ho2 hconv2
          go_wp2_with fail
          go_ret2
          exact .inr ⟨_, _, hf.out, rfl, HO.out, hE2⟩
        · obtain rfl : st = 0 := by omega
          rw [if_neg (by decide)] at hwd
          have hf : Hid (wordsN l = some O) := hwd.symm
          have HO := Lib.hid hO
          clear hwd hO hC hq h1
          go_wp2_with fail
          go_ret2
          exact .inr ⟨_, _, hf.out, rfl, HO.out, hE⟩
end Go.Proofs.YtmppjbimdonfmaaDoor
