/- Layer 48 (script): the reference's May. -/
import Derived.Test.YtanaifobmkjpaaaDoorScpN
namespace Go.Proofs.YtanaifobmkjpaaaDoor
open Go.ChangeShapes Go.WideShapes Go.ChangeAt Go.RowKit

theorem bool_of {a b : Int} (h : a ≠ b) : (a == b) = false := beq_eq_false_iff_ne.2 h
theorem bool_eq {a b : Int} (h : a = b) : (a == b) = true := by rw [h]; simp
theorem bne_of {a b : Int} (h : a ≠ b) : (a != b) = true := bne_iff_ne.2 h
theorem bne_eq {a b : Int} (h : a = b) : (a != b) = false := by rw [h]; simp
/-- What May answers once all words may be, and the tests that tell it. -/
theorem may_split (k n y : Int) (ws : List Txt) (hall : ws.all (fun x => !anySZ x) = true) :
    ((k == 1) = true ∧ (n == 0) = false ∧ Hid (mayB ⟨k, ws, n, y⟩ = false)) ∨
    ((k == 1) = true ∧ (n == 0) = true ∧ Hid (mayB ⟨k, ws, n, y⟩ = (y == 0))) ∨
    ((k == 1) = false ∧ (0 : Int) < (ws.length : Int) ∧ Hid (mayB ⟨k, ws, n, y⟩ = false)) ∨
    ((k == 1) = false ∧ (ws.length : Int) ≤ 0 ∧ (k == 4) = true ∧ n < 1 ∧ Hid (mayB ⟨k, ws, n, y⟩ = false)) ∨
    ((k == 1) = false ∧ (ws.length : Int) ≤ 0 ∧ (k == 4) = true ∧ 1 ≤ n ∧ y < 1 ∧ Hid (mayB ⟨k, ws, n, y⟩ = false)) ∨
    ((k == 1) = false ∧ (ws.length : Int) ≤ 0 ∧ (k == 4) = true ∧ 1 ≤ n ∧ 1 ≤ y ∧ Hid (mayB ⟨k, ws, n, y⟩ = decide (y ≤ 20))) ∨
    ((k == 1) = false ∧ (ws.length : Int) ≤ 0 ∧ (k == 4) = false ∧ (y != 0) = true ∧ Hid (mayB ⟨k, ws, n, y⟩ = false)) ∨
    ((k == 1) = false ∧ (ws.length : Int) ≤ 0 ∧ (k == 4) = false ∧ (y != 0) = false ∧ (k == 2) = true ∧ 0 ≤ n ∧ Hid (mayB ⟨k, ws, n, y⟩ = true)) ∨
    ((k == 1) = false ∧ (ws.length : Int) ≤ 0 ∧ (k == 4) = false ∧ (y != 0) = false ∧ (k == 2) = true ∧ n < 0 ∧ (k == 5) = false ∧ Hid (mayB ⟨k, ws, n, y⟩ = false)) ∨
    ((k == 1) = false ∧ (ws.length : Int) ≤ 0 ∧ (k == 4) = false ∧ (y != 0) = false ∧ (k == 2) = false ∧ (k == 3) = true ∧ 0 ≤ n ∧ Hid (mayB ⟨k, ws, n, y⟩ = true)) ∨
    ((k == 1) = false ∧ (ws.length : Int) ≤ 0 ∧ (k == 4) = false ∧ (y != 0) = false ∧ (k == 2) = false ∧ (k == 3) = true ∧ n < 0 ∧ (k == 5) = false ∧ Hid (mayB ⟨k, ws, n, y⟩ = false)) ∨
    ((k == 1) = false ∧ (ws.length : Int) ≤ 0 ∧ (k == 4) = false ∧ (y != 0) = false ∧ (k == 2) = false ∧ (k == 3) = false ∧ (k == 5) = true ∧ Hid (mayB ⟨k, ws, n, y⟩ = (n == 0))) ∨
    ((k == 1) = false ∧ (ws.length : Int) ≤ 0 ∧ (k == 4) = false ∧ (y != 0) = false ∧ (k == 2) = false ∧ (k == 3) = false ∧ (k == 5) = false ∧ Hid (mayB ⟨k, ws, n, y⟩ = false)) := by
  by_cases h1 : k = 1
  · subst h1
    by_cases hn : n = 0
    · exact .inr (.inl ⟨rfl, bool_eq hn, by show _ = _; rw [may_one, hall, hn, int_beq]; rfl⟩)
    · exact .inl ⟨rfl, bool_of hn, by show _ = _; rw [may_one, hall, decide_eq_false hn]; rfl⟩
  · iterate 2 refine .inr ?_
    have e1 := bool_of h1
    by_cases hw : ws = []
    · refine .inr ?_
      subst hw
      by_cases h4 : k = 4
      · subst h4
        by_cases hn : 1 ≤ n
        · refine .inr ?_
          by_cases hy : 1 ≤ y
          · exact .inr (.inl ⟨rfl, by simp, rfl, hn, hy, by show _ = _; simp [mayB, hn, hy]⟩)
          · exact .inl ⟨rfl, by simp, rfl, hn, by omega, by show _ = _; simp [mayB]; omega⟩
        · exact .inl ⟨rfl, by simp, rfl, by omega, by show _ = _; simp [mayB]; omega⟩
      · iterate 3 refine .inr ?_
        have e4 := bool_of h4
        by_cases hy : y = 0
        · refine .inr ?_
          subst hy
          by_cases h2 : k = 2
          · subst h2
            by_cases hn : 0 ≤ n
            · exact .inl ⟨rfl, by simp, rfl, rfl, rfl, hn, by show _ = _; simp [mayB, hn]⟩
            · exact .inr (.inl ⟨rfl, by simp, rfl, rfl, rfl, by omega, rfl, by show _ = _; simp [mayB]; omega⟩)
          · iterate 2 refine .inr ?_
            have e2 := bool_of h2
            by_cases h3 : k = 3
            · subst h3
              by_cases hn : 0 ≤ n
              · exact .inl ⟨rfl, by simp, rfl, rfl, rfl, rfl, hn, by show _ = _; simp [mayB, hn]⟩
              · exact .inr (.inl ⟨rfl, by simp, rfl, rfl, rfl, rfl, by omega, rfl, by show _ = _; simp [mayB]; omega⟩)
            · iterate 2 refine .inr ?_
              have e3 := bool_of h3
              by_cases h5 : k = 5
              · subst h5
                exact .inl ⟨rfl, by simp, rfl, rfl, rfl, rfl, rfl, by show _ = _; simp [mayB, int_beq]⟩
              · exact .inr ⟨e1, by simp, e4, rfl, e2, e3, bool_of h5, by show _ = _; simp [mayB, h1, h2, h3, h4, h5]⟩
        · exact .inl ⟨e1, by simp, e4, bne_of hy, by show _ = _; simp [mayB, h1, h4, hy]⟩
    · exact .inl ⟨e1, by have := List.length_pos_iff.2 hw; omega, by show _ = _; simp [mayB, h1, hw]⟩
theorem unsafe_not {k n y : Int} {ws : List Txt} {j : Nat} (h : j < ws.length) (hz : anySZ ws[j] = true) : mayB ⟨k, ws, n, y⟩ = false := by
  have hw : ws ≠ [] := by rintro rfl; simp at h
  have ha : ws.all (fun x => !anySZ x) = false := all_no h (by rw [hz]; rfl)
  unfold mayB
  simp only
  rw [ha]
  simp [hw]
theorem anyZ_take {x : Txt} {i : Nat} (h : i < x.length) (hb : sgz.contains x[i] = true) : anySZ x = true := by
  unfold anySZ; rw [List.any_eq_true]; exact ⟨x[i], List.getElem_mem h, hb⟩
set_option maxRecDepth 100000 in
set_option maxHeartbeats 8000000 in
theorem rmay_any (k n y : Int) (ws : List Txt) (A : Option Addr) (cap : Nat) (w : World) (hat : TxtAt w A ws) (hlen : ws.length ≤ 1000000) (hs : ∀ x ∈ ws, x.length ≤ 1000000) : Calls Tryd.prog 14 #[.agg #[.int .i64 k, .slice A ws.length cap, .int .i64 n, .int .i64 y]] w (Ret w (.bool (mayB ⟨k, ws, n, y⟩))) := by
  obtain ⟨V, hV⟩ : ∃ V, V = w.alloc (.cells #[.int .i64 k, .slice A ws.length cap, .int .i64 n, .int .i64 y] 30) := ⟨_, rfl⟩
  have hC : Has V w.heap.size (.cells #[.int .i64 k, .slice A ws.length cap, .int .i64 n, .int .i64 y] 30) := by rw [hV]; exact Has.new _ _
  have E0 : Ext w V := by rw [hV]; exact (Ext.refl _).alloc _
  have HA := Lib.hid (hat.ext E0)
  have HS := Lib.hid hs
  have HV := Lib.hid hV
  obtain ⟨m, hm⟩ : ∃ m, m = ws.length := ⟨_, rfl⟩
  have HM := Lib.hid hm
  rw [← hm] at HV hC hlen ⊢
  have HC := Lib.hid hC
  have c0 : V.cell? ⟨w.heap.size, 0, none⟩ = some (.int .i64 k) := hC.cell 0
  have c1 : V.cell? ⟨w.heap.size, 1, none⟩ = some (.slice A m cap) := hC.cell 1
  have c2 : V.cell? ⟨w.heap.size, 2, none⟩ = some (.int .i64 n) := hC.cell 2
  have c3 : V.cell? ⟨w.heap.size, 3, none⟩ = some (.int .i64 y) := hC.cell 3
  have hl := Has.lt hC
  clear hV hC hat hs hm
  go_enter Tryd.func14, Tryd.ntmps14
  go_wp2_with (rw [← HV.out])
  go_loop [3] (fun i => ∃ j : Nat, j ≤ m ∧ i = .int .i64 j ∧ Hid ((ws.take j).all (fun x => !anySZ x) = true)) (fun i => m - (intOf i).toNat)
  case atStart => exact ⟨0, Nat.zero_le _, rfl, rfl⟩
  case round =>
    obtain ⟨j, hj, rfl, hall⟩ := hrel
    by_cases hlt : (j : Int) < m
    · have hjl : j < ws.length := by rw [← HM.out]; omega
      obtain ⟨b, o, rfl, hbb, hcl⟩ := HA.out.at_ (Ext.refl V) j hjl
      have hxl := HS.out ws[j] (List.getElem_mem hjl)
      have hT := Lib.hid (all_take_succ hjl hall.out)
      obtain ⟨x, hx⟩ : ∃ x, x = ws[j] := ⟨_, rfl⟩
      rw [← hx] at hcl hxl hT
      have zx : (bs x).size = x.length := bs_size x
      have HX := Lib.hid hx
      clear hx
      go_wp2_with fail
      go_loop [4] (fun i => ∃ q : Nat, q ≤ x.length ∧ i = .int .i64 q ∧ Hid ((x.take q).any (sgz.contains ·) = false)) (fun i => x.length - (intOf i).toNat)
      case atStart => exact ⟨0, Nat.zero_le _, rfl, rfl⟩
      case round =>
        obtain ⟨q, hq, rfl, hno⟩ := hrel
        by_cases hlq : (q : Int) < x.length
        · have hql : q < x.length := by omega
          have hqs : q < (bs x).size := by omega
          have hg : (bs x)[q] = x[q] := bs_get x q hqs hql
          obtain ⟨c, hc⟩ : ∃ c, c = x[q] := ⟨_, rfl⟩
          rw [← hc] at hg
          have e0 : (((bs x)[q].toNat : Int) == 0) = (c == 0) := by rw [hg]; exact u8_eq (c := c) (d := 0)
          have e10 : (((bs x)[q].toNat : Int) == 10) = (c == 10) := by rw [hg]; exact u8_eq (c := c) (d := 10)
          have hyes : Hid (sgz.contains c = true → mayB ⟨k, ws, n, y⟩ = false) := fun h => unsafe_not hjl (by rw [← HX.out]; exact anyZ_take hql (hc ▸ h))
          have hnn : Hid (sgz.contains c = false → (x.take (q + 1)).any (sgz.contains ·) = false) := fun h => by
            rw [List.take_succ_eq_append_getElem hql, List.any_append, hno.out, Bool.false_or, List.any_cons, List.any_nil, Bool.or_false]; exact hc ▸ h
          have hq0 : (0 : Int) ≤ (q : Int) := Int.natCast_nonneg _
          clear hg hc
          by_cases hc0 : c = 0
          · have hf : Hid (mayB ⟨k, ws, n, y⟩ = false) := hyes.out (by rw [hc0]; decide)
            rw [show (c == 0) = true from by rw [hc0]; rfl] at e0
            clear hc0
            go_wp2_with fail
            go_ret
            exact Ret.mk (ret_bool hf.out.symm) E0
          · rw [show (c == 0) = false from beq_eq_false_iff_ne.2 hc0] at e0
            by_cases hc1 : c = 10
            · have hf : Hid (mayB ⟨k, ws, n, y⟩ = false) := hyes.out (by rw [hc1]; decide)
              rw [show (c == 10) = true from by rw [hc1]; rfl] at e10
              clear hc0 hc1
              go_wp2_with fail
              go_ret
              exact Ret.mk (ret_bool hf.out.symm) E0
            · rw [show (c == 10) = false from beq_eq_false_iff_ne.2 hc1] at e10
              have hf := Lib.hid (hnn.out (by simp [sgz, hc0, hc1]))
              clear hc0 hc1
              go_wp2_with fail
              go_round
              case rel => exact ⟨q + 1, by omega, by go_num, hf.out⟩
              case measure => simp [intOf]; omega
        · obtain rfl : x.length = q := by omega
          have hz : anySZ x = false := by have h := hno.out; rw [List.take_length] at h; exact h
          have hT2 : Hid ((ws.take (j + 1)).all (fun x => !anySZ x) = true) := by show _ = _; rw [hT.out, hz]; rfl
          clear hz
          go_wp2_with fail
          go_round
          case rel => exact ⟨j + 1, by omega, by go_num, hT2.out⟩
          case measure => simp [intOf]; omega
    · obtain rfl : m = j := by omega
      have ha := hall.out
      rw [HM.out, List.take_length] at ha
      have hsp := may_split k n y ws ha
      rw [← HM.out] at hsp
      clear ha
      rcases hsp with ⟨f1, f2, hf⟩ | ⟨f1, f2, hf⟩ | ⟨f1, f2, hf⟩ | ⟨f1, f2, f3, f4, hf⟩ | ⟨f1, f2, f3, f4, f5, hf⟩ | ⟨f1, f2, f3, f4, f5, hf⟩ | ⟨f1, f2, f3, f4, hf⟩ | ⟨f1, f2, f3, f4, f5, f6, hf⟩ | ⟨f1, f2, f3, f4, f5, f6, f7, hf⟩ | ⟨f1, f2, f3, f4, f5, f6, f7, hf⟩ | ⟨f1, f2, f3, f4, f5, f6, f7, f8, hf⟩ | ⟨f1, f2, f3, f4, f5, f6, f7, hf⟩ | ⟨f1, f2, f3, f4, f5, f6, f7, hf⟩
      all_goals
        go_wp2_with fail
        go_ret
        exact Ret.mk (ret_bool (by first | exact hf.out.symm | (rw [hf.out]; exact decide_eq_false (by omega)))) E0
end Go.Proofs.YtanaifobmkjpaaaDoor
