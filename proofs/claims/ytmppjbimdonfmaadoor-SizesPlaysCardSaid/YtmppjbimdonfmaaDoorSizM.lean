/- Layer 7 (sizes): may, of the program and of the reference; few; Same of two equal rows. -/
import Derived.Test.YtmppjbimdonfmaaDoorSizD
import Derived.Test.YtmppjbimdonfmaaDoorQuiG
namespace Go.Proofs.YtmppjbimdonfmaaDoor
open Go.ChangeShapes Go.WideShapes Go.ChangeAt Go.RowKit

def mayL (x : EntD) : Bool := decide (0 ≤ x.2.1) && (decide (0 ≤ x.2.2) && (checkN x.1 == 0))
set_option maxRecDepth 100000 in
set_option maxHeartbeats 2000000 in
theorem smay_any (x : EntD) (w : World) : Calls Tryd.prog 82 #[lineA x] w (Ret w (.bool (mayL x))) := by
  obtain ⟨nm, sz, tm⟩ := x
  obtain ⟨V, hV⟩ : ∃ V, V = w.alloc (.cells #[.int .i64 sz, .int .i64 tm, .string (bs nm)] 48) := ⟨_, rfl⟩
  have hB : Has V w.heap.size (.cells #[.int .i64 sz, .int .i64 tm, .string (bs nm)] 48) := by rw [hV]; exact Has.new _ _
  have E0 : Ext w V := by rw [hV]; exact (Ext.refl _).alloc _
  obtain ⟨c0, c1, c2⟩ : V.cell? ⟨w.heap.size, 0, none⟩ = some (.int .i64 sz) ∧ V.cell? ⟨w.heap.size, 1, none⟩ = some (.int .i64 tm) ∧ V.cell? ⟨w.heap.size, 2, none⟩ = some (.string (bs nm)) := ⟨hB.cell 0, hB.cell 1, hB.cell 2⟩
  have HV := Lib.hid hV
  clear hV hB
  show Calls _ _ #[.agg #[.int .i64 sz, .int .i64 tm, .string (bs nm)]] _ _
  by_cases h1 : 0 ≤ sz
  · by_cases h2 : 0 ≤ tm
    · obtain ⟨c, hc⟩ : ∃ c, c = checkN nm := ⟨_, rfl⟩
      have hf : Hid (mayL (nm, sz, tm) = (c == 0)) := by show _ = _; unfold mayL; rw [decide_eq_true h1, decide_eq_true h2, hc]; rfl
      have hC := fun w1 => pcheck_any (bs nm) w1
      rw [bs_list, ← hc] at hC
      have HC := Lib.hid hC
      clear hC hc
      go_enter Tryd.func82, Tryd.ntmps82
      go_wp2_with (rw [← HV.out])
      refine (HC.out _).mono ?_
      rintro e w1 ⟨rfl, b1⟩
      go_wp2_with fail
      go_ret
      exact Ret.mk (ret_bool hf.out.symm) (E0.trans b1)
    · have hf : Hid (mayL (nm, sz, tm) = false) := by show _ = _; unfold mayL; rw [decide_eq_true h1, decide_eq_false h2]; rfl
      have h3 : tm < 0 := by omega
      go_enter Tryd.func82, Tryd.ntmps82
      go_wp2_with (rw [← HV.out])
      go_ret
      exact Ret.mk (ret_bool hf.out.symm) E0
  · have hf : Hid (mayL (nm, sz, tm) = false) := by show _ = _; unfold mayL; rw [decide_eq_false h1]; rfl
    have h3 : sz < 0 := by omega
    go_enter Tryd.func82, Tryd.ntmps82
    go_wp2_with (rw [← HV.out])
    go_ret
    exact Ret.mk (ret_bool hf.out.symm) E0
set_option maxRecDepth 100000 in
set_option maxHeartbeats 2000000 in
theorem rmay_any (x : EntD) (w : World) (hx : x.1.length ≤ 1000000) : Calls Tryd.prog 49 #[lineA x] w (Ret w (.bool (mayL x))) := by
  obtain ⟨nm, sz, tm⟩ := x
  obtain ⟨V, hV⟩ : ∃ V, V = w.alloc (.cells #[.int .i64 sz, .int .i64 tm, .string (bs nm)] 48) := ⟨_, rfl⟩
  have hB : Has V w.heap.size (.cells #[.int .i64 sz, .int .i64 tm, .string (bs nm)] 48) := by rw [hV]; exact Has.new _ _
  have E0 : Ext w V := by rw [hV]; exact (Ext.refl _).alloc _
  obtain ⟨c0, c1, c2⟩ : V.cell? ⟨w.heap.size, 0, none⟩ = some (.int .i64 sz) ∧ V.cell? ⟨w.heap.size, 1, none⟩ = some (.int .i64 tm) ∧ V.cell? ⟨w.heap.size, 2, none⟩ = some (.string (bs nm)) := ⟨hB.cell 0, hB.cell 1, hB.cell 2⟩
  have HV := Lib.hid hV
  clear hV hB
  show Calls _ _ #[.agg #[.int .i64 sz, .int .i64 tm, .string (bs nm)]] _ _
  by_cases h1 : 0 ≤ sz
  · by_cases h2 : 0 ≤ tm
    · obtain ⟨c, hc⟩ : ∃ c, c = checkN nm := ⟨_, rfl⟩
      have hf : Hid (mayL (nm, sz, tm) = (c == 0)) := by show _ = _; unfold mayL; rw [decide_eq_true h1, decide_eq_true h2, hc]; rfl
      have hC := fun w1 => rcheck_any (bs nm) (by rw [bs_size]; exact hx) w1
      rw [bs_list, ← hc] at hC
      have HC := Lib.hid hC
      clear hC hc
      go_enter Tryd.func49, Tryd.ntmps49
      go_wp2_with (rw [← HV.out])
      refine (HC.out _).mono ?_
      rintro e w1 ⟨rfl, b1⟩
      go_wp2_with fail
      go_ret
      exact Ret.mk (ret_bool hf.out.symm) (E0.trans b1)
    · have hf : Hid (mayL (nm, sz, tm) = false) := by show _ = _; unfold mayL; rw [decide_eq_true h1, decide_eq_false h2]; rfl
      have h3 : tm < 0 := by omega
      go_enter Tryd.func49, Tryd.ntmps49
      go_wp2_with (rw [← HV.out])
      go_ret
      exact Ret.mk (ret_bool hf.out.symm) E0
  · have hf : Hid (mayL (nm, sz, tm) = false) := by show _ = _; unfold mayL; rw [decide_eq_false h1]; rfl
    have h3 : sz < 0 := by omega
    go_enter Tryd.func49, Tryd.ntmps49
    go_wp2_with (rw [← HV.out])
    go_ret
    exact Ret.mk (ret_bool hf.out.symm) E0
def few7B (L : List EntD) : Bool := L.all (fun s => decide (s.1.length ≤ 300)) && decide (L.length ≤ 30)
theorem few7_yes {L : List EntD} (h : few7B L = true) : L.length ≤ 30 ∧ ∀ s ∈ L, s.1.length ≤ 300 := by
  unfold few7B at h
  rw [Bool.and_eq_true, List.all_eq_true, decide_eq_true_iff] at h
  exact ⟨h.2, fun s hs => of_decide_eq_true (h.1 s hs)⟩
set_option maxRecDepth 100000 in
set_option maxHeartbeats 2000000 in
theorem few7_any (A : Option Addr) (cap : Nat) (L : List EntD) (w : World) (hat : EntsAt w A L) (hlen : L.length ≤ 9223372036854775807) : Calls Tryd.prog 42 #[.slice A L.length cap] w (Ret w (.bool (few7B L))) := by
  obtain ⟨n, hn⟩ : ∃ n, n = L.length := ⟨_, rfl⟩
  rw [← hn] at hlen ⊢
  have HN := Lib.hid hn
  have HA := Lib.hid hat
  clear hn hat
  go_enter Tryd.func42, Tryd.ntmps42
  go_wp2_with fail
  go_loopw [3] (fun i wr => ∃ k : Nat, k ≤ n ∧ i = .int .i64 k ∧ Hid ((L.take k).all (fun s => decide (s.1.length ≤ 300)) = true) ∧ Ext w wr) (fun i _ => n - (intOf i).toNat)
  case atStart => exact ⟨0, Nat.zero_le _, rfl, rfl, Ext.refl _⟩
  case round =>
    obtain ⟨k, hk, rfl, hall, hE⟩ := hrel
    by_cases hlt : (k : Int) < n
    · have hkl : k < L.length := by rw [← HN.out]; omega
      obtain ⟨b, o, rfl, hbb, hca, hcb, hcl⟩ := HA.out.at_ hE k hkl
      have zz := bs_size L[k].1
      have hs : Hid ((L.take (k + 1)).all (fun s => decide (s.1.length ≤ 300)) = decide (L[k].1.length ≤ 300)) := by
        show _ = _
        rw [List.take_succ_eq_append_getElem hkl, List.all_append, hall.out, Bool.true_and, List.all_cons, List.all_nil, Bool.and_true]
      have hno : Hid (¬ L[k].1.length ≤ 300 → few7B L = false) := by
        intro h
        unfold few7B
        rw [Bool.and_eq_false_iff]
        refine .inl (List.all_eq_false.2 ⟨L[k], List.getElem_mem hkl, by simpa using h⟩)
      by_cases h2 : L[k].1.length ≤ 300
      · have h2i : ¬ (300 : Int) < (L[k].1.length : Int) := by omega
        clear hno
        go_wp2_with fail
        go_roundw
        case rel => exact ⟨k + 1, by omega, by go_num, by rw [hs.out]; exact decide_eq_true h2, hE⟩
        case measure => simp [intOf]; omega
      · have h2i : (300 : Int) < (L[k].1.length : Int) := by omega
        have hf := Lib.hid (hno.out h2)
        go_wp2_with fail
        go_ret
        exact Ret.mk (ret_bool hf.out.symm) hE
    · obtain rfl : n = k := by omega
      have hf : Hid (few7B L = decide ((n : Int) ≤ 30)) := by
        have h := hall.out
        rw [HN.out, List.take_length] at h
        show _ = _
        unfold few7B
        rw [h, Bool.true_and, ← HN.out]
        exact decide_eq_decide.2 (by omega)
      go_wp2_with fail
      go_ret
      exact Ret.mk (ret_bool hf.out.symm) hE
set_option maxRecDepth 100000 in
set_option maxHeartbeats 2000000 in
theorem same7_any (A A' : Option Addr) (cap cap' : Nat) (es : List EntD) (w : World) (ha : EntsAt w A es) (hb : EntsAt w A' es) (hlen : es.length ≤ 1000000) : Calls Tryd.prog 46 #[.slice A es.length cap, .slice A' es.length cap'] w (Ret w (.bool true)) := by
  obtain ⟨n, hn⟩ : ∃ n, n = es.length := ⟨_, rfl⟩
  rw [← hn] at hlen ⊢
  have HN := Lib.hid hn
  have HA := Lib.hid ha
  have HB := Lib.hid hb
  clear hn ha hb
  go_enter Tryd.func46, Tryd.ntmps46
  go_wp2_with fail
  go_loopw [5] (fun i wr => ∃ k : Nat, k ≤ n ∧ i = .int .i64 k ∧ Ext w wr) (fun i _ => n - (intOf i).toNat)
  case atStart => exact ⟨0, Nat.zero_le _, rfl, Ext.refl _⟩
  case round =>
    obtain ⟨k, hk, rfl, hE⟩ := hrel
    by_cases hlt : (k : Int) < n
    · have hkl : k < es.length := by rw [← HN.out]; omega
      obtain ⟨b1, o1, rfl, hbb1, p0, p1, p2⟩ := HA.out.at_ hE k hkl
      obtain ⟨b2, o2, rfl, hbb2, q0, q1, q2⟩ := HB.out.at_ hE k hkl
      generalize es[k] = x at p0 p1 p2 q0 q1 q2
      have g2 : (0 : Int) ≤ (k : Int) := by omega
      go_wp2_with fail
      go_quiet (fail)
      go_wp2_with fail
      go_roundw
      case rel => exact ⟨k + 1, by omega, by go_num, hE.drewN _⟩
      case measure => simp [intOf]; omega
    · obtain rfl : n = k := by omega
      go_wp2_with fail
      go_ret
      exact Ret.mk rfl hE
end Go.Proofs.YtmppjbimdonfmaaDoor
