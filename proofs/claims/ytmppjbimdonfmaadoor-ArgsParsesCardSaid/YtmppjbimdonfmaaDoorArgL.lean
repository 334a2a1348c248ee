/- Layer 46 (args): few, Same, awake. -/
import Derived.Test.YtmppjbimdonfmaaDoorArgA
import Derived.Test.YtmppjbimdonfmaaDoorApdT
namespace Go.Proofs.YtmppjbimdonfmaaDoor
open Go.ChangeShapes Go.WideShapes Go.ChangeAt Go.RowKit

def few46B (L : List Txt) : Bool := L.all (fun s => decide (s.length ≤ 200)) && decide (L.length ≤ 12)
theorem few46_yes {L : List Txt} (h : few46B L = true) : L.length ≤ 12 ∧ ∀ s ∈ L, s.length ≤ 200 := by
  unfold few46B at h
  rw [Bool.and_eq_true, List.all_eq_true, decide_eq_true_iff] at h
  exact ⟨h.2, fun s hs => of_decide_eq_true (h.1 s hs)⟩
set_option maxRecDepth 100000 in
set_option maxHeartbeats 2000000 in
theorem few46_any (A : Option Addr) (cap : Nat) (L : List Txt) (w : World) (hat : TxtAt w A L) (hlen : L.length ≤ 9223372036854775807) : Calls Tryd.prog 55 #[.slice A L.length cap] w (Ret w (.bool (few46B L))) := by
  obtain ⟨n, hn⟩ : ∃ n, n = L.length := ⟨_, rfl⟩
  rw [← hn] at hlen ⊢
  have HN := Lib.hid hn
  have HA := Lib.hid hat
  clear hn hat
  go_enter Tryd.func55, Tryd.ntmps55
  go_wp2_with fail
  go_loopw [3] (fun i wr => ∃ k : Nat, k ≤ n ∧ i = .int .i64 k ∧ Hid ((L.take k).all (fun s => decide (s.length ≤ 200)) = true) ∧ Ext w wr) (fun i _ => n - (intOf i).toNat)
  case atStart => exact ⟨0, Nat.zero_le _, rfl, rfl, Ext.refl _⟩
  case round =>
    obtain ⟨k, hk, rfl, hall, hE⟩ := hrel
    by_cases hlt : (k : Int) < n
    · have hkl : k < L.length := by rw [← HN.out]; omega
      obtain ⟨b, o, rfl, hbb, hcl⟩ := HA.out.at_ hE k hkl
      have zz := bs_size L[k]
      have hs : Hid ((L.take (k + 1)).all (fun s => decide (s.length ≤ 200)) = decide (L[k].length ≤ 200)) := by
        show _ = _
        rw [List.take_succ_eq_append_getElem hkl, List.all_append, hall.out, Bool.true_and, List.all_cons, List.all_nil, Bool.and_true]
      have hno : Hid (¬ L[k].length ≤ 200 → few46B L = false) := by
        intro h
        unfold few46B
        rw [Bool.and_eq_false_iff]
        refine .inl (List.all_eq_false.2 ⟨L[k], List.getElem_mem hkl, by simpa using h⟩)
      by_cases h2 : L[k].length ≤ 200
      · have h2i : ¬ (200 : Int) < (L[k].length : Int) := by omega
        clear hno
        go_wp2_with fail
        go_roundw
        case rel => exact ⟨k + 1, by omega, by go_num, by rw [hs.out]; exact decide_eq_true h2, hE⟩
        case measure => simp [intOf]; omega
      · have h2i : (200 : Int) < (L[k].length : Int) := by omega
        have hf := Lib.hid (hno.out h2)
        go_wp2_with fail
        go_ret
        exact Ret.mk (ret_bool hf.out.symm) hE
    · obtain rfl : n = k := by omega
      have hf : Hid (few46B L = decide ((n : Int) ≤ 12)) := by
        have h := hall.out
        rw [HN.out, List.take_length] at h
        show _ = _
        unfold few46B
        rw [h, Bool.true_and, ← HN.out]
        exact decide_eq_decide.2 (by omega)
      go_wp2_with fail
      go_ret
      exact Ret.mk (ret_bool hf.out.symm) hE
theorem two_box (w : World) (o o2 : Obj) : Has ((w.alloc o).alloc o2) (w.heap.size + 1) o2 := by
  have h := Has.new (w.alloc o) o2
  rw [World.size_alloc] at h
  exact h
set_option maxRecDepth 100000 in
set_option maxHeartbeats 4000000 in
theorem same46_any (k : Int) (A A' : Option Addr) (cap cap' : Nat) (ps : List Txt) (b d : Bool) (a q : Int) (w : World) (hat : TxtAt w A ps) (hat' : TxtAt w A' ps) (hlen : ps.length ≤ 1000000) :
    Calls Tryd.prog 65 #[.agg (cmdC k (.slice A ps.length cap) b d a q), .agg (cmdC k (.slice A' ps.length cap') b d a q)] w (Ret w (.bool true)) := by
  obtain ⟨V, hV⟩ : ∃ V, V = (w.alloc (.cells (cmdC k (.slice A ps.length cap) b d a q) 62)).alloc (.cells (cmdC k (.slice A' ps.length cap') b d a q) 62) := ⟨_, rfl⟩
  have E0 : Ext w V := by rw [hV]; exact ((Ext.refl _).alloc _).alloc _
  have C0 : CmdAt V w.heap.size k (.slice A ps.length cap) b d a q := by rw [hV]; exact (Has.new _ _).alloc _
  have C1 : CmdAt V (w.heap.size + 1) k (.slice A' ps.length cap') b d a q := by rw [hV]; exact two_box _ _ _
  have hA := Lib.hid (hat.ext E0)
  have hA' := Lib.hid (hat'.ext E0)
  unfold cmdC at hV
  have HV := Lib.hid hV
  obtain ⟨c0, c1, c2, c3, c4, c5⟩ := C0.cells
  obtain ⟨d0, d1, d2, d3, d4, d5⟩ := C1.cells
  have hl0 := Has.lt C0
  have hl1 := Has.lt C1
  clear hV hat hat'
  unfold cmdC
  go_enter Tryd.func65, Tryd.ntmps65
  go_wp2_with (rw [← HV.out])
  refine (rsame_any A A' cap cap' ps V hA.out hA'.out hlen).mono ?_
  rintro e w1 ⟨rfl, b1⟩
  obtain ⟨x0, x1, x2, x3, x4, x5⟩ := CmdAt.cells (Has.ext C0 b1)
  obtain ⟨y0, y1, y2, y3, y4, y5⟩ := CmdAt.cells (Has.ext C1 b1)
  clear c0 c1 c2 c3 c4 c5 d0 d1 d2 d3 d4 d5
  go_wp2_with fail
  go_ret
  exact Ret.mk (by simp) (E0.trans b1)
/-- Texts out of a slice that was just built, as they lie. -/
theorem made_at (wd : World) (L : List Txt) : TxtAt (wd.alloc (.cells (txtCells L).toArray 9)) (some ⟨wd.heap.size, 0, none⟩) L :=
  .inr ⟨wd.heap.size, 0, rfl, by simp, fun k hk => by
    have h := (Has.new wd (.cells (txtCells L).toArray 9)).cell (0 + k)
    rw [h, Nat.zero_add, List.getElem?_toArray]
    exact txtCells_get L k hk⟩
theorem made_at2 (wd : World) (L : List Txt) (n : Nat) (h : wd.heap.size = n) : TxtAt (wd.alloc (.cells (txtCells L).toArray 9)) (some ⟨n, 0, none⟩) L := h ▸ made_at wd L
end Go.Proofs.YtmppjbimdonfmaaDoor
