/- Layer 48 (script): few, blank, Same of the law. -/
import Derived.Test.YtanaifobmkjpaaaDoorScpB
import Derived.Deep.RegionHeld3
namespace Go.Proofs.YtanaifobmkjpaaaDoor
open Go.ChangeShapes Go.WideShapes Go.ChangeAt Go.RowKit

def okS (s : StepN) : Bool := decide (s.ws.length ≤ 8) && s.ws.all (fun x => decide (x.length ≤ 100))
def fewS (L : List StepN) : Bool := L.all okS && decide (L.length ≤ 20)
theorem fewS_yes {L : List StepN} (h : fewS L = true) : L.length ≤ 20 ∧ ∀ s ∈ L, s.ws.length ≤ 8 ∧ ∀ x ∈ s.ws, x.length ≤ 100 := by
  unfold fewS at h
  rw [Bool.and_eq_true, List.all_eq_true, decide_eq_true_iff] at h
  refine ⟨h.2, fun s hs => ?_⟩
  have h1 := h.1 s hs
  unfold okS at h1
  rw [Bool.and_eq_true, List.all_eq_true, decide_eq_true_iff] at h1
  exact ⟨h1.1, fun x hx => of_decide_eq_true (h1.2 x hx)⟩
theorem fewS_no {L : List StepN} {k : Nat} (h : k < L.length) (hs : okS L[k] = false) : fewS L = false := by
  unfold fewS
  rw [Bool.and_eq_false_iff]
  exact .inl (List.all_eq_false.2 ⟨L[k], List.getElem_mem h, by simp [hs]⟩)
theorem allS_succ {L : List StepN} {f : StepN → Bool} {k : Nat} (h : k < L.length) (ha : (L.take k).all f = true) : (L.take (k + 1)).all f = f L[k] := by
  rw [List.take_succ_eq_append_getElem h, List.all_append, ha]; simp
set_option maxRecDepth 100000 in
set_option maxHeartbeats 4000000 in
theorem few48_any (A : Option Addr) (cap : Nat) (L : List StepN) (w : World) (hat : StepsAt w A L) (hlen : L.length ≤ 9223372036854775807) (hws : ∀ s ∈ L, s.ws.length ≤ 9223372036854775807) : Calls Tryd.prog 9 #[.slice A L.length cap] w (Ret w (.bool (fewS L))) := by
  obtain ⟨n, hn⟩ : ∃ n, n = L.length := ⟨_, rfl⟩
  rw [← hn] at hlen ⊢
  have HN := Lib.hid hn
  have HA := Lib.hid hat
  have HWS := Lib.hid hws
  clear hn hat hws
  go_enter Tryd.func9, Tryd.ntmps9
  go_wp2_with fail
  go_loop [3] (fun i => ∃ k : Nat, k ≤ n ∧ i = .int .i64 k ∧ Hid ((L.take k).all okS = true)) (fun i => n - (intOf i).toNat)
  case atStart => exact ⟨0, Nat.zero_le _, rfl, rfl⟩
  case round =>
    obtain ⟨k, hk, rfl, hall⟩ := hrel
    by_cases hlt : (k : Int) < n
    · have hkl : k < L.length := by rw [← HN.out]; omega
      obtain ⟨b, o, rfl, hbb, B, c, ⟨_, hc1, _, _⟩, ht, _, _⟩ := HA.out.at_ (Ext.refl w) k hkl
      have hT := Lib.hid (allS_succ hkl hall.out)
      have hno : Hid (okS L[k] = false → fewS L = false) := fun h => fewS_no hkl h
      have hwl := HWS.out L[k] (List.getElem_mem hkl)
      obtain ⟨s, hs⟩ : ∃ s, s = L[k] := ⟨_, rfl⟩
      rw [← hs] at hc1 ht hT hno hwl
      obtain ⟨m, hm⟩ : ∃ m, m = s.ws.length := ⟨_, rfl⟩
      have HM := Lib.hid hm
      rw [← hm] at hc1 hwl
      have HT := Lib.hid ht
      clear hs hm ht
      by_cases h8 : (8 : Int) < m
      · have hf : Hid (fewS L = false) := hno.out (by unfold okS; rw [decide_eq_false (by rw [← HM.out]; omega)]; rfl)
        clear hno
        go_wp2_with fail
        go_ret
        exact Ret.mk (ret_bool hf.out.symm) (Ext.refl _)
      · go_wp2_with fail
        go_loop [4] (fun i => ∃ q : Nat, q ≤ m ∧ i = .int .i64 q ∧ Hid ((s.ws.take q).all (fun x => decide (x.length ≤ 100)) = true)) (fun i => m - (intOf i).toNat)
        case atStart => exact ⟨0, Nat.zero_le _, rfl, rfl⟩
        case round =>
          obtain ⟨q, hq, rfl, hal⟩ := hrel
          by_cases hlq : (q : Int) < m
          · have hql : q < s.ws.length := by rw [← HM.out]; omega
            obtain ⟨b2, o2, rfl, hbb2, hcl⟩ := HT.out.at_ (Ext.refl w) q hql
            have zz := bs_size s.ws[q]
            have hT2 := Lib.hid (all_take_succ hql hal.out)
            by_cases h2 : s.ws[q].length ≤ 100
            · have h2i : ¬ (100 : Int) < (s.ws[q].length : Int) := by omega
              have hT3 : Hid ((s.ws.take (q + 1)).all (fun x => decide (x.length ≤ 100)) = true) := by show _ = _; rw [hT2.out]; exact decide_eq_true h2
              clear hno
              go_wp2_with fail
              go_round
              case rel => exact ⟨q + 1, by omega, by go_num, hT3.out⟩
              case measure => simp [intOf]; omega
            · have h2i : (100 : Int) < (s.ws[q].length : Int) := by omega
              have hf : Hid (fewS L = false) := hno.out (by
                unfold okS
                rw [show s.ws.all (fun x => decide (x.length ≤ 100)) = false from List.all_eq_false.2 ⟨s.ws[q], List.getElem_mem hql, by simpa using h2⟩, Bool.and_false])
              clear hno
              go_wp2_with fail
              go_ret
              exact Ret.mk (ret_bool hf.out.symm) (Ext.refl _)
          · obtain rfl : m = q := by omega
            have ha := hal.out
            rw [HM.out, List.take_length] at ha
            have hT3 : Hid ((L.take (k + 1)).all okS = true) := by
              show _ = _
              rw [hT.out]; unfold okS
              rw [ha, decide_eq_true (by rw [← HM.out]; omega)]; rfl
            clear ha hno
            go_wp2_with fail
            go_round
            case rel => exact ⟨k + 1, by omega, by go_num, hT3.out⟩
            case measure => simp [intOf]; omega
    · obtain rfl : n = k := by omega
      have hf : Hid (fewS L = decide ((n : Int) ≤ 20)) := by
        have h := hall.out
        rw [HN.out, List.take_length] at h
        show _ = _
        unfold fewS
        rw [h, Bool.true_and, ← HN.out]
        exact decide_eq_decide.2 (by omega)
      go_wp2_with fail
      go_ret
      exact Ret.mk (ret_bool hf.out.symm) (Ext.refl _)
def blankB (l : Txt) : Bool := l.all (fun c => c == 32)
set_option maxRecDepth 100000 in
set_option maxHeartbeats 2000000 in
theorem blank_any (l : Txt) (w : World) (hlen : l.length ≤ 1000000) : Calls Tryd.prog 21 #[.string (bs l)] w (Ret w (.bool (blankB l))) := by
  have z0 : (bs l).size = l.length := bs_size l
  go_enter Tryd.func21, Tryd.ntmps21
  go_wp2_with fail
  go_loop [3] (fun i => ∃ k : Nat, k ≤ l.length ∧ i = .int .i64 k ∧ Hid ((l.take k).all (fun c => c == 32) = true)) (fun i => l.length - (intOf i).toNat)
  case atStart => exact ⟨0, Nat.zero_le _, rfl, rfl⟩
  case round =>
    obtain ⟨k, hk, rfl, hall⟩ := hrel
    by_cases hlt : (k : Int) < l.length
    · have hkl : k < l.length := by omega
      have hks : k < (bs l).size := by omega
      have hg : (bs l)[k] = l[k] := bs_get l k hks hkl
      obtain ⟨c, hc⟩ : ∃ c, c = l[k] := ⟨_, rfl⟩
      have hT : Hid ((l.take (k + 1)).all (fun c => c == 32) = (c == 32)) := by
        show _ = _
        rw [List.take_succ_eq_append_getElem hkl, List.all_append, hall.out, Bool.true_and, List.all_cons, List.all_nil, Bool.and_true]
        exact congrArg (fun x => x == 32) hc.symm
      have hno : Hid ((c == 32) = false → blankB l = false) := fun h => List.all_eq_false.2 ⟨l[k], List.getElem_mem hkl, by rw [← hc, h]; decide⟩
      rw [← hc] at hg
      have e1 : (((bs l)[k].toNat : Int) != 32) = (c != 32) := by rw [hg]; exact congrArg Bool.not (u8_eq (c := c) (d := 32))
      have hk0 : (0 : Int) ≤ (k : Int) := Int.natCast_nonneg _
      clear hg hc
      by_cases h32 : c = 32
      · rw [show (c != 32) = false from by rw [h32]; rfl] at e1
        have hT2 : Hid ((l.take (k + 1)).all (fun c => c == 32) = true) := by show _ = _; rw [hT.out, h32]; rfl
        clear h32 hno
        go_wp2_with fail
        go_round
        case rel => exact ⟨k + 1, by omega, by go_num, hT2.out⟩
        case measure => simp [intOf]; omega
      · rw [show (c != 32) = true from bne_iff_ne.2 h32] at e1
        have hf := Lib.hid (hno.out (beq_eq_false_iff_ne.2 h32))
        clear h32 hno
        go_wp2_with fail
        go_ret
        exact Ret.mk (ret_bool hf.out.symm) (Ext.refl _)
    · obtain rfl : k = l.length := by omega
      have hf : Hid (blankB l = true) := by have h := hall.out; rw [List.take_length] at h; exact h
      go_wp2_with fail
      go_ret
      exact Ret.mk (ret_bool hf.out.symm) (Ext.refl _)
set_option maxRecDepth 100000 in
set_option maxHeartbeats 8000000 in
theorem same48_any (A A' : Option Addr) (cap cap' : Nat) (L : List StepN) (w : World) (ha : StepsAt w A L) (hb : StepsAt w A' L) (hlen : L.length ≤ 1000000) (hws : ∀ s ∈ L, s.ws.length ≤ 1000000) : Calls Tryd.prog 19 #[.slice A L.length cap, .slice A' L.length cap'] w (Ret w (.bool true)) := by
  obtain ⟨n, hn⟩ : ∃ n, n = L.length := ⟨_, rfl⟩
  rw [← hn] at hlen ⊢
  have HN := Lib.hid hn
  have HA := Lib.hid ha
  have HB := Lib.hid hb
  have HWS := Lib.hid hws
  have hnn : ((n : Int) != (n : Int)) = false := by simp
  clear hn ha hb hws
  go_enter Tryd.func19, Tryd.ntmps19
  go_wp2_with fail
  go_loopw [5] (fun i wr => ∃ k : Nat, k ≤ n ∧ i = .int .i64 k ∧ Ext w wr) (fun i _ => n - (intOf i).toNat)
  case atStart => exact ⟨0, Nat.zero_le _, rfl, Ext.refl _⟩
  case round =>
    obtain ⟨k, hk, rfl, hE⟩ := hrel
    by_cases hlt : (k : Int) < n
    · have hkl : k < L.length := by rw [← HN.out]; omega
      obtain ⟨b, o, rfl, hbb, B, c, ⟨p0, p1, p2, p3⟩, pt, _, _⟩ := HA.out.at_ hE k hkl
      obtain ⟨b', o', rfl, hbb', B', c', ⟨q0, q1, q2, q3⟩, qt, _, _⟩ := HB.out.at_ hE k hkl
      have hwl := HWS.out L[k] (List.getElem_mem hkl)
      obtain ⟨s, hs⟩ : ∃ s, s = L[k] := ⟨_, rfl⟩
      rw [← hs] at p0 p1 p2 p3 q0 q1 q2 q3 pt qt hwl
      have HP := Lib.hid pt
      have HQ := Lib.hid qt
      have hk0 : (0 : Int) ≤ (k : Int) := Int.natCast_nonneg _
      have KS : Hid (∀ w', Ext wr w' → (Ext wr w' ∧ (w'.cell? ⟨b, o + k * 4, none⟩ = some (.int .i64 s.k) ∧ w'.cell? ⟨b, o + k * 4 + 1, none⟩ = some (.slice B s.ws.length c) ∧ w'.cell? ⟨b, o + k * 4 + 2, none⟩ = some (.int .i64 s.n) ∧ w'.cell? ⟨b, o + k * 4 + 3, none⟩ = some (.int .i64 s.y)) ∧ (w'.cell? ⟨b', o' + k * 4, none⟩ = some (.int .i64 s.k) ∧ w'.cell? ⟨b', o' + k * 4 + 1, none⟩ = some (.slice B' s.ws.length c') ∧ w'.cell? ⟨b', o' + k * 4 + 2, none⟩ = some (.int .i64 s.n) ∧ w'.cell? ⟨b', o' + k * 4 + 3, none⟩ = some (.int .i64 s.y)))) :=
        fun w' h => ⟨h, ⟨(h.cell hbb).trans p0, (h.cell hbb).trans p1, (h.cell hbb).trans p2, (h.cell hbb).trans p3⟩, (h.cell hbb').trans q0, (h.cell hbb').trans q1, (h.cell hbb').trans q2, (h.cell hbb').trans q3⟩
      have hW1 : Ext wr wr.drew := (Ext.refl _).drew
      clear hs pt qt p0 p1 p2 p3 q0 q1 q2 q3
      go_wp2_with fail
      go_region_held3 (fun w' => Ext wr w' ∧ (w'.cell? ⟨b, o + k * 4, none⟩ = some (.int .i64 s.k) ∧ w'.cell? ⟨b, o + k * 4 + 1, none⟩ = some (.slice B s.ws.length c) ∧ w'.cell? ⟨b, o + k * 4 + 2, none⟩ = some (.int .i64 s.n) ∧ w'.cell? ⟨b, o + k * 4 + 3, none⟩ = some (.int .i64 s.y)) ∧ (w'.cell? ⟨b', o' + k * 4, none⟩ = some (.int .i64 s.k) ∧ w'.cell? ⟨b', o' + k * 4 + 1, none⟩ = some (.slice B' s.ws.length c') ∧ w'.cell? ⟨b', o' + k * 4 + 2, none⟩ = some (.int .i64 s.n) ∧ w'.cell? ⟨b', o' + k * 4 + 3, none⟩ = some (.int .i64 s.y)))
        ((first | exact KS.out _ hW1 | exact KS.out _ (hW1.trans hbd)))
        ((go_at_call 40; refine (rsame_any B B' c c' s.ws _ (HP.out.ext hW1) (HQ.out.ext hW1) hwl).mono ?_; rintro e wd ⟨rfl, hbd⟩))
      go_wp2_with fail
      go_roundw
      case rel => exact ⟨k + 1, by omega, by go_num, hE.trans (hW1.trans hbd)⟩
      case measure => simp [intOf]; omega
    · obtain rfl : n = k := by omega
      go_wp2_with fail
      go_ret
      exact Ret.mk rfl hE
end Go.Proofs.YtanaifobmkjpaaaDoor
