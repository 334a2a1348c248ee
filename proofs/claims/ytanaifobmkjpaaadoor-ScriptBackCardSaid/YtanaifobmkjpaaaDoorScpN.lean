/- Layer 48 (script): May, both, of every step. -/
import Derived.Test.YtanaifobmkjpaaaDoorScpM
namespace Go.Proofs.YtanaifobmkjpaaaDoor
open Go.ChangeShapes Go.WideShapes Go.ChangeAt Go.RowKit

theorem may_one (ws : List Txt) (n y : Int) : mayB ⟨1, ws, n, y⟩ = (ws.all (fun x => !anySZ x) && (decide (n = 0) && decide (y = 0))) := rfl
theorem all_take_succ {ws : List Txt} {f : Txt → Bool} {k : Nat} (h : k < ws.length) (ha : (ws.take k).all f = true) : (ws.take (k + 1)).all f = f ws[k] := by
  rw [List.take_succ_eq_append_getElem h, List.all_append, ha]; simp
theorem all_no {ws : List Txt} {f : Txt → Bool} {k : Nat} (h : k < ws.length) (hf : f ws[k] = false) : ws.all f = false :=
  List.all_eq_false.2 ⟨ws[k], List.getElem_mem h, by simp [hf]⟩
theorem int_beq (a b : Int) : (a == b) = decide (a = b) := by
  by_cases h : a = b
  · rw [h]; simp
  · rw [decide_eq_false h]; exact beq_eq_false_iff_ne.2 h
set_option maxRecDepth 100000 in
set_option maxHeartbeats 4000000 in
theorem pmay_1 (ws : List Txt) (n y : Int) (A : Option Addr) (cap : Nat) (w : World) (hat : TxtAt w A ws) (hlen : ws.length ≤ 1000000) (hs : ∀ x ∈ ws, x.length ≤ 1000000) : Calls Tryd.prog 13 #[.agg #[.int .i64 1, .slice A ws.length cap, .int .i64 n, .int .i64 y]] w (Ret w (.bool (mayB ⟨1, ws, n, y⟩))) := by
  obtain ⟨V, hV⟩ : ∃ V, V = w.alloc (.cells #[.int .i64 1, .slice A ws.length cap, .int .i64 n, .int .i64 y] 30) := ⟨_, rfl⟩
  have hC : Has V w.heap.size (.cells #[.int .i64 1, .slice A ws.length cap, .int .i64 n, .int .i64 y] 30) := by rw [hV]; exact Has.new _ _
  have E0 : Ext w V := by rw [hV]; exact (Ext.refl _).alloc _
  have HA := Lib.hid (hat.ext E0)
  have HS := Lib.hid hs
  have HV := Lib.hid hV
  obtain ⟨m, hm⟩ : ∃ m, m = ws.length := ⟨_, rfl⟩
  have HM := Lib.hid hm
  rw [← hm] at HV hC hlen ⊢
  have HC := Lib.hid hC
  have c0 : V.cell? ⟨w.heap.size, 0, none⟩ = some (.int .i64 1) := hC.cell 0
  have c1 : V.cell? ⟨w.heap.size, 1, none⟩ = some (.slice A m cap) := hC.cell 1
  have c3 : V.cell? ⟨w.heap.size, 3, none⟩ = some (.int .i64 y) := hC.cell 3
  have hl := Has.lt hC
  have he : (m : Int) = 0 ∨ ((m : Int) == 0) = false := by
    by_cases h : m = 0
    · exact .inl (by omega)
    · exact .inr (by rw [beq_eq_false_iff_ne]; omega)
  clear hV hC hat hs hm
  have key : ∀ b : Bool, ((m : Int) == 0) = b → Calls Tryd.prog 13 #[.agg #[.int .i64 1, .slice A m cap, .int .i64 n, .int .i64 y]] w (Ret w (.bool (mayB ⟨1, ws, n, y⟩))) := by
    clear he
    intro b hb
    cases b
    all_goals
      go_enter Tryd.func13, Tryd.ntmps13
      go_wp2_with (rw [← HV.out])
      clear c0 c1 c3 hb
      go_loopw [22] (fun i wr => ∃ k : Nat, k ≤ m ∧ i = .int .i64 k ∧ Hid ((ws.take k).all (fun x => !anySZ x) = true) ∧ Ext V wr) (fun i _ => m - (intOf i).toNat)
      case atStart => exact ⟨0, Nat.zero_le _, rfl, rfl, Ext.refl _⟩
      case round =>
        obtain ⟨k, hk, rfl, hall, hE⟩ := hrel
        by_cases hlt : (k : Int) < m
        · have hkl : k < ws.length := by rw [← HM.out]; omega
          obtain ⟨b, o, rfl, hbb, hcl⟩ := HA.out.at_ hE k hkl
          have hxl := HS.out ws[k] (List.getElem_mem hkl)
          have hT := Lib.hid (all_take_succ hkl hall.out)
          cases hz : anySZ ws[k] with
          | true =>
            have HZ := Lib.hid hz
            have hf : Hid (mayB ⟨1, ws, n, y⟩ = false) := by show _ = _; rw [may_one, all_no hkl (by rw [hz]; rfl)]; rfl
            clear hz
            go_wp2_with fail
            refine (word_any _ _ hxl).mono ?_
            rintro e w1 ⟨rfl, hE1⟩
            rw [HZ.out]
            go_wp2_with fail
            go_ret
            exact Ret.mk (ret_bool hf.out.symm) ((E0.trans hE).trans hE1)
          | false =>
            have HZ := Lib.hid hz
            have hT2 : Hid ((ws.take (k + 1)).all (fun x => !anySZ x) = true) := by show _ = _; rw [hT.out, hz]; rfl
            clear hz
            go_wp2_with fail
            refine (word_any _ _ hxl).mono ?_
            rintro e w1 ⟨rfl, hE1⟩
            rw [HZ.out]
            go_wp2_with fail
            go_roundw
            case rel => exact ⟨k + 1, by omega, by go_num, hT2.out, hE.trans hE1⟩
            case measure => simp [intOf]; omega
        · obtain rfl : m = k := by omega
          have ha := hall.out
          rw [HM.out, List.take_length] at ha
          have d2 : wr.cell? ⟨w.heap.size, 2, none⟩ = some (.int .i64 n) := (hE.cell hl).trans (HC.out.cell 2)
          have d3 : wr.cell? ⟨w.heap.size, 3, none⟩ = some (.int .i64 y) := (hE.cell hl).trans (HC.out.cell 3)
          by_cases hn : n = 0
          · have hf : Hid (mayB ⟨1, ws, n, y⟩ = (y == 0)) := by show _ = _; rw [may_one, ha, hn, int_beq]; rfl
            have e1 : (n == 0) = true := by rw [hn]; rfl
            clear hn ha
            go_wp2_with fail
            go_ret
            exact Ret.mk (ret_bool hf.out.symm) (E0.trans hE)
          · have hf : Hid (mayB ⟨1, ws, n, y⟩ = false) := by show _ = _; rw [may_one, ha, decide_eq_false hn]; rfl
            have e1 : (n == 0) = false := beq_eq_false_iff_ne.2 hn
            clear hn ha
            go_wp2_with fail
            go_ret
            exact Ret.mk (ret_bool hf.out.symm) (E0.trans hE)
  exact key _ rfl
theorem pmay_any (k n y : Int) (ws : List Txt) (A : Option Addr) (cap : Nat) (w : World) (hat : TxtAt w A ws) (hlen : ws.length ≤ 1000000) (hs : ∀ x ∈ ws, x.length ≤ 1000000) : Calls Tryd.prog 13 #[.agg #[.int .i64 k, .slice A ws.length cap, .int .i64 n, .int .i64 y]] w (Ret w (.bool (mayB ⟨k, ws, n, y⟩))) := by
  by_cases h1 : k = 1
  · subst h1; exact pmay_1 ws n y A cap w hat hlen hs
  by_cases h2 : k = 2
  · subst h2
    by_cases hw : ws = []
    · subst hw
      by_cases hy : y = 0
      · subst hy
        by_cases hn : 0 ≤ n
        · exact pmay2_g n A cap w hn
        · exact pmay2_n n A cap w (by omega)
      · exact pmay2_y n y A cap w hy
    · exact pmay2_w ws n y A cap w hw
  by_cases h3 : k = 3
  · subst h3
    by_cases hw : ws = []
    · subst hw
      by_cases hy : y = 0
      · subst hy
        by_cases hn : 0 ≤ n
        · exact pmay3_g n A cap w hn
        · exact pmay3_n n A cap w (by omega)
      · exact pmay3_y n y A cap w hy
    · exact pmay3_w ws n y A cap w hw
  by_cases h4 : k = 4
  · subst h4
    by_cases hw : ws = []
    · subst hw
      by_cases hn : 1 ≤ n
      · by_cases hy : 1 ≤ y
        · by_cases hy2 : y < 21
          · exact pmay4_g n y A cap w hn hy hy2
          · exact pmay4_z n y A cap w hn (by omega)
        · exact pmay4_y n y A cap w hn (by omega)
      · exact pmay4_n n y A cap w (by omega)
    · exact pmay4_w ws n y A cap w hw
  by_cases h5 : k = 5
  · subst h5
    by_cases hw : ws = []
    · subst hw
      by_cases hy : y = 0
      · subst hy
        by_cases hn : n = 0
        · subst hn; exact pmay5_g A cap w
        · exact pmay5_n n A cap w hn
      · exact pmay5_y n y A cap w hy
    · exact pmay5_w ws n y A cap w hw
  exact pmay_o k ws n y A cap w h1 h2 h3 h4 h5
end Go.Proofs.YtanaifobmkjpaaaDoor
