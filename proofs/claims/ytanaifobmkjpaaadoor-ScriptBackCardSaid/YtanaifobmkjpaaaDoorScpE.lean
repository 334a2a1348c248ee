/- Layer 48 (script): steps as lines: Write, and the law's lines. -/
import Derived.Test.YtanaifobmkjpaaaDoorScpD
import Derived.Test.YtanaifobmkjpaaaDoorScpU
namespace Go.Proofs.YtanaifobmkjpaaaDoor
open Go.ChangeShapes Go.WideShapes Go.ChangeAt Go.RowKit

/-- Steps that are not too great for a walk. -/
def Fit (s : StepN) : Prop := s.ws.length ≤ 900 ∧ (∀ x ∈ s.ws, x.length ≤ 10000) ∧ I64 s.n ∧ I64 s.y
def catS (L : List StepN) : Txt := L.flatMap fun s => lineN (wordsS s) ++ [10]
theorem catS_take {L : List StepN} {k : Nat} (h : k < L.length) : catS (L.take (k + 1)) = catS (L.take k) ++ (lineN (wordsS L[k]) ++ [10]) := by
  unfold catS
  rw [List.take_succ_eq_append_getElem h, List.flatMap_append]; simp
theorem words_small {s : StepN} (h : Fit s) : (wordsS s).length ≤ 901 ∧ ∀ x ∈ wordsS s, x.length ≤ 10000 := by
  obtain ⟨h1, h2, _, _⟩ := h
  unfold wordsS
  split
  · exact ⟨by simp; omega, run_small h2⟩
  · split
    · exact ⟨by simp, two_small _ (by decide)⟩
    · split
      · exact ⟨by simp, two_small _ (by decide)⟩
      · split
        · exact ⟨by simp, three_small _ _ (by decide)⟩
        · exact ⟨by simp, fun x hx => by rw [List.mem_singleton.1 hx]; decide⟩
theorem line_small {s : StepN} (h : Fit s) : (lineN (wordsS s)).length ≤ 36100000 := by
  obtain ⟨h1, h2⟩ := words_small h
  have h3 := lineN_len (wordsS s) 10000 h2
  have : (wordsS s).length * (4 * 10000 + 3) ≤ 901 * 40003 := Nat.mul_le_mul_right _ h1
  omega
theorem catS_len : ∀ {L : List StepN}, (∀ s ∈ L, Fit s) → (catS L).length ≤ L.length * 36100001
  | [], _ => by simp [catS]
  | s :: L, h => by
    have ih := catS_len (L := L) (fun x hx => h x (List.mem_cons_of_mem _ hx))
    have h1 := line_small (h s (List.mem_cons_self ..))
    have e : catS (s :: L) = (lineN (wordsS s) ++ [10]) ++ catS L := rfl
    have e2 : (s :: L).length * 36100001 = L.length * 36100001 + 36100001 := by rw [List.length_cons, Nat.add_mul, Nat.one_mul]
    rw [e2, e]
    simp only [List.length_append, List.length_cons, List.length_nil]
    omega
theorem bs_add3 (T q : Txt) : bs T ++ bs q ++ (⟨#[10]⟩ : ByteArray) = bs (T ++ (q ++ [10])) := by
  have h := bs_append (T ++ q) [10]
  rw [List.append_assoc] at h
  rw [bs_append]; exact h
/-- What the lines of steps are, with the error. -/
def linesV (L : List StepN) : Value := if L.all mayB = true then .tuple #[.string (bs (catS L)), .int .i64 0] else .tuple #[.string ⟨#[]⟩, .int .i64 1]
theorem linesV_yes {L : List StepN} (h : L.all mayB = true) : linesV L = .tuple #[.string (bs (catS L)), .int .i64 0] := by unfold linesV; rw [if_pos h]
theorem linesV_no {L : List StepN} {k : Nat} (h : k < L.length) (hm : mayB L[k] = false) : linesV L = .tuple #[.string ⟨#[]⟩, .int .i64 1] := by
  unfold linesV
  rw [if_neg]
  rw [List.all_eq_true]
  exact fun ha => by rw [ha _ (List.getElem_mem h)] at hm; cases hm
set_option maxRecDepth 100000 in
set_option maxHeartbeats 8000000 in
theorem lines_any (A : Option Addr) (cap : Nat) (L : List StepN) (w : World) (hat : StepsAt w A L) (hlen : L.length ≤ 1000) (hfit : ∀ s ∈ L, Fit s) (hM : HasMax w) : Calls Tryd.prog 16 #[.slice A L.length cap] w (Ret w (linesV L)) := by
  obtain ⟨n, hn⟩ : ∃ n, n = L.length := ⟨_, rfl⟩
  rw [← hn] at hlen ⊢
  have HN := Lib.hid hn
  have HA := Lib.hid hat
  have HFIT := Lib.hid hfit
  clear hn hat hfit
  go_enter Tryd.func16, Tryd.ntmps16
  go_wp2_with fail
  go_loopw [4, 5] (fun t i wr => ∃ k : Nat, k ≤ n ∧ i = .int .i64 k ∧ t = .string (bs (catS (L.take k))) ∧ Hid ((L.take k).all mayB = true) ∧ Ext w wr) (fun _ i _ => n - (intOf i).toNat)
  case atStart => exact ⟨0, Nat.zero_le _, rfl, rfl, rfl, Ext.refl _⟩
  case round =>
    obtain ⟨k, hk, rfl, rfl, hall, hE⟩ := hrel
    by_cases hlt : (k : Int) < n
    · have hkl : k < L.length := by rw [← HN.out]; omega
      obtain ⟨b, o, rfl, hbb, B, c, ⟨p0, p1, p2, p3⟩, pt, pn, pc⟩ := HA.out.at_ hE k hkl
      have hf := HFIT.out L[k] (List.getElem_mem hkl)
      have hct := catS_take hkl
      have hT := Lib.hid (allS_succ hkl hall.out)
      have hno : Hid (mayB L[k] = false → linesV L = .tuple #[.string ⟨#[]⟩, .int .i64 1]) := fun h => linesV_no hkl h
      have hcl : (catS (L.take k)).length ≤ 1000 * 36100001 := by
        have h1 := catS_len (L := L.take k) (fun s hs => HFIT.out s (List.mem_of_mem_take hs))
        have h2 : (L.take k).length ≤ 1000 := by rw [List.length_take]; omega
        exact Nat.le_trans h1 (Nat.mul_le_mul_right _ h2)
      obtain ⟨s, hs⟩ : ∃ s, s = L[k] := ⟨_, rfl⟩
      rw [← hs] at p0 p1 p2 p3 pt hf hct hT hno pc
      have hls := line_small hf
      obtain ⟨T, hTT⟩ : ∃ T, T = catS (L.take k) := ⟨_, rfl⟩
      rw [← hTT] at hct hcl ⊢
      have HP := rtext_any s.k s.n s.y s.ws B c wr pt pn hf.1 hf.2.1 (hM.ext hE) hf.2.2.1 hf.2.2.2
      have HT2 := Lib.hid hTT
      cases hm : mayB s with
      | false =>
        rw [textV_no hm] at HP
        have HP := Lib.hid HP
        have hff := Lib.hid (hno.out hm)
        clear hs hm hno pt pn pc hct hTT
        go_wp2_with fail
        refine (HP.out).mono ?_
        rintro e w1 ⟨rfl, b1⟩
        go_wp2_with fail
        go_ret2
        rw [hff.out]
        exact Ret.mk rfl (hE.trans b1)
      | true =>
        rw [textV_yes hm] at HP
        have HP := Lib.hid HP
        have hT3 : Hid ((L.take (k + 1)).all mayB = true) := by show _ = _; rw [hT.out]; exact hm
        obtain ⟨q, hq⟩ : ∃ q, q = lineN (wordsS s) := ⟨_, rfl⟩
        have HQ := Lib.hid hq
        rw [← hq] at hct hls
        have HC := Lib.hid hct
        have z1 : (bs T).size = T.length := bs_size T
        have z2 : (bs q).size = q.length := bs_size q
        clear hs hm hno pt pn pc hct hTT hq
        go_wp2_with fail
        refine (HP.out).mono ?_
        rintro e w1 ⟨rfl, b1⟩
        rw [← HQ.out]
        go_wp2_with fail
        go_roundw
        case rel => exact ⟨k + 1, by omega, by go_num, by rw [HC.out, ← bs_add3], hT3.out, hE.trans b1⟩
        case measure => simp [intOf]; omega
    · obtain rfl : n = k := by omega
      have ha := hall.out
      rw [HN.out, List.take_length] at ha
      have hff := Lib.hid (linesV_yes ha)
      have htk : Hid (catS (L.take n) = catS L) := by show _ = _; rw [HN.out, List.take_length]
      rw [htk.out]
      clear ha
      go_wp2_with fail
      go_ret2
      rw [hff.out]
      exact Ret.mk rfl hE
def writeS (L : List StepN) : Value := if 1000 < L.length then .tuple #[.string ⟨#[]⟩, .int .i64 3] else linesV L
theorem writeS_big {L : List StepN} (h : 1000 < L.length) : writeS L = .tuple #[.string ⟨#[]⟩, .int .i64 3] := by unfold writeS; rw [if_pos h]
theorem writeS_fit {L : List StepN} (h : L.length ≤ 1000) : writeS L = linesV L := by unfold writeS; rw [if_neg (by omega)]
theorem bs_add1 (q : Txt) : bs q ++ (⟨#[10]⟩ : ByteArray) = bs (q ++ [10]) := bs_append q [10]
set_option maxRecDepth 100000 in
set_option maxHeartbeats 8000000 in
theorem writeS_any (A : Option Addr) (cap : Nat) (L : List StepN) (w : World) (hat : StepsAt w A L) (hlen : L.length ≤ 1000000) (hfit : ∀ s ∈ L, Fit s) (hM : HasMax w) : Calls Tryd.prog 15 #[.slice A L.length cap] w (Ret w (writeS L)) := by
  by_cases hbig : 1000 < L.length
  · have hb : (1000 : Int) < (L.length : Int) := by omega
    have HF := Lib.hid (writeS_big hbig)
    clear hbig
    go_enter Tryd.func15, Tryd.ntmps15
    go_wp2_with fail
    go_ret2
    rw [HF.out]
    exact Ret.mk rfl (Ext.refl _)
  have HWF := Lib.hid (writeS_fit (L := L) (by omega))
  obtain ⟨n, hn⟩ : ∃ n, n = L.length := ⟨_, rfl⟩
  rw [← hn] at hlen hbig ⊢
  have hni : ¬ (1000 : Int) < (n : Int) := by omega
  have HN := Lib.hid hn
  have HA := Lib.hid hat
  have HFIT := Lib.hid hfit
  clear hn hat hfit
  go_enter Tryd.func15, Tryd.ntmps15
  go_wp2_with fail
  go_loopw [14] (fun i wr => ∃ k : Nat, k ≤ n ∧ i = .int .i64 k ∧ Lib.IsBuilder 65 5 w.heap.size w.heap.size (Lib.byteCells (catS (L.take k))) wr ∧ Hid ((L.take k).all mayB = true) ∧ Ext w wr) (fun i _ => n - (intOf i).toNat)
  case atStart => exact ⟨0, Nat.zero_le _, rfl, Lib.fresh_isBuilder _ _ w, rfl, (Ext.refl _).alloc _⟩
  case round =>
    obtain ⟨k, hk, rfl, hBd, hall, hE⟩ := hrel
    have hsz := hE.size
    by_cases hlt : (k : Int) < n
    · have hkl : k < L.length := by rw [← HN.out]; omega
      obtain ⟨b, o, rfl, hbb, B, c, ⟨p0, p1, p2, p3⟩, pt, pn, pc⟩ := HA.out.at_ hE k hkl
      have hf := HFIT.out L[k] (List.getElem_mem hkl)
      have hct := catS_take hkl
      have hT := Lib.hid (allS_succ hkl hall.out)
      have hno : Hid (mayB L[k] = false → writeS L = .tuple #[.string ⟨#[]⟩, .int .i64 1]) := fun h => HWF.out.trans (linesV_no hkl h)
      have hcl : (catS (L.take k)).length ≤ 1000 * 36100001 := by
        have h1 := catS_len (L := L.take k) (fun s hs => HFIT.out s (List.mem_of_mem_take hs))
        have h2 : (L.take k).length ≤ 1000 := by rw [List.length_take]; omega
        exact Nat.le_trans h1 (Nat.mul_le_mul_right _ h2)
      obtain ⟨s, hs⟩ : ∃ s, s = L[k] := ⟨_, rfl⟩
      rw [← hs] at p0 p1 p2 p3 pt hf hct hT hno pc
      have hls := line_small hf
      obtain ⟨T, hTT⟩ : ∃ T, T = catS (L.take k) := ⟨_, rfl⟩
      rw [← hTT] at hct hcl hBd
      obtain ⟨V, hV⟩ : ∃ V, V = wr.alloc (.cells #[.int .i64 s.k, .slice B s.ws.length c, .int .i64 s.n, .int .i64 s.y] 30) := ⟨_, rfl⟩
      have hC : Has V wr.heap.size (.cells #[.int .i64 s.k, .slice B s.ws.length c, .int .i64 s.n, .int .i64 s.y] 30) := by rw [hV]; exact Has.new _ _
      have EV : Ext wr V := by rw [hV]; exact (Ext.refl _).alloc _
      have c0 : V.cell? ⟨wr.heap.size, 0, none⟩ = some (.int .i64 s.k) := hC.cell 0
      have c1 : V.cell? ⟨wr.heap.size, 1, none⟩ = some (.slice B s.ws.length c) := hC.cell 1
      have c2 : V.cell? ⟨wr.heap.size, 2, none⟩ = some (.int .i64 s.n) := hC.cell 2
      have c3 : V.cell? ⟨wr.heap.size, 3, none⟩ = some (.int .i64 s.y) := hC.cell 3
      have HV := Lib.hid hV
      have HP := ptext_any s.k s.n s.y s.ws B c V (pt.ext EV) pn hf.1 hf.2.1 ((hM.ext hE).ext EV) hf.2.2.1 hf.2.2.2
      cases hm : mayB s with
      | false =>
        rw [textV_no hm] at HP
        have HP := Lib.hid HP
        have hff := Lib.hid (hno.out hm)
        clear hs hm hno pt pn pc hct hTT hV hC hBd
        go_wp2_with (rw [← HV.out])
        refine (HP.out).mono ?_
        rintro e w1 ⟨rfl, b1⟩
        go_wp2_with fail
        go_ret2
        rw [hff.out]
        exact Ret.mk rfl ((hE.trans EV).trans b1)
      | true =>
        rw [textV_yes hm] at HP
        have HP := Lib.hid HP
        have hT3 : Hid ((L.take (k + 1)).all mayB = true) := by show _ = _; rw [hT.out]; exact hm
        obtain ⟨q, hq⟩ : ∃ q, q = lineN (wordsS s) := ⟨_, rfl⟩
        have HQ := Lib.hid hq
        rw [← hq] at hct hls
        have HC := Lib.hid hct
        have z2 : (bs q).size = q.length := bs_size q
        have hq1 : bs q ++ (⟨#[10]⟩ : ByteArray) = bs (q ++ [10]) := bs_add1 q
        have HBd := Lib.hid hBd
        clear hs hm hno pt pn pc hct hTT hq hV hC hBd
        go_wp2_with (rw [← HV.out])
        refine (HP.out).mono ?_
        rintro e w1 ⟨rfl, b1⟩
        rw [← HQ.out]
        have E1 := (hE.trans EV).trans b1
        have hB1 := Lib.hid (bld_keep HBd.out (EV.trans b1))
        clear c0 c1 c2 c3 p0 p1 p2 p3
        go_wp2_with fail
        refine (bld_string _ _ _ _ _ hB1.out (by rw [bs_size]; simp [Lib.byteCells]; omega) E1.size).mono ?_
        rintro e w2 ⟨rfl, h2, b2⟩
        have H2 := Lib.hid h2
        clear h2
        go_wp2_with fail
        go_roundw
        case rel => exact ⟨k + 1, by omega, by go_num, .inr (by rw [HC.out]; have := H2.out; simpa [Lib.byteCells, Lib.strCells, bs] using this), hT3.out, Below.trans E1 b2⟩
        case measure => simp [intOf]; omega
    · obtain rfl : n = k := by omega
      have ha := hall.out
      rw [HN.out, List.take_length] at ha
      have hff := Lib.hid (HWF.out.trans (linesV_yes ha))
      rw [HN.out, List.take_length] at hBd
      clear ha
      go_wp2_with fail
      refine (Tryd.Builder_String_any _ _ _ _ hBd hE.size).mono ?_
      rintro e w1 ⟨rfl, b1⟩
      go_wp2_with fail
      go_ret2
      rw [hff.out]
      exact Ret.mk rfl (Below.trans hE b1)
end Go.Proofs.YtanaifobmkjpaaaDoor
