/- Layer 48 (script): the walk of ScriptBack. -/
import Derived.Test.YtanaifobmkjpaaaDoorScpI
import Derived.Lib.AppendZerosOnto
namespace Go.Proofs.YtanaifobmkjpaaaDoor
open Go.ChangeShapes Go.WideShapes Go.ChangeAt Go.RowKit

theorem catS_cons (s : StepN) (L : List StepN) : catS (s :: L) = lineN (wordsS s) ++ 10 :: catS L := by
  show (lineN (wordsS s) ++ [10]) ++ catS L = _
  simp
theorem escN_nl {s : Txt} (h : 10 ∉ s) : 10 ∉ escN s := by
  induction s with
  | nil => simp [escN]
  | cons c l ih =>
    have h1 : 10 ∉ l := fun hm => h (List.mem_cons_of_mem _ hm)
    have h2 : c ≠ 10 := by rintro rfl; exact h (List.mem_cons_self ..)
    unfold escN
    split
    · simp only [List.mem_cons]
      rintro (h | h | h | h | h)
      · exact absurd h (by decide)
      · exact absurd h (by decide)
      · exact absurd h (by decide)
      · exact absurd h (by decide)
      · exact ih h1 h
    · simp only [List.mem_cons]
      rintro (h | h)
      · exact h2 h.symm
      · exact ih h1 h
theorem quoteN_nl {s : Txt} (h : 10 ∉ s) : 10 ∉ quoteN s := by
  unfold quoteN
  split
  · exact h
  · simp only [List.mem_cons, List.mem_append, List.not_mem_nil, or_false]
    rintro (h1 | h1 | h1)
    · exact absurd h1 (by decide)
    · exact escN_nl h h1
    · exact absurd h1 (by decide)
theorem lineN_nl : ∀ {l : List Txt}, (∀ s ∈ l, 10 ∉ s) → 10 ∉ lineN l
  | [], _ => by simp [lineN]
  | [s], h => by show 10 ∉ quoteN s; exact quoteN_nl (h s (List.mem_cons_self ..))
  | s :: t :: l, h => by
    show 10 ∉ quoteN s ++ 32 :: lineN (t :: l)
    simp only [List.mem_append, List.mem_cons]
    rintro (h1 | h1 | h1)
    · exact quoteN_nl (h s (List.mem_cons_self ..)) h1
    · exact absurd h1 (by decide)
    · exact lineN_nl (l := t :: l) (fun x hx => h x (List.mem_cons_of_mem _ hx)) h1
theorem lineN_head {w : Txt} {l : List Txt} {c : UInt8} {r : Txt} (hq : quoteN w = c :: r) : ∃ t, lineN (w :: l) = c :: t := by
  cases l with
  | nil => exact ⟨r, hq⟩
  | cons y l => exact ⟨r ++ 32 :: lineN (y :: l), by show quoteN w ++ _ = _; rw [hq]; rfl⟩
theorem line_plain {s : StepN} (h : mayB s = true) : 10 ∉ lineN (wordsS s) ∧ skipB (lineN (wordsS s)) = false := by
  refine ⟨lineN_nl (fun x hx => (words_safe h x hx).2), ?_⟩
  have key : ∃ c t, lineN (wordsS s) = c :: t ∧ c ≠ 32 ∧ c ≠ 35 := by
    rcases may_kinds h with ⟨hk, _⟩ | ⟨hk, _⟩ | ⟨hk, _⟩ | ⟨hk, _⟩ | ⟨hk, _⟩
    · obtain ⟨t, ht⟩ := lineN_head (w := wRun) (l := s.ws) (c := 114) (r := [117, 110]) (by decide)
      exact ⟨114, t, by unfold wordsS; rw [if_pos hk]; exact ht, by decide, by decide⟩
    · obtain ⟨t, ht⟩ := lineN_head (w := wTick) (l := [decI s.n]) (c := 116) (r := [105, 99, 107]) (by decide)
      exact ⟨116, t, by unfold wordsS; rw [hk]; exact ht, by decide, by decide⟩
    · obtain ⟨t, ht⟩ := lineN_head (w := wAs) (l := [decI s.n]) (c := 97) (r := [115]) (by decide)
      exact ⟨97, t, by unfold wordsS; rw [hk]; exact ht, by decide, by decide⟩
    · obtain ⟨t, ht⟩ := lineN_head (w := wFail) (l := [decI s.n, decI s.y]) (c := 102) (r := [97, 105, 108]) (by decide)
      exact ⟨102, t, by unfold wordsS; rw [hk]; exact ht, by decide, by decide⟩
    · obtain ⟨t, ht⟩ := lineN_head (w := wMend) (l := []) (c := 109) (r := [101, 110, 100]) (by decide)
      exact ⟨109, t, by unfold wordsS; rw [hk]; exact ht, by decide, by decide⟩
  obtain ⟨c, t, h1, h2, h3⟩ := key
  rw [h1]
  refine skip_no ?_ (by simpa using h3)
  unfold blankB
  rw [List.all_cons, beq_eq_false_iff_ne.2 h2]; rfl
/-- Steps that may be come back from their lines. -/
theorem parse_lines : ∀ (L : List StepN) (f no : Nat) (out : List StepN), (∀ s ∈ L, mayB s = true ∧ I64 s.n ∧ I64 s.y) → (catS L).length < f → out.length + L.length ≤ 1000 → parseF f out no (catS L) = .inl (out ++ L)
  | [], f, no, out, _, _, _ => by rw [show catS [] = [] from rfl, parseF_nil]; simp
  | s :: L, f, no, out, h, hf, ho => by
    obtain ⟨hm, h1, h2⟩ := h s (List.mem_cons_self ..)
    obtain ⟨hnl, hsk⟩ := line_plain hm
    rw [catS_cons] at hf ⊢
    obtain ⟨f', rfl⟩ : ∃ f', f = f' + 1 := ⟨f - 1, by omega⟩
    rw [parseF_step (cutNl_at _ _ hnl) hsk (step_line hm h1 h2) (by simp at ho; omega)]
    rw [parse_lines L f' (no + 1) (out ++ [s]) (fun x hx => h x (List.mem_cons_of_mem _ hx)) (by simp at hf; omega) (by simp at ho ⊢; omega)]
    simp
theorem parse_back {L : List StepN} (h : ∀ s ∈ L, mayB s = true ∧ I64 s.n ∧ I64 s.y) (hl : L.length ≤ 1000) : parseS (catS L) = .inl L := by
  unfold parseS
  rw [parse_lines L _ 0 [] h (by omega) (by simpa using hl)]; simp
/-- So many steps that mend. -/
def mendS : StepN := ⟨5, [], 0, 0⟩
def mends (k : Nat) : List StepN := List.replicate k mendS
theorem mends_len (k : Nat) : (mends k).length = k := by simp [mends]
theorem mends_succ (k : Nat) : mends (k + 1) = mends k ++ [mendS] := by unfold mends; rw [List.replicate_succ']
theorem mends_may (k : Nat) : ∀ s ∈ mends k, mayB s = true ∧ I64 s.n ∧ I64 s.y := by
  intro s hs
  rw [List.eq_of_mem_replicate hs]
  exact ⟨rfl, by unfold mendS I64; decide, by unfold mendS I64; decide⟩
theorem catS_mends_succ (k : Nat) : catS (mends (k + 1)) = catS (mends k) ++ [109, 101, 110, 100, 10] := by
  rw [mends_succ]
  unfold catS
  rw [List.flatMap_append]
  rfl
theorem catS_mends_len (k : Nat) : (catS (mends k)).length = 5 * k := by
  induction k with
  | zero => rfl
  | succ k ih => rw [catS_mends_succ, List.length_append, ih]; simp; omega
theorem parse_over : ∀ (b a f : Nat) (out : List StepN), out.length = a → a ≤ 1000 → 1000 < a + b → 5 * b < f → parseF f out a (catS (mends b)) = .inr (1001, 3)
  | 0, a, f, out, _, h1, h2, _ => by omega
  | b + 1, a, f, out, ho, h1, h2, hf => by
    have e : catS (mends (b + 1)) = wMend ++ 10 :: catS (mends b) := by
      unfold mends; rw [List.replicate_succ, catS_cons]; rfl
    obtain ⟨f', rfl⟩ : ∃ f', f = f' + 1 := ⟨f - 1, by omega⟩
    rw [e]
    have hc := cutNl_at wMend (catS (mends b)) (by decide)
    by_cases ha : a = 1000
    · rw [parseF_many hc (by decide) step_mend (by omega), ha]
    · rw [parseF_step hc (by decide) step_mend (by omega)]
      exact parse_over b (a + 1) f' _ (by simp [ho]) (by omega) (by omega) (by omega)
theorem parse_mends_big {k : Nat} (h : 1000 < k) : parseS (catS (mends k)) = .inr (1001, 3) := by
  unfold parseS
  exact parse_over k 0 _ [] rfl (by omega) (by omega) (by rw [catS_mends_len]; omega)
theorem parse_mends {k : Nat} (h : k ≤ 1000) : parseS (catS (mends k)) = .inl (mends k) := parse_back (mends_may k) (by rw [mends_len]; exact h)
theorem mends_all (k : Nat) : (mends k).all mayB = true := by
  rw [List.all_eq_true]; exact fun s hs => (mends_may k s hs).1
theorem mends_fit (k : Nat) : ∀ s ∈ mends k, Fit s := by
  intro s hs
  rw [List.eq_of_mem_replicate hs]
  exact ⟨by unfold mendS; decide, by unfold mendS; decide, by unfold mendS I64; decide, by unfold mendS I64; decide⟩
theorem drop_take_nl {s : Txt} {a i : Nat} (hai : a ≤ i) (hi : i < s.length) (h : 10 ∉ (s.drop a).take (i - a)) (hc : s[i] ≠ 10) : 10 ∉ (s.drop a).take (i + 1 - a) := by
  have e : i + 1 - a = (i - a) + 1 := by omega
  have hl : i - a < (s.drop a).length := by rw [List.length_drop]; omega
  rw [e, List.take_succ_eq_append_getElem hl]
  simp only [List.mem_append, List.mem_singleton, List.getElem_drop]
  rintro (h1 | h1)
  · exact h h1
  · have : s[a + (i - a)]'(by omega) = s[i] := by congr 1; omega
    rw [this] at h1; exact hc h1.symm
/-- A line ends at i: the text from a on is cut there. -/
theorem cut_at_i {s : Txt} {a i : Nat} (hai : a ≤ i) (hi : i < s.length) (h : 10 ∉ (s.drop a).take (i - a)) (hc : s[i] = 10) : cutNl (s.drop a) = some ((s.drop a).take (i - a), s.drop (i + 1)) := by
  have e : s.drop a = (s.drop a).take (i - a) ++ 10 :: s.drop (i + 1) := by
    conv => lhs; rw [← List.take_append_drop (i - a) (s.drop a)]
    rw [List.drop_drop, show a + (i - a) = i by omega, List.drop_eq_getElem_cons hi, hc]
  rw [e]
  have hne := cutNl_at ((s.drop a).take (i - a)) (s.drop (i + 1)) h
  rw [hne]
  congr 2
  rw [List.take_append_of_le_length (by rw [List.length_take, List.length_drop]; omega), List.take_take]; simp
theorem cut_end {s : Txt} {a : Nat} (h : 10 ∉ (s.drop a).take (s.length - a)) : cutNl (s.drop a) = none := by
  rw [cutNl_none]
  rwa [List.take_of_length_le (by rw [List.length_drop]; omega)] at h
theorem words_few8 {s : StepN} (h : s.ws.length ≤ 8) (hs : ∀ x ∈ s.ws, x.length ≤ 100) : (lineN (wordsS s)).length ≤ 9 * 403 := by
  have key : (wordsS s).length ≤ 9 ∧ ∀ x ∈ wordsS s, x.length ≤ 100 := by
    have hd : ∀ n, (decI n).length ≤ 100 := fun n => by have := decI_len n; omega
    unfold wordsS
    split
    · refine ⟨by simp; omega, fun x hx => ?_⟩
      rcases List.mem_cons.1 hx with rfl | hx
      · decide
      · exact hs x hx
    · split
      · refine ⟨by simp, fun x hx => ?_⟩
        simp only [List.mem_cons, List.not_mem_nil, or_false] at hx
        rcases hx with rfl | rfl
        · decide
        · exact hd _
      · split
        · refine ⟨by simp, fun x hx => ?_⟩
          simp only [List.mem_cons, List.not_mem_nil, or_false] at hx
          rcases hx with rfl | rfl
          · decide
          · exact hd _
        · split
          · refine ⟨by simp, fun x hx => ?_⟩
            simp only [List.mem_cons, List.not_mem_nil, or_false] at hx
            rcases hx with rfl | rfl | rfl
            · decide
            · exact hd _
            · exact hd _
          · exact ⟨by simp, fun x hx => by rw [List.mem_singleton.1 hx]; decide⟩
  have h3 := lineN_len (wordsS s) 100 key.2
  exact Nat.le_trans h3 (Nat.mul_le_mul_right _ key.1)
theorem catS_few : ∀ {L : List StepN}, (∀ s ∈ L, Fit s) → (∀ s ∈ L, s.ws.length ≤ 8 ∧ ∀ x ∈ s.ws, x.length ≤ 100) → (catS L).length ≤ L.length * 5000
  | [], _, _ => by simp [catS]
  | s :: L, hf, h => by
    have ih := catS_few (L := L) (fun x hx => hf x (List.mem_cons_of_mem _ hx)) (fun x hx => h x (List.mem_cons_of_mem _ hx))
    obtain ⟨h1, h2⟩ := h s (List.mem_cons_self ..)
    have h3 := words_few8 h1 h2
    have e2 : (s :: L).length * 5000 = L.length * 5000 + 5000 := by rw [List.length_cons, Nat.add_mul, Nat.one_mul]
    rw [e2, catS_cons]
    simp only [List.length_append, List.length_cons]
    omega
set_option maxRecDepth 100000 in
set_option maxHeartbeats 32000000 in
theorem scriptBack_any (A : Option Addr) (cap : Nat) (L : List StepN) (s : Txt) (w : World) (hat : StepsAt w A L) (hlen : L.length ≤ 9223372036854775807) (hI : ∀ s ∈ L, I64 s.n ∧ I64 s.y ∧ s.ws.length ≤ maxLen) (hM : HasMax w) : Calls Tryd.prog 4 #[.slice A L.length cap, .string (bs s)] w (Ret w (.bool true)) := by
  have z0 : (bs s).size = s.length := bs_size s
  have hfe := few48_any A cap L w hat hlen (fun s hs => (hI s hs).2.2)
  cases hfew : fewS L with
  | false =>
    rw [hfew] at hfe
    have HFE := Lib.hid hfe
    clear hfe hfew
    go_enter Tryd.func4, Tryd.ntmps4
    go_wp2_with fail
    refine (HFE.out).mono ?_
    clear HFE
    rintro e w0 ⟨rfl, b0⟩
    go_wp2_with fail
    refine (awake48 _ (hM.ext b0)).mono ?_
    rintro e w3 ⟨rfl, b3⟩
    go_wp2_with fail
    go_ret
    exact Ret.mk rfl (b0.trans b3)
  | true =>
    rw [hfew] at hfe
    have HFE := Lib.hid hfe
    clear hfe
    by_cases h3 : s.length ≤ 600
    · have h3i : ¬ (600 : Int) < (s.length : Int) := by omega
      have h20 := (fewS_yes hfew).1
      have HFIT := Lib.hid (fit_few hfew hI)
      have HPW := Lib.hid (fun w' (hE : Ext w w') => writeS_any A cap L w' (hat.ext hE) (by omega) HFIT.out (hM.ext hE))
      have HWF := Lib.hid (writeS_fit (L := L) (by omega))
      have HLS := Lib.hid (show ∀ s ∈ L, s.ws.length ≤ 1000000 from fun s hs => by have := (HFIT.out s hs).1; omega)
      have HI := Lib.hid hI
      have hcl : (catS L).length ≤ 20 * 5000 := by
        refine Nat.le_trans (catS_few HFIT.out (fewS_yes hfew).2) ?_
        exact Nat.mul_le_mul_right _ h20
      obtain ⟨n, hn⟩ : ∃ n, n = L.length := ⟨_, rfl⟩
      rw [← hn] at HFE HPW h20 ⊢
      have HN0 := Lib.hid hn
      have HA := Lib.hid hat
      clear hfew hn hat hI hlen
      cases hall : L.all mayB with
      | false =>
        have HLV : Hid (linesV L = .tuple #[.string ⟨#[]⟩, .int .i64 1]) := by show _ = _; unfold linesV; rw [if_neg (by simp [hall])]
        clear hall
        go_enter Tryd.func4, Tryd.ntmps4
        go_wp2_with fail
        refine (HFE.out).mono ?_
        clear HFE
        rintro e w0 ⟨rfl, b0⟩
        go_wp2_with fail
        refine (HPW.out _ b0).mono ?_
        rw [HWF.out, HLV.out]
        rintro e wS ⟨rfl, bS⟩
        go_wp2_with fail
        have hS : Ext w wS := b0.trans bS
        go_loopw [10, 11, 12, 13] (fun want at_ fr i_ wr => ∃ (i a no f : Nat) (out : List StepN), i_ = .int .i64 i ∧ fr = .int .i64 a ∧ at_ = .int .i64 no ∧ OwnS wr w.heap.size want out ∧ Hid (parseF f out no (s.drop a) = parseS s) ∧ (s.drop a).length < f ∧ out.length ≤ no ∧ no ≤ a ∧ a ≤ i ∧ i ≤ s.length ∧ Hid (10 ∉ (s.drop a).take (i - a)) ∧ Hid (∀ y ∈ out, y.ws.length ≤ 1000000) ∧ Ext w wr) (fun _ _ _ i _ => s.length + 1 - (intOf i).toNat)
        case atStart => exact ⟨0, 0, 0, s.length + 1, [], rfl, rfl, rfl, OwnS.nil _ _, rfl, by simp, Nat.le_refl _, Nat.le_refl _, Nat.le_refl _, Nat.zero_le _, (by show ¬ (_ ∈ _); simp), (fun y hy => by cases hy), hS⟩
        case round =>
          obtain ⟨i, a, no, f, out, rfl, rfl, rfl, hO, hP, hf, hon, hna, hai, hil, hnl, HWS, hE⟩ := hrel
          generalize hwant : u10 = want at hO ⊢
          clear hwant
          have hii : (i : Int) ≤ (s.length : Int) := by omega
          by_cases hlt : i < s.length
          · have hlti : (i : Int) < (s.length : Int) := by omega
            have hne : ((i : Int) == (s.length : Int)) = false := by rw [beq_eq_false_iff_ne]; omega
            have hks : i < (bs s).size := by omega
            have hg : (bs s)[i] = s[i] := bs_get s i hks hlt
            obtain ⟨c, hc⟩ : ∃ c, c = s[i] := ⟨_, rfl⟩
            rw [← hc] at hg
            have e10 : (((bs s)[i].toNat : Int) != 10) = (c != 10) := by rw [hg]; exact congrArg Bool.not (u8_eq (c := c) (d := 10))
            have hi0 : (0 : Int) ≤ (i : Int) := Int.natCast_nonneg _
            have HC := Lib.hid hc
            clear hg hc
            by_cases h10 : c = 10
            · rw [show (c != 10) = false from by rw [h10]; rfl] at e10
              have HCU := Lib.hid (cut_at_i hai hlt hnl.out (HC.out.symm.trans h10))
              obtain ⟨ln, hln⟩ : ∃ ln, ln = (s.drop a).take (i - a) := ⟨_, rfl⟩
              rw [← hln] at HCU
              have hll : ln.length ≤ 600 := by rw [hln, List.length_take, List.length_drop]; omega
              have hsl := slice_str (P := Tryd.prog) Tryd.underlying9 (bs s) (a : Int) (i : Int) a i rfl rfl hai (by omega) (bs ln) (by rw [bs_extract, hln])
              have zl : (bs ln).size = ln.length := bs_size ln
              obtain ⟨f', rfl⟩ : ∃ f', f = f' + 1 := ⟨f - 1, by omega⟩
              rw [List.length_drop] at hf
              have hw1 : IntKind.i64.wrap ((no : Int) + 1) = ((no + 1 : Nat) : Int) := by rw [wrap_i64_in (by omega) (by omega)]; omega
              clear h10 hln hnl
              cases hb : blankB ln with
              | true =>
                have HN : Hid (parseF f' out (no + 1) (s.drop (i + 1)) = parseS s) := by show _ = _; rw [← hP.out, parseF_skip HCU.out (skip_blank hb)]
                have HB := Lib.hid hb
                clear hb
                cases hst : stepN ln with
                | none =>
                  have HST := Lib.hid hst
                  clear hst
                  go_wp2_with fail
                  refine (rstep_any ln _ (by omega)).mono ?_
                  rw [HST.out]
                  rintro e w1 ⟨rfl, b1⟩
                  obtain ⟨V, hV⟩ : ∃ V, V = w1.alloc (.cells #[.int .i64 0, .slice none 0 0, .int .i64 0, .int .i64 0] 30) := ⟨_, rfl⟩
                  have EV : Ext w1 V := by rw [hV]; exact (Ext.refl _).alloc _
                  have E1 := (hE.trans b1).trans EV
                  have HV := Lib.hid hV
                  clear hV
                  go_wp2_with fail
                  rw [← HV.out]
                  refine (blank_any ln _ (by omega)).mono ?_
                  rw [HB.out]
                  rintro e w2 ⟨rfl, b2⟩
                  have E2 := E1.trans b2
                  go_wp2_with fail
                  go_roundw
                  case rel => exact ⟨i + 1, i + 1, no + 1, f', out, by go_num, by go_num, by first | rfl | (congr 1), OwnS.ext hO (((b1.trans EV)).trans b2), HN.out, by rw [List.length_drop]; omega, by omega, by omega, Nat.le_refl _, by omega, (by show ¬ (_ ∈ _); simp), HWS.out, E2⟩
                  case measure => simp [intOf]; omega
                | some x =>
                  have HST := Lib.hid hst
                  clear hst
                  go_wp2_with fail
                  refine (rstep_any ln _ (by omega)).mono ?_
                  rw [HST.out]
                  rintro e w1 ⟨B, c1, rfl, pt, pn, pc, b1⟩
                  obtain ⟨V, hV⟩ : ∃ V, V = w1.alloc (.cells #[.int .i64 x.k, .slice B x.ws.length c1, .int .i64 x.n, .int .i64 x.y] 30) := ⟨_, rfl⟩
                  have EV : Ext w1 V := by rw [hV]; exact (Ext.refl _).alloc _
                  have E1 := (hE.trans b1).trans EV
                  have hC : Has V w1.heap.size (.cells #[.int .i64 x.k, .slice B x.ws.length c1, .int .i64 x.n, .int .i64 x.y] 30) := by rw [hV]; exact Has.new _ _
                  have HV := Lib.hid hV
                  clear hV
                  clear hC pt pn pc
                  go_wp2_with (rw [← HV.out])
                  refine (blank_any ln _ (by omega)).mono ?_
                  rw [HB.out]
                  rintro e w2 ⟨rfl, b2⟩
                  have E2 := E1.trans b2
                  go_wp2_with fail
                  go_roundw
                  case rel => exact ⟨i + 1, i + 1, no + 1, f', out, by go_num, by go_num, by first | rfl | (congr 1), OwnS.ext hO (((b1.trans EV)).trans b2), HN.out, by rw [List.length_drop]; omega, by omega, by omega, Nat.le_refl _, by omega, (by show ¬ (_ ∈ _); simp), HWS.out, E2⟩
                  case measure => simp [intOf]; omega
              | false =>
                have ha0 : 0 < ln.length := by
                  rcases Nat.eq_zero_or_pos ln.length with h | h
                  · rw [List.eq_nil_of_length_eq_zero h] at hb; cases hb
                  · exact h
                have has : 0 < (bs ln).size := by omega
                have hai0 : (0 : Int) < (ln.length : Int) := by omega
                have hg0 : (bs ln)[0] = ln[0] := bs_get ln 0 has ha0
                have hh : ln.head? = some ln[0] := by cases ln with | nil => simp at ha0 | cons c t => rfl
                obtain ⟨d, hd⟩ : ∃ d, d = ln[0] := ⟨_, rfl⟩
                rw [← hd] at hg0 hh
                have e35 : (((bs ln)[0].toNat : Int) == 35) = (d == 35) := by rw [hg0]; exact u8_eq (c := d) (d := 35)
                have HB := Lib.hid hb
                have HH := Lib.hid hh
                clear hb hg0 hd hh
                by_cases h35 : d = 35
                · have HN : Hid (parseF f' out (no + 1) (s.drop (i + 1)) = parseS s) := by show _ = _; rw [← hP.out, parseF_skip HCU.out (skip_mark (by rw [HH.out, h35]))]
                  rw [show (d == 35) = true from by rw [h35]; rfl] at e35
                  clear h35
                  cases hst : stepN ln with
                  | none =>
                    have HST := Lib.hid hst
                    clear hst
                    go_wp2_with fail
                    refine (rstep_any ln _ (by omega)).mono ?_
                    rw [HST.out]
                    rintro e w1 ⟨rfl, b1⟩
                    obtain ⟨V, hV⟩ : ∃ V, V = w1.alloc (.cells #[.int .i64 0, .slice none 0 0, .int .i64 0, .int .i64 0] 30) := ⟨_, rfl⟩
                    have EV : Ext w1 V := by rw [hV]; exact (Ext.refl _).alloc _
                    have E1 := (hE.trans b1).trans EV
                    have HV := Lib.hid hV
                    clear hV
                    go_wp2_with fail
                    rw [← HV.out]
                    refine (blank_any ln _ (by omega)).mono ?_
                    rw [HB.out]
                    rintro e w2 ⟨rfl, b2⟩
                    have E2 := E1.trans b2
                    go_wp2_with fail
                    go_roundw
                    case rel => exact ⟨i + 1, i + 1, no + 1, f', out, by go_num, by go_num, by first | rfl | (congr 1), OwnS.ext hO (((b1.trans EV)).trans b2), HN.out, by rw [List.length_drop]; omega, by omega, by omega, Nat.le_refl _, by omega, (by show ¬ (_ ∈ _); simp), HWS.out, E2⟩
                    case measure => simp [intOf]; omega
                  | some x =>
                    have HST := Lib.hid hst
                    clear hst
                    go_wp2_with fail
                    refine (rstep_any ln _ (by omega)).mono ?_
                    rw [HST.out]
                    rintro e w1 ⟨B, c1, rfl, pt, pn, pc, b1⟩
                    obtain ⟨V, hV⟩ : ∃ V, V = w1.alloc (.cells #[.int .i64 x.k, .slice B x.ws.length c1, .int .i64 x.n, .int .i64 x.y] 30) := ⟨_, rfl⟩
                    have EV : Ext w1 V := by rw [hV]; exact (Ext.refl _).alloc _
                    have E1 := (hE.trans b1).trans EV
                    have hC : Has V w1.heap.size (.cells #[.int .i64 x.k, .slice B x.ws.length c1, .int .i64 x.n, .int .i64 x.y] 30) := by rw [hV]; exact Has.new _ _
                    have HV := Lib.hid hV
                    clear hV
                    clear hC pt pn pc
                    go_wp2_with (rw [← HV.out])
                    refine (blank_any ln _ (by omega)).mono ?_
                    rw [HB.out]
                    rintro e w2 ⟨rfl, b2⟩
                    have E2 := E1.trans b2
                    go_wp2_with fail
                    go_roundw
                    case rel => exact ⟨i + 1, i + 1, no + 1, f', out, by go_num, by go_num, by first | rfl | (congr 1), OwnS.ext hO (((b1.trans EV)).trans b2), HN.out, by rw [List.length_drop]; omega, by omega, by omega, Nat.le_refl _, by omega, (by show ¬ (_ ∈ _); simp), HWS.out, E2⟩
                    case measure => simp [intOf]; omega
                · have HSK : Hid (skipB ln = false) := skip_no HB.out (by rw [HH.out]; exact fun h => h35 (Option.some.inj h))
                  rw [show (d == 35) = false from beq_eq_false_iff_ne.2 h35] at e35
                  clear h35
                  cases hst : stepN ln with
                  | none =>
                    have HST := Lib.hid hst
                    have HF : Hid (parseS s = .inr (no + 1, 2)) := by show _ = _; rw [← hP.out]; exact parseF_bad HCU.out HSK.out hst
                    clear hst hO
                    go_wp2_with fail
                    refine (rstep_any ln _ (by omega)).mono ?_
                    rw [HST.out]
                    rintro e w1 ⟨rfl, b1⟩
                    obtain ⟨V, hV⟩ : ∃ V, V = w1.alloc (.cells #[.int .i64 0, .slice none 0 0, .int .i64 0, .int .i64 0] 30) := ⟨_, rfl⟩
                    have EV : Ext w1 V := by rw [hV]; exact (Ext.refl _).alloc _
                    have E1 := (hE.trans b1).trans EV
                    have HV := Lib.hid hV
                    clear hV
                    go_wp2_with fail
                    rw [← HV.out]
                    refine (blank_any ln _ (by omega)).mono ?_
                    rw [HB.out]
                    rintro e w2 ⟨rfl, b2⟩
                    have E2 := E1.trans b2
                    go_wp2_with fail
                    refine (pparseS_any s _ (hM.ext E2) (by omega)).mono ?_
                    rw [HF.out]
                    rintro e w5 ⟨rfl, b5⟩
                    have E5 := E2.trans b5
                    go_wp2_with fail
                    refine (awake48 _ (hM.ext E5)).mono ?_
                    rintro e wz ⟨rfl, bz⟩
                    go_wp2_with fail
                    go_ret
                    exact Ret.mk rfl (E5.trans bz)
                  | some x =>
                    have HST := Lib.hid hst
                    have HN : Hid (parseF f' (out ++ [x]) (no + 1) (s.drop (i + 1)) = parseS s) := by show _ = _; rw [← hP.out, parseF_step HCU.out HSK.out hst (by omega)]
                    have hxw := step_ws hst (by omega)
                    have HW2 : Hid (∀ y ∈ out ++ [x], y.ws.length ≤ 1000000) := fun y hy => by
                      rcases List.mem_append.1 hy with h | h
                      · exact HWS.out y h
                      · rw [List.mem_singleton.1 h]; exact hxw
                    clear hst
                    go_wp2_with fail
                    refine (rstep_any ln _ (by omega)).mono ?_
                    rw [HST.out]
                    rintro e w1 ⟨B, c1, rfl, pt, pn, pc, b1⟩
                    obtain ⟨V, hV⟩ : ∃ V, V = w1.alloc (.cells #[.int .i64 x.k, .slice B x.ws.length c1, .int .i64 x.n, .int .i64 x.y] 30) := ⟨_, rfl⟩
                    have EV : Ext w1 V := by rw [hV]; exact (Ext.refl _).alloc _
                    have E1 := (hE.trans b1).trans EV
                    have hC : Has V w1.heap.size (.cells #[.int .i64 x.k, .slice B x.ws.length c1, .int .i64 x.n, .int .i64 x.y] 30) := by rw [hV]; exact Has.new _ _
                    have HV := Lib.hid hV
                    clear hV
                    have HPT := Lib.hid pt
                    have HPN := Lib.hid pn
                    have HCC := Lib.hid hC
                    clear pt pn hC
                    go_wp2_with (rw [← HV.out])
                    refine (blank_any ln _ (by omega)).mono ?_
                    rw [HB.out]
                    rintro e w2 ⟨rfl, b2⟩
                    have E2 := E1.trans b2
                    have hC2 := HCC.out.ext b2
                    have c0 : w2.cell? ⟨w1.heap.size, 0, none⟩ = some (.int .i64 x.k) := hC2.cell 0
                    have c1' : w2.cell? ⟨w1.heap.size, 1, none⟩ = some (.slice B x.ws.length c1) := hC2.cell 1
                    have c2 : w2.cell? ⟨w1.heap.size, 2, none⟩ = some (.int .i64 x.n) := hC2.cell 2
                    have c3 : w2.cell? ⟨w1.heap.size, 3, none⟩ = some (.int .i64 x.y) := hC2.cell 3
                    have cl := Has.lt hC2
                    have hOV : OwnS w2 w.heap.size want out := OwnS.ext hO ((b1.trans EV).trans b2)
                    obtain ⟨v9, w9, hr9, hO9, hg9⟩ := app_step x B c1 w2 hOV (HPT.out.ext (EV.trans b2)) HPN.out pc E2.size (by omega)
                    have HR := Lib.hid hr9
                    have E9 : Ext w w9 := (E2.alloc _).grown hg9 (fun g hv => by
                      obtain ⟨_, _, ho, _⟩ := hOV
                      exact (World.ownsRow.lt ho g hv).1)
                    clear hr9 hg9 hOV hO hC2 pc
                    go_wp2_with (at_builtin; refine Lib.wpList_append_run _ rfl _ _ 22 22 rfl _ _ rfl rfl _ _ HR.out ?_)
                    go_roundw
                    case rel => exact ⟨i + 1, i + 1, no + 1, f', out ++ [x], by go_num, by go_num, by first | rfl | (congr 1), hO9, HN.out, by rw [List.length_drop]; omega, by simp; omega, by omega, Nat.le_refl _, by omega, (by show ¬ (_ ∈ _); simp), HW2.out, E9⟩
                    case measure => simp [intOf]; omega
            · rw [show (c != 10) = true from bne_iff_ne.2 h10] at e10
              have hn2 : Hid (10 ∉ (s.drop a).take (i + 1 - a)) := drop_take_nl hai hlt hnl.out (fun h => h10 (HC.out.trans h))
              clear h10
              go_wp2_with fail
              go_roundw
              case rel => exact ⟨i + 1, a, no, f, out, by go_num, rfl, rfl, hO, hP.out, hf, hon, hna, by omega, by omega, hn2.out, HWS.out, hE⟩
              case measure => simp [intOf]; omega
          · obtain rfl : i = s.length := by omega
            have hlti : ¬ (s.length : Int) < (s.length : Int) := by omega
            have hee : ((s.length : Int) == (s.length : Int)) = true := by simp
            obtain ⟨ln, hlnd⟩ : ∃ ln, ln = s.drop a := ⟨_, rfl⟩
            have HLN : Hid (ln = s.drop a) := hlnd
            have hll : ln.length ≤ 600 := by rw [hlnd, List.length_drop]; omega
            have hsl := slice_str (P := Tryd.prog) Tryd.underlying9 (bs s) (a : Int) (s.length : Int) a s.length rfl rfl hai (by omega) (bs ln) (by rw [bs_extract, hlnd, List.take_of_length_le (by rw [List.length_drop]; omega)])
            have zl : (bs ln).size = ln.length := bs_size ln
            obtain ⟨x1, x2⟩ := str_empty ln
            obtain ⟨f', rfl⟩ : ∃ f', f = f' + 1 := ⟨f - 1, by omega⟩
            rw [List.length_drop] at hf
            have hw1 : IntKind.i64.wrap ((no : Int) + 1) = ((no + 1 : Nat) : Int) := by rw [wrap_i64_in (by omega) (by omega)]; omega
            by_cases hln : s.drop a = []
            · rw [show (ln == []) = true from by rw [hlnd]; exact beq_iff_eq.2 hln] at x2
              clear hlnd
              have HF : Hid (parseS s = .inl out) := by show _ = _; rw [← hP.out, hln]; exact parseF_nil _ _ _
              rw [show (ln == []) = true from by rw [HLN.out]; exact beq_iff_eq.2 hln] at x1
              clear hln
              obtain ⟨Ao, co, rfl, _, _, hat9, _⟩ := hO.at_
              have HAT9 := Lib.hid hat9
              clear hO hat9
              go_wp2_with fail
              refine (pparseS_any s _ (hM.ext hE) (by omega)).mono ?_
              rw [HF.out]
              rintro e w5 ⟨v5, rfl, hO5, b5⟩
              obtain ⟨A5, c5, rfl, _, _, hat5, _⟩ := hO5.at_
              have E5 := hE.trans b5
              have HAT5 := Lib.hid hat5
              clear hO5 hat5
              go_wp2_with fail
              refine (same48_any A5 Ao c5 co out w5 HAT5.out (HAT9.out.ext b5) (by omega) HWS.out).mono ?_
              rintro e w6 ⟨rfl, b6⟩
              have E6 := E5.trans b6
              go_wp2_with fail
              refine (awake48 _ (hM.ext E6)).mono ?_
              rintro e wz ⟨rfl, bz⟩
              go_wp2_with fail
              go_ret
              exact Ret.mk rfl (E6.trans bz)
            · have HF : Hid (parseS s = .inr (no + 1, 2)) := by show _ = _; rw [← hP.out]; exact parseF_none hln (cut_end hnl.out)
              rw [show (ln == []) = false from beq_eq_false_iff_ne.2 (fun h => hln (hlnd.symm.trans h))] at x1 x2
              clear hln hlnd hnl
              cases hst : stepN ln with
              | none =>
                have HST := Lib.hid hst
                clear hst hO
                go_wp2_with fail
                refine (rstep_any ln _ (by omega)).mono ?_
                rw [HST.out]
                rintro e w1 ⟨rfl, b1⟩
                obtain ⟨V, hV⟩ : ∃ V, V = w1.alloc (.cells #[.int .i64 0, .slice none 0 0, .int .i64 0, .int .i64 0] 30) := ⟨_, rfl⟩
                have EV : Ext w1 V := by rw [hV]; exact (Ext.refl _).alloc _
                have E1 := (hE.trans b1).trans EV
                have HV := Lib.hid hV
                clear hV
                go_wp2_with fail
                rw [← HV.out]
                refine (pparseS_any s _ (hM.ext E1) (by omega)).mono ?_
                rw [HF.out]
                rintro e w5 ⟨rfl, b5⟩
                have E5 := E1.trans b5
                go_wp2_with fail
                refine (awake48 _ (hM.ext E5)).mono ?_
                rintro e wz ⟨rfl, bz⟩
                go_wp2_with fail
                go_ret
                exact Ret.mk rfl (E5.trans bz)
              | some x =>
                have HST := Lib.hid hst
                clear hst hO
                go_wp2_with fail
                refine (rstep_any ln _ (by omega)).mono ?_
                rw [HST.out]
                rintro e w1 ⟨B, c1, rfl, pt, pn, pc, b1⟩
                obtain ⟨V, hV⟩ : ∃ V, V = w1.alloc (.cells #[.int .i64 x.k, .slice B x.ws.length c1, .int .i64 x.n, .int .i64 x.y] 30) := ⟨_, rfl⟩
                have EV : Ext w1 V := by rw [hV]; exact (Ext.refl _).alloc _
                have E1 := (hE.trans b1).trans EV
                have hC : Has V w1.heap.size (.cells #[.int .i64 x.k, .slice B x.ws.length c1, .int .i64 x.n, .int .i64 x.y] 30) := by rw [hV]; exact Has.new _ _
                have HV := Lib.hid hV
                clear hV
                clear hC pt pn pc
                go_wp2_with (rw [← HV.out])
                refine (pparseS_any s _ (hM.ext E1) (by omega)).mono ?_
                rw [HF.out]
                rintro e w5 ⟨rfl, b5⟩
                have E5 := E1.trans b5
                go_wp2_with fail
                refine (awake48 _ (hM.ext E5)).mono ?_
                rintro e wz ⟨rfl, bz⟩
                go_wp2_with fail
                go_ret
                exact Ret.mk rfl (E5.trans bz)
      | true =>
        have HLV := Lib.hid (linesV_yes hall)
        have HPB : Hid (parseS (catS L) = .inl L) := parse_back (fun s hs => ⟨(List.all_eq_true.1 hall) s hs, (HI.out s hs).1, (HI.out s hs).2.1⟩) (by have := HN0.out; omega)
        obtain ⟨T, hT⟩ : ∃ T, T = catS L := ⟨_, rfl⟩
        rw [← hT] at HLV HPB hcl
        clear hall hT
        go_enter Tryd.func4, Tryd.ntmps4
        go_wp2_with fail
        refine (HFE.out).mono ?_
        clear HFE
        rintro e w0 ⟨rfl, b0⟩
        go_wp2_with fail
        refine (HPW.out _ b0).mono ?_
        rw [HWF.out, HLV.out]
        rintro e w1 ⟨rfl, b1⟩
        have E1 := b0.trans b1
        go_wp2_with fail
        refine (pparseS_any T _ (hM.ext E1) (by omega)).mono ?_
        rw [HPB.out]
        rintro e w2 ⟨v2, rfl, hO2, b2⟩
        obtain ⟨A2, c2, rfl, _, _, hat2, _⟩ := hO2.at_
        have HAT2 := Lib.hid hat2
        have E2 := E1.trans b2
        clear hO2 hat2
        rw [← HN0.out]
        go_wp2_with fail
        have hsm := same48_any A2 A c2 cap L w2 HAT2.out (HA.out.ext E2) (by have := HN0.out; omega) HLS.out
        rw [← HN0.out] at hsm
        refine hsm.mono ?_
        clear hsm
        rintro e wS ⟨rfl, bS⟩
        go_wp2_with fail
        have hS : Ext w wS := E2.trans bS
        go_loopw [10, 11, 12, 13] (fun want at_ fr i_ wr => ∃ (i a no f : Nat) (out : List StepN), i_ = .int .i64 i ∧ fr = .int .i64 a ∧ at_ = .int .i64 no ∧ OwnS wr w.heap.size want out ∧ Hid (parseF f out no (s.drop a) = parseS s) ∧ (s.drop a).length < f ∧ out.length ≤ no ∧ no ≤ a ∧ a ≤ i ∧ i ≤ s.length ∧ Hid (10 ∉ (s.drop a).take (i - a)) ∧ Hid (∀ y ∈ out, y.ws.length ≤ 1000000) ∧ Ext w wr) (fun _ _ _ i _ => s.length + 1 - (intOf i).toNat)
        case atStart => exact ⟨0, 0, 0, s.length + 1, [], rfl, rfl, rfl, OwnS.nil _ _, rfl, by simp, Nat.le_refl _, Nat.le_refl _, Nat.le_refl _, Nat.zero_le _, (by show ¬ (_ ∈ _); simp), (fun y hy => by cases hy), hS⟩
        case round =>
          obtain ⟨i, a, no, f, out, rfl, rfl, rfl, hO, hP, hf, hon, hna, hai, hil, hnl, HWS, hE⟩ := hrel
          generalize hwant : u10 = want at hO ⊢
          clear hwant
          have hii : (i : Int) ≤ (s.length : Int) := by omega
          by_cases hlt : i < s.length
          · have hlti : (i : Int) < (s.length : Int) := by omega
            have hne : ((i : Int) == (s.length : Int)) = false := by rw [beq_eq_false_iff_ne]; omega
            have hks : i < (bs s).size := by omega
            have hg : (bs s)[i] = s[i] := bs_get s i hks hlt
            obtain ⟨c, hc⟩ : ∃ c, c = s[i] := ⟨_, rfl⟩
            rw [← hc] at hg
            have e10 : (((bs s)[i].toNat : Int) != 10) = (c != 10) := by rw [hg]; exact congrArg Bool.not (u8_eq (c := c) (d := 10))
            have hi0 : (0 : Int) ≤ (i : Int) := Int.natCast_nonneg _
            have HC := Lib.hid hc
            clear hg hc
            by_cases h10 : c = 10
            · rw [show (c != 10) = false from by rw [h10]; rfl] at e10
              have HCU := Lib.hid (cut_at_i hai hlt hnl.out (HC.out.symm.trans h10))
              obtain ⟨ln, hln⟩ : ∃ ln, ln = (s.drop a).take (i - a) := ⟨_, rfl⟩
              rw [← hln] at HCU
              have hll : ln.length ≤ 600 := by rw [hln, List.length_take, List.length_drop]; omega
              have hsl := slice_str (P := Tryd.prog) Tryd.underlying9 (bs s) (a : Int) (i : Int) a i rfl rfl hai (by omega) (bs ln) (by rw [bs_extract, hln])
              have zl : (bs ln).size = ln.length := bs_size ln
              obtain ⟨f', rfl⟩ : ∃ f', f = f' + 1 := ⟨f - 1, by omega⟩
              rw [List.length_drop] at hf
              have hw1 : IntKind.i64.wrap ((no : Int) + 1) = ((no + 1 : Nat) : Int) := by rw [wrap_i64_in (by omega) (by omega)]; omega
              clear h10 hln hnl
              cases hb : blankB ln with
              | true =>
                have HN : Hid (parseF f' out (no + 1) (s.drop (i + 1)) = parseS s) := by show _ = _; rw [← hP.out, parseF_skip HCU.out (skip_blank hb)]
                have HB := Lib.hid hb
                clear hb
                cases hst : stepN ln with
                | none =>
                  have HST := Lib.hid hst
                  clear hst
                  go_wp2_with fail
                  refine (rstep_any ln _ (by omega)).mono ?_
                  rw [HST.out]
                  rintro e w1 ⟨rfl, b1⟩
                  obtain ⟨V, hV⟩ : ∃ V, V = w1.alloc (.cells #[.int .i64 0, .slice none 0 0, .int .i64 0, .int .i64 0] 30) := ⟨_, rfl⟩
                  have EV : Ext w1 V := by rw [hV]; exact (Ext.refl _).alloc _
                  have E1 := (hE.trans b1).trans EV
                  have HV := Lib.hid hV
                  clear hV
                  go_wp2_with fail
                  rw [← HV.out]
                  refine (blank_any ln _ (by omega)).mono ?_
                  rw [HB.out]
                  rintro e w2 ⟨rfl, b2⟩
                  have E2 := E1.trans b2
                  go_wp2_with fail
                  go_roundw
                  case rel => exact ⟨i + 1, i + 1, no + 1, f', out, by go_num, by go_num, by first | rfl | (congr 1), OwnS.ext hO (((b1.trans EV)).trans b2), HN.out, by rw [List.length_drop]; omega, by omega, by omega, Nat.le_refl _, by omega, (by show ¬ (_ ∈ _); simp), HWS.out, E2⟩
                  case measure => simp [intOf]; omega
                | some x =>
                  have HST := Lib.hid hst
                  clear hst
                  go_wp2_with fail
                  refine (rstep_any ln _ (by omega)).mono ?_
                  rw [HST.out]
                  rintro e w1 ⟨B, c1, rfl, pt, pn, pc, b1⟩
                  obtain ⟨V, hV⟩ : ∃ V, V = w1.alloc (.cells #[.int .i64 x.k, .slice B x.ws.length c1, .int .i64 x.n, .int .i64 x.y] 30) := ⟨_, rfl⟩
                  have EV : Ext w1 V := by rw [hV]; exact (Ext.refl _).alloc _
                  have E1 := (hE.trans b1).trans EV
                  have hC : Has V w1.heap.size (.cells #[.int .i64 x.k, .slice B x.ws.length c1, .int .i64 x.n, .int .i64 x.y] 30) := by rw [hV]; exact Has.new _ _
                  have HV := Lib.hid hV
                  clear hV
                  clear hC pt pn pc
                  go_wp2_with (rw [← HV.out])
                  refine (blank_any ln _ (by omega)).mono ?_
                  rw [HB.out]
                  rintro e w2 ⟨rfl, b2⟩
                  have E2 := E1.trans b2
                  go_wp2_with fail
                  go_roundw
                  case rel => exact ⟨i + 1, i + 1, no + 1, f', out, by go_num, by go_num, by first | rfl | (congr 1), OwnS.ext hO (((b1.trans EV)).trans b2), HN.out, by rw [List.length_drop]; omega, by omega, by omega, Nat.le_refl _, by omega, (by show ¬ (_ ∈ _); simp), HWS.out, E2⟩
                  case measure => simp [intOf]; omega
              | false =>
                have ha0 : 0 < ln.length := by
                  rcases Nat.eq_zero_or_pos ln.length with h | h
                  · rw [List.eq_nil_of_length_eq_zero h] at hb; cases hb
                  · exact h
                have has : 0 < (bs ln).size := by omega
                have hai0 : (0 : Int) < (ln.length : Int) := by omega
                have hg0 : (bs ln)[0] = ln[0] := bs_get ln 0 has ha0
                have hh : ln.head? = some ln[0] := by cases ln with | nil => simp at ha0 | cons c t => rfl
                obtain ⟨d, hd⟩ : ∃ d, d = ln[0] := ⟨_, rfl⟩
                rw [← hd] at hg0 hh
                have e35 : (((bs ln)[0].toNat : Int) == 35) = (d == 35) := by rw [hg0]; exact u8_eq (c := d) (d := 35)
                have HB := Lib.hid hb
                have HH := Lib.hid hh
                clear hb hg0 hd hh
                by_cases h35 : d = 35
                · have HN : Hid (parseF f' out (no + 1) (s.drop (i + 1)) = parseS s) := by show _ = _; rw [← hP.out, parseF_skip HCU.out (skip_mark (by rw [HH.out, h35]))]
                  rw [show (d == 35) = true from by rw [h35]; rfl] at e35
                  clear h35
                  cases hst : stepN ln with
                  | none =>
                    have HST := Lib.hid hst
                    clear hst
                    go_wp2_with fail
                    refine (rstep_any ln _ (by omega)).mono ?_
                    rw [HST.out]
                    rintro e w1 ⟨rfl, b1⟩
                    obtain ⟨V, hV⟩ : ∃ V, V = w1.alloc (.cells #[.int .i64 0, .slice none 0 0, .int .i64 0, .int .i64 0] 30) := ⟨_, rfl⟩
                    have EV : Ext w1 V := by rw [hV]; exact (Ext.refl _).alloc _
                    have E1 := (hE.trans b1).trans EV
                    have HV := Lib.hid hV
                    clear hV
                    go_wp2_with fail
                    rw [← HV.out]
                    refine (blank_any ln _ (by omega)).mono ?_
                    rw [HB.out]
                    rintro e w2 ⟨rfl, b2⟩
                    have E2 := E1.trans b2
                    go_wp2_with fail
                    go_roundw
                    case rel => exact ⟨i + 1, i + 1, no + 1, f', out, by go_num, by go_num, by first | rfl | (congr 1), OwnS.ext hO (((b1.trans EV)).trans b2), HN.out, by rw [List.length_drop]; omega, by omega, by omega, Nat.le_refl _, by omega, (by show ¬ (_ ∈ _); simp), HWS.out, E2⟩
                    case measure => simp [intOf]; omega
                  | some x =>
                    have HST := Lib.hid hst
                    clear hst
                    go_wp2_with fail
                    refine (rstep_any ln _ (by omega)).mono ?_
                    rw [HST.out]
                    rintro e w1 ⟨B, c1, rfl, pt, pn, pc, b1⟩
                    obtain ⟨V, hV⟩ : ∃ V, V = w1.alloc (.cells #[.int .i64 x.k, .slice B x.ws.length c1, .int .i64 x.n, .int .i64 x.y] 30) := ⟨_, rfl⟩
                    have EV : Ext w1 V := by rw [hV]; exact (Ext.refl _).alloc _
                    have E1 := (hE.trans b1).trans EV
                    have hC : Has V w1.heap.size (.cells #[.int .i64 x.k, .slice B x.ws.length c1, .int .i64 x.n, .int .i64 x.y] 30) := by rw [hV]; exact Has.new _ _
                    have HV := Lib.hid hV
                    clear hV
                    clear hC pt pn pc
                    go_wp2_with (rw [← HV.out])
                    refine (blank_any ln _ (by omega)).mono ?_
                    rw [HB.out]
                    rintro e w2 ⟨rfl, b2⟩
                    have E2 := E1.trans b2
                    go_wp2_with fail
                    go_roundw
                    case rel => exact ⟨i + 1, i + 1, no + 1, f', out, by go_num, by go_num, by first | rfl | (congr 1), OwnS.ext hO (((b1.trans EV)).trans b2), HN.out, by rw [List.length_drop]; omega, by omega, by omega, Nat.le_refl _, by omega, (by show ¬ (_ ∈ _); simp), HWS.out, E2⟩
                    case measure => simp [intOf]; omega
                · have HSK : Hid (skipB ln = false) := skip_no HB.out (by rw [HH.out]; exact fun h => h35 (Option.some.inj h))
                  rw [show (d == 35) = false from beq_eq_false_iff_ne.2 h35] at e35
                  clear h35
                  cases hst : stepN ln with
                  | none =>
                    have HST := Lib.hid hst
                    have HF : Hid (parseS s = .inr (no + 1, 2)) := by show _ = _; rw [← hP.out]; exact parseF_bad HCU.out HSK.out hst
                    clear hst hO
                    go_wp2_with fail
                    refine (rstep_any ln _ (by omega)).mono ?_
                    rw [HST.out]
                    rintro e w1 ⟨rfl, b1⟩
                    obtain ⟨V, hV⟩ : ∃ V, V = w1.alloc (.cells #[.int .i64 0, .slice none 0 0, .int .i64 0, .int .i64 0] 30) := ⟨_, rfl⟩
                    have EV : Ext w1 V := by rw [hV]; exact (Ext.refl _).alloc _
                    have E1 := (hE.trans b1).trans EV
                    have HV := Lib.hid hV
                    clear hV
                    go_wp2_with fail
                    rw [← HV.out]
                    refine (blank_any ln _ (by omega)).mono ?_
                    rw [HB.out]
                    rintro e w2 ⟨rfl, b2⟩
                    have E2 := E1.trans b2
                    go_wp2_with fail
                    refine (pparseS_any s _ (hM.ext E2) (by omega)).mono ?_
                    rw [HF.out]
                    rintro e w5 ⟨rfl, b5⟩
                    have E5 := E2.trans b5
                    go_wp2_with fail
                    refine (awake48 _ (hM.ext E5)).mono ?_
                    rintro e wz ⟨rfl, bz⟩
                    go_wp2_with fail
                    go_ret
                    exact Ret.mk rfl (E5.trans bz)
                  | some x =>
                    have HST := Lib.hid hst
                    have HN : Hid (parseF f' (out ++ [x]) (no + 1) (s.drop (i + 1)) = parseS s) := by show _ = _; rw [← hP.out, parseF_step HCU.out HSK.out hst (by omega)]
                    have hxw := step_ws hst (by omega)
                    have HW2 : Hid (∀ y ∈ out ++ [x], y.ws.length ≤ 1000000) := fun y hy => by
                      rcases List.mem_append.1 hy with h | h
                      · exact HWS.out y h
                      · rw [List.mem_singleton.1 h]; exact hxw
                    clear hst
                    go_wp2_with fail
                    refine (rstep_any ln _ (by omega)).mono ?_
                    rw [HST.out]
                    rintro e w1 ⟨B, c1, rfl, pt, pn, pc, b1⟩
                    obtain ⟨V, hV⟩ : ∃ V, V = w1.alloc (.cells #[.int .i64 x.k, .slice B x.ws.length c1, .int .i64 x.n, .int .i64 x.y] 30) := ⟨_, rfl⟩
                    have EV : Ext w1 V := by rw [hV]; exact (Ext.refl _).alloc _
                    have E1 := (hE.trans b1).trans EV
                    have hC : Has V w1.heap.size (.cells #[.int .i64 x.k, .slice B x.ws.length c1, .int .i64 x.n, .int .i64 x.y] 30) := by rw [hV]; exact Has.new _ _
                    have HV := Lib.hid hV
                    clear hV
                    have HPT := Lib.hid pt
                    have HPN := Lib.hid pn
                    have HCC := Lib.hid hC
                    clear pt pn hC
                    go_wp2_with (rw [← HV.out])
                    refine (blank_any ln _ (by omega)).mono ?_
                    rw [HB.out]
                    rintro e w2 ⟨rfl, b2⟩
                    have E2 := E1.trans b2
                    have hC2 := HCC.out.ext b2
                    have c0 : w2.cell? ⟨w1.heap.size, 0, none⟩ = some (.int .i64 x.k) := hC2.cell 0
                    have c1' : w2.cell? ⟨w1.heap.size, 1, none⟩ = some (.slice B x.ws.length c1) := hC2.cell 1
                    have c2 : w2.cell? ⟨w1.heap.size, 2, none⟩ = some (.int .i64 x.n) := hC2.cell 2
                    have c3 : w2.cell? ⟨w1.heap.size, 3, none⟩ = some (.int .i64 x.y) := hC2.cell 3
                    have cl := Has.lt hC2
                    have hOV : OwnS w2 w.heap.size want out := OwnS.ext hO ((b1.trans EV).trans b2)
                    obtain ⟨v9, w9, hr9, hO9, hg9⟩ := app_step x B c1 w2 hOV (HPT.out.ext (EV.trans b2)) HPN.out pc E2.size (by omega)
                    have HR := Lib.hid hr9
                    have E9 : Ext w w9 := (E2.alloc _).grown hg9 (fun g hv => by
                      obtain ⟨_, _, ho, _⟩ := hOV
                      exact (World.ownsRow.lt ho g hv).1)
                    clear hr9 hg9 hOV hO hC2 pc
                    go_wp2_with (at_builtin; refine Lib.wpList_append_run _ rfl _ _ 22 22 rfl _ _ rfl rfl _ _ HR.out ?_)
                    go_roundw
                    case rel => exact ⟨i + 1, i + 1, no + 1, f', out ++ [x], by go_num, by go_num, by first | rfl | (congr 1), hO9, HN.out, by rw [List.length_drop]; omega, by simp; omega, by omega, Nat.le_refl _, by omega, (by show ¬ (_ ∈ _); simp), HW2.out, E9⟩
                    case measure => simp [intOf]; omega
            · rw [show (c != 10) = true from bne_iff_ne.2 h10] at e10
              have hn2 : Hid (10 ∉ (s.drop a).take (i + 1 - a)) := drop_take_nl hai hlt hnl.out (fun h => h10 (HC.out.trans h))
              clear h10
              go_wp2_with fail
              go_roundw
              case rel => exact ⟨i + 1, a, no, f, out, by go_num, rfl, rfl, hO, hP.out, hf, hon, hna, by omega, by omega, hn2.out, HWS.out, hE⟩
              case measure => simp [intOf]; omega
          · obtain rfl : i = s.length := by omega
            have hlti : ¬ (s.length : Int) < (s.length : Int) := by omega
            have hee : ((s.length : Int) == (s.length : Int)) = true := by simp
            obtain ⟨ln, hlnd⟩ : ∃ ln, ln = s.drop a := ⟨_, rfl⟩
            have HLN : Hid (ln = s.drop a) := hlnd
            have hll : ln.length ≤ 600 := by rw [hlnd, List.length_drop]; omega
            have hsl := slice_str (P := Tryd.prog) Tryd.underlying9 (bs s) (a : Int) (s.length : Int) a s.length rfl rfl hai (by omega) (bs ln) (by rw [bs_extract, hlnd, List.take_of_length_le (by rw [List.length_drop]; omega)])
            have zl : (bs ln).size = ln.length := bs_size ln
            obtain ⟨x1, x2⟩ := str_empty ln
            obtain ⟨f', rfl⟩ : ∃ f', f = f' + 1 := ⟨f - 1, by omega⟩
            rw [List.length_drop] at hf
            have hw1 : IntKind.i64.wrap ((no : Int) + 1) = ((no + 1 : Nat) : Int) := by rw [wrap_i64_in (by omega) (by omega)]; omega
            by_cases hln : s.drop a = []
            · rw [show (ln == []) = true from by rw [hlnd]; exact beq_iff_eq.2 hln] at x2
              clear hlnd
              have HF : Hid (parseS s = .inl out) := by show _ = _; rw [← hP.out, hln]; exact parseF_nil _ _ _
              rw [show (ln == []) = true from by rw [HLN.out]; exact beq_iff_eq.2 hln] at x1
              clear hln
              obtain ⟨Ao, co, rfl, _, _, hat9, _⟩ := hO.at_
              have HAT9 := Lib.hid hat9
              clear hO hat9
              go_wp2_with fail
              refine (pparseS_any s _ (hM.ext hE) (by omega)).mono ?_
              rw [HF.out]
              rintro e w5 ⟨v5, rfl, hO5, b5⟩
              obtain ⟨A5, c5, rfl, _, _, hat5, _⟩ := hO5.at_
              have E5 := hE.trans b5
              have HAT5 := Lib.hid hat5
              clear hO5 hat5
              go_wp2_with fail
              refine (same48_any A5 Ao c5 co out w5 HAT5.out (HAT9.out.ext b5) (by omega) HWS.out).mono ?_
              rintro e w6 ⟨rfl, b6⟩
              have E6 := E5.trans b6
              go_wp2_with fail
              refine (awake48 _ (hM.ext E6)).mono ?_
              rintro e wz ⟨rfl, bz⟩
              go_wp2_with fail
              go_ret
              exact Ret.mk rfl (E6.trans bz)
            · have HF : Hid (parseS s = .inr (no + 1, 2)) := by show _ = _; rw [← hP.out]; exact parseF_none hln (cut_end hnl.out)
              rw [show (ln == []) = false from beq_eq_false_iff_ne.2 (fun h => hln (hlnd.symm.trans h))] at x1 x2
              clear hln hlnd hnl
              cases hst : stepN ln with
              | none =>
                have HST := Lib.hid hst
                clear hst hO
                go_wp2_with fail
                refine (rstep_any ln _ (by omega)).mono ?_
                rw [HST.out]
                rintro e w1 ⟨rfl, b1⟩
                obtain ⟨V, hV⟩ : ∃ V, V = w1.alloc (.cells #[.int .i64 0, .slice none 0 0, .int .i64 0, .int .i64 0] 30) := ⟨_, rfl⟩
                have EV : Ext w1 V := by rw [hV]; exact (Ext.refl _).alloc _
                have E1 := (hE.trans b1).trans EV
                have HV := Lib.hid hV
                clear hV
                go_wp2_with fail
                rw [← HV.out]
                refine (pparseS_any s _ (hM.ext E1) (by omega)).mono ?_
                rw [HF.out]
                rintro e w5 ⟨rfl, b5⟩
                have E5 := E1.trans b5
                go_wp2_with fail
                refine (awake48 _ (hM.ext E5)).mono ?_
                rintro e wz ⟨rfl, bz⟩
                go_wp2_with fail
                go_ret
                exact Ret.mk rfl (E5.trans bz)
              | some x =>
                have HST := Lib.hid hst
                clear hst hO
                go_wp2_with fail
                refine (rstep_any ln _ (by omega)).mono ?_
                rw [HST.out]
                rintro e w1 ⟨B, c1, rfl, pt, pn, pc, b1⟩
                obtain ⟨V, hV⟩ : ∃ V, V = w1.alloc (.cells #[.int .i64 x.k, .slice B x.ws.length c1, .int .i64 x.n, .int .i64 x.y] 30) := ⟨_, rfl⟩
                have EV : Ext w1 V := by rw [hV]; exact (Ext.refl _).alloc _
                have E1 := (hE.trans b1).trans EV
                have hC : Has V w1.heap.size (.cells #[.int .i64 x.k, .slice B x.ws.length c1, .int .i64 x.n, .int .i64 x.y] 30) := by rw [hV]; exact Has.new _ _
                have HV := Lib.hid hV
                clear hV
                clear hC pt pn pc
                go_wp2_with (rw [← HV.out])
                refine (pparseS_any s _ (hM.ext E1) (by omega)).mono ?_
                rw [HF.out]
                rintro e w5 ⟨rfl, b5⟩
                have E5 := E1.trans b5
                go_wp2_with fail
                refine (awake48 _ (hM.ext E5)).mono ?_
                rintro e wz ⟨rfl, bz⟩
                go_wp2_with fail
                go_ret
                exact Ret.mk rfl (E5.trans bz)
    · have h3i : (600 : Int) < (s.length : Int) := by omega
      clear h3 hfew
      go_enter Tryd.func4, Tryd.ntmps4
      go_wp2_with fail
      refine (HFE.out).mono ?_
      clear HFE
      rintro e w0 ⟨rfl, b0⟩
      go_wp2_with fail
      refine (awake48 _ (hM.ext b0)).mono ?_
      rintro e w3 ⟨rfl, b3⟩
      go_wp2_with fail
      go_ret
      exact Ret.mk rfl (b0.trans b3)
set_option maxRecDepth 100000 in
theorem scriptBack_walk {H : Type} {enc : TypeId × Value → H} (W : World) (base : Nat) (v0 v1 : Value) (d0 d1 : DataW H) (p0 p1 : List MemPlace)
    (hs : W.ShapedOpen Tryd.prog) (hl : laidMetH Tryd.prog Rows.scriptBackRow.laid W)
    (k0 : Value.okWide Tryd.prog W .any base 22 v0) (h0 : DataW.Trod enc Tryd.prog W 0 (fun _ => true) true 22 v0 d0 p0)
    (k1 : Value.okWide Tryd.prog W .any base 9 v1) (h1 : DataW.Trod enc Tryd.prog W 0 (fun _ => true) true 9 v1 d1 p1)
    : Calls Tryd.prog 4 #[v0, v1] W (Ret W (.bool true)) := by
  obtain ⟨a1, rfl, rfl, rfl, w1⟩ := Go.ChangeMaps.open_string Tryd.underlying9 k1 h1
  obtain ⟨A, l, cap, rfl, hat, _, hlc, hcm, hI⟩ := open_steps k0 h0
  rw [← bs_self a1]
  unfold maxLen at hcm
  exact scriptBack_any A cap l _ W hat (by omega) hI (HasMax.of hs)
end Go.Proofs.YtanaifobmkjpaaaDoor
