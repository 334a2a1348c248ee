/- Layer 11 (ents): EntsPlays, the walk. -/
import Derived.Test.YtneideokodhciaaEntX
namespace Go.Proofs.Ytneideokodhciaa
open Go.ChangeShapes Go.WideShapes Go.ChangeAt Go.RowKit

/-- One step of the law's play. -/
def stepF (a : List EntD) (x : EntD) : List EntD := if x.2 < 1 then dropF a x.1 else putF a x
def playF (l : List EntD) : List EntD → List EntD := l.foldl stepF
theorem playF_snoc {l : List EntD} {k : Nat} (hk : k < l.length) : playF (l.take (k + 1)) [] = stepF (playF (l.take k) []) l[k] := by
  unfold playF
  rw [List.take_succ_eq_append_getElem hk, List.foldl_append]
  rfl
theorem stepF_rise {a : List EntD} (x : EntD) (h : Rise a) : Rise (stepF a x) := by
  unfold stepF
  split
  · exact rise_dropF _ h
  · exact rise_putF x h
theorem stepF_len (a : List EntD) (x : EntD) : (stepF a x).length ≤ a.length + 1 := by
  unfold stepF
  split
  · have := dropF_len a x.1; omega
  · exact putF_len a x
theorem playF_rise (l : List EntD) : ∀ a, Rise a → Rise (playF l a) := by
  unfold playF
  induction l with
  | nil => exact fun a h => h
  | cons x l ih => intro a h; rw [List.foldl_cons]; exact ih _ (stepF_rise x h)
theorem playF_len (l : List EntD) : ∀ a, (playF l a).length ≤ a.length + l.length := by
  unfold playF
  induction l with
  | nil => intro a; simp
  | cons x l ih =>
    intro a
    rw [List.foldl_cons]
    have h1 := ih (stepF a x)
    have h2 := stepF_len a x
    simp only [List.length_cons]
    omega
theorem rise_riseB {l : List EntD} (h : Rise l) : riseB l = true := by
  induction l with
  | nil => rfl
  | cons x l ih =>
    cases l with
    | nil => rfl
    | cons y l => rw [riseB, Bool.and_eq_true]; exact ⟨(rise_cons.1 h).1 y (List.mem_cons_self ..), ih (rise_cons.1 h).2⟩
/-- What is found from the back on, in a list. -/
def wantF (l : List EntD) (nm : List UInt8) : Int := match l.find? (·.1 == nm) with | some x => x.2 | none => 0
def nmF (l : List EntD) (no : Int) : List UInt8 × Bool := match nameOf l no with | some x => (x.1, true) | none => ([], false)
theorem wantF_cons (x : EntD) (l : List EntD) (nm : List UInt8) : wantF (x :: l) nm = if (x.1 == nm) = true then x.2 else wantF l nm := by
  unfold wantF
  rw [List.find?_cons]
  cases h : x.1 == nm <;> simp
theorem nmF_cons (x : EntD) (l : List EntD) (no : Int) : nmF (x :: l) no = if (x.2 == no) = true then (x.1, true) else nmF l no := by
  unfold nmF nameOf
  rw [List.find?_cons]
  cases h : x.2 == no <;> simp
theorem wantF_num {l : List EntD} {nm : List UInt8} (hr : Rise l) : wantF l nm = numOf l nm := by
  unfold wantF numOf
  cases hh : has l nm
  · have : l.find? (·.1 == nm) = none := by
      rw [List.find?_eq_none]
      intro x hx
      unfold has at hh
      rw [List.any_eq_false] at hh
      exact hh x hx
    rw [this]; rfl
  · obtain ⟨hp, he⟩ := has_lt hr hh
    have : l.find? (·.1 == nm) = some l[pos l nm] := by
      rw [List.find?_eq_some_iff_getElem]
      refine ⟨by simp [he], pos l nm, hp, rfl, fun j hj => ?_⟩
      have h1 := pos_less l nm j hj (by omega)
      unfold lt at h1
      have := bl_ne h1
      simp [this]
    rw [this]
    simp [List.getD_eq_getElem?_getD, List.getElem?_eq_getElem hp]
theorem name_nm (A : Option Addr) (l : List EntD) (cap : Nat) (no : Int) (w : World) (h : EntsAt w A l) (hlen : l.length ≤ 1000000) : Calls Try.prog 16 #[.slice A l.length cap, .int .i64 no] w (Ret w (.tuple #[.string (bs (nmF l no).1), .bool (nmF l no).2])) := by
  refine (name_any A l cap no w h hlen).mono fun e w' ⟨he, hE⟩ => ⟨he.trans ?_, hE⟩
  unfold nmF
  cases nameOf l no <;> rfl
set_option maxRecDepth 100000 in
set_option maxHeartbeats 1000000 in
theorem entsPlays_core (A : Option Addr) (l : List EntD) (cap : Nat) (nm : List UInt8) (no : Int) (w : World) (h : EntsAt w A l) (hlen : l.length ≤ 9223372036854775807) : Calls Try.prog 5 #[.slice A l.length cap, .string (bs nm), .int .i64 no] w (Ret w (.bool true)) := by
  obtain ⟨n, hn⟩ : ∃ n, n = l.length := ⟨_, rfl⟩
  rw [← hn] at hlen ⊢
  have HN := Lib.hid hn
  clear hn
  by_cases hbig : 40 < (n : Int)
  · go_enter Try.func5, Try.ntmps5
    go_wp2_with fail
    refine (awake11 _).mono ?_
    rintro e w1 ⟨rfl, b1⟩
    go_wp2_with fail
    go_ret
    exact Ret.mk rfl b1
  by_cases hbig2 : 300 < (nm.length : Int)
  · have hsz : ((bs nm).size : Int) = nm.length := by rw [bs_size]
    go_enter Try.func5, Try.ntmps5
    go_wp2_with fail
    refine (awake11 _).mono ?_
    rintro e w1 ⟨rfl, b1⟩
    go_wp2_with fail
    go_ret
    exact Ret.mk rfl b1
  · have hsz : ((bs nm).size : Int) = nm.length := by rw [bs_size]
    go_enter Try.func5, Try.ntmps5
    go_wp2_with fail
    go_loopw [7, 8, 9] (fun u v i wr => ∃ k : Nat, k ≤ n ∧ i = .int .i64 k ∧ (∃ Aa ca, u = .slice Aa (playF (l.take k) []).length ca ∧ (playF (l.take k) []).length ≤ ca ∧ ca ≤ maxLen ∧ EntsAt wr Aa (playF (l.take k) []) ∧ (Aa = none → ca = 0)) ∧ (∃ Ab cb, v = .slice Ab (playF (l.take k) []).length cb ∧ EntsAt wr Ab (playF (l.take k) [])) ∧ Ext w wr) (fun _ _ i _ => n - (intOf i).toNat)
    case atStart => exact ⟨0, Nat.zero_le _, rfl, ⟨none, 0, rfl, Nat.le_refl _, by decide, .inl rfl, fun _ => rfl⟩, ⟨none, 0, rfl, .inl rfl⟩, Ext.refl _⟩
    case round =>
      obtain ⟨k, hk, rfl, ⟨Aa, ca, rfl, q1, q2, q3, q4⟩, ⟨Ab, cb, rfl, q5⟩, hE⟩ := hrel
      have hkeep := playF_len (l.take k) []
      have hkl2 : (l.take k).length ≤ k := List.length_take_le _ _
      have hrise : Rise (playF (l.take k) []) := playF_rise _ _ List.Pairwise.nil
      by_cases hlt : (k : Int) < n
      · have hkl : k < l.length := by have := HN.out; omega
        have hs := playF_snoc hkl
        obtain ⟨b, o, rfl, hbw, c1, c2⟩ := h.at_ hE k hkl
        generalize l[k] = z at c1 c2 hs
        generalize playF (l.take k) [] = P at q1 q3 q5 hs hkeep hrise ⊢
        have hPl : P.length ≤ 1000 := by simp at hkeep; omega
        have g2 : (0 : Int) ≤ (k : Int) := by omega
        have HS := Lib.hid hs
        have hzs : ((bs z.1).size : Int) = z.1.length := by rw [bs_size]
        clear hkeep hkl2 hs
        by_cases hz3 : 300 < (z.1.length : Int)
        · go_wp2_with fail
          refine (awake11 _).mono ?_
          rintro e w1 ⟨rfl, b1⟩
          go_wp2_with fail
          go_ret
          exact Ret.mk rfl ((hE.alloc _).trans b1)
        · obtain ⟨W1, hW1⟩ : ∃ W1, W1 = wr.alloc (.cells #[.string (bs z.1), .int .i64 z.2] 25) := ⟨_, rfl⟩
          have hb1 : Has W1 wr.heap.size (.cells #[.string (bs z.1), .int .i64 z.2] 25) := by rw [hW1]; exact Has.new _ _
          have E1 : Ext wr W1 := by rw [hW1]; exact (Ext.refl _).alloc _
          have p3 := q3.ext E1
          have p5 := q5.ext E1
          by_cases hz : z.2 < 1
          · cases hh : has P z.1
            · have e0 : dropF P z.1 = P := dropF_not hh
              have hq : Hid (playF (l.take (k + 1)) [] = P) := by show _ = _; rw [HS.out]; unfold stepF; rw [if_pos hz, e0]
              have HH := Lib.hid hh
              clear hh
              go_wp2_with fail
              rw [← hW1]
              have d1 : W1.cell? ⟨wr.heap.size, 0, none⟩ = some (.string (bs z.1)) := hb1.cell 0
              have d2 : W1.cell? ⟨wr.heap.size, 1, none⟩ = some (.int .i64 z.2) := hb1.cell 1
              have hr7 := rise_riseB hrise
              clear hW1 HS
              refine (drop_no Aa P ca z.1 _ p3 hrise (by omega) HH.out).mono ?_
              rintro e w2 ⟨rfl, hE2⟩
              have d3 : w2.cell? ⟨wr.heap.size, 0, none⟩ = some (.string (bs z.1)) := (hb1.ext hE2).cell 0
              go_wp2_with fail
              refine (ldrop_any Ab P cb z.1 _ (p5.ext hE2) (by omega)).mono ?_
              rintro e w3 ⟨v3, rfl, ho3, hE3⟩
              rw [e0] at ho3
              obtain ⟨A3, k3, rfl, _, _, r3, _⟩ := ho3.at2
              clear ho3 e0
              go_wp2_with fail
              refine (same_any Aa A3 ca k3 P w3 ((p3.ext hE2).ext hE3) r3 (by omega)).mono ?_
              rintro e w4 ⟨rfl, hE4⟩
              go_wp2_with fail
              refine (check_any Aa P ca w4 (((p3.ext hE2).ext hE3).ext hE4) (by omega)).mono ?_
              rw [hr7]
              rintro e w5 ⟨rfl, hE5⟩
              go_wp2_with fail
              go_roundw
              case rel => exact ⟨k + 1, by omega, by go_num, by rw [hq.out]; exact ⟨Aa, ca, rfl, q1, q2, ((((p3.ext hE2).ext hE3).ext hE4).ext hE5), q4⟩, by rw [hq.out]; exact ⟨A3, k3, rfl, (r3.ext hE4).ext hE5⟩, ((((hE.trans E1).trans hE2).trans hE3).trans hE4).trans hE5⟩
              case measure => simp [intOf]; omega
            · have e0 : cutP P z.1 = dropF P z.1 := cutP_dropF P z.1 hrise hh
              have hq : Hid (playF (l.take (k + 1)) [] = dropF P z.1) := by show _ = _; rw [HS.out]; unfold stepF; rw [if_pos hz]
              have HH := Lib.hid hh
              have hl7 := dropF_len_lt hh
              have hl8 : decide ((dropF P z.1).length < P.length) = true := decide_eq_true hl7
              have hr7 := rise_riseB (rise_dropF z.1 hrise)
              clear hh
              go_wp2_with fail
              rw [← hW1]
              have d1 : W1.cell? ⟨wr.heap.size, 0, none⟩ = some (.string (bs z.1)) := hb1.cell 0
              have d2 : W1.cell? ⟨wr.heap.size, 1, none⟩ = some (.int .i64 z.2) := hb1.cell 1
              clear hW1 HS
              refine (drop_yes Aa P ca z.1 _ p3 hrise q1 q2 (by omega) HH.out).mono ?_
              rintro e w2 ⟨v2, rfl, ho2, hE2⟩
              rw [e0] at ho2
              obtain ⟨A2, k2, rfl, s1, s2, s3, s4⟩ := ho2.at2
              have d3 : w2.cell? ⟨wr.heap.size, 0, none⟩ = some (.string (bs z.1)) := (hb1.ext hE2).cell 0
              clear ho2 e0
              go_wp2_with fail
              refine (ldrop_any Ab P cb z.1 _ (p5.ext hE2) (by omega)).mono ?_
              rintro e w3 ⟨v3, rfl, ho3, hE3⟩
              obtain ⟨A3, k3, rfl, _, _, r3, _⟩ := ho3.at2
              clear ho3
              generalize dropF P z.1 = Q at hq hl7 hl8 hr7 s1 s3 r3 ⊢
              go_wp2_with fail
              refine (same_any A2 A3 k2 k3 Q w3 (s3.ext hE3) r3 (by omega)).mono ?_
              rintro e w4 ⟨rfl, hE4⟩
              go_wp2_with fail
              refine (check_any A2 Q k2 w4 ((s3.ext hE3).ext hE4) (by omega)).mono ?_
              rw [hr7]
              rintro e w5 ⟨rfl, hE5⟩
              go_wp2_with fail
              go_roundw
              case rel => exact ⟨k + 1, by omega, by go_num, by rw [hq.out]; exact ⟨A2, k2, rfl, s1, s2, (((s3.ext hE3).ext hE4).ext hE5), s4⟩, by rw [hq.out]; exact ⟨A3, k3, rfl, (r3.ext hE4).ext hE5⟩, ((((hE.trans E1).trans hE2).trans hE3).trans hE4).trans hE5⟩
              case measure => simp [intOf]; omega
          · have hq : Hid (playF (l.take (k + 1)) [] = putF P z) := by show _ = _; rw [HS.out]; unfold stepF; rw [if_neg hz]
            go_wp2_with fail
            rw [← hW1]
            have d1 : W1.cell? ⟨wr.heap.size, 0, none⟩ = some (.string (bs z.1)) := hb1.cell 0
            have d2 : W1.cell? ⟨wr.heap.size, 1, none⟩ = some (.int .i64 z.2) := hb1.cell 1
            have e0 : putP P z.1 z.2 = putF P z := putP_putF P z.1 z.2 hrise
            have hl7 := putF_len P z
            have hr7 := rise_riseB (rise_putF z hrise)
            clear hW1 HS
            have X1 : Ext W1 W1.drew := (Ext.refl _).drew
            have p6 := p3.ext X1
            have p7 := p5.ext X1
            have hb2 := hb1.ext X1
            go_region_with (first
              | (refine (put_any Aa P ca z.1 z.2 _ p6 q4 hrise q1 q2 (by omega)).mono ?_
                 rintro e w2 ⟨v2, rfl, ho2, hE2⟩
                 rw [e0] at ho2
                 obtain ⟨A2, k2, rfl, s1, s2, s3, s4⟩ := ho2.at2
                 have d3 : w2.cell? ⟨wr.heap.size, 0, none⟩ = some (.string (bs z.1)) := (hb2.ext hE2).cell 0
                 have d4 : w2.cell? ⟨wr.heap.size, 1, none⟩ = some (.int .i64 z.2) := (hb2.ext hE2).cell 1
                 clear ho2)
              | (refine (lput_any Ab P cb z _ (p7.ext hE2) (by omega)).mono ?_
                 rintro e w3 ⟨v3, rfl, ho3, hE3⟩
                 obtain ⟨A3, k3, rfl, _, _, r3, _⟩ := ho3.at2
                 clear ho3))
            all_goals
              go_wp2_with fail
              refine (same_any A2 A3 k2 k3 (putF P z) w3 (s3.ext hE3) r3 (by omega)).mono ?_
              rintro e w4 ⟨rfl, hE4⟩
              go_wp2_with fail
              refine (check_any A2 (putF P z) k2 w4 ((s3.ext hE3).ext hE4) (by omega)).mono ?_
              rw [hr7]
              rintro e w5 ⟨rfl, hE5⟩
              go_wp2_with fail
              go_roundw
              case rel => exact ⟨k + 1, by omega, by go_num, by rw [hq.out]; exact ⟨A2, k2, rfl, s1, s2, (((s3.ext hE3).ext hE4).ext hE5), s4⟩, by rw [hq.out]; exact ⟨A3, k3, rfl, (r3.ext hE4).ext hE5⟩, (((((hE.trans E1).trans X1).trans hE2).trans hE3).trans hE4).trans hE5⟩
              case measure => simp [intOf]; omega
      · have hlen2 : (l.take k).length = k := by rw [List.length_take]; have := HN.out; omega
        obtain ⟨P, hP⟩ : ∃ P, P = playF (l.take k) [] := ⟨_, rfl⟩
        rw [← hP] at q1 q3 q5 hkeep hrise ⊢
        have hPl : P.length ≤ 1000 := by simp at hkeep; omega
        clear hP hkeep hlen2 hkl2
        go_wp2_with fail
        go_loopw [14, 15, 16, 17] (fun u v x i wr' => ∃ j : Nat, j ≤ P.length ∧ i = .int .i64 ((j : Int) - 1) ∧ u = .int .i64 (wantF (P.drop j) nm) ∧ v = .string (bs (nmF (P.drop j) no).1) ∧ x = .bool (nmF (P.drop j) no).2 ∧ Ext wr wr') (fun _ _ _ i _ => (intOf i + 1).toNat)
        case atStart => exact ⟨P.length, Nat.le_refl _, rfl, by rw [List.drop_length]; rfl, by rw [List.drop_length]; rfl, by rw [List.drop_length]; rfl, Ext.refl _⟩
        case round =>
          obtain ⟨j, hj, hi, hu, hv, hx, hE'⟩ := hrel
          by_cases hj0 : (j : Int) ≤ 0
          · have hj1 : j = 0 := by omega
            subst hj1
            rw [List.drop_zero] at hu hv hx
            rw [wantF_num hrise] at hu
            have hi2 := hi.trans (show Value.int .i64 (((0 : Nat) : Int) - 1) = .int .i64 (-1) from rfl)
            clear hi
            subst hi2 hu hv hx
            go_wp2_with fail
            refine (name_nm Aa P ca no _ (q3.ext hE') (by omega)).mono ?_
            rintro e w2 ⟨rfl, hE2⟩
            go_wp2_with fail
            refine (find_any Aa P ca nm _ ((q3.ext hE').ext hE2) hrise (by omega)).mono ?_
            rintro e w3 ⟨rfl, hE3⟩
            go_wp2_with fail
            refine (awake11 _).mono ?_
            rintro e w4 ⟨rfl, hE4⟩
            go_wp2_with fail
            go_ret
            exact Ret.mk rfl ((((hE.trans hE').trans hE2).trans hE3).trans hE4)
          · obtain ⟨i, rfl⟩ : ∃ i, j = i + 1 := ⟨j - 1, by omega⟩
            have hil : i < P.length := by omega
            have hi2 := hi.trans (show Value.int .i64 (((i + 1 : Nat) : Int) - 1) = .int .i64 (i : Int) by go_num)
            clear hi
            subst hi2 hu hv hx
            obtain ⟨b, o, rfl, hbw, c1, c2⟩ := q5.at_ hE' i hil
            have hd : P.drop i = P[i] :: P.drop (i + 1) := List.drop_eq_getElem_cons hil
            have hw1 : Hid (wantF (P.drop i) nm = if (P[i].1 == nm) = true then P[i].2 else wantF (P.drop (i + 1)) nm) := by show _ = _; rw [hd, wantF_cons]
            have hw2 : Hid (nmF (P.drop i) no = if (P[i].2 == no) = true then (P[i].1, true) else nmF (P.drop (i + 1)) no) := by show _ = _; rw [hd, nmF_cons]
            clear hd
            generalize P[i] = x at c1 c2 hw1 hw2
            have e1 : ((bs x.1).toList == (bs nm).toList) = (x.1 == nm) := by rw [bs_toList, bs_toList]
            cases hf1 : (x.1 == nm)
            all_goals
              rw [hf1] at e1
              cases hf2 : (x.2 == no)
              all_goals
                have e2 : Hid (wantF (P.drop i) nm = if (x.1 == nm) = true then x.2 else wantF (P.drop (i + 1)) nm) := hw1
                have e3 : Hid (nmF (P.drop i) no = if (x.2 == no) = true then (x.1, true) else nmF (P.drop (i + 1)) no) := hw2
                rw [hf1] at e2
                rw [hf2] at e3
                clear hw1 hw2 hf1
                go_wp2_with fail
                go_roundw
                case rel => exact ⟨i, by omega, by go_num, by rw [e2.out]; rfl, by rw [e3.out]; rfl, by rw [e3.out]; rfl, hE'⟩
                case measure => simp [intOf]
end Go.Proofs.Ytneideokodhciaa
