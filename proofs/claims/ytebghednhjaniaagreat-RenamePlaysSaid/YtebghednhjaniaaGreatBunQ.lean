/- Plain: a tree stays true through a move. | Plain, for RenameOne: a grown tree has every number; what a move leaves. -/
import Derived.Test.YtebghednhjaniaaGreatBunP
import Derived.Test.YtebghednhjaniaaGreatBunL
namespace Go.Proofs.YtebghednhjaniaaGreat

/-- What goes changes no other node. -/
theorem over_get {c : Nat} {S : TreeD} (_h : Tre c S) (now : Int) {no q : Int} (hq : q ≠ no) : getN (overT S now no).nodes q = getN S.nodes q ∧ isN (overT S now no).nodes q = isN S.nodes q := by
  unfold overT
  split
  · rename_i hi
    have hno := (isN_true hi).2.1
    have hs := setN_get (S := S) (n := lessN now (getN S.nodes no)) (no := q) (by show q ≠ (getN S.nodes no).no; rw [hno]; exact hq)
    unfold lessT
    split
    · unfold killT
      split
      · have hd : ∀ ns : List NodeD, getO (dropN ns no) q = getO ns q := by
          intro ns
          unfold getO dropN
          induction ns with
          | nil => rfl
          | cons m ms ih =>
            rw [List.find?_cons]
            by_cases e : m.no = no
            · rw [List.filter_cons_of_neg (by simpa using e), ih]
              have : (m.no == q) = false := by rw [e]; simpa using Ne.symm hq
              rw [this]
            · rw [List.filter_cons_of_pos (by simpa using e), List.find?_cons, ih]
        rw [hno]
        refine ⟨?_, ?_⟩
        · show (getO (dropN (setT S _).nodes no) q).getD nodeZ = _
          rw [hd]; exact hs.1
        · show (getO (dropN (setT S _).nodes no) q).isSome = _
          rw [hd]; exact hs.2
      · exact hs
    · exact hs
  · exact ⟨rfl, rfl⟩
theorem over_devs (S : TreeD) (now no : Int) : (overT S now no).last = S.last ∧ ∀ i, rootF (overT S now no).devs i = rootF S.devs i := by
  unfold overT
  split
  · unfold lessT
    split
    · unfold killT
      split
      · exact ⟨rfl, fun i => by show rootF (setQ _ _ _) i = _; rw [rootQ]; rfl⟩
      · exact ⟨rfl, fun _ => rfl⟩
    · exact ⟨rfl, fun _ => rfl⟩
  · exact ⟨rfl, fun _ => rfl⟩
/-- What is left of the nodes: each was there, of the same kind, at the same place. -/
theorem over_mem {S : TreeD} {now no : Int} {m : NodeD} (hm : m ∈ (overT S now no).nodes) : ∃ m' ∈ S.nodes, m'.no = m.no ∧ m'.kind = m.kind ∧ m'.up = m.up ∧ m'.dev = m.dev := by
  refine all_over (S := S) (P := fun m => ∃ m' ∈ S.nodes, m'.no = m.no ∧ m'.kind = m.kind ∧ m'.up = m.up ∧ m'.dev = m.dev) (fun m hm => ⟨m, hm, rfl, rfl, rfl, rfl⟩) now no ?_ m hm
  rintro m ⟨m', h1, h2, h3, h4, h5⟩
  exact ⟨m', h1, h2, h3, h4, h5⟩
/-- A directory that is replaced goes. -/
theorem over_gone {c : Nat} {S : TreeD} (h : Tre c S) {now no : Int} (hk : (getN S.nodes no).kind = 1) (hr : rootF S.devs (getN S.nodes no).dev ≠ no) : ∀ m ∈ (overT S now no).nodes, m.no ≠ no := by
  obtain ⟨hi, hno, hmem⟩ := getN_node hk
  have hl := h.dlinks _ hmem hk
  have hkb : killB S no = true := by unfold killB; rw [hi]; simpa using hr
  have hi2 : isN (setT S (lessN now (getN S.nodes no))).nodes no = true := by show isN (setN S.nodes _) no = true; rw [isN_set]; exact hi
  have hg : getN (setT S (lessN now (getN S.nodes no))).nodes no = lessN now (getN S.nodes no) := by
    have := set_self (n := lessN now (getN S.nodes no)) h.nos (by show isN S.nodes (getN S.nodes no).no = true; rw [hno]; exact hi)
    have e : (lessN now (getN S.nodes no)).no = no := hno
    rw [e] at this; exact this
  have hkb2 : killB (setT S (lessN now (getN S.nodes no))) no = true := by
    unfold killB
    rw [hi2, hg]
    have e : rootF (setT S (lessN now (getN S.nodes no))).devs (lessN now (getN S.nodes no)).dev ≠ no := hr
    simpa using e
  unfold overT
  rw [if_pos hi]
  unfold lessT
  rw [if_pos (by omega), hno]
  unfold killT
  rw [if_pos hkb2]
  intro m hm
  exact (mem_drop hm).2
theorem putF_mem (l : List EntD) (x : EntD) : x ∈ putF l x := by
  unfold putF
  exact List.mem_append_left _ (List.mem_append_right _ (List.mem_singleton.2 rfl))
theorem putF_old {l : List EntD} {x y : EntD} (hy : y ∈ l) (hne : y.1 ≠ x.1) : y ∈ putF l x := by
  unfold putF lessF moreF
  rcases bl_tri y.1 x.1 with g | g | g
  · exact List.mem_append_left _ (List.mem_append_left _ (List.mem_filter.2 ⟨hy, g⟩))
  · exact absurd g hne
  · exact List.mem_append_right _ (List.mem_filter.2 ⟨hy, g⟩)
theorem moveE_zero {S : TreeD} {cu cg fr to_ : Int} {a b : List UInt8} (h : moveE S cu cg fr to_ a b = 0) (hs : ¬ sameB S cu cg fr to_ a b) :
    leaveE S cu cg fr a = 0 ∧ placeE S cu cg to_ b = 0 ∧ (leaveD S cu cg fr a).dev = (placeN S cu cg to_ b).dev ∧ ¬ ((leaveN S cu cg fr a).kind = 1 ∧ withinF S to_ (leaveN S cu cg fr a).no = true) ∧
    (isN S.nodes (oldNo S cu cg to_ b) = true → putE S cu (placeN S cu cg to_ b) (leaveN S cu cg fr a) (getN S.nodes (oldNo S cu cg to_ b)) = 0) := by
  unfold moveE moveX at h
  split at h
  · rename_i h1; exact absurd h h1
  · rename_i h1
    split at h
    · rename_i h2; exact absurd h h2
    · rename_i h2
      split at h
      · cases h
      · rename_i h3
        split at h
        · cases h
        · rename_i h4
          split at h
          · rename_i h5; exact absurd h5 hs
          · split at h
            · cases h
            · refine ⟨Decidable.not_not.1 h1, Decidable.not_not.1 h2, Decidable.not_not.1 h3, h4, fun hi => ?_⟩
              rw [if_pos hi] at h; exact h
theorem putE_zero {S : TreeD} {cu : Int} {d n o : NodeD} (h : putE S cu d n o = 0) : overF S.devs o.no = o.no ∧ (n.kind = 1 → o.kind = 1) ∧ (¬ n.kind = 1 → ¬ o.kind = 1) ∧ o.ents = [] := by
  unfold putE at h
  split at h
  · cases h
  · rename_i h1
    split at h
    · cases h
    · rename_i h2
      split at h
      · cases h
      · rename_i h3
        split at h
        · cases h
        · rename_i h4
          refine ⟨Decidable.not_not.1 h1, fun hk => Decidable.byContradiction fun e => h2 ⟨hk, e⟩, fun hk e => h3 ⟨hk, e⟩, ?_⟩
          cases ho : o.ents with
          | nil => rfl
          | cons x l => rw [ho] at h4; simp at h4
theorem tre_move {c : Nat} {S : TreeD} (h : Tre c S) (cu cg now fr to_ : Int) (a b : List UInt8) : Tre (c + 1) (moveT S cu cg now fr to_ a b) := by
  unfold moveT
  split
  case isFalse => exact tre_mono h (by omega)
  rename_i hc
  obtain ⟨p1, p2, p3, p4, p5⟩ := moveE_zero hc.1 hc.2
  have hns := hc.2
  obtain ⟨z1, z2, z3, z4, z5⟩ := leaveE_zero p1
  obtain ⟨if0, kf, _⟩ := placeE_zero z1
  obtain ⟨it0, kt, ckb⟩ := placeE_zero p2
  have pt := placeN_zero p2
  unfold sameB at hns
  unfold oldNo at hns p5 ⊢
  rw [z5, pt] at hns
  rw [z4, pt] at p3
  rw [z5] at p4
  rw [z5, pt] at p5
  rw [z4, z5, pt]
  clear z4 z5 pt hc p1 p2
  obtain ⟨no, hno⟩ : ∃ no, no = findF (getN S.nodes fr).ents a := ⟨_, rfl⟩
  obtain ⟨old, hold⟩ : ∃ old, old = findF (getN S.nodes to_).ents b := ⟨_, rfl⟩
  rw [← hno] at z2 z3 p4 p5 hns ⊢
  rw [← hold] at p5 hns ⊢
  have nfr := (isN_true if0).2.1
  have nto := (isN_true it0).2.1
  have mfr := (isN_true if0).2.2
  have mto := (isN_true it0).2.2
  have nno := (isN_true z2).2.1
  have mno := (isN_true z2).2.2
  have hpos := h.nos.2 _ mno
  rw [nno] at hpos
  have hpt := (h.nos.2 _ mto).1
  rw [nto] at hpt
  obtain ⟨x, hx, hx1, hx2⟩ := findF_in (l := (getN S.nodes fr).ents) (nm := a) (by rw [← hno]; omega)
  rw [← hno] at hx2
  have hK := h.kin _ mfr x hx
  rw [hx2, nfr] at hK
  have hnfr : no ≠ fr := hK.1
  have hdv : (getN S.nodes no).dev = (getN S.nodes fr).dev := hK.2.2 _ mno nno
  have hrt : rootF S.devs (getN S.nodes no).dev ≠ no := kin_root h hK _ (h.on _ mno).1
  -- what is replaced
  have hO : isN S.nodes old = true → old ≠ to_ ∧ old ≠ fr ∧ old ≠ no ∧ rootF S.devs (getN S.nodes old).dev ≠ old ∧ overF S.devs old = old ∧ ((getN S.nodes no).kind = 1 → (getN S.nodes old).kind = 1) ∧ (getN S.nodes old).ents = [] := by
    intro hi
    have mo := (isN_true hi).2.2
    have eo := (isN_true hi).2.1
    obtain ⟨u1, u2, u3, u4⟩ := putE_zero (p5 hi)
    have hpo := (h.nos.2 _ mo).1
    rw [eo] at hpo
    obtain ⟨y, hy, hy1, hy2⟩ := findF_in (l := (getN S.nodes to_).ents) (nm := b) (by rw [← hold]; omega)
    rw [← hold] at hy2
    have hKo := h.kin _ mto y hy
    rw [hy2, nto] at hKo
    refine ⟨hKo.1, fun e => ?_, fun e => hns ⟨hi, by rw [e]⟩, kin_root h hKo _ (h.on _ mo).1, by rw [eo] at u1; exact u1, u2, u4⟩
    rw [e] at u4
    rw [u4] at hx; cases hx
  obtain ⟨T, hT⟩ : ∃ T, T = overT S now old := ⟨_, rfl⟩
  have h0 : Tre c T := by
    rw [hT]
    unfold overT
    split
    · rename_i hi
      obtain ⟨_, _, _, o4, o5, _, o7⟩ := hO hi
      exact tre_less h hi o5 o4 (fun _ => o7) (.inl rfl)
    · exact h
  have hgT : ∀ q, (isN S.nodes old = true → old ≠ q) → getN T.nodes q = getN S.nodes q ∧ isN T.nodes q = isN S.nodes q := by
    intro q hq
    rw [hT]
    cases hi : isN S.nodes old
    · unfold overT; rw [if_neg (by rw [hi]; decide)]; exact ⟨rfl, rfl⟩
    · exact over_get h now (Ne.symm (hq hi))
  have gfr := hgT fr fun hi => (hO hi).2.1
  have gto := hgT to_ fun hi => (hO hi).1
  have gno := hgT no fun hi => (hO hi).2.2.1
  have hold' : ∀ q ∈ T.nodes, q.kind = 1 → q.no ≠ old := by
    intro q hq hqk e
    rw [hT] at hq
    obtain ⟨m', hm', e1, e2, _⟩ := over_mem hq
    have hi : isN S.nodes old = true := by
      have := (mem_getN h.nos hm').2
      rw [e1, e] at this; exact this
    have hmo : m' = getN S.nodes old := node_eq h.nos hm' (isN_true hi).2.2 (by rw [e1, e, (isN_true hi).2.1])
    have hok : (getN S.nodes old).kind = 1 := by rw [← hmo, e2]; exact hqk
    exact over_gone h hok (hO hi).2.2.2.1 q hq e
  obtain ⟨k', hk'⟩ : ∃ k', k' = if (getN S.nodes no).kind = 1 then no else 0 := ⟨_, rfl⟩
  have hkq : ∀ q ∈ T.nodes, q.kind = 1 → q.no ≠ k' → q.no ≠ no := by
    intro q hq hqk hqk' e
    have : q = getN T.nodes no := node_eq h0.nos hq (isN_true (gno.2.trans z2)).2.2 (by rw [e, (isN_true (gno.2.trans z2)).2.1])
    have hkn : (getN S.nodes no).kind = 1 := by rw [← gno.1, ← this]; exact hqk
    rw [if_pos hkn] at hk'
    exact hqk' (e.trans hk'.symm)
  have h1 : TreB c k' (touchT T fr now (dropF (getN S.nodes fr).ents a)) := by
    have := tre_unname h0 (dir := fr) (now := now) (nm := a) (gfr.2.trans if0) (by rw [gfr.1]; exact kf) (k' := k') (by rw [gfr.1, ← hno]; exact hkq)
    rw [gfr.1] at this; exact this
  obtain ⟨T1, hT1⟩ : ∃ T1, T1 = touchT T fr now (dropF (getN S.nodes fr).ents a) := ⟨_, rfl⟩
  rw [← hT1] at h1
  unfold laidT
  rw [← hT, ← hT1]
  have nT : (getN T.nodes fr).no = fr := by rw [gfr.1]; exact nfr
  have g1 : ∀ q, q ≠ fr → getN T1.nodes q = getN T.nodes q ∧ isN T1.nodes q = isN T.nodes q := by
    intro q hq
    rw [hT1]
    exact setN_get (n := touchN T fr now (dropF (getN S.nodes fr).ents a)) (by show q ≠ (getN T.nodes fr).no; rw [nT]; exact hq)
  have gf1 : getN T1.nodes fr = touchN T fr now (dropF (getN S.nodes fr).ents a) := by
    have := set_self (n := touchN T fr now (dropF (getN S.nodes fr).ents a)) h0.nos (by show isN T.nodes (getN T.nodes fr).no = true; rw [nT]; exact gfr.2.trans if0)
    have e : (touchN T fr now (dropF (getN S.nodes fr).ents a)).no = fr := nT
    rw [e] at this
    rw [hT1]; exact this
  have if1 : isN T1.nodes fr = true := by
    rw [hT1]; show isN (setN T.nodes _) fr = true; rw [isN_set]; exact gfr.2.trans if0
  have hto1 : isN T1.nodes to_ = true ∧ (getN T1.nodes to_).kind = 1 ∧ (getN T1.nodes to_).dev = (getN S.nodes to_).dev ∧ (∀ x ∈ (getN T1.nodes to_).ents, x ∈ (getN S.nodes to_).ents) := by
    by_cases e : to_ = fr
    · rw [e, gf1]
      refine ⟨if1, by show (getN T.nodes fr).kind = 1; rw [gfr.1]; exact kf, by show (getN T.nodes fr).dev = _; rw [gfr.1], fun x hx => ?_⟩
      exact (mem_dropF hx).1
    · rw [(g1 to_ e).1, (g1 to_ e).2, gto.1, gto.2]
      exact ⟨it0, kt, rfl, fun x hx => hx⟩
  obtain ⟨it1, kt1, dt1, et1⟩ := hto1
  have nt1 := (isN_true it1).2.1
  have mt1 := (isN_true it1).2.2
  have hnto : no ≠ to_ := by
    intro e
    by_cases hk : (getN S.nodes no).kind = 1
    · refine p4 ⟨hk, ?_⟩
      rw [nno, ← e]
      exact within_base (by omega) rfl
    · rw [e] at hk; exact hk kt
  have hKT := h0.kin _ (isN_true (gfr.2.trans if0)).2.2 x (by rw [gfr.1]; exact hx)
  rw [hx2, nT] at hKT
  have h2 : TreB (c + 1) k' (touchT T1 to_ now (putF (getN T1.nodes to_).ents (b, (getN S.nodes no).no))) := by
    rw [nno]
    refine tre_touch h1 (.inr rfl) it1 kt1 (by omega) (rise_putF _ (h1.rise _ mt1)) (fun y hy => ?_) (fun y hy => ?_) ?_ (fun y hy => ?_) (fun q hq hqk hqk' hqu hqn => ?_)
    · rcases mem_putF hy with hy | rfl
      · exact h1.names _ mt1 y hy
      · exact checkN_short ckb
    · rcases mem_putF hy with hy | rfl
      · exact h1.pos _ mt1 y hy
      · have e : T1.last = S.last := by rw [hT1]; show T.last = _; rw [hT]; exact (over_devs S now old).1
        rw [e]; exact hpos
    · have := putF_len (getN T1.nodes to_).ents (b, no)
      have := h1.small _ mt1
      omega
    · rcases mem_putF hy with hy | rfl
      · exact h1.kin _ mt1 y hy
      · refine ⟨by rw [nt1]; exact hnto, by rw [hT1]; exact hKT.2.1, fun q hq e => ?_⟩
        rw [hT1] at hq
        rcases mem_setT hq with ⟨hq, _⟩ | rfl
        · rw [hKT.2.2 q hq e, gfr.1, dt1, p3]
        · exact absurd (nT.symm.trans e).symm hnfr
    · rcases h1.ups q hq hqk hqk' with ⟨_, u2⟩ | ⟨_, _, m, hm, u3, _, _, y, hy, u6⟩
      · exact absurd (u2.symm.trans hqu) hqn
      · have : m = getN T1.nodes to_ := node_eq h1.nos hm mt1 (by rw [u3, hqu, nt1])
        subst this
        refine ⟨y, putF_old hy fun e => ?_, u6⟩
        have e2 := findF_mem (h.rise _ mto) (et1 y hy) e
        rw [← hold, u6] at e2
        rw [hT1] at hq
        rcases mem_setT hq with ⟨hq, _⟩ | rfl
        · exact hold' q hq hqk e2.symm
        · have e3 : old = fr := e2.trans nT
          have hq2 : getN T.nodes fr ∈ T.nodes := (isN_true (gfr.2.trans if0)).2.2
          exact hold' _ hq2 (by rw [gfr.1]; exact kf) (by rw [nT]; exact e3.symm)
  obtain ⟨T2, hT2⟩ : ∃ T2, T2 = touchT T1 to_ now (putF (getN T1.nodes to_).ents (b, (getN S.nodes no).no)) := ⟨_, rfl⟩
  rw [← hT2] at h2 ⊢
  have g2 : getN T2.nodes no = getN S.nodes no ∧ isN T2.nodes no = true := by
    have := setN_get (S := T1) (n := touchN T1 to_ now (putF (getN T1.nodes to_).ents (b, (getN S.nodes no).no))) (no := no) (by show no ≠ (getN T1.nodes to_).no; rw [nt1]; exact hnto)
    rw [hT2]
    exact ⟨this.1.trans ((g1 no hnfr).1.trans gno.1), this.2.trans ((g1 no hnfr).2.trans (gno.2.trans z2))⟩
  have m2 := (isN_true g2.2).2.2
  rw [g2.1] at m2
  have hb := h.bits _ mno
  by_cases hk : (getN S.nodes no).kind = 1
  · rw [if_pos hk] at hk'
    subst hk'
    have gt2 : getN T2.nodes to_ = touchN T1 to_ now (putF (getN T1.nodes to_).ents (b, (getN S.nodes k').no)) ∧ isN T2.nodes to_ = true := by
      have := set_self (n := touchN T1 to_ now (putF (getN T1.nodes to_).ents (b, (getN S.nodes k').no))) h1.nos (by show isN T1.nodes (getN T1.nodes to_).no = true; rw [nt1]; exact it1)
      have e : (touchN T1 to_ now (putF (getN T1.nodes to_).ents (b, (getN S.nodes k').no))).no = to_ := nt1
      rw [e] at this
      rw [hT2]
      exact ⟨this, by show isN (setN T1.nodes _) to_ = true; rw [isN_set]; exact it1⟩
    have mt2 := (isN_true gt2.2).2.2
    rw [gt2.1] at mt2
    refine tre_lies (n := laidN now to_ (getN S.nodes k')) (m0 := getN S.nodes k') (t := touchN T1 to_ now (putF (getN T1.nodes to_).ents (b, (getN S.nodes k').no))) ?_ m2 rfl hk hk rfl rfl (h.on _ mno).2 (show (getN S.nodes k').links = 1 from h.dlinks _ mno hk) rfl mt2 kt1 ?_ ⟨_, putF_mem _ _, rfl⟩ ?_ ?_ ?_
    · have e : (laidN now to_ (getN S.nodes k')).no = k' := nno
      rw [e]; exact h2
    · show (getN T1.nodes to_).dev = (getN S.nodes k').dev
      rw [dt1, ← p3, hdv]
    · show (if (getN S.nodes k').kind = 1 then to_ else _) = (getN T1.nodes to_).no
      rw [if_pos hk, nt1]
    · show rootF T2.devs (getN S.nodes k').dev ≠ (getN S.nodes k').no
      rw [nno, hT2]
      show rootF T1.devs _ ≠ _
      rw [hT1]
      show rootF T.devs _ ≠ _
      rw [hT, (over_devs S now old).2]
      exact hrt
    · intro hU
      have hU' : UpTo T2 k' to_ := by
        have e1 : (laidN now to_ (getN S.nodes k')).no = k' := nno
        have e2 : (touchN T1 to_ now (putF (getN T1.nodes to_).ents (b, (getN S.nodes k').no))).no = to_ := nt1
        rw [e1, e2] at hU; exact hU
      have hback : ∀ q ∈ T2.nodes, q.kind = 1 → ∃ q' ∈ S.nodes, q'.no = q.no ∧ q'.kind = 1 ∧ q'.up = q.up := by
        have bT : ∀ q ∈ T.nodes, ∃ q' ∈ S.nodes, q'.no = q.no ∧ q'.kind = q.kind ∧ q'.up = q.up := fun q hq => by
          rw [hT] at hq
          obtain ⟨m', a1, a2, a3, a4, _⟩ := over_mem hq
          exact ⟨m', a1, a2, a3, a4⟩
        have b1 : ∀ q ∈ T1.nodes, ∃ q' ∈ S.nodes, q'.no = q.no ∧ q'.kind = q.kind ∧ q'.up = q.up := fun q hq => by
          rw [hT1] at hq
          rcases mem_setT hq with ⟨hq, _⟩ | rfl
          · exact bT q hq
          · exact bT (getN T.nodes fr) (isN_true (gfr.2.trans if0)).2.2
        intro q hq hqk
        rw [hT2] at hq
        rcases mem_setT hq with ⟨hq, _⟩ | rfl
        · obtain ⟨q', a1, a2, a3, a4⟩ := b1 q hq
          exact ⟨q', a1, a2, a3.trans hqk, a4⟩
        · obtain ⟨q', a1, a2, a3, a4⟩ := b1 (getN T1.nodes to_) mt1
          exact ⟨q', a1, a2, a3.trans kt1, a4⟩
      have := UpTo.within h (by omega) (UpTo.mono hU' hback)
      exact p4 ⟨hk, by rw [nno]; exact this⟩
  · rw [if_neg hk] at hk'
    subst hk'
    refine tre_same h2 (no := no) g2.2 nno ?_ ?_ ?_ ?_ ?_ ?_ ?_
    · rw [g2.1]; rfl
    · exact (h.on _ mno).2
    · rw [g2.1]; rfl
    · rw [g2.1]; rfl
    · rw [g2.1]; unfold laidN; show (if (getN S.nodes no).kind = 1 then to_ else (getN S.nodes no).up) = _; rw [if_neg hk]
    · rw [g2.1]; rfl
    · exact ⟨hb.1, hb.2.1⟩
end Go.Proofs.YtebghednhjaniaaGreat

namespace Go.Proofs.YtebghednhjaniaaGreat

theorem full_grow {S : TreeD} (h : (S.nodes.length : Int) = S.last) (it : ItemD) : ((growT S it).nodes.length : Int) = (growT S it).last := by
  unfold growT
  split
  · unfold mountT
    split
    · unfold rootT; simp; omega
    · exact h
  · split
    · split
      · rename_i h0
        show ((setN _ _).length : Int) = _
        rw [setN_len]
        unfold makeT
        rw [if_pos h0]
        simp only [List.length_append, List.length_singleton]
        show _ = S.last + 1
        omega
      · exact h
    · exact h
theorem full_all {S : TreeD} (h : (S.nodes.length : Int) = S.last) (l : List ItemD) : ((growAll S l).nodes.length : Int) = (growAll S l).last := by
  unfold growAll
  induction l generalizing S with
  | nil => exact h
  | cons x l ih => rw [List.foldl_cons]; exact ih (full_grow h x)
theorem full_first (b n : Int) (l : List ItemD) : ((growAll (firstT b n) l).nodes.length : Int) = (growAll (firstT b n) l).last := full_all (S := firstT b n) rfl l
theorem full_is {ns : List NodeD} {last : Int} (hu : NosUp ns last) (h : (ns.length : Int) = last) {k : Int} (h1 : 1 ≤ k) (h2 : k ≤ last) : isN ns k = true := by
  have lo : ∀ i, (hi : i < ns.length) → (i : Int) + 1 ≤ (ns[i]).no := by
    intro i
    induction i with
    | zero => intro hi; have := (hu.2 _ (List.getElem_mem hi)).1; omega
    | succ i ih =>
      intro hi
      have h3 := ih (by omega)
      have h4 := List.pairwise_iff_getElem.1 hu.1 i (i + 1) (by omega) hi (by omega)
      omega
  have up : ∀ d i, (hi : i < ns.length) → i + d + 1 = ns.length → (ns[i]).no + d ≤ last := by
    intro d
    induction d with
    | zero => intro i hi _; have := (hu.2 _ (List.getElem_mem hi)).2; omega
    | succ d ih =>
      intro i hi e
      have h3 := ih (i + 1) (by omega) (by omega)
      have h4 := List.pairwise_iff_getElem.1 hu.1 i (i + 1) hi (by omega) (by omega)
      omega
  have hk : (k - 1).toNat < ns.length := by omega
  have h5 := lo _ hk
  have h6 := up (ns.length - 1 - (k - 1).toNat) _ hk (by omega)
  have e : (ns[(k - 1).toNat]).no = k := by omega
  rw [isN_iff]
  exact ⟨_, hk, e⟩
theorem drop_len {ns : List NodeD} (no : Int) (hu : ns.Pairwise fun a b => a.no < b.no) : ns.length ≤ (dropN ns no).length + 1 ∧ (dropN ns no).length ≤ ns.length := by
  refine ⟨?_, List.length_filter_le ..⟩
  induction ns with
  | nil => simp
  | cons m ms ih =>
    obtain ⟨h1, h2⟩ := List.pairwise_cons.1 hu
    by_cases e : m.no = no
    · have e2 : dropN (m :: ms) no = ms := by
        unfold dropN
        rw [List.filter_cons_of_neg (by simpa using e), List.filter_eq_self]
        intro x hx
        have := h1 x hx
        have : x.no ≠ no := by omega
        simpa using this
      rw [e2]; simp
    · have e2 : dropN (m :: ms) no = m :: dropN ms no := by
        unfold dropN
        rw [List.filter_cons_of_pos (by simpa using e)]
      rw [e2]
      have := ih h2
      simp only [List.length_cons]; omega
theorem over_len {c : Nat} {S : TreeD} (h : Tre c S) (now no : Int) : S.nodes.length ≤ (overT S now no).nodes.length + 1 ∧ (overT S now no).nodes.length ≤ S.nodes.length := by
  unfold overT
  split
  · unfold lessT
    split
    · unfold killT
      split
      · have := drop_len (getN S.nodes no).no (h.nos.set (lessN now (getN S.nodes no))).1
        rw [setN_len] at this
        exact this
      · show _ ≤ (setN _ _).length + 1 ∧ (setN _ _).length ≤ _; rw [setN_len]; omega
    · show _ ≤ (setN _ _).length + 1 ∧ (setN _ _).length ≤ _; rw [setN_len]; omega
  · omega
theorem over_nos {c : Nat} {S : TreeD} (h : Tre c S) (now no : Int) : NosUp (overT S now no).nodes (overT S now no).last := by
  unfold overT
  split
  · unfold lessT
    split
    · unfold killT
      split
      · exact (h.nos.set _).drop _
      · exact h.nos.set _
    · exact h.nos.set _
  · exact h.nos
/-- What a move leaves. -/
theorem moved {c : Nat} {S : TreeD} (h : Tre c S) {cu cg now fr to_ : Int} {a b : List UInt8} (h0 : moveE S cu cg fr to_ a b = 0) :
    (∀ k, k ≠ findF (getN S.nodes to_).ents b → isN S.nodes k = true → isN (moveT S cu cg now fr to_ a b).nodes k = true) ∧
    (S.nodes.length ≤ (moveT S cu cg now fr to_ a b).nodes.length + 1 ∧ (moveT S cu cg now fr to_ a b).nodes.length ≤ S.nodes.length) ∧
    findF (getN (moveT S cu cg now fr to_ a b).nodes to_).ents b = findF (getN S.nodes fr).ents a ∧ Tre (c + 1) (moveT S cu cg now fr to_ a b) := by
  have hT := tre_move h cu cg now fr to_ a b
  have hle : leaveE S cu cg fr a = 0 ∧ placeE S cu cg to_ b = 0 := by
    unfold moveE moveX at h0
    split at h0
    · rename_i h1; exact absurd h0 h1
    · rename_i h1
      split at h0
      · rename_i h2; exact absurd h0 h2
      · rename_i h2; exact ⟨Decidable.not_not.1 h1, Decidable.not_not.1 h2⟩
  obtain ⟨p1, p2⟩ := hle
  obtain ⟨z1, z2, z3, z4, z5⟩ := leaveE_zero p1
  have pt := placeN_zero p2
  have nno := (isN_true z2).2.1
  by_cases hs : sameB S cu cg fr to_ a b
  · have e : moveT S cu cg now fr to_ a b = S := by unfold moveT; rw [if_neg (fun x => x.2 hs)]
    rw [e] at hT ⊢
    refine ⟨fun k _ hk => hk, by omega, ?_, hT⟩
    unfold sameB oldNo at hs
    rw [pt, z5] at hs
    rw [← (isN_true hs.1).2.1, hs.2, nno]
  · obtain ⟨it0, kt, _⟩ := placeE_zero p2
    have e : moveT S cu cg now fr to_ a b = laidT (overT S now (findF (getN S.nodes to_).ents b)) now fr to_ a b (getN S.nodes fr) (getN S.nodes (findF (getN S.nodes fr).ents a)) := by
      unfold moveT; rw [if_pos ⟨h0, hs⟩, z4, z5]; unfold oldNo; rw [pt]
    rw [e] at hT ⊢
    have hl := over_len h now (findF (getN S.nodes to_).ents b)
    obtain ⟨_, _, _, p4, _⟩ := moveE_zero h0 hs
    rw [z5] at p4
    obtain ⟨no, hno⟩ : ∃ no, no = findF (getN S.nodes fr).ents a := ⟨_, rfl⟩
    obtain ⟨old, hold⟩ : ∃ old, old = findF (getN S.nodes to_).ents b := ⟨_, rfl⟩
    rw [← hno] at p4 z2 nno hT ⊢
    rw [← hold] at hT hl ⊢
    have nto := (isN_true it0).2.1
    have mto := (isN_true it0).2.2
    have hpt := (h.nos.2 _ mto).1
    rw [nto] at hpt
    have hto : to_ ≠ old := by
      intro e
      obtain ⟨y, hy, _, hy2⟩ := findF_in (l := (getN S.nodes to_).ents) (nm := b) (by rw [← hold]; omega)
      have := (h.kin _ mto y hy).1
      rw [hy2, ← hold, nto] at this
      exact this e.symm
    have hnto : no ≠ to_ := by
      intro e
      by_cases hk : (getN S.nodes no).kind = 1
      · refine p4 ⟨hk, ?_⟩
        rw [nno, ← e]
        exact within_base (by omega) rfl
      · rw [e] at hk; exact hk kt
    obtain ⟨T, hTT⟩ : ∃ T, T = overT S now old := ⟨_, rfl⟩
    have hnT := over_nos h now old
    have hgT : ∀ k, k ≠ old → isN T.nodes k = isN S.nodes k := fun k hk => by rw [hTT]; exact (over_get h now hk).2
    rw [← hTT] at hl hnT hT ⊢
    obtain ⟨T1, hT1⟩ : ∃ T1, T1 = touchT T fr now (dropF (getN S.nodes fr).ents a) := ⟨_, rfl⟩
    have hn1 : NosUp T1.nodes T1.last := by rw [hT1]; exact hnT.set _
    have hi1 : ∀ k, isN T1.nodes k = isN T.nodes k := fun k => by rw [hT1]; show isN (setN T.nodes _) k = _; rw [isN_set]
    have hl1 : T1.nodes.length = T.nodes.length := by rw [hT1]; show (setN _ _).length = _; rw [setN_len]
    have it1 : isN T1.nodes to_ = true := by rw [hi1, hgT _ hto]; exact it0
    have nt1 := (isN_true it1).2.1
    unfold laidT at hT ⊢
    rw [← hT1] at hT ⊢
    refine ⟨fun k hk hik => ?_, ?_, ?_, hT⟩
    · show isN (setN (setN T1.nodes _) _) k = true
      rw [isN_set, isN_set, hi1, hgT k hk]; exact hik
    · show _ ≤ (setN (setN T1.nodes _) _).length + 1 ∧ (setN (setN T1.nodes _) _).length ≤ _
      rw [setN_len, setN_len, hl1]; exact hl
    · have e1 := (setN_get (S := touchT T1 to_ now (putF (getN T1.nodes to_).ents (b, (getN S.nodes no).no))) (n := laidN now to_ (getN S.nodes no)) (no := to_) (by show to_ ≠ (getN S.nodes no).no; rw [nno]; exact Ne.symm hnto)).1
      have e2 := set_self (n := touchN T1 to_ now (putF (getN T1.nodes to_).ents (b, (getN S.nodes no).no))) hn1 (by show isN T1.nodes (getN T1.nodes to_).no = true; rw [nt1]; exact it1)
      have e3 : (touchN T1 to_ now (putF (getN T1.nodes to_).ents (b, (getN S.nodes no).no))).no = to_ := nt1
      rw [e3] at e2
      rw [e1]
      show findF (getN (setT T1 (touchN T1 to_ now _)).nodes to_).ents b = no
      rw [e2]
      show findF (putF _ _) b = no
      rw [findF_put, nno]
end Go.Proofs.YtebghednhjaniaaGreat
