/- Plain: a tree stays true through a move. | Layer 19: the chapter's example. | Plain, for RenameOne: a grown tree has every number; what a move leaves. | The law RenameOne, walked. (Printed by gen_movq.py.) -/
import Derived.Test.YtebghednhjaniaaBunP
import Derived.Test.YtebghednhjaniaaBunL
import Derived.Test.YtebghednhjaniaaBunH
import Derived.Test.YtebghednhjaniaaBunK
import Derived.Test.YtebghednhjaniaaBunD
import Derived.Test.YtebghednhjaniaaBunG
namespace Go.Proofs.Ytebghednhjaniaa

/-- What goes changes no other node. -/
theorem over_get {c : Nat} {S : TreeD} (_h : Tre c S) (now : Int) {no q : Int} (hq : q ≠ no) : getN (overT S now no).nodes q = getN S.nodes q ∧ isN (overT S now no).nodes q = isN S.nodes q := by
  unfold overT
  split
  · rename_i hi
    have hno := (isN_true hi).2.1
    have hs := setN_get (S := S) (n := lessN now (getN S.nodes no)) (no := q) (by show q ≠ (getN S.nodes no).no; rw [hno]; exact hq)
    unfold lessT
    split
    · unfold killT
      split
      · have hd : ∀ ns : List NodeD, getO (dropN ns no) q = getO ns q := by
          intro ns
          unfold getO dropN
          induction ns with
          | nil => rfl
          | cons m ms ih =>
            rw [List.find?_cons]
            by_cases e : m.no = no
            · rw [List.filter_cons_of_neg (by simpa using e), ih]
              have : (m.no == q) = false := by rw [e]; simpa using Ne.symm hq
              rw [this]
            · rw [List.filter_cons_of_pos (by simpa using e), List.find?_cons, ih]
        rw [hno]
        refine ⟨?_, ?_⟩
        · show (getO (dropN (setT S _).nodes no) q).getD nodeZ = _
          rw [hd]; exact hs.1
        · show (getO (dropN (setT S _).nodes no) q).isSome = _
          rw [hd]; exact hs.2
      · exact hs
    · exact hs
  · exact ⟨rfl, rfl⟩
theorem over_devs (S : TreeD) (now no : Int) : (overT S now no).last = S.last ∧ ∀ i, rootF (overT S now no).devs i = rootF S.devs i := by
  unfold overT
  split
  · unfold lessT
    split
    · unfold killT
      split
      · exact ⟨rfl, fun i => by show rootF (setQ _ _ _) i = _; rw [rootQ]; rfl⟩
      · exact ⟨rfl, fun _ => rfl⟩
    · exact ⟨rfl, fun _ => rfl⟩
  · exact ⟨rfl, fun _ => rfl⟩
/-- What is left of the nodes: each was there, of the same kind, at the same place. -/
theorem over_mem {S : TreeD} {now no : Int} {m : NodeD} (hm : m ∈ (overT S now no).nodes) : ∃ m' ∈ S.nodes, m'.no = m.no ∧ m'.kind = m.kind ∧ m'.up = m.up ∧ m'.dev = m.dev := by
  refine all_over (S := S) (P := fun m => ∃ m' ∈ S.nodes, m'.no = m.no ∧ m'.kind = m.kind ∧ m'.up = m.up ∧ m'.dev = m.dev) (fun m hm => ⟨m, hm, rfl, rfl, rfl, rfl⟩) now no ?_ m hm
  rintro m ⟨m', h1, h2, h3, h4, h5⟩
  exact ⟨m', h1, h2, h3, h4, h5⟩
/-- A directory that is replaced goes. -/
theorem over_gone {c : Nat} {S : TreeD} (h : Tre c S) {now no : Int} (hk : (getN S.nodes no).kind = 1) (hr : rootF S.devs (getN S.nodes no).dev ≠ no) : ∀ m ∈ (overT S now no).nodes, m.no ≠ no := by
  obtain ⟨hi, hno, hmem⟩ := getN_node hk
  have hl := h.dlinks _ hmem hk
  have hkb : killB S no = true := by unfold killB; rw [hi]; simpa using hr
  have hi2 : isN (setT S (lessN now (getN S.nodes no))).nodes no = true := by show isN (setN S.nodes _) no = true; rw [isN_set]; exact hi
  have hg : getN (setT S (lessN now (getN S.nodes no))).nodes no = lessN now (getN S.nodes no) := by
    have := set_self (n := lessN now (getN S.nodes no)) h.nos (by show isN S.nodes (getN S.nodes no).no = true; rw [hno]; exact hi)
    have e : (lessN now (getN S.nodes no)).no = no := hno
    rw [e] at this; exact this
  have hkb2 : killB (setT S (lessN now (getN S.nodes no))) no = true := by
    unfold killB
    rw [hi2, hg]
    have e : rootF (setT S (lessN now (getN S.nodes no))).devs (lessN now (getN S.nodes no)).dev ≠ no := hr
    simpa using e
  unfold overT
  rw [if_pos hi]
  unfold lessT
  rw [if_pos (by omega), hno]
  unfold killT
  rw [if_pos hkb2]
  intro m hm
  exact (mem_drop hm).2
theorem putF_mem (l : List EntD) (x : EntD) : x ∈ putF l x := by
  unfold putF
  exact List.mem_append_left _ (List.mem_append_right _ (List.mem_singleton.2 rfl))
theorem putF_old {l : List EntD} {x y : EntD} (hy : y ∈ l) (hne : y.1 ≠ x.1) : y ∈ putF l x := by
  unfold putF lessF moreF
  rcases bl_tri y.1 x.1 with g | g | g
  · exact List.mem_append_left _ (List.mem_append_left _ (List.mem_filter.2 ⟨hy, g⟩))
  · exact absurd g hne
  · exact List.mem_append_right _ (List.mem_filter.2 ⟨hy, g⟩)
theorem moveE_zero {S : TreeD} {cu cg fr to_ : Int} {a b : List UInt8} (h : moveE S cu cg fr to_ a b = 0) (hs : ¬ sameB S cu cg fr to_ a b) :
    leaveE S cu cg fr a = 0 ∧ placeE S cu cg to_ b = 0 ∧ (leaveD S cu cg fr a).dev = (placeN S cu cg to_ b).dev ∧ ¬ ((leaveN S cu cg fr a).kind = 1 ∧ withinF S to_ (leaveN S cu cg fr a).no = true) ∧
    (isN S.nodes (oldNo S cu cg to_ b) = true → putE S cu (placeN S cu cg to_ b) (leaveN S cu cg fr a) (getN S.nodes (oldNo S cu cg to_ b)) = 0) := by
  unfold moveE moveX at h
  split at h
  · rename_i h1; exact absurd h h1
  · rename_i h1
    split at h
    · rename_i h2; exact absurd h h2
    · rename_i h2
      split at h
      · cases h
      · rename_i h3
        split at h
        · cases h
        · rename_i h4
          split at h
          · rename_i h5; exact absurd h5 hs
          · split at h
            · cases h
            · refine ⟨Decidable.not_not.1 h1, Decidable.not_not.1 h2, Decidable.not_not.1 h3, h4, fun hi => ?_⟩
              rw [if_pos hi] at h; exact h
theorem putE_zero {S : TreeD} {cu : Int} {d n o : NodeD} (h : putE S cu d n o = 0) : overF S.devs o.no = o.no ∧ (n.kind = 1 → o.kind = 1) ∧ (¬ n.kind = 1 → ¬ o.kind = 1) ∧ o.ents = [] := by
  unfold putE at h
  split at h
  · cases h
  · rename_i h1
    split at h
    · cases h
    · rename_i h2
      split at h
      · cases h
      · rename_i h3
        split at h
        · cases h
        · rename_i h4
          refine ⟨Decidable.not_not.1 h1, fun hk => Decidable.byContradiction fun e => h2 ⟨hk, e⟩, fun hk e => h3 ⟨hk, e⟩, ?_⟩
          cases ho : o.ents with
          | nil => rfl
          | cons x l => rw [ho] at h4; simp at h4
theorem tre_move {c : Nat} {S : TreeD} (h : Tre c S) (cu cg now fr to_ : Int) (a b : List UInt8) : Tre (c + 1) (moveT S cu cg now fr to_ a b) := by
  unfold moveT
  split
  case isFalse => exact tre_mono h (by omega)
  rename_i hc
  obtain ⟨p1, p2, p3, p4, p5⟩ := moveE_zero hc.1 hc.2
  have hns := hc.2
  obtain ⟨z1, z2, z3, z4, z5⟩ := leaveE_zero p1
  obtain ⟨if0, kf, _⟩ := placeE_zero z1
  obtain ⟨it0, kt, ckb⟩ := placeE_zero p2
  have pt := placeN_zero p2
  unfold sameB at hns
  unfold oldNo at hns p5 ⊢
  rw [z5, pt] at hns
  rw [z4, pt] at p3
  rw [z5] at p4
  rw [z5, pt] at p5
  rw [z4, z5, pt]
  clear z4 z5 pt hc p1 p2
  obtain ⟨no, hno⟩ : ∃ no, no = findF (getN S.nodes fr).ents a := ⟨_, rfl⟩
  obtain ⟨old, hold⟩ : ∃ old, old = findF (getN S.nodes to_).ents b := ⟨_, rfl⟩
  rw [← hno] at z2 z3 p4 p5 hns ⊢
  rw [← hold] at p5 hns ⊢
  have nfr := (isN_true if0).2.1
  have nto := (isN_true it0).2.1
  have mfr := (isN_true if0).2.2
  have mto := (isN_true it0).2.2
  have nno := (isN_true z2).2.1
  have mno := (isN_true z2).2.2
  have hpos := h.nos.2 _ mno
  rw [nno] at hpos
  have hpt := (h.nos.2 _ mto).1
  rw [nto] at hpt
  obtain ⟨x, hx, hx1, hx2⟩ := findF_in (l := (getN S.nodes fr).ents) (nm := a) (by rw [← hno]; omega)
  rw [← hno] at hx2
  have hK := h.kin _ mfr x hx
  rw [hx2, nfr] at hK
  have hnfr : no ≠ fr := hK.1
  have hdv : (getN S.nodes no).dev = (getN S.nodes fr).dev := hK.2.2 _ mno nno
  have hrt : rootF S.devs (getN S.nodes no).dev ≠ no := kin_root h hK _ (h.on _ mno).1
  -- what is replaced
  have hO : isN S.nodes old = true → old ≠ to_ ∧ old ≠ fr ∧ old ≠ no ∧ rootF S.devs (getN S.nodes old).dev ≠ old ∧ overF S.devs old = old ∧ ((getN S.nodes no).kind = 1 → (getN S.nodes old).kind = 1) ∧ (getN S.nodes old).ents = [] := by
    intro hi
    have mo := (isN_true hi).2.2
    have eo := (isN_true hi).2.1
    obtain ⟨u1, u2, u3, u4⟩ := putE_zero (p5 hi)
    have hpo := (h.nos.2 _ mo).1
    rw [eo] at hpo
    obtain ⟨y, hy, hy1, hy2⟩ := findF_in (l := (getN S.nodes to_).ents) (nm := b) (by rw [← hold]; omega)
    rw [← hold] at hy2
    have hKo := h.kin _ mto y hy
    rw [hy2, nto] at hKo
    refine ⟨hKo.1, fun e => ?_, fun e => hns ⟨hi, by rw [e]⟩, kin_root h hKo _ (h.on _ mo).1, by rw [eo] at u1; exact u1, u2, u4⟩
    rw [e] at u4
    rw [u4] at hx; cases hx
  obtain ⟨T, hT⟩ : ∃ T, T = overT S now old := ⟨_, rfl⟩
  have h0 : Tre c T := by
    rw [hT]
    unfold overT
    split
    · rename_i hi
      obtain ⟨_, _, _, o4, o5, _, o7⟩ := hO hi
      exact tre_less h hi o5 o4 (fun _ => o7) (.inl rfl)
    · exact h
  have hgT : ∀ q, (isN S.nodes old = true → old ≠ q) → getN T.nodes q = getN S.nodes q ∧ isN T.nodes q = isN S.nodes q := by
    intro q hq
    rw [hT]
    cases hi : isN S.nodes old
    · unfold overT; rw [if_neg (by rw [hi]; decide)]; exact ⟨rfl, rfl⟩
    · exact over_get h now (Ne.symm (hq hi))
  have gfr := hgT fr fun hi => (hO hi).2.1
  have gto := hgT to_ fun hi => (hO hi).1
  have gno := hgT no fun hi => (hO hi).2.2.1
  have hold' : ∀ q ∈ T.nodes, q.kind = 1 → q.no ≠ old := by
    intro q hq hqk e
    rw [hT] at hq
    obtain ⟨m', hm', e1, e2, _⟩ := over_mem hq
    have hi : isN S.nodes old = true := by
      have := (mem_getN h.nos hm').2
      rw [e1, e] at this; exact this
    have hmo : m' = getN S.nodes old := node_eq h.nos hm' (isN_true hi).2.2 (by rw [e1, e, (isN_true hi).2.1])
    have hok : (getN S.nodes old).kind = 1 := by rw [← hmo, e2]; exact hqk
    exact over_gone h hok (hO hi).2.2.2.1 q hq e
  obtain ⟨k', hk'⟩ : ∃ k', k' = if (getN S.nodes no).kind = 1 then no else 0 := ⟨_, rfl⟩
  have hkq : ∀ q ∈ T.nodes, q.kind = 1 → q.no ≠ k' → q.no ≠ no := by
    intro q hq hqk hqk' e
    have : q = getN T.nodes no := node_eq h0.nos hq (isN_true (gno.2.trans z2)).2.2 (by rw [e, (isN_true (gno.2.trans z2)).2.1])
    have hkn : (getN S.nodes no).kind = 1 := by rw [← gno.1, ← this]; exact hqk
    rw [if_pos hkn] at hk'
    exact hqk' (e.trans hk'.symm)
  have h1 : TreB c k' (touchT T fr now (dropF (getN S.nodes fr).ents a)) := by
    have := tre_unname h0 (dir := fr) (now := now) (nm := a) (gfr.2.trans if0) (by rw [gfr.1]; exact kf) (k' := k') (by rw [gfr.1, ← hno]; exact hkq)
    rw [gfr.1] at this; exact this
  obtain ⟨T1, hT1⟩ : ∃ T1, T1 = touchT T fr now (dropF (getN S.nodes fr).ents a) := ⟨_, rfl⟩
  rw [← hT1] at h1
  unfold laidT
  rw [← hT, ← hT1]
  have nT : (getN T.nodes fr).no = fr := by rw [gfr.1]; exact nfr
  have g1 : ∀ q, q ≠ fr → getN T1.nodes q = getN T.nodes q ∧ isN T1.nodes q = isN T.nodes q := by
    intro q hq
    rw [hT1]
    exact setN_get (n := touchN T fr now (dropF (getN S.nodes fr).ents a)) (by show q ≠ (getN T.nodes fr).no; rw [nT]; exact hq)
  have gf1 : getN T1.nodes fr = touchN T fr now (dropF (getN S.nodes fr).ents a) := by
    have := set_self (n := touchN T fr now (dropF (getN S.nodes fr).ents a)) h0.nos (by show isN T.nodes (getN T.nodes fr).no = true; rw [nT]; exact gfr.2.trans if0)
    have e : (touchN T fr now (dropF (getN S.nodes fr).ents a)).no = fr := nT
    rw [e] at this
    rw [hT1]; exact this
  have if1 : isN T1.nodes fr = true := by
    rw [hT1]; show isN (setN T.nodes _) fr = true; rw [isN_set]; exact gfr.2.trans if0
  have hto1 : isN T1.nodes to_ = true ∧ (getN T1.nodes to_).kind = 1 ∧ (getN T1.nodes to_).dev = (getN S.nodes to_).dev ∧ (∀ x ∈ (getN T1.nodes to_).ents, x ∈ (getN S.nodes to_).ents) := by
    by_cases e : to_ = fr
    · rw [e, gf1]
      refine ⟨if1, by show (getN T.nodes fr).kind = 1; rw [gfr.1]; exact kf, by show (getN T.nodes fr).dev = _; rw [gfr.1], fun x hx => ?_⟩
      exact (mem_dropF hx).1
    · rw [(g1 to_ e).1, (g1 to_ e).2, gto.1, gto.2]
      exact ⟨it0, kt, rfl, fun x hx => hx⟩
  obtain ⟨it1, kt1, dt1, et1⟩ := hto1
  have nt1 := (isN_true it1).2.1
  have mt1 := (isN_true it1).2.2
  have hnto : no ≠ to_ := by
    intro e
    by_cases hk : (getN S.nodes no).kind = 1
    · refine p4 ⟨hk, ?_⟩
      rw [nno, ← e]
      exact within_base (by omega) rfl
    · rw [e] at hk; exact hk kt
  have hKT := h0.kin _ (isN_true (gfr.2.trans if0)).2.2 x (by rw [gfr.1]; exact hx)
  rw [hx2, nT] at hKT
  have h2 : TreB (c + 1) k' (touchT T1 to_ now (putF (getN T1.nodes to_).ents (b, (getN S.nodes no).no))) := by
    rw [nno]
    refine tre_touch h1 (.inr rfl) it1 kt1 (by omega) (rise_putF _ (h1.rise _ mt1)) (fun y hy => ?_) (fun y hy => ?_) ?_ (fun y hy => ?_) (fun q hq hqk hqk' hqu hqn => ?_)
    · rcases mem_putF hy with hy | rfl
      · exact h1.names _ mt1 y hy
      · exact checkN_short ckb
    · rcases mem_putF hy with hy | rfl
      · exact h1.pos _ mt1 y hy
      · have e : T1.last = S.last := by rw [hT1]; show T.last = _; rw [hT]; exact (over_devs S now old).1
        rw [e]; exact hpos
    · have := putF_len (getN T1.nodes to_).ents (b, no)
      have := h1.small _ mt1
      omega
    · rcases mem_putF hy with hy | rfl
      · exact h1.kin _ mt1 y hy
      · refine ⟨by rw [nt1]; exact hnto, by rw [hT1]; exact hKT.2.1, fun q hq e => ?_⟩
        rw [hT1] at hq
        rcases mem_setT hq with ⟨hq, _⟩ | rfl
        · rw [hKT.2.2 q hq e, gfr.1, dt1, p3]
        · exact absurd (nT.symm.trans e).symm hnfr
    · rcases h1.ups q hq hqk hqk' with ⟨_, u2⟩ | ⟨_, _, m, hm, u3, _, _, y, hy, u6⟩
      · exact absurd (u2.symm.trans hqu) hqn
      · have : m = getN T1.nodes to_ := node_eq h1.nos hm mt1 (by rw [u3, hqu, nt1])
        subst this
        refine ⟨y, putF_old hy fun e => ?_, u6⟩
        have e2 := findF_mem (h.rise _ mto) (et1 y hy) e
        rw [← hold, u6] at e2
        rw [hT1] at hq
        rcases mem_setT hq with ⟨hq, _⟩ | rfl
        · exact hold' q hq hqk e2.symm
        · have e3 : old = fr := e2.trans nT
          have hq2 : getN T.nodes fr ∈ T.nodes := (isN_true (gfr.2.trans if0)).2.2
          exact hold' _ hq2 (by rw [gfr.1]; exact kf) (by rw [nT]; exact e3.symm)
  obtain ⟨T2, hT2⟩ : ∃ T2, T2 = touchT T1 to_ now (putF (getN T1.nodes to_).ents (b, (getN S.nodes no).no)) := ⟨_, rfl⟩
  rw [← hT2] at h2 ⊢
  have g2 : getN T2.nodes no = getN S.nodes no ∧ isN T2.nodes no = true := by
    have := setN_get (S := T1) (n := touchN T1 to_ now (putF (getN T1.nodes to_).ents (b, (getN S.nodes no).no))) (no := no) (by show no ≠ (getN T1.nodes to_).no; rw [nt1]; exact hnto)
    rw [hT2]
    exact ⟨this.1.trans ((g1 no hnfr).1.trans gno.1), this.2.trans ((g1 no hnfr).2.trans (gno.2.trans z2))⟩
  have m2 := (isN_true g2.2).2.2
  rw [g2.1] at m2
  have hb := h.bits _ mno
  by_cases hk : (getN S.nodes no).kind = 1
  · rw [if_pos hk] at hk'
    subst hk'
    have gt2 : getN T2.nodes to_ = touchN T1 to_ now (putF (getN T1.nodes to_).ents (b, (getN S.nodes k').no)) ∧ isN T2.nodes to_ = true := by
      have := set_self (n := touchN T1 to_ now (putF (getN T1.nodes to_).ents (b, (getN S.nodes k').no))) h1.nos (by show isN T1.nodes (getN T1.nodes to_).no = true; rw [nt1]; exact it1)
      have e : (touchN T1 to_ now (putF (getN T1.nodes to_).ents (b, (getN S.nodes k').no))).no = to_ := nt1
      rw [e] at this
      rw [hT2]
      exact ⟨this, by show isN (setN T1.nodes _) to_ = true; rw [isN_set]; exact it1⟩
    have mt2 := (isN_true gt2.2).2.2
    rw [gt2.1] at mt2
    refine tre_lies (n := laidN now to_ (getN S.nodes k')) (m0 := getN S.nodes k') (t := touchN T1 to_ now (putF (getN T1.nodes to_).ents (b, (getN S.nodes k').no))) ?_ m2 rfl hk hk rfl rfl (h.on _ mno).2 (show (getN S.nodes k').links = 1 from h.dlinks _ mno hk) rfl mt2 kt1 ?_ ⟨_, putF_mem _ _, rfl⟩ ?_ ?_ ?_
    · have e : (laidN now to_ (getN S.nodes k')).no = k' := nno
      rw [e]; exact h2
    · show (getN T1.nodes to_).dev = (getN S.nodes k').dev
      rw [dt1, ← p3, hdv]
    · show (if (getN S.nodes k').kind = 1 then to_ else _) = (getN T1.nodes to_).no
      rw [if_pos hk, nt1]
    · show rootF T2.devs (getN S.nodes k').dev ≠ (getN S.nodes k').no
      rw [nno, hT2]
      show rootF T1.devs _ ≠ _
      rw [hT1]
      show rootF T.devs _ ≠ _
      rw [hT, (over_devs S now old).2]
      exact hrt
    · intro hU
      have hU' : UpTo T2 k' to_ := by
        have e1 : (laidN now to_ (getN S.nodes k')).no = k' := nno
        have e2 : (touchN T1 to_ now (putF (getN T1.nodes to_).ents (b, (getN S.nodes k').no))).no = to_ := nt1
        rw [e1, e2] at hU; exact hU
      have hback : ∀ q ∈ T2.nodes, q.kind = 1 → ∃ q' ∈ S.nodes, q'.no = q.no ∧ q'.kind = 1 ∧ q'.up = q.up := by
        have bT : ∀ q ∈ T.nodes, ∃ q' ∈ S.nodes, q'.no = q.no ∧ q'.kind = q.kind ∧ q'.up = q.up := fun q hq => by
          rw [hT] at hq
          obtain ⟨m', a1, a2, a3, a4, _⟩ := over_mem hq
          exact ⟨m', a1, a2, a3, a4⟩
        have b1 : ∀ q ∈ T1.nodes, ∃ q' ∈ S.nodes, q'.no = q.no ∧ q'.kind = q.kind ∧ q'.up = q.up := fun q hq => by
          rw [hT1] at hq
          rcases mem_setT hq with ⟨hq, _⟩ | rfl
          · exact bT q hq
          · exact bT (getN T.nodes fr) (isN_true (gfr.2.trans if0)).2.2
        intro q hq hqk
        rw [hT2] at hq
        rcases mem_setT hq with ⟨hq, _⟩ | rfl
        · obtain ⟨q', a1, a2, a3, a4⟩ := b1 q hq
          exact ⟨q', a1, a2, a3.trans hqk, a4⟩
        · obtain ⟨q', a1, a2, a3, a4⟩ := b1 (getN T1.nodes to_) mt1
          exact ⟨q', a1, a2, a3.trans kt1, a4⟩
      have := UpTo.within h (by omega) (UpTo.mono hU' hback)
      exact p4 ⟨hk, by rw [nno]; exact this⟩
  · rw [if_neg hk] at hk'
    subst hk'
    refine tre_same h2 (no := no) g2.2 nno ?_ ?_ ?_ ?_ ?_ ?_ ?_
    · rw [g2.1]; rfl
    · exact (h.on _ mno).2
    · rw [g2.1]; rfl
    · rw [g2.1]; rfl
    · rw [g2.1]; unfold laidN; show (if (getN S.nodes no).kind = 1 then to_ else (getN S.nodes no).up) = _; rw [if_neg hk]
    · rw [g2.1]; rfl
    · exact ⟨hb.1, hb.2.1⟩
end Go.Proofs.Ytebghednhjaniaa

namespace Go.Proofs.Ytebghednhjaniaa
open Go.ChangeShapes Go.WideShapes Go.ChangeAt Go.RowKit

theorem items_three {w : World} {b : Nat} {t : TypeId} (it jt kt : ItemD) (h : Has w b (.cells #[.int .i64 it.dir, .string (bs it.name), .int .i64 it.kind, .int .i64 it.mode, .int .i64 it.uid, .int .i64 it.gid, .string (bs it.data), .int .i64 it.n, .int .i64 jt.dir, .string (bs jt.name), .int .i64 jt.kind, .int .i64 jt.mode, .int .i64 jt.uid, .int .i64 jt.gid, .string (bs jt.data), .int .i64 jt.n, .int .i64 kt.dir, .string (bs kt.name), .int .i64 kt.kind, .int .i64 kt.mode, .int .i64 kt.uid, .int .i64 kt.gid, .string (bs kt.data), .int .i64 kt.n] t)) : ItemsAt w (some ⟨b, 0, none⟩) [it, jt, kt] := by
  refine .inr ⟨b, 0, rfl, h.lt, fun k hk => ?_⟩
  have : k = 0 ∨ k = 1 ∨ k = 2 := by simp at hk; omega
  rcases this with rfl | rfl | rfl
  · exact ⟨h.cell 0, h.cell 1, h.cell 2, h.cell 3, h.cell 4, h.cell 5, h.cell 6, h.cell 7⟩
  · exact ⟨h.cell 8, h.cell 9, h.cell 10, h.cell 11, h.cell 12, h.cell 13, h.cell 14, h.cell 15⟩
  · exact ⟨h.cell 16, h.cell 17, h.cell 18, h.cell 19, h.cell 20, h.cell 21, h.cell 22, h.cell 23⟩
def ex19A : ItemD := ⟨0, [100], 1, 0, 0, 0, [], 0⟩
def ex19B : ItemD := ⟨1, [101], 1, 0, 0, 0, [], 0⟩
def ex19C : ItemD := ⟨0, [120], 2, 0, 0, 0, [], 0⟩
theorem ex19_few : FewI [ex19A, ex19B, ex19C] := by
  refine ⟨?_, by decide⟩
  intro x hx
  simp only [List.mem_cons, List.not_mem_nil, or_false] at hx
  rcases hx with rfl | rfl | rfl
  · exact ⟨by decide, by decide⟩
  · exact ⟨by decide, by decide⟩
  · exact ⟨by decide, by decide⟩
def b19a : TreeD := growAll (firstT 9 9) [ex19A, ex19B, ex19C]
def b19b : TreeD := moveT b19a 0 0 1 1 3 [100] [102]
def b19c : TreeD := moveT b19b 0 0 2 2 1 [101] [103]
def b19d : TreeD := moveT b19c 0 0 3 1 3 [120] [121]
def b19e : TreeD := moveT b19d 0 0 4 3 1 [121] [100]
theorem b19_1 : moveE b19a 0 0 1 3 [100] [102] = 17 := by kernel_rfl
theorem b19_2 : moveE b19b 0 0 2 1 [101] [103] = 0 := by kernel_rfl
theorem b19_3 : moveE b19c 0 0 1 3 [120] [121] = 0 := by kernel_rfl
theorem b19_4 : moveE b19d 0 0 3 1 [121] [100] = 8 := by kernel_rfl
theorem b19_5 : whereF b19e 3 = some [47, 103] := by kernel_rfl
theorem b19_6 : (getN b19e.nodes 3).up = 1 ∧ (getN b19e.nodes 3).ctime = 3 ∧ (getN b19e.nodes 3).mtime = 3 := ⟨by kernel_rfl, by kernel_rfl, by kernel_rfl⟩
theorem b19_7 : b19e.last = 4 := by kernel_rfl
theorem b19_tre : Tre 44 b19a ∧ Tre 44 b19b ∧ Tre 44 b19c ∧ Tre 44 b19d ∧ Tre 44 b19e := by
  have h0 : Tre 40 b19a := tre_growAll (by decide) ex19_few
  have h1 : Tre 41 b19b := tre_move h0 ..
  have h2 : Tre 42 b19c := tre_move h1 ..
  have h3 : Tre 43 b19d := tre_move h2 ..
  exact ⟨tre_mono h0 (by decide), tre_mono h1 (by decide), tre_mono h2 (by decide), tre_mono h3 (by decide), tre_move h3 ..⟩
set_option maxRecDepth 100000 in
set_option maxHeartbeats 8000000 in
theorem awake19 (w : World) : Calls Try.prog 71 #[] w (Ret w (.bool true)) := by
  obtain ⟨q0, q1, q2, q3, q4⟩ := b19_tre
  have HT0 := Lib.hid q0
  have HT1 := Lib.hid q1
  have HT2 := Lib.hid q2
  have HT3 := Lib.hid q3
  have HF := Lib.hid (q4.fit (by decide) (by rw [b19_7]; decide))
  clear q0 q1 q2 q3 q4
  go_enter Try.func71, Try.ntmps71
  go_wp2_with fail
  have I1 := Has.new w (.cells #[.int .i64 ex19A.dir, .string (bs ex19A.name), .int .i64 ex19A.kind, .int .i64 ex19A.mode, .int .i64 ex19A.uid, .int .i64 ex19A.gid, .string (bs ex19A.data), .int .i64 ex19A.n, .int .i64 ex19B.dir, .string (bs ex19B.name), .int .i64 ex19B.kind, .int .i64 ex19B.mode, .int .i64 ex19B.uid, .int .i64 ex19B.gid, .string (bs ex19B.data), .int .i64 ex19B.n, .int .i64 ex19C.dir, .string (bs ex19C.name), .int .i64 ex19C.kind, .int .i64 ex19C.mode, .int .i64 ex19C.uid, .int .i64 ex19C.gid, .string (bs ex19C.data), .int .i64 ex19C.n] 138)
  refine (growAll_any 9 9 (some ⟨w.heap.size, 0, none⟩) [ex19A, ex19B, ex19C] 3 _ (by decide) ex19_few (items_three ex19A ex19B ex19C I1)).mono ?_
  rintro e w1 ⟨g, f, rfl, ⟨K1, F1⟩, E1⟩
  have X1 : Ext w w1 := ((Ext.refl _).alloc _).trans E1
  obtain ⟨B, hB⟩ : ∃ B, B = (w.alloc (.cells #[.int .i64 ex19A.dir, .string (bs ex19A.name), .int .i64 ex19A.kind, .int .i64 ex19A.mode, .int .i64 ex19A.uid, .int .i64 ex19A.gid, .string (bs ex19A.data), .int .i64 ex19A.n, .int .i64 ex19B.dir, .string (bs ex19B.name), .int .i64 ex19B.kind, .int .i64 ex19B.mode, .int .i64 ex19B.uid, .int .i64 ex19B.gid, .string (bs ex19B.data), .int .i64 ex19B.n, .int .i64 ex19C.dir, .string (bs ex19C.name), .int .i64 ex19C.kind, .int .i64 ex19C.mode, .int .i64 ex19C.uid, .int .i64 ex19C.gid, .string (bs ex19C.data), .int .i64 ex19C.n] 138)).heap.size := ⟨_, rfl⟩
  have hBw : w.heap.size ≤ B := by rw [hB]; simp
  have K1' : WAt w1 B g b19a := by rw [hB]; exact K1
  clear hB K1 I1 F1 E1
  have aft : ∀ {S : TreeD} {v v' : World}, WAt v B g S → Ext w v → Only g.list v v' → Ext w v' := by
    intro S v v' hK hX hO
    exact hO.after hX fun x hx => by have := (hK.apart x hx).1; omega
  have HA := @aft
  clear aft
  go_wp2_with fail
  obtain ⟨r, R⟩ := HT0.out.rank
  refine (pmove_any B g b19a r 0 0 1 1 3 [100] [102] _ K1' (HT0.out.ok (by decide)) R).mono ?_
  rw [b19_1]
  rintro e w2 ⟨rfl, K2, O2⟩
  have X2 := HA K1' X1 O2
  have K2' : WAt w2 B g b19b := K2
  clear K1' O2 X1 K2 r R
  go_wp2_with fail
  obtain ⟨r, R⟩ := HT1.out.rank
  refine (pmove_any B g b19b r 0 0 2 2 1 [101] [103] _ K2' (HT1.out.ok (by decide)) R).mono ?_
  rw [b19_2]
  rintro e w3 ⟨rfl, K3, O3⟩
  have X3 := HA K2' X2 O3
  have K3' : WAt w3 B g b19c := K3
  clear K2' O3 X2 K3 r R
  go_wp2_with fail
  obtain ⟨r, R⟩ := HT2.out.rank
  refine (pmove_any B g b19c r 0 0 3 1 3 [120] [121] _ K3' (HT2.out.ok (by decide)) R).mono ?_
  rw [b19_3]
  rintro e w4 ⟨rfl, K4, O4⟩
  have X4 := HA K3' X3 O4
  have K4' : WAt w4 B g b19d := K4
  clear K3' O4 X3 K4 r R
  go_wp2_with fail
  obtain ⟨r, R⟩ := HT3.out.rank
  refine (pmove_any B g b19d r 0 0 4 3 1 [121] [100] _ K4' (HT3.out.ok (by decide)) R).mono ?_
  rw [b19_4]
  rintro e w5 ⟨rfl, K5, O5⟩
  have X5 := HA K4' X4 O5
  have K5' : WAt w5 B g b19e := K5
  clear K4' O5 X4 K5 r R
  go_wp2_with fail
  obtain ⟨r, R⟩ := HF.out.rank
  refine (pwhere_any B g b19e r 3 _ K5' HF.out.len HF.out.good.devs HF.out.good.eight HF.out.good.roots HF.out.good.nos HF.out.names HF.out.ents R HF.out.top HF.out.one).mono ?_
  rw [b19_5]
  rintro e w6 ⟨he, b6⟩
  dsimp only at he
  rw [show bs [47, 103] = (⟨#[47, 103]⟩ : ByteArray) from rfl] at he
  subst he
  have K6 := K5'.ext b6
  have X6 := X5.trans b6
  obtain ⟨_, _, cd, hW, _⟩ := id K6
  have v0 : w6.cell? ⟨g.bW, 0, none⟩ = some (.pointer (some ⟨g.bT, 0, none⟩)) := hW.cell 0
  have vz := hW.lt
  clear hW K5' X5 b6 r R
  go_wp2_with fail
  refine (tget_any B g.bT g.bM _ _ 3 _ K6.2.1).mono ?_
  rintro e w7 ⟨A7, k7, rfl, ok7, b7⟩
  obtain ⟨n7, hn7⟩ : ∃ n7, n7 = getN b19e.nodes 3 := ⟨_, rfl⟩
  obtain ⟨i7, hi7⟩ : ∃ i7, i7 = isN b19e.nodes 3 := ⟨_, rfl⟩
  rw [← hn7, ← hi7]
  have h7 : n7.up = 1 ∧ n7.ctime = 3 ∧ n7.mtime = 3 := by rw [hn7]; exact b19_6
  obtain ⟨W8, hW8⟩ : ∃ W, W = w7.alloc (.cells #[.int .i64 n7.no, .int .i64 n7.dev, .int .i64 n7.kind, .int .i64 n7.mode, .int .i64 n7.uid, .int .i64 n7.gid, .int .i64 n7.mtime, .int .i64 n7.ctime, .int .i64 n7.links, .int .i64 n7.up, .string (bs n7.data), .slice A7 n7.ents.length k7] 100) := ⟨_, rfl⟩
  obtain ⟨b8, hb8⟩ : ∃ b, b = w7.heap.size := ⟨_, rfl⟩
  have N8 : Has W8 b8 (.cells #[.int .i64 n7.no, .int .i64 n7.dev, .int .i64 n7.kind, .int .i64 n7.mode, .int .i64 n7.uid, .int .i64 n7.gid, .int .i64 n7.mtime, .int .i64 n7.ctime, .int .i64 n7.links, .int .i64 n7.up, .string (bs n7.data), .slice A7 n7.ents.length k7] 100) := by rw [hW8, hb8]; exact Has.new _ _
  have E78 : Ext w7 W8 := by rw [hW8]; exact (Ext.refl _).alloc _
  have X8 := X6.trans (b7.trans E78)
  have H7 := Lib.hid h7
  clear hn7 hi7 h7 ok7 v0 vz E78 K6
  go_upto_region 10 with fail
  rw [← hW8, ← hb8]
  clear hW8 hb8
  have y9 : W8.cell? ⟨b8, 9, none⟩ = some (.int .i64 1) := by have := N8.cell 9; rw [← H7.out.1]; exact this
  have y7 : W8.cell? ⟨b8, 7, none⟩ = some (.int .i64 3) := by have := N8.cell 7; rw [← H7.out.2.1]; exact this
  have y6 : W8.cell? ⟨b8, 6, none⟩ = some (.int .i64 3) := by have := N8.cell 6; rw [← H7.out.2.2]; exact this
  have yz := N8.lt
  go_wp2_with fail
  go_ret
  exact Ret.mk rfl X8
end Go.Proofs.Ytebghednhjaniaa

namespace Go.Proofs.Ytebghednhjaniaa

theorem full_grow {S : TreeD} (h : (S.nodes.length : Int) = S.last) (it : ItemD) : ((growT S it).nodes.length : Int) = (growT S it).last := by
  unfold growT
  split
  · unfold mountT
    split
    · unfold rootT; simp; omega
    · exact h
  · split
    · split
      · rename_i h0
        show ((setN _ _).length : Int) = _
        rw [setN_len]
        unfold makeT
        rw [if_pos h0]
        simp only [List.length_append, List.length_singleton]
        show _ = S.last + 1
        omega
      · exact h
    · exact h
theorem full_all {S : TreeD} (h : (S.nodes.length : Int) = S.last) (l : List ItemD) : ((growAll S l).nodes.length : Int) = (growAll S l).last := by
  unfold growAll
  induction l generalizing S with
  | nil => exact h
  | cons x l ih => rw [List.foldl_cons]; exact ih (full_grow h x)
theorem full_first (b n : Int) (l : List ItemD) : ((growAll (firstT b n) l).nodes.length : Int) = (growAll (firstT b n) l).last := full_all (S := firstT b n) rfl l
theorem full_is {ns : List NodeD} {last : Int} (hu : NosUp ns last) (h : (ns.length : Int) = last) {k : Int} (h1 : 1 ≤ k) (h2 : k ≤ last) : isN ns k = true := by
  have lo : ∀ i, (hi : i < ns.length) → (i : Int) + 1 ≤ (ns[i]).no := by
    intro i
    induction i with
    | zero => intro hi; have := (hu.2 _ (List.getElem_mem hi)).1; omega
    | succ i ih =>
      intro hi
      have h3 := ih (by omega)
      have h4 := List.pairwise_iff_getElem.1 hu.1 i (i + 1) (by omega) hi (by omega)
      omega
  have up : ∀ d i, (hi : i < ns.length) → i + d + 1 = ns.length → (ns[i]).no + d ≤ last := by
    intro d
    induction d with
    | zero => intro i hi _; have := (hu.2 _ (List.getElem_mem hi)).2; omega
    | succ d ih =>
      intro i hi e
      have h3 := ih (i + 1) (by omega) (by omega)
      have h4 := List.pairwise_iff_getElem.1 hu.1 i (i + 1) hi (by omega) (by omega)
      omega
  have hk : (k - 1).toNat < ns.length := by omega
  have h5 := lo _ hk
  have h6 := up (ns.length - 1 - (k - 1).toNat) _ hk (by omega)
  have e : (ns[(k - 1).toNat]).no = k := by omega
  rw [isN_iff]
  exact ⟨_, hk, e⟩
theorem drop_len {ns : List NodeD} (no : Int) (hu : ns.Pairwise fun a b => a.no < b.no) : ns.length ≤ (dropN ns no).length + 1 ∧ (dropN ns no).length ≤ ns.length := by
  refine ⟨?_, List.length_filter_le ..⟩
  induction ns with
  | nil => simp
  | cons m ms ih =>
    obtain ⟨h1, h2⟩ := List.pairwise_cons.1 hu
    by_cases e : m.no = no
    · have e2 : dropN (m :: ms) no = ms := by
        unfold dropN
        rw [List.filter_cons_of_neg (by simpa using e), List.filter_eq_self]
        intro x hx
        have := h1 x hx
        have : x.no ≠ no := by omega
        simpa using this
      rw [e2]; simp
    · have e2 : dropN (m :: ms) no = m :: dropN ms no := by
        unfold dropN
        rw [List.filter_cons_of_pos (by simpa using e)]
      rw [e2]
      have := ih h2
      simp only [List.length_cons]; omega
theorem over_len {c : Nat} {S : TreeD} (h : Tre c S) (now no : Int) : S.nodes.length ≤ (overT S now no).nodes.length + 1 ∧ (overT S now no).nodes.length ≤ S.nodes.length := by
  unfold overT
  split
  · unfold lessT
    split
    · unfold killT
      split
      · have := drop_len (getN S.nodes no).no (h.nos.set (lessN now (getN S.nodes no))).1
        rw [setN_len] at this
        exact this
      · show _ ≤ (setN _ _).length + 1 ∧ (setN _ _).length ≤ _; rw [setN_len]; omega
    · show _ ≤ (setN _ _).length + 1 ∧ (setN _ _).length ≤ _; rw [setN_len]; omega
  · omega
theorem over_nos {c : Nat} {S : TreeD} (h : Tre c S) (now no : Int) : NosUp (overT S now no).nodes (overT S now no).last := by
  unfold overT
  split
  · unfold lessT
    split
    · unfold killT
      split
      · exact (h.nos.set _).drop _
      · exact h.nos.set _
    · exact h.nos.set _
  · exact h.nos
/-- What a move leaves. -/
theorem moved {c : Nat} {S : TreeD} (h : Tre c S) {cu cg now fr to_ : Int} {a b : List UInt8} (h0 : moveE S cu cg fr to_ a b = 0) :
    (∀ k, k ≠ findF (getN S.nodes to_).ents b → isN S.nodes k = true → isN (moveT S cu cg now fr to_ a b).nodes k = true) ∧
    (S.nodes.length ≤ (moveT S cu cg now fr to_ a b).nodes.length + 1 ∧ (moveT S cu cg now fr to_ a b).nodes.length ≤ S.nodes.length) ∧
    findF (getN (moveT S cu cg now fr to_ a b).nodes to_).ents b = findF (getN S.nodes fr).ents a ∧ Tre (c + 1) (moveT S cu cg now fr to_ a b) := by
  have hT := tre_move h cu cg now fr to_ a b
  have hle : leaveE S cu cg fr a = 0 ∧ placeE S cu cg to_ b = 0 := by
    unfold moveE moveX at h0
    split at h0
    · rename_i h1; exact absurd h0 h1
    · rename_i h1
      split at h0
      · rename_i h2; exact absurd h0 h2
      · rename_i h2; exact ⟨Decidable.not_not.1 h1, Decidable.not_not.1 h2⟩
  obtain ⟨p1, p2⟩ := hle
  obtain ⟨z1, z2, z3, z4, z5⟩ := leaveE_zero p1
  have pt := placeN_zero p2
  have nno := (isN_true z2).2.1
  by_cases hs : sameB S cu cg fr to_ a b
  · have e : moveT S cu cg now fr to_ a b = S := by unfold moveT; rw [if_neg (fun x => x.2 hs)]
    rw [e] at hT ⊢
    refine ⟨fun k _ hk => hk, by omega, ?_, hT⟩
    unfold sameB oldNo at hs
    rw [pt, z5] at hs
    rw [← (isN_true hs.1).2.1, hs.2, nno]
  · obtain ⟨it0, kt, _⟩ := placeE_zero p2
    have e : moveT S cu cg now fr to_ a b = laidT (overT S now (findF (getN S.nodes to_).ents b)) now fr to_ a b (getN S.nodes fr) (getN S.nodes (findF (getN S.nodes fr).ents a)) := by
      unfold moveT; rw [if_pos ⟨h0, hs⟩, z4, z5]; unfold oldNo; rw [pt]
    rw [e] at hT ⊢
    have hl := over_len h now (findF (getN S.nodes to_).ents b)
    obtain ⟨_, _, _, p4, _⟩ := moveE_zero h0 hs
    rw [z5] at p4
    obtain ⟨no, hno⟩ : ∃ no, no = findF (getN S.nodes fr).ents a := ⟨_, rfl⟩
    obtain ⟨old, hold⟩ : ∃ old, old = findF (getN S.nodes to_).ents b := ⟨_, rfl⟩
    rw [← hno] at p4 z2 nno hT ⊢
    rw [← hold] at hT hl ⊢
    have nto := (isN_true it0).2.1
    have mto := (isN_true it0).2.2
    have hpt := (h.nos.2 _ mto).1
    rw [nto] at hpt
    have hto : to_ ≠ old := by
      intro e
      obtain ⟨y, hy, _, hy2⟩ := findF_in (l := (getN S.nodes to_).ents) (nm := b) (by rw [← hold]; omega)
      have := (h.kin _ mto y hy).1
      rw [hy2, ← hold, nto] at this
      exact this e.symm
    have hnto : no ≠ to_ := by
      intro e
      by_cases hk : (getN S.nodes no).kind = 1
      · refine p4 ⟨hk, ?_⟩
        rw [nno, ← e]
        exact within_base (by omega) rfl
      · rw [e] at hk; exact hk kt
    obtain ⟨T, hTT⟩ : ∃ T, T = overT S now old := ⟨_, rfl⟩
    have hnT := over_nos h now old
    have hgT : ∀ k, k ≠ old → isN T.nodes k = isN S.nodes k := fun k hk => by rw [hTT]; exact (over_get h now hk).2
    rw [← hTT] at hl hnT hT ⊢
    obtain ⟨T1, hT1⟩ : ∃ T1, T1 = touchT T fr now (dropF (getN S.nodes fr).ents a) := ⟨_, rfl⟩
    have hn1 : NosUp T1.nodes T1.last := by rw [hT1]; exact hnT.set _
    have hi1 : ∀ k, isN T1.nodes k = isN T.nodes k := fun k => by rw [hT1]; show isN (setN T.nodes _) k = _; rw [isN_set]
    have hl1 : T1.nodes.length = T.nodes.length := by rw [hT1]; show (setN _ _).length = _; rw [setN_len]
    have it1 : isN T1.nodes to_ = true := by rw [hi1, hgT _ hto]; exact it0
    have nt1 := (isN_true it1).2.1
    unfold laidT at hT ⊢
    rw [← hT1] at hT ⊢
    refine ⟨fun k hk hik => ?_, ?_, ?_, hT⟩
    · show isN (setN (setN T1.nodes _) _) k = true
      rw [isN_set, isN_set, hi1, hgT k hk]; exact hik
    · show _ ≤ (setN (setN T1.nodes _) _).length + 1 ∧ (setN (setN T1.nodes _) _).length ≤ _
      rw [setN_len, setN_len, hl1]; exact hl
    · have e1 := (setN_get (S := touchT T1 to_ now (putF (getN T1.nodes to_).ents (b, (getN S.nodes no).no))) (n := laidN now to_ (getN S.nodes no)) (no := to_) (by show to_ ≠ (getN S.nodes no).no; rw [nno]; exact Ne.symm hnto)).1
      have e2 := set_self (n := touchN T1 to_ now (putF (getN T1.nodes to_).ents (b, (getN S.nodes no).no))) hn1 (by show isN T1.nodes (getN T1.nodes to_).no = true; rw [nt1]; exact it1)
      have e3 : (touchN T1 to_ now (putF (getN T1.nodes to_).ents (b, (getN S.nodes no).no))).no = to_ := nt1
      rw [e3] at e2
      rw [e1]
      show findF (getN (setT T1 (touchN T1 to_ now _)).nodes to_).ents b = no
      rw [e2]
      show findF (putF _ _) b = no
      rw [findF_put, nno]
end Go.Proofs.Ytebghednhjaniaa

namespace Go.Proofs.Ytebghednhjaniaa
open Go.ChangeShapes Go.WideShapes Go.ChangeAt Go.RowKit

attribute [local irreducible] wpQuiet
set_option maxRecDepth 100000 in
set_option maxHeartbeats 16000000 in
theorem renameOne_any (A : Option Addr) (l : List ItemD) (cap : Nat) (x : ActD) (w : World) (hA : ItemsAt w A l) (hlen : l.length ≤ 9223372036854775807) :
    Calls Try.prog 15 #[.slice A l.length cap, .agg #[.int .i64 x.kind, .int .i64 x.uid, .int .i64 x.gid, .int .i64 x.dir, .int .i64 x.no, .int .i64 x.n, .string (bs x.name), .string (bs x.text), .int .i64 x.to_, .string (bs x.as_)]] w (Ret w (.bool true)) := by
  obtain ⟨W1, hW1⟩ : ∃ W, W = w.alloc (.cells #[.int .i64 x.kind, .int .i64 x.uid, .int .i64 x.gid, .int .i64 x.dir, .int .i64 x.no, .int .i64 x.n, .string (bs x.name), .string (bs x.text), .int .i64 x.to_, .string (bs x.as_)] 64) := ⟨_, rfl⟩
  have E1 : Ext w W1 := by rw [hW1]; exact (Ext.refl _).alloc _
  have B1 : Has W1 w.heap.size (.cells #[.int .i64 x.kind, .int .i64 x.uid, .int .i64 x.gid, .int .i64 x.dir, .int .i64 x.no, .int .i64 x.n, .string (bs x.name), .string (bs x.text), .int .i64 x.to_, .string (bs x.as_)] 64) := by rw [hW1]; exact Has.new _ _
  have xc := fun i => B1.cell i
  have c0 := xc 0
  have c1 := xc 1
  have c2 := xc 2
  have c3 := xc 3
  have c4 := xc 4
  have c5 := xc 5
  have c6 := xc 6
  have c7 := xc 7
  have c8 := xc 8
  have c9 := xc 9
  simp only [List.getElem?_toArray, List.getElem?_cons_zero, List.getElem?_cons_succ] at c0 c1 c2 c3 c4 c5 c6 c7 c8 c9
  have xz := B1.lt
  obtain ⟨m, hm⟩ : ∃ m, m = l.length := ⟨_, rfl⟩
  have hlen' := hlen
  rw [← hm] at hlen' ⊢
  have HM := Lib.hid hm
  have KF : Hid (Calls Try.prog 29 #[.slice A m cap] W1 (FewR W1 l)) := by show Calls _ _ _ _ _; rw [HM.out]; exact few14_any A l cap W1 (hA.ext E1) hlen
  clear hm xc
  go_enter Try.func15, Try.ntmps15
  go_upto_region 1 with fail
  rw [← hW1]
  clear hW1
  go_wp2_with fail
  refine KF.out.mono ?_
  rintro e w2 ⟨rfl, ⟨hf, rfl⟩ | ⟨hf, rfl⟩⟩
  case inr =>
    clear hf c0 c1 c2 c3 c4 c5 c6 c7 c8 c9
    go_wp2_with fail
    refine (awake19 _).mono ?_
    rintro e wz ⟨rfl, bz⟩
    go_wp2_with fail
    go_ret
    exact Ret.mk rfl ((E1).trans bz)
  have HF := Lib.hid hf
  clear hf KF
  go_wp2_with fail
  have hX2 := Has.new W1 (.cells #[.int .i64 x.kind, .int .i64 x.uid, .int .i64 x.gid, .int .i64 x.dir, .int .i64 x.no, .int .i64 x.n, .string (bs x.name), .string (bs x.text), .int .i64 x.to_, .string (bs x.as_)] 64)
  obtain ⟨W2, hW2⟩ : ∃ W2, W2 = W1.alloc (.cells #[.int .i64 x.kind, .int .i64 x.uid, .int .i64 x.gid, .int .i64 x.dir, .int .i64 x.no, .int .i64 x.n, .string (bs x.name), .string (bs x.text), .int .i64 x.to_, .string (bs x.as_)] 64) := ⟨_, rfl⟩
  rw [← hW2] at hX2 ⊢
  have E2 : Ext W1 W2 := by rw [hW2]; exact (Ext.refl _).alloc _
  have B2 := B1.ext E2
  have EW2 : Ext w W2 := E1.trans E2
  have hacts : ActsAt W2 (some ⟨W1.heap.size, 0, none⟩) [x] := by
    refine .inr ⟨_, 0, rfl, hX2.lt, fun k hk => ?_⟩
    have : k = 0 := by simpa using hk
    subst this
    exact ⟨hX2.cell 0, hX2.cell 1, hX2.cell 2, hX2.cell 3, hX2.cell 4, hX2.cell 5, hX2.cell 6, hX2.cell 7, hX2.cell 8, hX2.cell 9⟩
  clear hW2 hX2 c0 c1 c2 c3 c4 c5 c6 c7 c8 c9 xz
  refine (fewA_any (some ⟨W1.heap.size, 0, none⟩) [x] 1 W2 hacts (by simp)).mono ?_
  rintro e w3 ⟨rfl, ⟨hfx, rfl⟩ | ⟨_, rfl⟩⟩
  case inr =>
    go_wp2_with fail
    refine (awake19 _).mono ?_
    rintro e wz ⟨rfl, bz⟩
    go_wp2_with fail
    go_ret
    exact Ret.mk rfl ((EW2).trans bz)
  have hsx := hfx.1 x (List.mem_singleton.2 rfl)
  have HSX := Lib.hid hsx
  have HB2 := Lib.hid B2
  have HX1 := Lib.hid EW2
  have hG0 := tre_growAll (b := 300) (n := 60) (by decide) HF.out
  have hga := good_all (good_first (b := 300) (n := 60) (by decide)) l
  have hl40 := HF.out.2
  have KG : Hid (Calls Try.prog 19 #[.int .i64 300, .int .i64 60, .slice A m cap] W2 (GrowAllR W2 300 60 l)) := by show Calls _ _ _ _ _; rw [HM.out]; exact growAll_any 300 60 A l cap W2 (by decide) HF.out (hA.ext EW2)
  clear hacts hfx hsx
  go_wp2_with fail
  refine KG.out.mono ?_
  rintro e w3 ⟨g, f, rfl, ⟨K3, F3⟩, E3⟩
  obtain ⟨B, hB⟩ : ∃ B, B = W2.heap.size := ⟨_, rfl⟩
  rw [← hB] at K3 F3
  obtain ⟨S, hS⟩ : ∃ S, S = growAll (firstT 300 60) l := ⟨_, rfl⟩
  rw [← hS] at K3 F3
  have hSl : S.last ≤ 41 := by
    have h2 := hga.2
    rw [hS]
    rw [show growAll (rootT emptyT 0 300 60) l = growAll (firstT 300 60) l from rfl, show (rootT emptyT 0 300 60).last = 1 from rfl] at h2
    omega
  have hT0 : Tre 40 S := by rw [hS]; exact hG0
  have hfull : (S.nodes.length : Int) = S.last := by rw [hS]; exact full_first 300 60 l
  have HFU := Lib.hid hfull
  clear hfull
  have hS1 := hT0.last
  have HB := Lib.hid hB
  have HE3 := Lib.hid E3
  have HT0 := Lib.hid hT0
  have HK3 := Lib.hid K3
  have HF3 := Lib.hid F3
  clear hS hga hG0 hl40 KG hB hT0
  have X3 := HX1.out.trans HE3.out
  have B3 := HB2.out.ext HE3.out
  obtain ⟨fr, hfr⟩ : ∃ fr, fr = nearF S.last x.dir := ⟨_, rfl⟩
  obtain ⟨to_, hto⟩ : ∃ to_, to_ = nearF S.last x.to_ := ⟨_, rfl⟩
  have KN : Hid (∀ u : Gr w3, Calls Try.prog 54 #[.pointer (some ⟨f.bF, 0, none⟩), .int .i64 x.dir] u.w (Ret u.w (.int .i64 fr))) := by
    show ∀ u : Gr w3, _
    intro u
    rw [hfr]
    exact near_any B f S x0 x.dir _ (HF3.out.ext u.h) (by omega) (by omega)
  have KM : Hid (∀ u : Gr w3, Calls Try.prog 54 #[.pointer (some ⟨f.bF, 0, none⟩), .int .i64 x.to_] u.w (Ret u.w (.int .i64 to_))) := by
    show ∀ u : Gr w3, _
    intro u
    rw [hto]
    exact near_any B f S x0 x.to_ _ (HF3.out.ext u.h) (by omega) (by omega)
  have y3 : ∀ u : Gr w3, u.w.cell? ⟨w.heap.size, 3, none⟩ = some (.int .i64 x.dir) := Gr.cell B3.lt (B3.cell 3)
  have y8 : ∀ u : Gr w3, u.w.cell? ⟨w.heap.size, 8, none⟩ = some (.int .i64 x.to_) := Gr.cell B3.lt (B3.cell 8)
  clear hfr hto
  go_upto_region 6 with fail
  refine wp_region_grow w3 (by kernel_rfl) (by kernel_rfl) (Ext.refl _).drew ?_
  repeat (quiet_step (first
    | ((with_reducible refine (KN.out _).mono ?_); rintro e w'' ⟨rfl, hEx⟩; exact ⟨rfl, ⟨w'', Ext.trans (Gr.h _) hEx⟩, rfl⟩)
    | ((with_reducible refine (KM.out _).mono ?_); rintro e w'' ⟨rfl, hEx⟩; exact ⟨rfl, ⟨w'', Ext.trans (Gr.h _) hEx⟩, rfl⟩)))
  refine wpQuiet_nil ?_
  rintro w4 ⟨⟨wy, E34⟩, h4⟩
  dsimp only at h4
  subst h4
  clear y3 y8 KN KM
  have X4 := X3.trans E34
  have B4 := B3.ext E34
  have HK4 := Lib.hid (HK3.out.ext E34)
  have HF4 := Lib.hid (HF3.out.ext E34)
  obtain ⟨Af, kf, okf, Cf⟩ := rget_fix B f S x0 fr w4 HF4.out (by have := HT0.out.count; omega) HT0.out.nos
  obtain ⟨At, kt, okt, Ct⟩ := rget_fix B f S x0 to_ w4 HF4.out (by have := HT0.out.count; omega) HT0.out.nos
  obtain ⟨d, hd⟩ : ∃ d, d = getN S.nodes fr := ⟨_, rfl⟩
  obtain ⟨t, ht⟩ : ∃ t, t = getN S.nodes to_ := ⟨_, rfl⟩
  rw [← hd] at okf Cf
  rw [← ht] at okt Ct
  obtain ⟨no, hno⟩ : ∃ no, no = findF d.ents x.name := ⟨_, rfl⟩
  obtain ⟨old, hold⟩ : ∃ old, old = findF t.ents x.as_ := ⟨_, rfl⟩
  have hdl : d.ents.length ≤ 40 := by rw [hd]; exact (HT0.out.getN fr).2
  have htl : t.ents.length ≤ 40 := by rw [ht]; exact (HT0.out.getN to_).2
  have KF1 : Hid (∀ u : Gr w4, Calls Try.prog 62 #[.slice Af d.ents.length kf, .string (bs x.name)] u.w (Ret u.w (.int .i64 no))) := by
    show ∀ u : Gr w4, _
    intro u
    rw [hno]
    exact rfind_any Af d.ents kf x.name u.w (okf.ext u.h).ents.ents (by omega)
  have KF2 : Hid (∀ u : Gr w4, Calls Try.prog 62 #[.slice At t.ents.length kt, .string (bs x.as_)] u.w (Ret u.w (.int .i64 old))) := by
    show ∀ u : Gr w4, _
    intro u
    rw [hold]
    exact rfind_any At t.ents kt x.as_ u.w (okt.ext u.h).ents.ents (by omega)
  have HCf := Lib.hid Cf
  have HCt := Lib.hid Ct
  have HDD := Lib.hid hd
  have HTT := Lib.hid ht
  have HNO := Lib.hid hno
  have HOL := Lib.hid hold
  have y6 : ∀ u : Gr w4, u.w.cell? ⟨w.heap.size, 6, none⟩ = some (.string (bs x.name)) := Gr.cell B4.lt (B4.cell 6)
  have y9 : ∀ u : Gr w4, u.w.cell? ⟨w.heap.size, 9, none⟩ = some (.string (bs x.as_)) := Gr.cell B4.lt (B4.cell 9)
  have hf1 : ∀ w', (Instr.field 100 (.agg #[.int .i64 d.no, .int .i64 d.dev, .int .i64 d.kind, .int .i64 d.mode, .int .i64 d.uid, .int .i64 d.gid, .int .i64 d.mtime, .int .i64 d.ctime, .int .i64 d.links, .int .i64 d.up, .string (bs d.data), .slice Af d.ents.length kf]) 11).run Try.prog w' = .ok (.slice Af d.ents.length kf) w' := fun w' => (field_node _ _ _ _ _ _ _ _ _ _ _ _ w').1
  have hf2 : ∀ w', (Instr.field 100 (.agg #[.int .i64 t.no, .int .i64 t.dev, .int .i64 t.kind, .int .i64 t.mode, .int .i64 t.uid, .int .i64 t.gid, .int .i64 t.mtime, .int .i64 t.ctime, .int .i64 t.links, .int .i64 t.up, .string (bs t.data), .slice At t.ents.length kt]) 11).run Try.prog w' = .ok (.slice At t.ents.length kt) w' := fun w' => (field_node _ _ _ _ _ _ _ _ _ _ _ _ w').1
  clear hd ht hno hold Cf Ct okf okt hdl htl
  go_upto_region 7 with fail
  refine wp_region_grow w4 (by kernel_rfl) (by kernel_rfl) (Ext.refl _).drew ?_
  repeat (quiet_step (first
    | ((with_reducible refine (HCf.out _ (Gr.h _)).mono ?_); rintro e w'' ⟨rfl, hEx⟩; exact ⟨rfl, ⟨w'', Ext.trans (Gr.h _) hEx⟩, rfl⟩)
    | ((with_reducible refine (HCt.out _ (Gr.h _)).mono ?_); rintro e w'' ⟨rfl, hEx⟩; exact ⟨rfl, ⟨w'', Ext.trans (Gr.h _) hEx⟩, rfl⟩)
    | ((with_reducible refine (KF1.out _).mono ?_); rintro e w'' ⟨rfl, hEx⟩; exact ⟨rfl, ⟨w'', Ext.trans (Gr.h _) hEx⟩, rfl⟩)
    | ((with_reducible refine (KF2.out _).mono ?_); rintro e w'' ⟨rfl, hEx⟩; exact ⟨rfl, ⟨w'', Ext.trans (Gr.h _) hEx⟩, rfl⟩)))
  refine wpQuiet_nil ?_
  rintro w5 ⟨⟨wy, E45⟩, h5⟩
  dsimp only at h5
  subst h5
  clear y6 y9 hf1 hf2 KF1 KF2 HCf HCt
  have X5 := X4.trans E45
  have B5 := B4.ext E45
  have HK5 := Lib.hid (HK4.out.ext E45)
  have HF5 := Lib.hid (HF4.out.ext E45)
  have HX5 := Lib.hid X5
  have HB5 := Lib.hid B5
  have HOK := Lib.hid (HT0.out.ok (by decide))
  obtain ⟨r, R⟩ := HT0.out.rank
  have HR := Lib.hid R
  have hnb : w.heap.size ∉ g.list ++ f.list := Mix.notin HK3.out HF3.out (.inl (by rw [HB.out]; have := HB2.out.lt; omega))
  have HNB := Lib.hid hnb
  have hgB : Hid (∀ b ∈ g.list, w.heap.size ≤ b) := by
    refine Lib.hid fun b hb => ?_
    have h1 : B ≤ b := (HK3.out.apart b hb).1
    have := HX1.out.size
    have := HB.out
    omega
  have k1' : w5.cell? ⟨w.heap.size, 1, none⟩ = some (.int .i64 x.uid) := B5.cell 1
  have k2' : w5.cell? ⟨w.heap.size, 2, none⟩ = some (.int .i64 x.gid) := B5.cell 2
  have k6' : w5.cell? ⟨w.heap.size, 6, none⟩ = some (.string (bs x.name)) := B5.cell 6
  have k9' : w5.cell? ⟨w.heap.size, 9, none⟩ = some (.string (bs x.as_)) := B5.cell 9
  have kz := B5.lt
  clear R hnb X5 B5 X4 B4 X3 B3
  go_wp2_with fail
  refine (pmove_any B g S r x.uid x.gid 7 fr to_ x.name x.as_ _ HK5.out HOK.out HR.out).mono ?_
  rintro e w6 ⟨rfl, K6, O6⟩
  have F6 := HF5.out.byW HK5.out O6
  have X6 : Ext w w6 := O6.after HX5.out (fun b hb => hgB.out b hb)
  have B6 := O6.has HB5.out (fun hb => HNB.out (List.mem_append_left _ hb))
  obtain ⟨mv, hmv⟩ : ∃ mv, mv = moveE S x.uid x.gid fr to_ x.name x.as_ := ⟨_, rfl⟩
  rw [← hmv]
  clear k1' k2' k6' k9' kz O6
  by_cases h0 : mv = 0
  case neg =>
    have t0 : (mv == 0) = false := by simpa using h0
    have t0b : (mv != 0) = true := by simpa using h0
    have e1 : moveT S x.uid x.gid 7 fr to_ x.name x.as_ = S := by unfold moveT; rw [if_neg (fun h => h0 (hmv.trans h.1))]
    rw [e1] at K6
    clear h0 hmv e1 B6
    go_wp2_with fail
    refine (alike_any B g f S x0 _ K6 F6 (HT0.out.fit (by decide) (by omega))).mono ?_
    rintro e w7 ⟨rfl, b7⟩
    go_wp2_with fail
    refine (awake19 _).mono ?_
    rintro e wz ⟨rfl, bz⟩
    go_wp2_with fail
    go_ret
    exact Ret.mk rfl ((X6.trans b7).trans bz)
  have t0 : (mv == 0) = true := by simpa using h0
  have t0b : (mv != 0) = false := by simpa using h0
  obtain ⟨m1, m2, m3, _⟩ := moved (now := 7) HT0.out (hmv.symm.trans h0)
  obtain ⟨T, hT⟩ : ∃ T, T = moveT S x.uid x.gid 7 fr to_ x.name x.as_ := ⟨_, rfl⟩
  rw [← hT] at K6 m1 m2 m3
  rw [← HTT.out, ← HOL.out] at m1
  rw [← HDD.out, ← HNO.out] at m3
  obtain ⟨_, _, _, m4⟩ := moved (now := 7) HT0.out (hmv.symm.trans h0)
  rw [← hT] at m4
  obtain ⟨L, hL⟩ : ∃ L : Nat, S.last = L := ⟨S.last.toNat, by omega⟩
  have M1 := Lib.hid m1
  have M2 := Lib.hid m2
  have M3 := Lib.hid m3
  have M4 := Lib.hid m4
  have HLS := Lib.hid hL
  have HL41 : Hid (L ≤ 41) := Lib.hid (by omega)
  have HK6 := Lib.hid K6
  have HF6 := Lib.hid F6
  have HX6 := Lib.hid X6
  have HB6 := Lib.hid B6
  have hc2 : w6.cell? ⟨f.bF, 2, none⟩ = some (.int .i64 L) := by
    obtain ⟨_, cn, ce, kF, _⟩ := id F6
    have := kF.cell 2
    rw [← hL]; exact this
  have HC2 := Lib.hid hc2
  have HZF := Lib.hid F6.lt.1
  clear h0 hmv m1 m2 m3 m4 hT hL K6 F6 X6 B6 hc2 hSl hS1
  go_wp2_with fail
  go_loopw [12] (fun i wr => ∃ k : Nat, i = .int .i64 k ∧ 1 ≤ k ∧ k ≤ L + 1 ∧ Ext w6 wr) (fun i _ => L + 1 - (intOf i).toNat)
  case atStart => exact ⟨1, rfl, Nat.le_refl _, by omega, Ext.refl _⟩
  case round =>
    obtain ⟨k, rfl, hk1, hk2, hE⟩ := hrel
    have HE := Lib.hid hE
    have c2 : wr.cell? ⟨f.bF, 2, none⟩ = some (.int .i64 L) := (hE.cell HZF.out).trans HC2.out
    have cz : f.bF < wr.heap.size := by have := HZF.out; have := hE.size; omega
    have K := HK6.out.ext hE
    obtain ⟨_, _, cd, hWr, _⟩ := id K
    have v0 : wr.cell? ⟨g.bW, 0, none⟩ = some (.pointer (some ⟨g.bT, 0, none⟩)) := hWr.cell 0
    have vz := hWr.lt
    clear hE hWr
    by_cases hlt : (k : Int) ≤ L
    · have tk : decide ((k : Int) ≤ (L : Int)) = true := decide_eq_true hlt
      have hk3 : k ≤ 41 := by have := HL41.out; omega
      go_wp2_with fail
      refine (tget_any B g.bT g.bM T.nodes T.last k _ K.2.1).mono ?_
      rintro e w10 ⟨A5, k5, rfl, ok5, b5⟩
      obtain ⟨i5, hi5⟩ : ∃ i5, i5 = isN T.nodes k := ⟨_, rfl⟩
      rw [← hi5]
      have hin : isN S.nodes k = true := full_is HT0.out.nos HFU.out (by omega) (by rw [HLS.out]; exact hlt)
      have hio : i5 = true ∨ (k : Int) = old := by
        by_cases e : (k : Int) = old
        · exact .inr e
        · left; rw [hi5]; exact M1.out k e hin
      have HEX := Lib.hid (HE.out.trans (b5.trans ((Ext.refl w10).alloc (.cells #[.int .i64 ((getN T.nodes k)).no, .int .i64 ((getN T.nodes k)).dev, .int .i64 ((getN T.nodes k)).kind, .int .i64 ((getN T.nodes k)).mode, .int .i64 ((getN T.nodes k)).uid, .int .i64 ((getN T.nodes k)).gid, .int .i64 ((getN T.nodes k)).mtime, .int .i64 ((getN T.nodes k)).ctime, .int .i64 ((getN T.nodes k)).links, .int .i64 ((getN T.nodes k)).up, .string (bs ((getN T.nodes k)).data), .slice A5 ((getN T.nodes k)).ents.length k5] 100))))
      clear hi5 ok5 c2 cz v0 vz K hin
      cases hi : i5
      · have ho : (k : Int) = old := by
          rcases hio with h | h
          · rw [hi] at h; cases h
          · exact h
        have s1 : ((k : Int) == old) = true := by simpa using ho
        have s2 : ((k : Int) != old) = false := by simpa using ho
        clear hio ho
        subst hi
        go_wp2_with fail
        go_roundw
        case rel => exact ⟨k + 1, by go_num, by omega, by omega, HEX.out⟩
        case measure => simp [intOf]; omega
      · clear hio
        subst hi
        go_wp2_with fail
        go_roundw
        case rel => exact ⟨k + 1, by go_num, by omega, by omega, HEX.out⟩
        case measure => simp [intOf]; omega
    · have tk : decide ((k : Int) ≤ (L : Int)) = false := decide_eq_false hlt
      go_wp2_with fail
      refine (tget_any B g.bT g.bM T.nodes T.last to_ _ K.2.1).mono ?_
      rintro e w10 ⟨A5, k5, rfl, ok5, b5⟩
      obtain ⟨n5, hn5⟩ : ∃ n5, n5 = getN T.nodes to_ := ⟨_, rfl⟩
      obtain ⟨i5, hi5⟩ : ∃ i5, i5 = isN T.nodes to_ := ⟨_, rfl⟩
      rw [← hn5] at ok5
      rw [← hn5, ← hi5]
      obtain ⟨w11, hw11⟩ : ∃ W, W = w10.alloc (.cells #[.int .i64 n5.no, .int .i64 n5.dev, .int .i64 n5.kind, .int .i64 n5.mode, .int .i64 n5.uid, .int .i64 n5.gid, .int .i64 n5.mtime, .int .i64 n5.ctime, .int .i64 n5.links, .int .i64 n5.up, .string (bs n5.data), .slice A5 n5.ents.length k5] 100) := ⟨_, rfl⟩
      obtain ⟨b15, hb15⟩ : ∃ b, b = w10.heap.size := ⟨_, rfl⟩
      have N11 : Has w11 b15 (.cells #[.int .i64 n5.no, .int .i64 n5.dev, .int .i64 n5.kind, .int .i64 n5.mode, .int .i64 n5.uid, .int .i64 n5.gid, .int .i64 n5.mtime, .int .i64 n5.ctime, .int .i64 n5.links, .int .i64 n5.up, .string (bs n5.data), .slice A5 n5.ents.length k5] 100) := by rw [hw11, hb15]; exact Has.new _ _
      have E11 : Ext w10 w11 := by rw [hw11]; exact (Ext.refl _).alloc _
      have EX := HE.out.trans (b5.trans E11)
      have ok11 := ok5.ext E11
      have HEX := Lib.hid EX
      have hfd : findF n5.ents x.as_ = no := by rw [hn5]; exact M3.out
      have hnl : n5.ents.length ≤ 41 := by rw [hn5]; exact (M4.out.getN to_).2
      have K11 := HK6.out.ext EX
      have F11 := HF6.out.ext EX
      have B11 := HB6.out.ext EX
      obtain ⟨M, hM⟩ : ∃ M, M = S.nodes.length := ⟨_, rfl⟩
      obtain ⟨M', hM'⟩ : ∃ M', M' = T.nodes.length := ⟨_, rfl⟩
      have hm2 := M2.out
      rw [← hM, ← hM'] at hm2
      have hMb : M ≤ 1000 := by rw [hM]; have := HT0.out.count; have := HLS.out; have := HL41.out; omega
      have KL : Hid (∀ u : Gr w11, Calls Try.prog 27 #[.pointer (some ⟨g.bT, 0, none⟩)] u.w (Ret u.w (.int .i64 M'))) := by
        show ∀ u : Gr w11, _
        intro u
        rw [hM']
        exact tlen_any B g.bT g.bM T.nodes T.last _ (K11.ext u.h).2.1
      have KI : Hid (∀ u : Gr w11, Calls Try.prog 62 #[.slice A5 n5.ents.length k5, .string (bs x.as_)] u.w (Ret u.w (.int .i64 no))) := by
        show ∀ u : Gr w11, _
        intro u
        have := rfind_any A5 n5.ents k5 x.as_ u.w (ok11.ext u.h).ents.ents (by omega)
        rw [hfd] at this
        exact this
      have KW : Hid (∀ u : Gr w11, Calls Try.prog 71 #[] u.w (Ret u.w (.bool true))) := by
        show ∀ u : Gr w11, _
        exact fun u => awake19 u.w
      obtain ⟨_, _, cdb, hWb, _⟩ := id K11
      obtain ⟨_, cnb, ceb, hFb, _, _⟩ := id F11
      have v1 : ∀ u : Gr w11, u.w.cell? ⟨g.bW, 0, none⟩ = some (.pointer (some ⟨g.bT, 0, none⟩)) := Gr.cell hWb.lt (hWb.cell 0)
      have f1' : w11.cell? ⟨f.bF, 0, none⟩ = some (.slice (some ⟨f.bN, 0, none⟩) M cnb) := by rw [hM]; exact hFb.cell 0
      have f1 := Gr.cell hFb.lt f1'
      have y11 : ∀ u : Gr w11, u.w.cell? ⟨b15, 11, none⟩ = some (.slice A5 n5.ents.length k5) := Gr.cell N11.lt (N11.cell 11)
      have y9 : ∀ u : Gr w11, u.w.cell? ⟨w.heap.size, 9, none⟩ = some (.string (bs x.as_)) := Gr.cell B11.lt (B11.cell 9)
      have s1 : IntKind.i64.wrap ((M : Int) - 1) = (M : Int) - 1 := wrap_i64_in (by omega) (by omega)
      have s2 : decide ((M : Int) - 1 ≤ (M' : Int)) = true := decide_eq_true (by omega)
      have s2b : decide ((M : Int) ≤ (M' : Int) + 1) = true := decide_eq_true (by omega)
      have s3 : decide ((M' : Int) ≤ (M : Int)) = true := decide_eq_true (by omega)
      have s3b : decide (M' ≤ M) = true := decide_eq_true (by omega)
      have s3c : M' ≤ M := hm2.2
      clear hn5 hi5 ok5 E11 EX hfd hnl K11 F11 B11 hM hM' hm2 hWb hFb f1' c2 cz v0 vz K ok11
      go_upto_region 17 with fail
      rw [← hw11, ← hb15]
      clear hw11 hb15
      refine wp_region_grow w11 (by kernel_rfl) (by kernel_rfl) (Ext.refl _).drew ?_
      repeat (quiet_step (first
        | ((with_reducible refine (KL.out _).mono ?_); rintro e w'' ⟨rfl, hEx⟩; exact ⟨rfl, ⟨w'', Ext.trans (Gr.h _) hEx⟩, rfl⟩)
        | ((with_reducible refine (KI.out _).mono ?_); rintro e w'' ⟨rfl, hEx⟩; exact ⟨rfl, ⟨w'', Ext.trans (Gr.h _) hEx⟩, rfl⟩)
        | ((with_reducible refine (KW.out _).mono ?_); rintro e w'' ⟨rfl, hEx⟩; exact ⟨rfl, ⟨w'', Ext.trans (Gr.h _) hEx⟩, rfl⟩)))
      refine wpQuiet_nil ?_
      rintro w12 ⟨⟨wy, E12⟩, h12⟩
      dsimp only at h12
      subst h12
      clear v1 f1 y11 y9 KL KI KW
      go_wp2_with fail
      go_ret
      exact Ret.mk rfl ((HX6.out.trans HEX.out).trans E12)
set_option maxRecDepth 100000 in
theorem renameOne_walk {H : Type} {enc : TypeId × Value → H} (W : World) (base : Nat) (v0 v1 : Value) (d0 d1 : DataW H) (p0 p1 : List MemPlace)
    (k0 : Value.okWide Try.prog W .any base 24 v0) (h0 : DataW.Trod enc Try.prog W 0 (fun _ => true) true 24 v0 d0 p0)
    (k1 : Value.okWide Try.prog W .any base 64 v1) (h1 : DataW.Trod enc Try.prog W 0 (fun _ => true) true 64 v1 d1 p1)
    : Calls Try.prog 15 #[v0, v1] W (Ret W (.bool true)) := by
  obtain ⟨A, l, cap, rfl, hA, _, hl, hc⟩ := open_Items k0 h0
  obtain ⟨x, rfl⟩ := open_Act k1 h1
  exact renameOne_any A l cap x W hA (by unfold maxLen at hc; omega)
end Go.Proofs.Ytebghednhjaniaa
