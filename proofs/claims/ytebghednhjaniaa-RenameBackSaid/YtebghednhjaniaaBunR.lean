/- Plain: what is made, and taken away again. | Plain, for RenameBack: a grown tree's directories are listed by what lies above them alone; a move to a free name and back leaves the tree but for times. | A region that draws its order: its first n operations quiet in a class of worlds, the operation behind them waiting for all of them; the rest in whatever order they come up. | The law RenameBack, walked. (Printed by gen_renq.py.) -/
import Derived.Test.YtebghednhjaniaaBunL
import Derived.Test.YtebghednhjaniaaBunQ
import Derived.Test.YtebghednhjaniaaBunB
import Derived.Test.YtebghednhjaniaaBunK
import Derived.Test.YtebghednhjaniaaBunD
import Derived.Test.YtebghednhjaniaaBunG
namespace Go.Proofs.Ytebghednhjaniaa

theorem split_rise {l : List EntD} {nm : List UInt8} (hr : Rise l) (hx : ∀ x ∈ l, x.1 ≠ nm) : lessF l nm ++ moreF l nm = l := by
  induction l with
  | nil => rfl
  | cons x l ih =>
    obtain ⟨h1, h2⟩ := rise_cons.1 hr
    have hi := ih h2 fun y hy => hx y (List.mem_cons_of_mem _ hy)
    unfold lessF moreF at hi ⊢
    rcases bl_tri x.1 nm with g | g | g
    · have g2 := bl_asymm g
      rw [List.filter_cons_of_pos (by simpa using g), List.filter_cons_of_neg (by rw [g2]; decide), List.cons_append, hi]
    · exact absurd g (hx x (List.mem_cons_self ..))
    · have g2 := bl_asymm g
      have e1 : (l.filter fun x => bl x.1 nm) = [] := filter_none fun y hy => bl_asymm (bl_trans g (h1 y hy))
      have e2 : (l.filter fun x => bl nm x.1) = l := filter_all fun y hy => bl_trans g (h1 y hy)
      rw [List.filter_cons_of_neg (by rw [g2]; decide), List.filter_cons_of_pos (by simpa using g), e1, e2]; rfl
theorem drop_put {l : List EntD} {nm : List UInt8} (no : Int) (hr : Rise l) (hx : ∀ x ∈ l, x.1 ≠ nm) : dropF (putF l (nm, no)) nm = l := by
  have e0 := split_rise hr hx
  unfold dropF putF
  rw [List.filter_append, List.filter_append]
  have e1 : (lessF l nm).filter (fun x => !(x.1 == nm)) = lessF l nm := filter_all fun x h => by
    have := hx x (List.mem_filter.1 h).1
    simpa using this
  have e2 : (moreF l nm).filter (fun x => !(x.1 == nm)) = moreF l nm := filter_all fun x h => by
    have := hx x (List.mem_filter.1 h).1
    simpa using this
  have e3 : [((nm, no) : EntD)].filter (fun x => !(x.1 == nm)) = [] := by simp
  show (lessF l nm).filter _ ++ _ ++ (moreF l nm).filter _ = l
  rw [e1, e2, e3, List.append_nil, e0]
theorem setN_setN {ns : List NodeD} {a b : NodeD} (h : a.no = b.no) : setN (setN ns a) b = setN ns b := by
  unfold setN
  rw [List.map_map]
  apply List.map_congr_left
  intro m _
  simp only [Function.comp]
  by_cases e : m.no = b.no
  · have e1 : (m.no == a.no) = true := by rw [h]; simpa using e
    have e2 : (m.no == b.no) = true := by simpa using e
    have e3 : (a.no == b.no) = true := by simpa using h
    rw [if_pos e1, if_pos e2, if_pos e3]
  · have e1 : ¬ (m.no == a.no) = true := by rw [h]; simpa using e
    have e2 : ¬ (m.no == b.no) = true := by simpa using e
    rw [if_neg e1, if_neg e2]
theorem setN_snoc {ns : List NodeD} {n b : NodeD} (h : n.no ≠ b.no) : setN (ns ++ [n]) b = setN ns b ++ [n] := by
  unfold setN
  rw [List.map_append, List.map_cons, List.map_nil, if_neg (by simpa using h)]
theorem dropN_snoc {ns : List NodeD} {n : NodeD} {last : Int} (hu : NosUp ns last) (h : last < n.no) : dropN (ns ++ [n]) n.no = ns := by
  unfold dropN
  rw [List.filter_append, List.filter_eq_self.2 (fun m hm => by have := (hu.2 m hm).2; have : m.no ≠ n.no := by omega
                                                                simpa using this)]
  simp
theorem dev_setQ {ds : List DevD} {d : Int} (q : SpaceD) (hd : hasD ds d = true) : (devN (setQ ds d q) d).q = q := by
  unfold hasD at hd
  rw [Bool.and_eq_true, decide_eq_true_eq, decide_eq_true_eq] at hd
  have hk : (d - 1).toNat < ds.length := by omega
  unfold devN setQ
  rw [List.getD_eq_getElem?_getD, List.getElem?_modify, List.getElem?_eq_getElem hk]
  simp
theorem take_back {q : SpaceD} {b : Int} (h : takeE q b 1 = 0) : takeQ (takeQ q b 1) (-b) (-1) = q := by
  unfold takeQ
  rw [if_pos h]
  have h2 : takeE (moreQ q b 1) (-b) (-1) = 0 := by
    unfold takeE at h ⊢
    split at h
    · rename_i h1
      obtain ⟨h1, h3⟩ := h1
      rw [fineF_iff] at h1
      split at h
      · cases h
      · split at h
        · cases h
        · split at h
          · cases h
          · have f2 : fineF (moreQ q b 1) = true := by
              rw [fineF_iff]
              unfold Fine moreQ at *
              simp only
              omega
            unfold inR at h3
            unfold Fine at h1
            rw [if_pos ⟨f2, by unfold inR; omega⟩]
            unfold moreQ
            simp only
            rw [if_neg (by omega), if_neg (by omega), if_neg (by omega)]
    · cases h
  rw [if_pos h2]
  unfold moreQ
  simp only
  cases q
  simp only [SpaceD.mk.injEq, and_true]
  constructor <;> omega
theorem over_new {c : Nat} {S : TreeD} (h : Tre c S) {ds : List DevD} (hds : ds.map (·.over) = S.devs.map (·.over)) : overF ds (S.last + 1) = S.last + 1 := by
  unfold overF
  split
  · rename_i h1
    have : ds.find? (fun d => d.over == S.last + 1) = none := by
      rw [List.find?_eq_none]
      intro d hd he
      have hm : d.over ∈ S.devs.map (·.over) := by rw [← hds]; exact List.mem_map_of_mem hd
      rw [List.mem_map] at hm
      obtain ⟨d', hd', e'⟩ := hm
      have he' : d'.over = S.last + 1 := by rw [e']; simpa using he
      obtain ⟨k, hk, rfl⟩ := List.getElem_of_mem hd'
      have hl := h.last
      cases k with
      | zero => rw [h.over0 hk] at he'; omega
      | succ k =>
        obtain ⟨m, hm, e, _⟩ := h.overs k hk
        have := (h.nos.2 m hm).2
        omega
    rw [this]
  · rfl
theorem overs_setQ (ds : List DevD) (d : Int) (q : SpaceD) : (setQ ds d q).map (·.over) = ds.map (·.over) := by
  unfold setQ
  apply List.ext_getElem?
  intro i
  rw [List.getElem?_map, List.getElem?_map, List.getElem?_modify]
  cases ds[i]? with
  | none => rfl
  | some x =>
    show some _ = some _
    split <;> rfl
/-- What is made can be taken away by whoever made it; what is left. -/
theorem back {c : Nat} {S : TreeD} (h : Tre c S) {cu cg dir : Int} {nm : List UInt8} {n : NodeD} (h0 : comeE S cu cg 3 dir nm n = 0) (he : n.ents = []) :
    leaveE (comeT S cu cg 3 dir nm n) cu cg dir nm = 0 ∧ (leaveN (comeT S cu cg 3 dir nm n) cu cg dir nm).kind = n.kind ∧ (leaveN (comeT S cu cg 3 dir nm n) cu cg dir nm).ents = [] ∧
    (goneT (comeT S cu cg 3 dir nm n) 4 (leaveD (comeT S cu cg 3 dir nm n) cu cg dir nm) (leaveN (comeT S cu cg 3 dir nm n) cu cg dir nm) nm).nodes = setN S.nodes { getN S.nodes dir with mtime := 4, ctime := 4 } ∧
    useF (goneT (comeT S cu cg 3 dir nm n) 4 (leaveD (comeT S cu cg 3 dir nm n) cu cg dir nm) (leaveN (comeT S cu cg 3 dir nm n) cu cg dir nm) nm).devs (getN S.nodes dir).dev = useF S.devs (getN S.nodes dir).dev := by
  obtain ⟨hp, hf, hmk⟩ := comeE_zero h0
  obtain ⟨hi, hkd, hc⟩ := placeE_zero hp
  obtain ⟨_, hno, hmem⟩ := isN_true hi
  have hon := (h.on _ hmem).1
  have hlt := (h.nos.2 _ hmem).2
  rw [hno] at hlt
  have hx := putF_find (fun x hx => (h.pos _ hmem x hx).1) hf
  obtain ⟨N, hN⟩ : ∃ N : NodeD, N = { newN S cu cg 3 dir n with no := S.last + 1 } := ⟨_, rfl⟩
  obtain ⟨b, hb⟩ : ∃ b, b = blocksF n.kind n.data.length := ⟨_, rfl⟩
  obtain ⟨d, hd⟩ : ∃ d, d = (getN S.nodes dir).dev := ⟨_, rfl⟩
  obtain ⟨D1, hD1⟩ : ∃ D1 : NodeD, D1 = { getN S.nodes dir with ents := putF (getN S.nodes dir).ents (nm, S.last + 1), mtime := 3, ctime := 3 } := ⟨_, rfl⟩
  obtain ⟨D2, hD2⟩ : ∃ D2 : NodeD, D2 = { getN S.nodes dir with mtime := 4, ctime := 4 } := ⟨_, rfl⟩
  have hNno : N.no = S.last + 1 := by rw [hN]
  have hD1no : D1.no = dir := by rw [hD1]; exact hno
  have hD2no : D2.no = dir := by rw [hD2]; exact hno
  have hte : takeE (devN S.devs d).q b 1 = 0 := by
    unfold makeE at hmk
    split at hmk
    · cases hmk
    · rw [hd, hb]; exact hmk
  have hM : makeT S (newN S cu cg 3 dir n) = ⟨S.nodes ++ [N], setQ S.devs d (takeQ (devN S.devs d).q b 1), S.last + 1⟩ := by
    unfold makeT
    rw [if_pos hmk, hN, hd, hb]; rfl
  have hT : comeT S cu cg 3 dir nm n = ⟨setN S.nodes D1 ++ [N], setQ S.devs d (takeQ (devN S.devs d).q b 1), S.last + 1⟩ := by
    unfold comeT
    rw [if_pos h0]
    have e1 := (getN_make h.nos (newN S cu cg 3 dir n) hi).1
    unfold touchT touchN
    rw [e1, hM]
    unfold setT
    rw [← hD1, setN_snoc (by rw [hNno, hD1no]; omega)]
  rw [hT]
  obtain ⟨T1, hT1⟩ : ∃ T1 : TreeD, T1 = ⟨setN S.nodes D1 ++ [N], setQ S.devs d (takeQ (devN S.devs d).q b 1), S.last + 1⟩ := ⟨_, rfl⟩
  rw [← hT1]
  have hu1 : NosUp T1.nodes T1.last := by rw [hT1]; exact (h.nos.set D1).add N hNno (by have := h.last; omega)
  have gN : getN T1.nodes (S.last + 1) = N ∧ isN T1.nodes (S.last + 1) = true := by
    have := mem_getN hu1 (n := N) (by rw [hT1]; exact List.mem_append_right _ (List.mem_singleton.2 rfl))
    rw [hNno] at this; exact this
  have gD : getN T1.nodes dir = D1 ∧ isN T1.nodes dir = true := by
    have hm := set_has (n := D1) hmem
    rw [if_pos (by rw [hno, hD1no])] at hm
    have := mem_getN hu1 (n := D1) (by rw [hT1]; exact List.mem_append_left _ hm)
    rw [hD1no] at this; exact this
  have hfd : findF D1.ents nm = S.last + 1 := by rw [hD1]; exact findF_put _ _ _
  have hpl : placeE T1 cu cg dir nm = 0 := by
    have e : placeE T1 cu cg dir nm = placeE S cu cg dir nm := by
      unfold placeE
      rw [gD.2, gD.1, hi, hD1]
    rw [e]; exact hp
  have hov : overF T1.devs (S.last + 1) = S.last + 1 := over_new h (by rw [hT1]; exact overs_setQ _ _ _)
  have hNu : N.uid = cu := by rw [hN]; rfl
  have hlv : leaveE T1 cu cg dir nm = 0 := by
    unfold leaveE
    rw [hpl, gD.1, hfd, gN.2, hov, gN.1, hNu]
    have : freeB cu D1.mode D1.uid cu = true := by
      unfold freeB ownsB
      simp
    rw [this]
    simp
  have eN : leaveN T1 cu cg dir nm = N := by unfold leaveN; rw [if_pos hlv, gD.1, hfd, gN.1]
  have eD : leaveD T1 cu cg dir nm = D1 := by unfold leaveD; rw [if_pos hlv, gD.1]
  rw [eN, eD]
  refine ⟨hlv, by rw [hN]; rfl, by rw [hN]; exact he, ?_⟩
  have hto : touchT T1 D1.no 4 (dropF D1.ents nm) = ⟨setN S.nodes D2 ++ [N], setQ S.devs d (takeQ (devN S.devs d).q b 1), S.last + 1⟩ := by
    rw [hD1no]
    unfold touchT touchN
    rw [gD.1]
    have e : dropF D1.ents nm = (getN S.nodes dir).ents := by rw [hD1]; exact drop_put _ (h.rise _ hmem) hx
    rw [e]
    have e2 : ({ D1 with ents := (getN S.nodes dir).ents, mtime := 4, ctime := 4 } : NodeD) = D2 := by rw [hD1, hD2]
    rw [e2, hT1]
    unfold setT
    rw [setN_snoc (by rw [hNno, hD2no]; omega), setN_setN (by rw [hD1no, hD2no])]
  obtain ⟨T2, hT2⟩ : ∃ T2 : TreeD, T2 = ⟨setN S.nodes D2 ++ [N], setQ S.devs d (takeQ (devN S.devs d).q b 1), S.last + 1⟩ := ⟨_, rfl⟩
  have hu2 : NosUp T2.nodes T2.last := by rw [hT2]; exact (h.nos.set D2).add N hNno (by have := h.last; omega)
  have gN2 : getN T2.nodes (S.last + 1) = N ∧ isN T2.nodes (S.last + 1) = true := by
    have := mem_getN hu2 (n := N) (by rw [hT2]; exact List.mem_append_right _ (List.mem_singleton.2 rfl))
    rw [hNno] at this; exact this
  have hNd : N.dev = d := by rw [hN, hd]; rfl
  have hrt : rootF T2.devs N.dev ≠ S.last + 1 := by
    rw [hT2, hNd]
    show rootF (setQ S.devs d _) d ≠ _
    rw [rootQ]
    have : rootF S.devs d ≤ S.last := by
      rcases rootF_zero h.roots d with ⟨e1, _⟩ | ⟨k, hk, _, _, _, e4, _⟩
      · rw [e1]; have := h.last; omega
      · rw [e4]
        obtain ⟨m, hm, e, _⟩ := h.rootsIn k hk
        rw [← e]; exact (h.nos.2 m hm).2
    omega
  have hkb : killB T2 (S.last + 1) = true := by
    unfold killB
    rw [gN2.2, gN2.1]
    simpa using hrt
  have hle : goneT T1 4 D1 N nm = killT T2 (S.last + 1) := by
    unfold goneT
    rw [hto, ← hT2]
    unfold lessT
    have hl1 : N.links = 1 := by rw [hN]; rfl
    rw [if_pos (by omega)]
    have := kill_set hu2 (n := lessN 4 N) (by show killB T2 N.no = true; rw [hNno]; exact hkb) (by show isN T2.nodes N.no = true; rw [hNno]; exact gN2.2) (by show N.dev = (getN T2.nodes N.no).dev; rw [hNno, gN2.1]) (by show N.kind = (getN T2.nodes N.no).kind; rw [hNno, gN2.1]) (by show N.data = (getN T2.nodes N.no).data; rw [hNno, gN2.1])
    have e2 : (lessN 4 N).no = S.last + 1 := hNno
    rw [e2] at this
    rw [hNno]; exact this
  rw [hle]
  unfold killT
  rw [if_pos hkb]
  refine ⟨?_, ?_⟩
  · have := dropN_snoc (n := N) (h.nos.set D2) (by rw [hNno]; omega)
    rw [hNno] at this
    show dropN T2.nodes (S.last + 1) = _
    rw [hT2, ← hD2]; exact this
  · show useF (killQ T2 (getN T2.nodes (S.last + 1))) (getN S.nodes dir).dev = _
    rw [gN2.1, ← hd]
    unfold killQ useF
    have hh : ∀ q, hasD (setQ T2.devs N.dev q) d = true := fun q => by
      rw [hasD_len (setQ_len _ _ _), hT2, hasD_len (setQ_len _ _ _), hd]; exact hon
    rw [← hd] at hon
    rw [if_pos (hh _), if_pos hon, hNd]
    have hh2 : hasD T2.devs d = true := by rw [hT2, hasD_len (setQ_len _ _ _)]; exact hon
    rw [dev_setQ _ hh2]
    have e5 : (devN T2.devs d).q = takeQ (devN S.devs d).q b 1 := by rw [hT2]; exact dev_setQ _ hon
    have e6 : blocksF N.kind N.data.length = b := by rw [hN, hb]; rfl
    rw [e5, e6]
    exact take_back hte
end Go.Proofs.Ytebghednhjaniaa

namespace Go.Proofs.Ytebghednhjaniaa

/-- A directory is listed only by the one that it names as above it. -/
def ListUp (S : TreeD) : Prop := ∀ m ∈ S.nodes, ∀ x ∈ m.ents, ∀ q ∈ S.nodes, q.no = x.2 → q.kind = 1 → q.up = m.no
theorem listUp_root {c : Nat} {S : TreeD} (h : Tre c S) (hl : ListUp S) (over b n : Int) : ListUp (rootT S over b n) := by
  intro m hm x hx q hq e hk
  rcases List.mem_append.1 hm with hm | hm
  · have hp := (h.pos m hm x hx).2
    rcases List.mem_append.1 hq with hq | hq
    · exact hl m hm x hx q hq e hk
    · rw [List.mem_singleton] at hq
      subst hq
      have e2 : S.last + 1 = x.2 := e
      omega
  · rw [List.mem_singleton] at hm
    subst hm
    cases hx
theorem listUp_grow {c : Nat} {S : TreeD} (h : Tre c S) (hl : ListUp S) (it : ItemD) : ListUp (growT S it) := by
  unfold growT
  split
  · unfold mountT
    split
    · exact listUp_root h hl _ _ _
    · exact hl
  · split
    · rename_i hc
      split
      · rename_i h0
        obtain ⟨at_, hat⟩ : ∃ a, a = atI S it := ⟨_, rfl⟩
        have hkd : (getN S.nodes at_).kind = 1 := by
          unfold comesI at hc
          simp only [Bool.and_eq_true, decide_eq_true_eq] at hc
          rw [hat]; exact hc.1.1.1.1
        obtain ⟨hia, hna, hma⟩ := getN_node hkd
        have hmk : (makeT S (nodeI S it)).nodes = S.nodes ++ [{ nodeI S it with no := S.last + 1 }] := by unfold makeT; rw [if_pos h0]
        obtain ⟨N, hN⟩ : ∃ N : NodeD, N = { nodeI S it with no := S.last + 1 } := ⟨_, rfl⟩
        have hNno : N.no = S.last + 1 := by rw [hN]
        have hNe : N.ents = [] := by rw [hN]; rfl
        have hNup : N.kind = 1 → N.up = at_ := by
          intro hk
          rw [hN] at hk ⊢
          show (if it.kind = 1 then atI S it else 0) = at_
          have hk' : it.kind = 1 := hk
          rw [if_pos hk', hat]
        rw [← hN] at hmk
        rw [← hat]
        obtain ⟨D, hD⟩ : ∃ D : NodeD, D = { getN S.nodes at_ with ents := putF (getN S.nodes at_).ents (it.name, S.last + 1) } := ⟨_, rfl⟩
        have hDno : D.no = at_ := by rw [hD]; exact hna
        have hDup : D.up = (getN S.nodes at_).up := by rw [hD]
        have hDe : D.ents = putF (getN S.nodes at_).ents (it.name, S.last + 1) := by rw [hD]
        rw [← hD]
        have hle : at_ ≤ S.last := by have := (h.nos.2 _ hma).2; omega
        -- whatever is listed by an old directory
        have key : ∀ m0 ∈ S.nodes, ∀ x ∈ m0.ents, ∀ q ∈ (setT (makeT S (nodeI S it)) D).nodes, q.no = x.2 → q.kind = 1 → q.up = m0.no := by
          intro m0 hm0 x hx q hq e hk
          have hp := (h.pos m0 hm0 x hx).2
          rcases mem_setT hq with ⟨hq, _⟩ | rfl
          · rw [hmk] at hq
            rcases List.mem_append.1 hq with hq | hq
            · exact hl m0 hm0 x hx q hq e hk
            · rw [List.mem_singleton] at hq
              subst hq
              omega
          · rw [hDup]
            exact hl m0 hm0 x hx _ hma (by rw [hna, ← hDno]; exact e) hkd
        intro m hm x hx q hq e hk
        rcases mem_setT hm with ⟨hm, _⟩ | rfl
        · rw [hmk] at hm
          rcases List.mem_append.1 hm with hm | hm
          · exact key m hm x hx q hq e hk
          · rw [List.mem_singleton] at hm
            subst hm
            rw [hNe] at hx; cases hx
        · rw [hDno]
          rw [hDe] at hx
          rcases mem_putF hx with hx | rfl
          · rw [← hna]; exact key _ hma x hx q hq e hk
          · rcases mem_setT hq with ⟨hq, _⟩ | hqD
            · rw [hmk] at hq
              rcases List.mem_append.1 hq with hq | hq
              · have := (h.nos.2 q hq).2
                have e2 : q.no = S.last + 1 := e
                omega
              · rw [List.mem_singleton] at hq
                subst hq
                exact hNup hk
            · have e2 : q.no = S.last + 1 := e
              rw [hqD, hDno] at e2
              omega
      · exact hl
    · exact hl
theorem listUp_all {c : Nat} {S : TreeD} (h : Tre c S) (hl : ListUp S) (l : List ItemD) (hs : ∀ x ∈ l, shortI x) : ListUp (growAll S l) := by
  unfold growAll
  induction l generalizing S c with
  | nil => exact hl
  | cons x l ih => rw [List.foldl_cons]; exact ih (tre_grow h x (hs x (List.mem_cons_self ..))) (listUp_grow h hl x) fun y hy => hs y (List.mem_cons_of_mem _ hy)
theorem listUp_first {b n : Int} (hb : limitsF b n = true) {l : List ItemD} (hf : FewI l) : ListUp (growAll (rootT emptyT 0 b n) l) := by
  refine listUp_all (tre_first hb) ?_ l hf.1
  intro m hm x hx
  have hm' : m ∈ [rootNode emptyT] := hm
  rw [List.mem_singleton] at hm'
  subst hm'
  cases hx
/-- A name that goes and comes again. -/
theorem put_drop {l : List EntD} {nm : List UInt8} {no : Int} (hr : Rise l) (hm : (nm, no) ∈ l) : putF (dropF l nm) (nm, no) = l := by
  induction l with
  | nil => cases hm
  | cons x l ih =>
    obtain ⟨h1, h2⟩ := rise_cons.1 hr
    unfold putF lessF moreF dropF at ih ⊢
    rcases bl_tri x.1 nm with g | g | g
    · have hne : x.1 ≠ nm := bl_ne g
      have hml : (nm, no) ∈ l := by
        rcases List.mem_cons.1 hm with e | e
        · rw [← e] at hne; exact absurd rfl hne
        · exact e
      have hi := ih h2 hml
      have g2 := bl_asymm g
      rw [List.filter_cons_of_pos (by simpa using hne), List.filter_cons_of_pos (by simpa using g), List.filter_cons_of_neg (by show ¬ bl nm x.1 = true; rw [g2]; decide), List.cons_append, List.cons_append, hi]
    · have hxe : x = (nm, no) := by
        rcases List.mem_cons.1 hm with e | e
        · exact e.symm
        · have := h1 _ e
          rw [g] at this
          rw [bl_irrefl] at this; cases this
      subst hxe
      have e0 : (l.filter fun y => !(y.1 == nm)) = l := filter_all fun y hy => by
        have := bl_ne (h1 y hy)
        simpa using Ne.symm this
      have e1 : (l.filter fun x => bl x.1 nm) = [] := filter_none fun y hy => bl_asymm (h1 y hy)
      have e2 : (l.filter fun x => bl nm x.1) = l := filter_all fun y hy => h1 y hy
      rw [List.filter_cons_of_neg (by simp), e0]
      show (l.filter fun x => bl x.1 nm) ++ [(nm, no)] ++ (l.filter fun x => bl nm x.1) = _
      rw [e1, e2]; rfl
    · exfalso
      rcases List.mem_cons.1 hm with e | e
      · rw [← e] at g
        rw [bl_irrefl] at g; cases g
      · have := h1 _ e
        rw [bl_asymm g] at this; cases this
theorem touch_get {S : TreeD} (hu : NosUp S.nodes S.last) {dir now : Int} {l : List EntD} (hi : isN S.nodes dir = true) :
    getN (touchT S dir now l).nodes dir = touchN S dir now l ∧ (∀ k, k ≠ dir → getN (touchT S dir now l).nodes k = getN S.nodes k) ∧ ∀ k, isN (touchT S dir now l).nodes k = isN S.nodes k := by
  have nd := (isN_true hi).2.1
  have e : (touchN S dir now l).no = dir := nd
  refine ⟨?_, fun k hk => ?_, fun k => ?_⟩
  · have := set_self (n := touchN S dir now l) hu (by rw [e]; exact hi)
    rw [e] at this
    exact this
  · exact (setN_get (n := touchN S dir now l) (by rw [e]; exact hk)).1
  · show isN (setN S.nodes _) k = _
    rw [isN_set]
/-- What a move without anything in its place leaves. -/
theorem laid_get {S : TreeD} (hu : NosUp S.nodes S.last) {now fr to_ no : Int} (a b : List UInt8) (hf : isN S.nodes fr = true) (ht : isN S.nodes to_ = true) (hn : isN S.nodes no = true) (h1 : no ≠ fr) (h2 : no ≠ to_)
    {T : TreeD} (hT : T = laidT S now fr to_ a b (getN S.nodes fr) (getN S.nodes no)) :
    NosUp T.nodes T.last ∧ T.devs = S.devs ∧ T.last = S.last ∧ (∀ k, isN T.nodes k = isN S.nodes k) ∧ getN T.nodes no = laidN now to_ (getN S.nodes no) ∧ (∀ k, k ≠ fr → k ≠ to_ → k ≠ no → getN T.nodes k = getN S.nodes k) ∧
    (fr ≠ to_ → getN T.nodes fr = touchN S fr now (dropF (getN S.nodes fr).ents a) ∧ getN T.nodes to_ = touchN S to_ now (putF (getN S.nodes to_).ents (b, no))) ∧
    (fr = to_ → getN T.nodes fr = touchN S fr now (putF (dropF (getN S.nodes fr).ents a) (b, no))) := by
  have nno := (isN_true hn).2.1
  unfold laidT at hT
  rw [nno] at hT
  obtain ⟨T1, hT1⟩ : ∃ T1, T1 = touchT S fr now (dropF (getN S.nodes fr).ents a) := ⟨_, rfl⟩
  rw [← hT1] at hT
  have hu1 : NosUp T1.nodes T1.last := by rw [hT1]; exact hu.set _
  obtain ⟨p1, p2, p3⟩ := touch_get (now := now) (l := dropF (getN S.nodes fr).ents a) hu hf
  rw [← hT1] at p1 p2 p3
  obtain ⟨T2, hT2⟩ : ∃ T2, T2 = touchT T1 to_ now (putF (getN T1.nodes to_).ents (b, no)) := ⟨_, rfl⟩
  rw [← hT2] at hT
  have hu2 : NosUp T2.nodes T2.last := by rw [hT2]; exact hu1.set _
  obtain ⟨q1, q2, q3⟩ := touch_get (S := T1) (now := now) (l := putF (getN T1.nodes to_).ents (b, no)) hu1 (dir := to_) (by rw [p3]; exact ht)
  rw [← hT2] at q1 q2 q3
  have eno : (laidN now to_ (getN S.nodes no)).no = no := nno
  have r1 : getN T.nodes no = laidN now to_ (getN S.nodes no) := by
    have := set_self (S := T2) (n := laidN now to_ (getN S.nodes no)) hu2 (by rw [eno, q3, p3]; exact hn)
    rw [eno] at this
    rw [hT]; exact this
  have r2 : ∀ k, k ≠ no → getN T.nodes k = getN T2.nodes k := fun k hk => by
    rw [hT]
    exact (setN_get (S := T2) (n := laidN now to_ (getN S.nodes no)) (by rw [eno]; exact hk)).1
  refine ⟨by rw [hT]; exact hu2.set _, by rw [hT, hT2, hT1]; rfl, by rw [hT, hT2, hT1]; rfl, fun k => ?_, r1, fun k k1 k2 k3 => ?_, fun hne => ⟨?_, ?_⟩, fun he => ?_⟩
  · rw [hT]
    show isN (setN T2.nodes _) k = _
    rw [isN_set, q3, p3]
  · rw [r2 k k3, q2 k k2, p2 k k1]
  · rw [r2 fr (Ne.symm h1), q2 fr hne, p1]
  · rw [r2 to_ (Ne.symm h2), q1]
    unfold touchN
    rw [p2 to_ (Ne.symm hne)]
  · subst he
    rw [r2 fr (Ne.symm h1), q1]
    unfold touchN
    rw [p1]
    rfl
/-- The times that a move and its way back may change. -/
def clearN (fr to_ no k : Int) (n : NodeD) : NodeD := { n with mtime := if k = fr ∨ k = to_ then 0 else n.mtime, ctime := if k = no then 0 else if k = fr ∨ k = to_ then 0 else n.ctime }
theorem free0 (m o n : Int) : freeB 0 m o n = true := by
  unfold freeB ownsB
  simp
theorem findF_none {l : List EntD} {nm : List UInt8} (h : ∀ x ∈ l, x.1 ≠ nm) : findF l nm = 0 := by
  unfold findF
  rw [show l.find? (fun x => x.1 == nm) = none from List.find?_eq_none.2 fun x hx => by simpa using h x hx]
theorem move_facts {c : Nat} {S : TreeD} (h : Tre c S) {cu cg now fr to_ : Int} {a b : List UInt8} (hf : findF (getN S.nodes to_).ents b = 0) (h0 : moveE S cu cg fr to_ a b = 0) {no : Int} (hno : no = findF (getN S.nodes fr).ents a) :
    isN S.nodes fr = true ∧ isN S.nodes to_ = true ∧ isN S.nodes no = true ∧ (getN S.nodes fr).kind = 1 ∧ (getN S.nodes to_).kind = 1 ∧ checkN a = 0 ∧ checkN b = 0 ∧ no ≠ fr ∧ no ≠ to_ ∧ overF S.devs no = no ∧ (getN S.nodes fr).dev = (getN S.nodes to_).dev ∧ (a, no) ∈ (getN S.nodes fr).ents ∧
    moveT S cu cg now fr to_ a b = laidT S now fr to_ a b (getN S.nodes fr) (getN S.nodes no) := by
  have hz : isN S.nodes 0 = false := h.nos.zero (.inl (by decide))
  have hle : leaveE S cu cg fr a = 0 ∧ placeE S cu cg to_ b = 0 := by
    unfold moveE moveX at h0
    split at h0
    · rename_i h1; exact absurd h0 h1
    · rename_i h1
      split at h0
      · rename_i h2; exact absurd h0 h2
      · rename_i h2; exact ⟨Decidable.not_not.1 h1, Decidable.not_not.1 h2⟩
  obtain ⟨p1, p2⟩ := hle
  obtain ⟨z1, z2, z3, z4, z5⟩ := leaveE_zero p1
  obtain ⟨if0, kf, ca⟩ := placeE_zero z1
  obtain ⟨it0, kt, cb⟩ := placeE_zero p2
  have pt := placeN_zero p2
  have hold : oldNo S cu cg to_ b = 0 := by unfold oldNo; rw [pt]; exact hf
  have hs : ¬ sameB S cu cg fr to_ a b := by unfold sameB; rw [hold, hz]; exact fun x => by cases x.1
  obtain ⟨_, _, v3, v4, _⟩ := moveE_zero h0 hs
  rw [z4, pt] at v3
  rw [z5] at v4
  rw [← hno] at z2 z3 z5 v4
  have mfr := (isN_true if0).2.2
  have nfr := (isN_true if0).2.1
  have nno := (isN_true z2).2.1
  have mno := (isN_true z2).2.2
  have hpos := h.nos.2 _ mno
  rw [nno] at hpos
  obtain ⟨x, hx, hx1, hx2⟩ := findF_in (l := (getN S.nodes fr).ents) (nm := a) (by rw [← hno]; omega)
  rw [← hno] at hx2
  have hK := h.kin _ mfr x hx
  rw [hx2, nfr] at hK
  have hnto : no ≠ to_ := by
    intro e
    by_cases hk : (getN S.nodes no).kind = 1
    · refine v4 ⟨hk, ?_⟩
      rw [nno, ← e]
      exact within_base (by omega) rfl
    · rw [e] at hk; exact hk kt
  refine ⟨if0, it0, z2, kf, kt, ca, cb, hK.1, hnto, z3, v3, ?_, ?_⟩
  · have : x = (a, no) := by rw [← hx1, ← hx2]
    rw [← this]; exact hx
  · unfold moveT
    rw [if_pos ⟨h0, hs⟩, hold, z4, z5]
    unfold overT
    rw [if_neg (by rw [hz]; decide)]
/-- Nobody above a directory lies below it, after it has moved. -/
theorem not_within {c : Nat} {S T : TreeD} (h : Tre c S) {no fr : Int} (hup : aboveF S no = fr) (hnf : no ≠ fr) (h1 : 1 ≤ no) (hf0 : fr ≠ 0) (ho : overF S.devs no = no) (hd : T.devs = S.devs)
    (hg : ∀ k, k ≠ no → (getN T.nodes k).kind = (getN S.nodes k).kind ∧ (getN T.nodes k).dev = (getN S.nodes k).dev ∧ (getN T.nodes k).up = (getN S.nodes k).up) : withinF T fr no = false := by
  obtain ⟨r, R⟩ := h.rank
  have hov : ∀ d : Int, 1 < d → (devN S.devs d).over ≠ no := by
    intro d hd1 e
    unfold devN at e
    by_cases hk : (d - 1).toNat < S.devs.length
    · obtain ⟨j, hj⟩ : ∃ j, (d - 1).toNat = j + 1 := ⟨(d - 1).toNat - 1, by omega⟩
      rw [List.getD_eq_getElem?_getD, List.getElem?_eq_getElem hk] at e
      simp only [Option.getD_some] at e
      have := over_free h h1 ho j (by omega)
      simp only [hj] at e
      exact this e
    · rw [List.getD_eq_getElem?_getD, List.getElem?_eq_none (by omega)] at e
      have e2 : (0 : Int) = no := e
      omega
  have hab : ∀ k, k ≠ no → aboveF T k = aboveF S k := by
    intro k hk
    obtain ⟨g1, g2, g3⟩ := hg k hk
    unfold aboveF
    rw [g1, g2, g3, hd]
    split
    · split
      · rename_i hr
        exact (hg _ (hov _ hr.2)).2.2
      · rfl
    · rfl
  have key : ∀ f k, k ≠ no → r k < r no → wiF T no f k = false := by
    intro f
    induction f with
    | zero => intro k _ _; rfl
    | succ f ih =>
      intro k hk hr
      unfold wiF
      split
      · rfl
      · rename_i hk0
        rw [hab k hk]
        by_cases e0 : aboveF S k = 0
        · rw [e0]; exact wi_zero T no f
        · by_cases e1 : aboveF S k = k
          · rw [e1]; exact ih k hk hr
          · have := R.step k hk0 e0 e1
            exact ih _ (fun e => by rw [e] at this; omega) (by omega)
  unfold withinF
  refine key _ fr (Ne.symm hnf) ?_
  have := R.step no (by omega) (by rw [hup]; exact hf0) (by rw [hup]; exact Ne.symm hnf)
  rw [hup] at this
  exact this
theorem clear_eq {fr to_ no k : Int} {n m : NodeD} (h0 : n.no = m.no) (h1 : n.dev = m.dev) (h2 : n.kind = m.kind) (h3 : n.mode = m.mode) (h4 : n.uid = m.uid) (h5 : n.gid = m.gid) (h6 : k = fr ∨ k = to_ ∨ n.mtime = m.mtime) (h7 : k = fr ∨ k = to_ ∨ k = no ∨ n.ctime = m.ctime) (h8 : n.links = m.links) (h9 : n.up = m.up) (h10 : n.data = m.data) (h11 : n.ents = m.ents) :
    clearN fr to_ no k n = clearN fr to_ no k m := by
  cases n
  cases m
  simp only at h0 h1 h2 h3 h4 h5 h6 h7 h8 h9 h10 h11
  subst h0 h1 h2 h3 h4 h5 h8 h9 h10 h11
  unfold clearN
  simp only [NodeD.mk.injEq, true_and, and_true]
  refine ⟨?_, ?_⟩
  · split
    · rfl
    · rename_i hh
      rcases h6 with h6 | h6 | h6
      · exact absurd (.inl h6) hh
      · exact absurd (.inr h6) hh
      · exact h6
  · split
    · rfl
    · rename_i hh0
      split
      · rfl
      · rename_i hh
        rcases h7 with h7 | h7 | h7 | h7
        · exact absurd (.inl h7) hh
        · exact absurd (.inr h7) hh
        · exact absurd h7 hh0
        · exact h7
/-- A move of the user 0 to a free name, and back. -/
theorem ren_back {c : Nat} {S T U : TreeD} (h : Tre c S) (hL : ListUp S) {fr to_ no : Int} {a b : List UInt8} (hf : findF (getN S.nodes to_).ents b = 0) (hno : no = findF (getN S.nodes fr).ents a) (h0 : moveE S 0 0 fr to_ a b = 0)
    (hT : T = moveT S 0 0 7 fr to_ a b) (hU : U = moveT T 0 0 8 to_ fr b a) :
    moveE T 0 0 to_ fr b a = 0 ∧ ∀ k, clearN fr to_ no k (getN U.nodes k) = clearN fr to_ no k (getN S.nodes k) := by
  obtain ⟨i1, i2, i3, k1, k2, c1, c2, n1, n2, ov, dv, hme, hTe⟩ := move_facts (now := 7) h hf h0 hno
  rw [hTe] at hT
  obtain ⟨u1, u2, u3, u4, u5, u6, u7, u8⟩ := laid_get h.nos a b i1 i2 i3 n1 n2 hT
  have nfr := (isN_true i1).2.1
  have nto := (isN_true i2).2.1
  have nno := (isN_true i3).2.1
  have mno := (isN_true i3).2.2
  have mfr := (isN_true i1).2.2
  have mto := (isN_true i2).2.2
  have hpos := h.nos.2 _ mno
  rw [nno] at hpos
  have hfpos := h.nos.2 _ mfr
  rw [nfr] at hfpos
  have hrf := h.rise _ mfr
  have hrt := h.rise _ mto
  have hxb : ∀ x ∈ (getN S.nodes to_).ents, x.1 ≠ b := putF_find (fun x hx => (h.pos _ mto x hx).1) hf
  have hkup : (getN S.nodes no).kind = 1 → (getN S.nodes no).up = fr := fun hk => by
    rw [← nfr]
    exact hL _ mfr _ hme _ mno nno hk
  -- the directories after the first move
  have gT : getN T.nodes fr = { getN S.nodes fr with ents := (getN T.nodes fr).ents, mtime := 7, ctime := 7 } ∧ getN T.nodes to_ = { getN S.nodes to_ with ents := (getN T.nodes to_).ents, mtime := 7, ctime := 7 } := by
    by_cases e : fr = to_
    · subst e
      rw [u8 rfl]
      exact ⟨rfl, rfl⟩
    · rw [(u7 e).1, (u7 e).2]
      exact ⟨rfl, rfl⟩
  have fT : findF (getN T.nodes to_).ents b = no ∧ (∀ x ∈ (getN T.nodes fr).ents, x.1 ≠ a) := by
    by_cases e : fr = to_
    · subst e
      rw [u8 rfl]
      refine ⟨findF_put .., fun x hx => ?_⟩
      rcases mem_putF hx with hx | rfl
      · exact (mem_dropF hx).2
      · intro e
        exact hxb _ hme e.symm
    · rw [(u7 e).1, (u7 e).2]
      exact ⟨findF_put .., fun x hx => (mem_dropF hx).2⟩
  have fT0 : findF (getN T.nodes fr).ents a = 0 := findF_none fT.2
  have kT : ∀ k, k ≠ no → (getN T.nodes k).kind = (getN S.nodes k).kind ∧ (getN T.nodes k).dev = (getN S.nodes k).dev ∧ (getN T.nodes k).up = (getN S.nodes k).up := by
    intro k hk
    by_cases e1 : k = fr
    · rw [e1, gT.1]; exact ⟨rfl, rfl, rfl⟩
    · by_cases e2 : k = to_
      · rw [e2, gT.2]; exact ⟨rfl, rfl, rfl⟩
      · rw [u6 k e1 e2 hk]; exact ⟨rfl, rfl, rfl⟩
  have hz : isN T.nodes 0 = false := by rw [u4]; exact h.nos.zero (.inl (by decide))
  have pl : ∀ d nm, isN S.nodes d = true → (getN T.nodes d).kind = 1 → checkN nm = 0 → placeE T 0 0 d nm = 0 := by
    intro d nm hd hk hc
    unfold placeE
    rw [if_neg (by rw [u4, hd]; decide), if_neg (fun x => x hk), if_neg (fun x => x hc), mayB_0 _ _ _ _ _ rfl, if_neg (by decide)]
  have kto : (getN T.nodes to_).kind = 1 := by rw [(kT to_ (Ne.symm n2)).1]; exact k2
  have kfr : (getN T.nodes fr).kind = 1 := by rw [(kT fr (Ne.symm n1)).1]; exact k1
  have P2 : placeE T 0 0 fr a = 0 := pl fr a i1 kfr c1
  have P1 : leaveE T 0 0 to_ b = 0 := by
    unfold leaveE
    rw [if_neg (fun x => x (pl to_ b i2 kto c2)), fT.1, if_neg (by rw [u4, i3]; decide), u2, if_neg (fun x => x ov), free0, if_neg (by decide)]
  have D1 : leaveD T 0 0 to_ b = getN T.nodes to_ := by unfold leaveD; rw [if_pos P1]
  have D2 : leaveN T 0 0 to_ b = getN T.nodes no := by unfold leaveN; rw [if_pos P1, fT.1]
  have D3 : placeN T 0 0 fr a = getN T.nodes fr := by unfold placeN; rw [if_pos P2]
  have D4 : oldNo T 0 0 fr a = 0 := by unfold oldNo; rw [D3]; exact fT0
  have tno : (getN T.nodes no).no = no := by rw [u5]; exact nno
  have hW : ¬ ((getN T.nodes no).kind = 1 ∧ withinF T fr (getN T.nodes no).no = true) := by
    rintro ⟨hk, hw⟩
    rw [u5] at hk
    have hk' : (getN S.nodes no).kind = 1 := hk
    rw [tno] at hw
    have hK := h.kin _ mfr _ hme
    rw [nfr] at hK
    have hnr : rootF S.devs (getN S.nodes no).dev ≠ no := kin_root h hK _ (h.on _ mno).1
    have hup : aboveF S no = fr := by
      unfold aboveF
      rw [if_pos hk', if_neg (fun x => hnr x.1)]
      exact hkup hk'
    rw [not_within h hup n1 hpos.1 (by omega) ov u2 kT] at hw
    cases hw
  have E : moveE T 0 0 to_ fr b a = 0 := by
    unfold moveE moveX
    rw [if_neg (fun x => x P1), if_neg (fun x => x P2), D1, D2, D3, D4, hz, if_neg (fun x => x (by rw [(kT to_ (Ne.symm n2)).2.1, (kT fr (Ne.symm n1)).2.1, dv])), if_neg hW, if_neg (fun x => by cases x.1), mayB_0 _ _ _ _ _ rfl, if_neg (fun x => by cases x.2.2), if_neg (by decide)]
  refine ⟨E, ?_⟩
  have hs : ¬ sameB T 0 0 to_ fr b a := by unfold sameB; rw [D4, hz]; exact fun x => by cases x.1
  have hUe : U = laidT T 8 to_ fr b a (getN T.nodes to_) (getN T.nodes no) := by
    rw [hU]
    unfold moveT
    rw [if_pos ⟨E, hs⟩, D1, D2, D4]
    unfold overT
    rw [if_neg (by rw [hz]; decide)]
  obtain ⟨_, _, _, _, w5, w6, w7, w8⟩ := laid_get u1 b a (by rw [u4]; exact i2) (by rw [u4]; exact i1) (by rw [u4]; exact i3) n2 n1 hUe
  intro k
  by_cases e0 : k = no
  · subst e0
    rw [w5, u5]
    refine clear_eq rfl rfl rfl rfl rfl rfl (.inr (.inr rfl)) (.inr (.inr (.inl rfl))) rfl ?_ rfl rfl
    show (if (getN S.nodes k).kind = 1 then fr else if (getN S.nodes k).kind = 1 then to_ else (getN S.nodes k).up) = _
    split
    · rename_i hk; exact (hkup hk).symm
    · rfl
  by_cases e : fr = to_
  · subst e
    by_cases e1 : k = fr
    · subst e1
      rw [w8 rfl]
      refine clear_eq ?_ ?_ ?_ ?_ ?_ ?_ (.inl rfl) (.inl rfl) ?_ ?_ ?_ ?_
      case refine_10 =>
        show putF (dropF (getN T.nodes k).ents b) (a, no) = _
        rw [u8 rfl]
        show putF (dropF (putF (dropF (getN S.nodes k).ents a) (b, no)) b) (a, no) = _
        rw [drop_put no (rise_dropF a hrf) (fun x hx => hxb x (mem_dropF hx).1)]
        exact put_drop hrf hme
      all_goals (show _ = _; unfold touchN; rw [gT.1])
    · rw [w6 k e1 e1 e0, u6 k e1 e1 e0]
  · by_cases e1 : k = fr
    · subst e1
      rw [(w7 (Ne.symm e)).2]
      refine clear_eq ?_ ?_ ?_ ?_ ?_ ?_ (.inl rfl) (.inl rfl) ?_ ?_ ?_ ?_
      case refine_10 =>
        show putF (getN T.nodes k).ents (a, no) = _
        rw [(u7 e).1]
        exact put_drop hrf hme
      all_goals (show _ = _; unfold touchN; rw [gT.1])
    · by_cases e2 : k = to_
      · subst e2
        rw [(w7 (Ne.symm e)).1]
        refine clear_eq ?_ ?_ ?_ ?_ ?_ ?_ (.inr (.inl rfl)) (.inr (.inl rfl)) ?_ ?_ ?_ ?_
        case refine_10 =>
          show dropF (getN T.nodes k).ents b = _
          rw [(u7 e).2]
          exact drop_put no hrt hxb
        all_goals (show _ = _; unfold touchN; rw [gT.2])
      · rw [w6 k e2 e1 e0, u6 k e1 e2 e0]
end Go.Proofs.Ytebghednhjaniaa

namespace Go.Proofs.Ytebghednhjaniaa
open Go

section
variable {P : Program} {ops : Array Oper} {md : Region.Mode} {C : World → Prop} {Q : Act → Prop}
def tailB3 (md : Region.Mode) (ops : Array Oper) (n : Nat) : Bool :=
  (List.range ops.size).all fun t => decide (t ≤ n) || (List.range t).any fun j => decide (n ≤ j) && Region.waitsFor md ops t j
theorem ready_all {n : Nat} {listed : Array Bool} (hs : Region.sinkB md ops n = true) (inv : HeadInv md ops n listed) (hr : n ∈ Region.ready md ops listed) :
    ∀ (d i : Nat), n - i = d → i < n → listed.getD i false = true := by
  intro d
  induction d using Nat.strongRecOn with
  | _ d ih =>
    intro i hd hi
    have h1 := List.all_eq_true.1 hs i (List.mem_range.2 hi)
    obtain ⟨j, hj, hj2⟩ := List.any_eq_true.1 h1
    simp only [Bool.and_eq_true, decide_eq_true_eq] at hj2
    obtain ⟨oj, hoj, e, he, hb, hon⟩ := Region.waitsFor_spec hj2.2
    have hjle : j ≤ n := by have := List.mem_range.1 hj; omega
    by_cases hjn : j = n
    · subst hjn
      obtain ⟨_, ot, hot, hall⟩ := mem_ready.1 hr
      have : oj = ot := Option.some.inj (hoj.symm.trans hot)
      subst this
      have h2 := hall e he hb
      rwa [hon] at h2
    · have := inv.closed j oj hoj (ih (n - j) (by omega) j rfl (by omega)) e he hb
      rwa [hon] at this
theorem tail_waits3 {n : Nat} {listed : Array Bool} (hs : Region.sinkB md ops n = true) (hc : tailB3 md ops n = true) (inv : HeadInv md ops n listed) {i : Nat} (hi : i < n) (hun : listed.getD i true = false) :
    ∀ t, n ≤ t → t ∉ Region.ready md ops listed := by
  intro t ht hr
  obtain ⟨_, ot, hot, hall⟩ := mem_ready.1 hr
  have htlt : t < ops.size := (Array.getElem?_eq_some_iff.1 hot).1
  have h1 := List.all_eq_true.1 hc t (List.mem_range.2 htlt)
  simp only [Bool.or_eq_true, decide_eq_true_eq] at h1
  rcases h1 with h1 | h1
  · have : t = n := by omega
    subst this
    have h3 := ready_all hs inv hr _ i rfl hi
    rw [getD_both hun] at h3; cases h3
  · obtain ⟨j, hj, hj2⟩ := List.any_eq_true.1 h1
    simp only [Bool.and_eq_true, decide_eq_true_eq] at hj2
    obtain ⟨o', ho', e, he, hb, hon⟩ := Region.waitsFor_spec hj2.2
    have : o' = ot := Option.some.inj (ho'.symm.trans hot)
    subst this
    have h2 := hall e he hb
    rw [hon] at h2
    have hjt := List.mem_range.1 hj
    rw [getD_both (inv.tail j hj2.1 (by omega))] at h2; cases h2
theorem wpAnyQL_first3 {n i : Nat} {oi : Oper} {v : Value} {L : Array Bool → Act → Prop} (hi : ops[i]? = some oi) (hsel : ∀ (j : Nat) (o : Oper) cs b, ops[j]? = some o → o.op ≠ .select cs b)
    (hw : ∀ (listed : Array Bool) (i : Nat), HeadInv md ops n listed → i < n → listed.getD i true = false → ∀ t, n ≤ t → t ∉ Region.ready md ops listed) (hin : i < n)
    (hdone : ∀ listed a, L listed a → ∀ j ∈ Region.ready md ops listed, n ≤ j) :
    ∀ (f : Nat) (listed : Array Bool) (a : Act), HeadInv md ops n listed →
      (∀ j oj, ops[j]? = some oj → j ≠ i → listed.getD j true = false → (∀ e ∈ oj.after, Region.binds md e = true → e.on ≠ i) → oi.apart ops oj = true) →
      i ∈ Region.ready md ops listed → YieldsIn P ops C oi v a →
      wpAnyQL P md ops C n L f (listed.setIfInBounds i true) (a.put oi.dst v) → wpAnyQL P md ops C n L (f + 1) listed a := by
  intro f
  induction f with
  | zero =>
    intro listed a inv _ hr hy H
    have hun := (mem_ready.1 hr).1
    refine ⟨fun h => (by rw [h] at hr; cases hr), fun j hj => ?_⟩
    have hjn : j < n := by
      rcases Nat.lt_or_ge j n with h | h
      · exact h
      · exact absurd hj (hw _ _ inv hin hun j h)
    refine ⟨hjn, ?_⟩
    by_cases hji : j = i
    · subst hji; exact hy.qOp hi H
    · have := hdone _ _ H j (ready_mono hj hji)
      omega
  | succ f ih =>
    intro listed a inv hfree hr hy H
    have hun := (mem_ready.1 hr).1
    refine ⟨fun h => (by rw [h] at hr; cases hr), fun j hj => ?_⟩
    have hjn : j < n := by
      rcases Nat.lt_or_ge j n with h | h
      · exact h
      · exact absurd hj (hw _ _ inv hin hun j h)
    refine ⟨hjn, ?_⟩
    by_cases hji : j = i
    · subst hji; exact hy.qOp hi H
    · have h1 := (H.2 j (ready_mono hj hji)).2
      obtain ⟨hjun, oj, hoj, hall⟩ := mem_ready.1 hj
      have hnot : ∀ e ∈ oj.after, Region.binds md e = true → e.on ≠ i := fun e he hb heq => by
        have h1 := hall e he hb
        rw [heq, getD_both hun] at h1
        cases h1
      have h2 := qOp_put hoj (hfree j oj hoj hji hjun hnot) (fun cs b => hsel i oi cs b hi) (fun cs b => hsel j oj cs b hoj) hy h1
      have hfree' : ∀ k ok, ops[k]? = some ok → k ≠ i → (listed.setIfInBounds j true).getD k true = false →
          (∀ e ∈ ok.after, Region.binds md e = true → e.on ≠ i) → oi.apart ops ok = true := fun k ok hk hki hun hno => by
        refine hfree k ok hk hki ?_ hno
        by_cases hjk : j = k
        · subst hjk; exact hjun
        · rw [getD_set_ne true hjk] at hun; exact hun
      refine qOp_mono (fun a' h3 => ih (listed.setIfInBounds j true) a' (inv.set hj hjn) hfree' (ready_mono hr (Ne.symm hji)) h3.1 ?_) h2
      rw [Array.setIfInBounds_comm _ _ hji]
      exact h3.2

def lexTail3 (md : Region.Mode) (ops : Array Oper) (n : Nat) : Bool :=
  Region.noSelect ops && decide (n ≤ ops.size) && Region.sinkB md ops n && tailB3 md ops n && lexHeadQ md ops n 0 (Array.replicate ops.size false) && (Region.ready md ops (setAll 0 n (Array.replicate ops.size false))).all fun j => decide (n ≤ j)
theorem wpAnyQL_lex3 {n : Nat} {H : Array Bool} {Lq : Act → Prop} (hsel : Region.noSelect ops = true) (hw : ∀ (listed : Array Bool) (i : Nat), HeadInv md ops n listed → i < n → listed.getD i true = false → ∀ t, n ≤ t → t ∉ Region.ready md ops listed) (hH : ∀ j ∈ Region.ready md ops H, n ≤ j) :
    ∀ (l : List Oper) (k : Nat) (listed : Array Bool) (a : Act), (∀ j, j < l.length → l[j]? = ops[k + j]?) → k + l.length = n → HeadInv md ops n listed →
    lexHeadQ md ops l.length k listed = true → setAll k l.length listed = H → wpQuiet P ops C Lq l a →
    wpAnyQL P md ops C n (fun listed' a' => listed' = H ∧ Lq a') l.length listed a
  | [], k, listed, a, _, hk, _, hB, hS, h => ⟨hS, h⟩
  | o :: l, k, listed, a, hl, hk, inv, hB, hS, h => by
    have h0 : ops[k]? = some o := by simpa using (hl 0 (by simp)).symm
    simp only [List.length_cons, lexHeadQ, Bool.and_eq_true] at hB
    obtain ⟨⟨hr, hf⟩, hB'⟩ := hB
    have hkn : k < n := by simp only [List.length_cons] at hk; omega
    have hr' : k ∈ Region.ready md ops listed := by simpa using hr
    have hst : qOp P ops C k (wpQuiet P ops C Lq l) a := by unfold qOp; simp only [h0]; exact h
    obtain ⟨v, hy, hK⟩ := yieldsIn_of_qOp h0 hst
    exact wpAnyQL_first3 h0 (Region.noSelect_spec hsel) hw hkn (fun listed' a' hL => by rw [hL.1]; exact hH) l.length listed a inv (Region.free_spec h0 hf) hr' hy
      (wpAnyQL_lex3 hsel hw hH l (k + 1) _ _ (fun j hj => by have := hl (j + 1) (by simp; omega); simpa [Nat.add_assoc, Nat.add_comm 1 j] using this) (by simp only [List.length_cons] at hk; omega) (inv.set hr' hkn) hB' hS hK)
/-- The first n operations once, in the text's order; behind them the rest in whatever order. -/
theorem wp_region_quiet_tail3 {id : Nat} {Q : Exit → Act → World → Prop} {a : Act} {w : World} {l : List Oper} (n : Nat) (hm : P.follows .mixedOrders = true) (hB : lexTail3 .any l.toArray n = true) (hC : C w.drew)
    (h : wpQuiet P l.toArray C (fun a' => ∀ w', C w' → wpAny P .any l.toArray Q (l.length - n) (setAll 0 n (Array.replicate l.toArray.size false)) a' w') (l.take n) a) : (Code.region id l.toArray true).wp P Q a w := by
  simp only [lexTail3, Bool.and_eq_true, decide_eq_true_eq, List.all_eq_true] at hB
  obtain ⟨⟨⟨⟨⟨hsel, hn⟩, hs⟩, hc⟩, hlex⟩, hH⟩ := hB
  have hw := fun (listed : Array Bool) (i : Nat) (inv : HeadInv .any l.toArray n listed) (hi : i < n) (hun : listed.getD i true = false) => tail_waits3 hs hc inv hi hun
  have hn' : n ≤ l.length := by simpa using hn
  have htl : (l.take n).length = n := by simp; omega
  have inv0 : HeadInv .any l.toArray n (Array.replicate l.toArray.size false) :=
    ⟨by simp, fun j oj _ hl => (by rw [getD_replicate_false] at hl; cases hl), fun t _ ht => getD_in (by simpa using ht) (getD_replicate_false _ _)⟩
  have H := wpAnyQL_lex3 (md := .any) (C := C) (P := P) (H := setAll 0 n (Array.replicate l.toArray.size false)) hsel hw hH (l.take n) 0 _ a (fun j hj => by
    have hj' : j < n := by rw [htl] at hj; exact hj
    simp [hj']) (by simpa using htl) inv0 (by rw [htl]; exact hlex) (by rw [htl]) h
  refine wp_region_any hm ?_
  have := wpAny_of_headQ (Q' := Q) (g := l.length - n) (fun listed a' w' hw hL => by rw [hL.1]; exact hL.2 w' hw) _ _ _ w.drew hC H
  rw [htl, show n + (l.length - n) = l.toArray.size by simp; omega] at this
  exact this
end
section
variable {P : Program} {id : Nat} {Q : Exit → Act → World → Prop} {a : Act} {w : World} {l : List Oper}
/-- .. the rest a chain: it goes in the text's order. -/
theorem wp_region_grow_seq3 (V : World) (n : Nat) (hm : P.follows .mixedOrders = true) (hB : lexTail3 .any l.toArray n = true) (hs : Region.seqB .any l.toArray (l.length - n) n (setAll 0 n (Array.replicate l.toArray.size false)) = true) (hV : Ext V w.drew)
    (h : wpQuiet P l.toArray (fun w' => ∃ u : Gr V, w' = u.w) (fun a' => ∀ w', (∃ u : Gr V, w' = u.w) → wpList P l.toArray Q (l.drop n) a' w') (l.take n) a) : (Code.region id l.toArray true).wp P Q a w := by
  refine wp_region_quiet_tail3 (C := fun w' => ∃ u : Gr V, w' = u.w) n hm hB ⟨⟨w.drew, hV⟩, rfl⟩ (wpQuiet_mono' (fun a' h' w' hw' => ?_) _ _ h)
  have hdl : (l.drop n).length = l.length - n := by simp
  have := wpAny_of_seq (md := .any) (Q' := Q) (l.drop n) n (setAll 0 n (Array.replicate l.toArray.size false)) a' w' (fun j => by simp [List.getElem?_drop]) (by rw [hdl]; exact hs) (h' w' hw')
  rwa [hdl] at this
end
end Go.Proofs.Ytebghednhjaniaa

namespace Go.Proofs.Ytebghednhjaniaa
open Go.ChangeShapes Go.WideShapes Go.ChangeAt Go.RowKit

attribute [local irreducible] wpQuiet
theorem setCell_other {w : World} {b b' i : Nat} {o : Obj} {v : Value} (h : Has w b o) (hne : b ≠ b') : Has (w.setCell ⟨b', i, none⟩ v) b o := (Only.setCell w b' i v).has h (by simpa using hne)
/-- The times of two boxes are cleared. -/
theorem clear_two {w : World} {b1 b2 : Nat} {n m : NodeD} {A A' : Option Addr} {c c' : Nat} (h1 : Has w b1 (.cells #[.int .i64 n.no, .int .i64 n.dev, .int .i64 n.kind, .int .i64 n.mode, .int .i64 n.uid, .int .i64 n.gid, .int .i64 n.mtime, .int .i64 n.ctime, .int .i64 n.links, .int .i64 n.up, .string (bs n.data), .slice A n.ents.length c] 100)) (h2 : Has w b2 (.cells #[.int .i64 m.no, .int .i64 m.dev, .int .i64 m.kind, .int .i64 m.mode, .int .i64 m.uid, .int .i64 m.gid, .int .i64 m.mtime, .int .i64 m.ctime, .int .i64 m.links, .int .i64 m.up, .string (bs m.data), .slice A' m.ents.length c'] 100)) (hne : b1 ≠ b2) {W : World}
    (hW : W = (((w.setCell ⟨b1, 6, none⟩ (.int .i64 0)).setCell ⟨b2, 6, none⟩ (.int .i64 0)).setCell ⟨b1, 7, none⟩ (.int .i64 0)).setCell ⟨b2, 7, none⟩ (.int .i64 0)) {n' m' : NodeD} (hn : n' = { n with mtime := 0, ctime := 0 }) (hm : m' = { m with mtime := 0, ctime := 0 }) :
    Has W b1 (.cells #[.int .i64 (n').no, .int .i64 (n').dev, .int .i64 (n').kind, .int .i64 (n').mode, .int .i64 (n').uid, .int .i64 (n').gid, .int .i64 (n').mtime, .int .i64 (n').ctime, .int .i64 (n').links, .int .i64 (n').up, .string (bs (n').data), .slice A (n').ents.length c] 100) ∧ Has W b2 (.cells #[.int .i64 (m').no, .int .i64 (m').dev, .int .i64 (m').kind, .int .i64 (m').mode, .int .i64 (m').uid, .int .i64 (m').gid, .int .i64 (m').mtime, .int .i64 (m').ctime, .int .i64 (m').links, .int .i64 (m').up, .string (bs (m').data), .slice A' (m').ents.length c'] 100) ∧ Only [b1, b2] w W := by
  subst hW hn hm
  have o1 : ∀ (W : World) (i : Nat) (v : Value), Only [b1, b2] W (W.setCell ⟨b1, i, none⟩ v) := fun W i v => (Only.setCell W b1 i v).mono (by simp)
  have o2 : ∀ (W : World) (i : Nat) (v : Value), Only [b1, b2] W (W.setCell ⟨b2, i, none⟩ v) := fun W i v => (Only.setCell W b2 i v).mono (by simp)
  refine ⟨?_, ?_, (((o1 _ _ _).then (o2 _ _ _)).then (o1 _ _ _)).then (o2 _ _ _)⟩
  · exact setCell_other ((setCell_other (h1.setCell 6 _) hne).setCell 7 _) hne
  · exact (setCell_other ((setCell_other h2 (Ne.symm hne)).setCell 6 _) (Ne.symm hne)).setCell 7 _
theorem clear_one {w : World} {b1 b2 : Nat} {n m : NodeD} {A A' : Option Addr} {c c' : Nat} (h1 : Has w b1 (.cells #[.int .i64 n.no, .int .i64 n.dev, .int .i64 n.kind, .int .i64 n.mode, .int .i64 n.uid, .int .i64 n.gid, .int .i64 n.mtime, .int .i64 n.ctime, .int .i64 n.links, .int .i64 n.up, .string (bs n.data), .slice A n.ents.length c] 100)) (h2 : Has w b2 (.cells #[.int .i64 m.no, .int .i64 m.dev, .int .i64 m.kind, .int .i64 m.mode, .int .i64 m.uid, .int .i64 m.gid, .int .i64 m.mtime, .int .i64 m.ctime, .int .i64 m.links, .int .i64 m.up, .string (bs m.data), .slice A' m.ents.length c'] 100)) (hne : b1 ≠ b2) {W : World}
    (hW : W = (w.setCell ⟨b1, 7, none⟩ (.int .i64 0)).setCell ⟨b2, 7, none⟩ (.int .i64 0)) {n' m' : NodeD} (hn : n' = { n with ctime := 0 }) (hm : m' = { m with ctime := 0 }) :
    Has W b1 (.cells #[.int .i64 (n').no, .int .i64 (n').dev, .int .i64 (n').kind, .int .i64 (n').mode, .int .i64 (n').uid, .int .i64 (n').gid, .int .i64 (n').mtime, .int .i64 (n').ctime, .int .i64 (n').links, .int .i64 (n').up, .string (bs (n').data), .slice A (n').ents.length c] 100) ∧ Has W b2 (.cells #[.int .i64 (m').no, .int .i64 (m').dev, .int .i64 (m').kind, .int .i64 (m').mode, .int .i64 (m').uid, .int .i64 (m').gid, .int .i64 (m').mtime, .int .i64 (m').ctime, .int .i64 (m').links, .int .i64 (m').up, .string (bs (m').data), .slice A' (m').ents.length c'] 100) ∧ Only [b1, b2] w W := by
  subst hW hn hm
  have o1 : ∀ (W : World) (i : Nat) (v : Value), Only [b1, b2] W (W.setCell ⟨b1, i, none⟩ v) := fun W i v => (Only.setCell W b1 i v).mono (by simp)
  have o2 : ∀ (W : World) (i : Nat) (v : Value), Only [b1, b2] W (W.setCell ⟨b2, i, none⟩ v) := fun W i v => (Only.setCell W b2 i v).mono (by simp)
  refine ⟨?_, ?_, (o1 _ _ _).then (o2 _ _ _)⟩
  · exact setCell_other (h1.setCell 7 _) hne
  · exact (setCell_other h2 (Ne.symm hne)).setCell 7 _
set_option maxRecDepth 100000 in
set_option maxHeartbeats 16000000 in
theorem renameBack_any (A : Option Addr) (l : List ItemD) (cap : Nat) (x : ActD) (w : World) (hA : ItemsAt w A l) (hlen : l.length ≤ 9223372036854775807) :
    Calls Try.prog 14 #[.slice A l.length cap, .agg #[.int .i64 x.kind, .int .i64 x.uid, .int .i64 x.gid, .int .i64 x.dir, .int .i64 x.no, .int .i64 x.n, .string (bs x.name), .string (bs x.text), .int .i64 x.to_, .string (bs x.as_)]] w (Ret w (.bool true)) := by
  obtain ⟨W1, hW1⟩ : ∃ W, W = w.alloc (.cells #[.int .i64 x.kind, .int .i64 x.uid, .int .i64 x.gid, .int .i64 x.dir, .int .i64 x.no, .int .i64 x.n, .string (bs x.name), .string (bs x.text), .int .i64 x.to_, .string (bs x.as_)] 64) := ⟨_, rfl⟩
  have E1 : Ext w W1 := by rw [hW1]; exact (Ext.refl _).alloc _
  have B1 : Has W1 w.heap.size (.cells #[.int .i64 x.kind, .int .i64 x.uid, .int .i64 x.gid, .int .i64 x.dir, .int .i64 x.no, .int .i64 x.n, .string (bs x.name), .string (bs x.text), .int .i64 x.to_, .string (bs x.as_)] 64) := by rw [hW1]; exact Has.new _ _
  have xc := fun i => B1.cell i
  have c0 := xc 0
  have c1 := xc 1
  have c2 := xc 2
  have c3 := xc 3
  have c4 := xc 4
  have c5 := xc 5
  have c6 := xc 6
  have c7 := xc 7
  have c8 := xc 8
  have c9 := xc 9
  simp only [List.getElem?_toArray, List.getElem?_cons_zero, List.getElem?_cons_succ] at c0 c1 c2 c3 c4 c5 c6 c7 c8 c9
  have xz := B1.lt
  obtain ⟨m, hm⟩ : ∃ m, m = l.length := ⟨_, rfl⟩
  have hlen' := hlen
  rw [← hm] at hlen' ⊢
  have HM := Lib.hid hm
  have KF : Hid (Calls Try.prog 29 #[.slice A m cap] W1 (FewR W1 l)) := by show Calls _ _ _ _ _; rw [HM.out]; exact few14_any A l cap W1 (hA.ext E1) hlen
  clear hm xc
  go_enter Try.func14, Try.ntmps14
  go_upto_region 1 with fail
  rw [← hW1]
  clear hW1
  go_wp2_with fail
  refine KF.out.mono ?_
  rintro e w2 ⟨rfl, ⟨hf, rfl⟩ | ⟨hf, rfl⟩⟩
  case inr =>
    clear hf c0 c1 c2 c3 c4 c5 c6 c7 c8 c9
    go_wp2_with fail
    refine (awake19 _).mono ?_
    rintro e wz ⟨rfl, bz⟩
    go_wp2_with fail
    go_ret
    exact Ret.mk rfl ((E1).trans bz)
  have HF := Lib.hid hf
  clear hf KF
  go_wp2_with fail
  have hX2 := Has.new W1 (.cells #[.int .i64 x.kind, .int .i64 x.uid, .int .i64 x.gid, .int .i64 x.dir, .int .i64 x.no, .int .i64 x.n, .string (bs x.name), .string (bs x.text), .int .i64 x.to_, .string (bs x.as_)] 64)
  obtain ⟨W2, hW2⟩ : ∃ W2, W2 = W1.alloc (.cells #[.int .i64 x.kind, .int .i64 x.uid, .int .i64 x.gid, .int .i64 x.dir, .int .i64 x.no, .int .i64 x.n, .string (bs x.name), .string (bs x.text), .int .i64 x.to_, .string (bs x.as_)] 64) := ⟨_, rfl⟩
  rw [← hW2] at hX2 ⊢
  have E2 : Ext W1 W2 := by rw [hW2]; exact (Ext.refl _).alloc _
  have B2 := B1.ext E2
  have EW2 : Ext w W2 := E1.trans E2
  have hacts : ActsAt W2 (some ⟨W1.heap.size, 0, none⟩) [x] := by
    refine .inr ⟨_, 0, rfl, hX2.lt, fun k hk => ?_⟩
    have : k = 0 := by simpa using hk
    subst this
    exact ⟨hX2.cell 0, hX2.cell 1, hX2.cell 2, hX2.cell 3, hX2.cell 4, hX2.cell 5, hX2.cell 6, hX2.cell 7, hX2.cell 8, hX2.cell 9⟩
  clear hW2 hX2 c0 c1 c2 c3 c4 c5 c6 c7 c8 c9 xz
  refine (fewA_any (some ⟨W1.heap.size, 0, none⟩) [x] 1 W2 hacts (by simp)).mono ?_
  rintro e w3 ⟨rfl, ⟨hfx, rfl⟩ | ⟨_, rfl⟩⟩
  case inr =>
    go_wp2_with fail
    refine (awake19 _).mono ?_
    rintro e wz ⟨rfl, bz⟩
    go_wp2_with fail
    go_ret
    exact Ret.mk rfl ((EW2).trans bz)
  have hsx := hfx.1 x (List.mem_singleton.2 rfl)
  have HSX := Lib.hid hsx
  have HB2 := Lib.hid B2
  have HX1 := Lib.hid EW2
  have hG0 := tre_growAll (b := 300) (n := 60) (by decide) HF.out
  have hga := good_all (good_first (b := 300) (n := 60) (by decide)) l
  have hl40 := HF.out.2
  have KG : Hid (Calls Try.prog 19 #[.int .i64 300, .int .i64 60, .slice A m cap] W2 (GrowAllR W2 300 60 l)) := by show Calls _ _ _ _ _; rw [HM.out]; exact growAll_any 300 60 A l cap W2 (by decide) HF.out (hA.ext EW2)
  clear hacts hfx hsx
  go_wp2_with fail
  refine KG.out.mono ?_
  rintro e w3 ⟨g, f, rfl, ⟨K3, F3⟩, E3⟩
  obtain ⟨B, hB⟩ : ∃ B, B = W2.heap.size := ⟨_, rfl⟩
  rw [← hB] at K3 F3
  obtain ⟨S, hS⟩ : ∃ S, S = growAll (firstT 300 60) l := ⟨_, rfl⟩
  rw [← hS] at K3 F3
  have hSl : S.last ≤ 41 := by
    have h2 := hga.2
    rw [hS]
    rw [show growAll (rootT emptyT 0 300 60) l = growAll (firstT 300 60) l from rfl, show (rootT emptyT 0 300 60).last = 1 from rfl] at h2
    omega
  have hT0 : Tre 40 S := by rw [hS]; exact hG0
  have hlup : ListUp S := by rw [hS]; exact listUp_first (by decide) HF.out
  have HLU := Lib.hid hlup
  clear hlup
  have hS1 := hT0.last
  have HB := Lib.hid hB
  have HE3 := Lib.hid E3
  have HT0 := Lib.hid hT0
  have HK3 := Lib.hid K3
  have HF3 := Lib.hid F3
  clear hS hga hG0 hl40 KG hB hT0
  have X3 := HX1.out.trans HE3.out
  have B3 := HB2.out.ext HE3.out
  obtain ⟨fr, hfr⟩ : ∃ fr, fr = nearF S.last x.dir := ⟨_, rfl⟩
  obtain ⟨to_, hto⟩ : ∃ to_, to_ = nearF S.last x.to_ := ⟨_, rfl⟩
  have KN : Hid (∀ u : Gr w3, Calls Try.prog 54 #[.pointer (some ⟨f.bF, 0, none⟩), .int .i64 x.dir] u.w (Ret u.w (.int .i64 fr))) := by
    show ∀ u : Gr w3, _
    intro u
    rw [hfr]
    exact near_any B f S x0 x.dir _ (HF3.out.ext u.h) (by omega) (by omega)
  have KM : Hid (∀ u : Gr w3, Calls Try.prog 54 #[.pointer (some ⟨f.bF, 0, none⟩), .int .i64 x.to_] u.w (Ret u.w (.int .i64 to_))) := by
    show ∀ u : Gr w3, _
    intro u
    rw [hto]
    exact near_any B f S x0 x.to_ _ (HF3.out.ext u.h) (by omega) (by omega)
  have y3 : ∀ u : Gr w3, u.w.cell? ⟨w.heap.size, 3, none⟩ = some (.int .i64 x.dir) := Gr.cell B3.lt (B3.cell 3)
  have y8 : ∀ u : Gr w3, u.w.cell? ⟨w.heap.size, 8, none⟩ = some (.int .i64 x.to_) := Gr.cell B3.lt (B3.cell 8)
  clear hfr hto
  go_upto_region 6 with fail
  refine wp_region_grow w3 (by kernel_rfl) (by kernel_rfl) (Ext.refl _).drew ?_
  repeat (quiet_step (first
    | ((with_reducible refine (KN.out _).mono ?_); rintro e w'' ⟨rfl, hEx⟩; exact ⟨rfl, ⟨w'', Ext.trans (Gr.h _) hEx⟩, rfl⟩)
    | ((with_reducible refine (KM.out _).mono ?_); rintro e w'' ⟨rfl, hEx⟩; exact ⟨rfl, ⟨w'', Ext.trans (Gr.h _) hEx⟩, rfl⟩)))
  refine wpQuiet_nil ?_
  rintro w4 ⟨⟨wy, E34⟩, h4⟩
  dsimp only at h4
  subst h4
  clear y3 y8 KN KM
  have X4 := X3.trans E34
  have B4 := B3.ext E34
  have HK4 := Lib.hid (HK3.out.ext E34)
  have HF4 := Lib.hid (HF3.out.ext E34)
  obtain ⟨Af, kf, okf, Cf⟩ := rget_fix B f S x0 fr w4 HF4.out (by have := HT0.out.count; omega) HT0.out.nos
  obtain ⟨At, kt, okt, Ct⟩ := rget_fix B f S x0 to_ w4 HF4.out (by have := HT0.out.count; omega) HT0.out.nos
  obtain ⟨d, hd⟩ : ∃ d, d = getN S.nodes fr := ⟨_, rfl⟩
  obtain ⟨t, ht⟩ : ∃ t, t = getN S.nodes to_ := ⟨_, rfl⟩
  rw [← hd] at okf Cf
  rw [← ht] at okt Ct
  obtain ⟨no, hno⟩ : ∃ no, no = findF d.ents x.name := ⟨_, rfl⟩
  obtain ⟨old, hold⟩ : ∃ old, old = findF t.ents x.as_ := ⟨_, rfl⟩
  have hdl : d.ents.length ≤ 40 := by rw [hd]; exact (HT0.out.getN fr).2
  have htl : t.ents.length ≤ 40 := by rw [ht]; exact (HT0.out.getN to_).2
  have KF1 : Hid (∀ u : Gr w4, Calls Try.prog 62 #[.slice Af d.ents.length kf, .string (bs x.name)] u.w (Ret u.w (.int .i64 no))) := by
    show ∀ u : Gr w4, _
    intro u
    rw [hno]
    exact rfind_any Af d.ents kf x.name u.w (okf.ext u.h).ents.ents (by omega)
  have HCf := Lib.hid Cf
  have HCt := Lib.hid Ct
  have HDD := Lib.hid hd
  have HTT := Lib.hid ht
  have HNO := Lib.hid hno
  have HOL := Lib.hid hold
  have y6 : ∀ u : Gr w4, u.w.cell? ⟨w.heap.size, 6, none⟩ = some (.string (bs x.name)) := Gr.cell B4.lt (B4.cell 6)
  have hf1 : ∀ w', (Instr.field 100 (.agg #[.int .i64 d.no, .int .i64 d.dev, .int .i64 d.kind, .int .i64 d.mode, .int .i64 d.uid, .int .i64 d.gid, .int .i64 d.mtime, .int .i64 d.ctime, .int .i64 d.links, .int .i64 d.up, .string (bs d.data), .slice Af d.ents.length kf]) 11).run Try.prog w' = .ok (.slice Af d.ents.length kf) w' := fun w' => (field_node _ _ _ _ _ _ _ _ _ _ _ _ w').1
  clear hd ht hno hold Cf Ct okf hdl
  go_upto_region 7 with fail
  refine wp_region_grow w4 (by kernel_rfl) (by kernel_rfl) (Ext.refl _).drew ?_
  repeat (quiet_step (first
    | ((with_reducible refine (HCf.out _ (Gr.h _)).mono ?_); rintro e w'' ⟨rfl, hEx⟩; exact ⟨rfl, ⟨w'', Ext.trans (Gr.h _) hEx⟩, rfl⟩)
    | ((with_reducible refine (KF1.out _).mono ?_); rintro e w'' ⟨rfl, hEx⟩; exact ⟨rfl, ⟨w'', Ext.trans (Gr.h _) hEx⟩, rfl⟩)))
  refine wpQuiet_nil ?_
  rintro w5 ⟨⟨wy, E45⟩, h5⟩
  dsimp only at h5
  subst h5
  clear y6 hf1 KF1 HCf
  have X5 := X4.trans E45
  have B5 := B4.ext E45
  have HK5 := Lib.hid (HK4.out.ext E45)
  have HF5 := Lib.hid (HF4.out.ext E45)
  have HX5 := Lib.hid X5
  have HB5 := Lib.hid B5
  have HE45 := Lib.hid E45
  have hCt : Hid (∀ u, Ext w5 u → Calls Try.prog 55 #[.pointer (some ⟨f.bF, 0, none⟩), .int .i64 to_] u (Ret u (.agg #[.int .i64 t.no, .int .i64 t.dev, .int .i64 t.kind, .int .i64 t.mode, .int .i64 t.uid, .int .i64 t.gid, .int .i64 t.mtime, .int .i64 t.ctime, .int .i64 t.links, .int .i64 t.up, .string (bs t.data), .slice At t.ents.length kt]))) := by
    show ∀ u, _
    intro u hu
    exact HCt.out u (HE45.out.trans hu)
  have KF2 : Hid (∀ u : Gr w5, Calls Try.prog 62 #[.slice At t.ents.length kt, .string (bs x.as_)] u.w (Ret u.w (.int .i64 old))) := by
    show ∀ u : Gr w5, _
    intro u
    rw [HOL.out]
    exact rfind_any At t.ents kt x.as_ u.w (okt.ext (HE45.out.trans u.h)).ents.ents (by omega)
  have HOK := Lib.hid (HT0.out.ok (by decide))
  obtain ⟨r, R⟩ := HT0.out.rank
  have HR := Lib.hid R
  have hnb : w.heap.size ∉ g.list ++ f.list := Mix.notin HK3.out HF3.out (.inl (by rw [HB.out]; have := HB2.out.lt; omega))
  have HNB := Lib.hid hnb
  have hgB : Hid (∀ b ∈ g.list, w.heap.size ≤ b) := by
    refine Lib.hid fun b hb => ?_
    have h1 : B ≤ b := (HK3.out.apart b hb).1
    have := HX1.out.size
    have := HB.out
    omega
  have z6 : ∀ u : Gr w5, u.w.cell? ⟨w.heap.size, 6, none⟩ = some (.string (bs x.name)) := Gr.cell B5.lt (B5.cell 6)
  have z9 : ∀ u : Gr w5, u.w.cell? ⟨w.heap.size, 9, none⟩ = some (.string (bs x.as_)) := Gr.cell B5.lt (B5.cell 9)
  have hf2 : ∀ w', (Instr.field 100 (.agg #[.int .i64 t.no, .int .i64 t.dev, .int .i64 t.kind, .int .i64 t.mode, .int .i64 t.uid, .int .i64 t.gid, .int .i64 t.mtime, .int .i64 t.ctime, .int .i64 t.links, .int .i64 t.up, .string (bs t.data), .slice At t.ents.length kt]) 11).run Try.prog w' = .ok (.slice At t.ents.length kt) w' := fun w' => (field_node _ _ _ _ _ _ _ _ _ _ _ _ w').1
  clear R hnb X5 B5 X4 B4 X3 B3 E45 okt htl HCt
  by_cases ho : old = 0
  case neg =>
    have tq : (old != 0) = true := by simpa using ho
    clear ho
    go_upto_region 8 with fail
    refine wp_region_grow w5 (by kernel_rfl) (by kernel_rfl) (Ext.refl _).drew ?_
    repeat (quiet_step (first
      | ((with_reducible refine (hCt.out _ (Gr.h _)).mono ?_); rintro e w'' ⟨rfl, hEx⟩; exact ⟨rfl, ⟨w'', Ext.trans (Gr.h _) hEx⟩, rfl⟩)
      | ((with_reducible refine (KF2.out _).mono ?_); rintro e w'' ⟨rfl, hEx⟩; exact ⟨rfl, ⟨w'', Ext.trans (Gr.h _) hEx⟩, rfl⟩)))
    refine wpQuiet_nil ?_
    rintro w6 ⟨⟨wy, E56⟩, h6⟩
    dsimp only at h6
    subst h6
    clear z6 z9 hf2 hCt KF2
    go_wp2_with fail
    refine (awake19 _).mono ?_
    rintro e wz ⟨rfl, bz⟩
    go_wp2_with fail
    go_ret
    exact Ret.mk rfl ((HX5.out.trans E56).trans bz)
  have tq : (old != 0) = false := by simpa using ho
  have HO0 := Lib.hid ho
  clear ho
  go_upto_region 8 with fail
  refine wp_region_grow_seq3 w5 17 (by kernel_rfl) (by kernel_rfl) (by kernel_rfl) (Ext.refl _).drew ?_
  simp only [List.take_succ_cons, List.take_zero, List.drop_succ_cons, List.drop_zero]
  repeat (quiet_step (first
    | ((with_reducible refine (hCt.out _ (Gr.h _)).mono ?_); rintro e w'' ⟨rfl, hEx⟩; exact ⟨rfl, ⟨w'', Ext.trans (Gr.h _) hEx⟩, rfl⟩)
    | ((with_reducible refine (KF2.out _).mono ?_); rintro e w'' ⟨rfl, hEx⟩; exact ⟨rfl, ⟨w'', Ext.trans (Gr.h _) hEx⟩, rfl⟩)))
  refine wpQuiet_nil ?_
  rintro w5b ⟨⟨wy, E5b⟩, h5b⟩
  dsimp only at h5b
  subst h5b
  clear z6 z9 hf2 hCt KF2
  have HK5b := Lib.hid (HK5.out.ext E5b)
  have HF5b := Lib.hid (HF5.out.ext E5b)
  have HX5b := Lib.hid (HX5.out.trans E5b)
  have HB5b := Lib.hid (HB5.out.ext E5b)
  clear E5b
  go_wp2_with fail
  refine (pmove_any B g S r 0 0 7 fr to_ x.name x.as_ _ HK5b.out HOK.out HR.out).mono ?_
  rintro e w6 ⟨rfl, K6, O6⟩
  have F6 := HF5b.out.byW HK5b.out O6
  have X6 : Ext w w6 := O6.after HX5b.out (fun b hb => hgB.out b hb)
  have B6 := O6.has HB5b.out (fun hb => HNB.out (List.mem_append_left _ hb))
  obtain ⟨mv, hmv⟩ : ∃ mv, mv = moveE S 0 0 fr to_ x.name x.as_ := ⟨_, rfl⟩
  rw [← hmv]
  clear O6
  by_cases h0 : mv = 0
  case neg =>
    have t0 : (mv == 0) = false := by simpa using h0
    have t0b : (mv != 0) = true := by simpa using h0
    clear h0 hmv B6 K6 F6
    go_wp2_with fail
    refine (awake19 _).mono ?_
    rintro e wz ⟨rfl, bz⟩
    go_wp2_with fail
    go_ret
    exact Ret.mk rfl (X6.trans bz)
  have t0 : (mv == 0) = true := by simpa using h0
  have t0b : (mv != 0) = false := by simpa using h0
  have hT1 := tre_move HT0.out 0 0 7 fr to_ x.name x.as_
  obtain ⟨T, hT⟩ : ∃ T, T = moveT S 0 0 7 fr to_ x.name x.as_ := ⟨_, rfl⟩
  rw [← hT] at K6 hT1
  obtain ⟨U, hU⟩ : ∃ U, U = moveT T 0 0 8 to_ fr x.as_ x.name := ⟨_, rfl⟩
  obtain ⟨m1, m2⟩ := ren_back (no := no) HT0.out HLU.out (by rw [← HTT.out, ← HOL.out]; exact HO0.out) (by rw [← HDD.out]; exact HNO.out) (hmv.symm.trans h0) hT hU
  have HM1 := Lib.hid m1
  have HM2 := Lib.hid m2
  have HUU := Lib.hid hU
  have HOK1 := Lib.hid (hT1.ok (by decide))
  obtain ⟨r1, R1⟩ := hT1.rank
  have HR1 := Lib.hid R1
  have HLU2 : Hid (∀ k, (getN S.nodes k).ents.length ≤ 40) := Lib.hid fun k => (HT0.out.getN k).2
  have k6' : w6.cell? ⟨w.heap.size, 6, none⟩ = some (.string (bs x.name)) := B6.cell 6
  have k9' : w6.cell? ⟨w.heap.size, 9, none⟩ = some (.string (bs x.as_)) := B6.cell 9
  have kz := B6.lt
  have HK6 := Lib.hid K6
  have HF6 := Lib.hid F6
  have HX6 := Lib.hid X6
  clear h0 hmv m1 m2 hT hU R1 hT1 K6 F6 X6 B6
  go_wp2_with fail
  refine (pmove_any B g T r1 0 0 8 to_ fr x.as_ x.name _ HK6.out HOK1.out HR1.out).mono ?_
  rw [HM1.out, ← HUU.out]
  rintro e w7 ⟨rfl, K7, O7⟩
  have F7 := HF6.out.byW HK6.out O7
  have X7 : Ext w w7 := O7.after HX6.out (fun b hb => hgB.out b hb)
  obtain ⟨L, hL⟩ : ∃ L : Nat, S.last = L := ⟨S.last.toNat, by omega⟩
  have HLS := Lib.hid hL
  have HL41 : Hid (L ≤ 41) := Lib.hid (by omega)
  have HK7 := Lib.hid K7
  have HF7 := Lib.hid F7
  have HX7 := Lib.hid X7
  have hc2 : w7.cell? ⟨f.bF, 2, none⟩ = some (.int .i64 L) := by
    obtain ⟨_, cn, ce, kF, _⟩ := id F7
    have := kF.cell 2
    rw [← hL]; exact this
  have HC2 := Lib.hid hc2
  have HZF := Lib.hid F7.lt.1
  have HBW : Hid (B ≤ w7.heap.size) := Lib.hid (by have := (K7.apart _ (by simp : g.bW ∈ g.list)).1; have := K7.lt.1; omega)
  clear hL K7 F7 X7 hc2 hSl hS1 O7 k6' k9' kz t0 t0b
  go_wp2_with fail
  go_loopw [12] (fun i wr => ∃ k : Nat, i = .int .i64 k ∧ 1 ≤ k ∧ k ≤ L + 1 ∧ Ext w7 wr) (fun i _ => L + 1 - (intOf i).toNat)
  case atStart => exact ⟨1, rfl, Nat.le_refl _, by omega, Ext.refl _⟩
  case round =>
    obtain ⟨k, rfl, hk1, hk2, hE⟩ := hrel
    have HE := Lib.hid hE
    have c2 : wr.cell? ⟨f.bF, 2, none⟩ = some (.int .i64 L) := (hE.cell HZF.out).trans HC2.out
    have cz : f.bF < wr.heap.size := by have := HZF.out; have := hE.size; omega
    have K := HK7.out.ext hE
    have F := Lib.hid (HF7.out.ext hE)
    obtain ⟨_, _, cd, hWr, _⟩ := id K
    have v0 : wr.cell? ⟨g.bW, 0, none⟩ = some (.pointer (some ⟨g.bT, 0, none⟩)) := hWr.cell 0
    have vz := hWr.lt
    clear hE hWr
    by_cases hlt : (k : Int) ≤ L
    case neg =>
      have tk : decide ((k : Int) ≤ (L : Int)) = false := decide_eq_false hlt
      clear K
      go_wp2_with fail
      refine (awake19 _).mono ?_
      rintro e wz ⟨rfl, bz⟩
      go_wp2_with fail
      go_ret
      exact Ret.mk rfl ((HX7.out.trans HE.out).trans bz)
    have tk : decide ((k : Int) ≤ (L : Int)) = true := decide_eq_true hlt
    have hk3 : k ≤ 41 := by have := HL41.out; omega
    go_wp2_with fail
    refine (tget_any B g.bT g.bM U.nodes U.last k _ K.2.1).mono ?_
    rintro e w8 ⟨A5, k5, rfl, ok5, b5⟩
    obtain ⟨n5, hn5⟩ : ∃ n5, n5 = getN U.nodes k := ⟨_, rfl⟩
    obtain ⟨i5, hi5⟩ : ∃ i5, i5 = isN U.nodes k := ⟨_, rfl⟩
    rw [← hn5] at ok5
    rw [← hn5, ← hi5]
    obtain ⟨w9, hw9⟩ : ∃ W, W = w8.alloc (.cells #[.int .i64 n5.no, .int .i64 n5.dev, .int .i64 n5.kind, .int .i64 n5.mode, .int .i64 n5.uid, .int .i64 n5.gid, .int .i64 n5.mtime, .int .i64 n5.ctime, .int .i64 n5.links, .int .i64 n5.up, .string (bs n5.data), .slice A5 n5.ents.length k5] 100) := ⟨_, rfl⟩
    obtain ⟨b1, hb1⟩ : ∃ b, b = w8.heap.size := ⟨_, rfl⟩
    have N9 : Has w9 b1 (.cells #[.int .i64 n5.no, .int .i64 n5.dev, .int .i64 n5.kind, .int .i64 n5.mode, .int .i64 n5.uid, .int .i64 n5.gid, .int .i64 n5.mtime, .int .i64 n5.ctime, .int .i64 n5.links, .int .i64 n5.up, .string (bs n5.data), .slice A5 n5.ents.length k5] 100) := by rw [hw9, hb1]; exact Has.new _ _
    have E89 : Ext w8 w9 := by rw [hw9]; exact (Ext.refl _).alloc _
    have E9 := b5.trans E89
    have ok9 := ok5.ext E89
    have hb1w : wr.heap.size ≤ b1 := by rw [hb1]; exact b5.size
    have HN5 := Lib.hid hn5
    clear hn5 hi5 ok5 c2 cz v0 vz K
    go_upto_region 15 with fail
    rw [← hw9, ← hb1]
    clear hw9 hb1 b5 E89
    go_wp2_with fail
    refine (rget_any B f S x0 k _ (F.out.ext E9) (by have := HT0.out.count; have := HLS.out; have := HL41.out; omega) HT0.out.nos).mono ?_
    rintro e w10 ⟨A6, k6, rfl, ok6, b6⟩
    obtain ⟨n6, hn6⟩ : ∃ n6, n6 = getN S.nodes k := ⟨_, rfl⟩
    rw [← hn6] at ok6 ⊢
    obtain ⟨w11, hw11⟩ : ∃ W, W = w10.alloc (.cells #[.int .i64 n6.no, .int .i64 n6.dev, .int .i64 n6.kind, .int .i64 n6.mode, .int .i64 n6.uid, .int .i64 n6.gid, .int .i64 n6.mtime, .int .i64 n6.ctime, .int .i64 n6.links, .int .i64 n6.up, .string (bs n6.data), .slice A6 n6.ents.length k6] 100) := ⟨_, rfl⟩
    obtain ⟨b2, hb2⟩ : ∃ b, b = w10.heap.size := ⟨_, rfl⟩
    have M11 : Has w11 b2 (.cells #[.int .i64 n6.no, .int .i64 n6.dev, .int .i64 n6.kind, .int .i64 n6.mode, .int .i64 n6.uid, .int .i64 n6.gid, .int .i64 n6.mtime, .int .i64 n6.ctime, .int .i64 n6.links, .int .i64 n6.up, .string (bs n6.data), .slice A6 n6.ents.length k6] 100) := by rw [hw11, hb2]; exact Has.new _ _
    have E1011 : Ext w10 w11 := by rw [hw11]; exact (Ext.refl _).alloc _
    have N11 := (N9.ext b6).ext E1011
    have hne : b1 ≠ b2 := by have := (N9.ext b6).lt; omega
    have hb2w : wr.heap.size ≤ b2 := by have := E9.size; have := b6.size; omega
    have ok11 := (ok9.ext b6).ext E1011
    have okm := ok6.ext E1011
    have HX11 := Lib.hid ((E9.trans b6).trans E1011)
    have HN6 := Lib.hid hn6
    clear hn6
    go_upto_region 16 with fail
    rw [← hw11, ← hb2]
    clear hw11 hb2 ok9 ok6 b6 E1011 N9 E9
    have hq : clearN fr to_ no k n5 = clearN fr to_ no k n6 := by rw [HN5.out, HN6.out]; exact HM2.out k
    have hel : n6.ents.length ≤ 40 := by rw [HN6.out]; exact HLU2.out k
    have hee : n5.ents = n6.ents := by
      have := congrArg NodeD.ents hq
      exact this
    have hap : Apart w11 B [b1, b2] := by
      intro b hb
      simp only [List.mem_cons, List.not_mem_nil, or_false] at hb
      have h1 := HBW.out
      have h2 := HE.out.size
      rcases hb with rfl | rfl
      · exact ⟨by omega, N11.noTag (by decide)⟩
      · exact ⟨by omega, M11.noTag (by decide)⟩
    have HQ := Lib.hid hq
    have HEE := Lib.hid hee
    have HEL := Lib.hid hel
    have HAP := Lib.hid hap
    have a6 : w11.cell? ⟨b1, 6, none⟩ = some (.int .i64 n5.mtime) := N11.cell 6
    have a7 : w11.cell? ⟨b1, 7, none⟩ = some (.int .i64 n5.ctime) := N11.cell 7
    have e6 : w11.cell? ⟨b2, 6, none⟩ = some (.int .i64 n6.mtime) := M11.cell 6
    have e7 : w11.cell? ⟨b2, 7, none⟩ = some (.int .i64 n6.ctime) := M11.cell 7
    have f6 : w11.frozen? ⟨b1, 6, none⟩ = false := (N11.free 6).trans (by simp)
    have f7 : w11.frozen? ⟨b1, 7, none⟩ = false := (N11.free 7).trans (by simp)
    have g6 : w11.frozen? ⟨b2, 6, none⟩ = false := (M11.free 6).trans (by simp)
    have g7 : w11.frozen? ⟨b2, 7, none⟩ = false := (M11.free 7).trans (by simp)
    have az := N11.lt
    have ez := M11.lt
    have hne2 : b2 ≠ b1 := Ne.symm hne
    clear hq hee hel hap
    by_cases hd1 : (k : Int) = fr
    case' pos =>
      have s1 : ((k : Int) == fr) = true := by simpa using hd1
      have HD : Hid ((k : Int) = fr ∨ (k : Int) = to_) := Lib.hid (.inl hd1)
      clear hd1
    case' neg =>
      have s1 : ((k : Int) == fr) = false := by simpa using hd1
      by_cases hd2 : (k : Int) = to_
      case' pos =>
        have s2 : ((k : Int) == to_) = true := by simpa using hd2
        have HD : Hid ((k : Int) = fr ∨ (k : Int) = to_) := Lib.hid (.inr hd2)
        clear hd1 hd2
      case' neg =>
        have s2 : ((k : Int) == to_) = false := by simpa using hd2
        have HD : Hid (¬ ((k : Int) = fr ∨ (k : Int) = to_)) := Lib.hid (fun h => h.elim hd1 hd2)
        clear hd1 hd2
    · by_cases hc1 : (k : Int) = no
      · have s3 : ((k : Int) == no) = true := by simpa using hc1
        have HC := Lib.hid hc1
        clear hc1
        go_upto_region 21 with fail
        obtain ⟨W2, hW2⟩ : ∃ W2, W2 = (w11.setCell ⟨b1, 7, none⟩ (.int .i64 0)).setCell ⟨b2, 7, none⟩ (.int .i64 0) := ⟨_, rfl⟩
        obtain ⟨n8, hn8⟩ : ∃ n8 : NodeD, n8 = { n5 with ctime := 0 } := ⟨_, rfl⟩
        obtain ⟨m8, hm8⟩ : ∃ m8 : NodeD, m8 = { n6 with ctime := 0 } := ⟨_, rfl⟩
        obtain ⟨N13, M13, O13⟩ := clear_one N11 M11 hne hW2 hn8 hm8
        rw [← hW2]
        clear hW2 a6 a7 e7 e6 f6 f7 g6 g7 az ez
        have O := O13
        have hnm : n8 = m8 := by
          have := HQ.out
          unfold clearN at this
          simp only [if_neg HD.out, if_pos HC.out] at this
          rw [hn8, hm8]
          exact this
        have q1 : EntsAt W2 A5 n8.ents := by
          have := (ok11.ents.only O HAP.out).ents
          rw [hn8]; exact this
        have q2 : EntsAt W2 A6 m8.ents := by
          have := (okm.ents.only O HAP.out).ents
          rw [hm8]; exact this
        have q3 : n8.ents.length ≤ 1000000 := by
          have := HEL.out
          have h2 := HEE.out
          rw [hn8]; show n5.ents.length ≤ _
          rw [h2]; omega
        have EO : Ext wr W2 := O.after HX11.out (by intro b hb; simp only [List.mem_cons, List.not_mem_nil, or_false] at hb; rcases hb with rfl | rfl <;> omega)
        have HEO := Lib.hid EO
        have H1 := Lib.hid hnm
        have Q1 := Lib.hid q1
        have Q2 := Lib.hid q2
        have Q3 := Lib.hid q3
        clear hnm q1 q2 q3 EO O ok11 okm hn8 hm8
        go_wp2_with (first | (refine wpList_load_node rfl _ rfl b1 n8 A5 k5 rfl N13 ?_) | (refine wpList_load_node rfl _ rfl b2 m8 A6 k6 rfl M13 ?_))
        have KS := same_node n8 A5 A6 k5 k6 _ Q1.out (by rw [H1.out]; exact Q2.out) Q3.out
        rw [show (Value.agg #[.int .i64 m8.no, .int .i64 m8.dev, .int .i64 m8.kind, .int .i64 m8.mode, .int .i64 m8.uid, .int .i64 m8.gid, .int .i64 m8.mtime, .int .i64 m8.ctime, .int .i64 m8.links, .int .i64 m8.up, .string (bs m8.data), .slice A6 m8.ents.length k6]) = .agg #[.int .i64 n8.no, .int .i64 n8.dev, .int .i64 n8.kind, .int .i64 n8.mode, .int .i64 n8.uid, .int .i64 n8.gid, .int .i64 n8.mtime, .int .i64 n8.ctime, .int .i64 n8.links, .int .i64 n8.up, .string (bs n8.data), .slice A6 n8.ents.length k6] by rw [H1.out]]
        refine KS.mono ?_
        rintro e w14 ⟨rfl, b14⟩
        go_wp2_with fail
        go_roundw
        case rel => exact ⟨k + 1, by go_num, by omega, by omega, (HE.out.trans HEO.out).trans b14⟩
        case measure => simp [intOf]; omega
      · have s3 : ((k : Int) == no) = false := by simpa using hc1
        have HC := Lib.hid hc1
        clear hc1
        go_upto_region 21 with fail
        clear a6 a7 e6 e7 f6 f7 g6 g7 az ez
        have O : Only [b1, b2] w11 w11 := Only.refl _ _
        have hnm : n5 = n6 := by
          have := HQ.out
          unfold clearN at this
          simp only [if_neg HD.out, if_neg HC.out] at this
          exact this
        have q1 : EntsAt w11 A5 n5.ents := by
          have := (ok11.ents.only O HAP.out).ents
          exact this
        have q2 : EntsAt w11 A6 n6.ents := by
          have := (okm.ents.only O HAP.out).ents
          exact this
        have q3 : n5.ents.length ≤ 1000000 := by
          have := HEL.out
          have h2 := HEE.out
          show n5.ents.length ≤ _
          rw [h2]; omega
        have EO : Ext wr w11 := O.after HX11.out (by intro b hb; simp only [List.mem_cons, List.not_mem_nil, or_false] at hb; rcases hb with rfl | rfl <;> omega)
        have HEO := Lib.hid EO
        have H1 := Lib.hid hnm
        have Q1 := Lib.hid q1
        have Q2 := Lib.hid q2
        have Q3 := Lib.hid q3
        clear hnm q1 q2 q3 EO O ok11 okm
        go_wp2_with (first | (refine wpList_load_node rfl _ rfl b1 n5 A5 k5 rfl N11 ?_) | (refine wpList_load_node rfl _ rfl b2 n6 A6 k6 rfl M11 ?_))
        have KS := same_node n5 A5 A6 k5 k6 _ Q1.out (by rw [H1.out]; exact Q2.out) Q3.out
        rw [show (Value.agg #[.int .i64 n6.no, .int .i64 n6.dev, .int .i64 n6.kind, .int .i64 n6.mode, .int .i64 n6.uid, .int .i64 n6.gid, .int .i64 n6.mtime, .int .i64 n6.ctime, .int .i64 n6.links, .int .i64 n6.up, .string (bs n6.data), .slice A6 n6.ents.length k6]) = .agg #[.int .i64 n5.no, .int .i64 n5.dev, .int .i64 n5.kind, .int .i64 n5.mode, .int .i64 n5.uid, .int .i64 n5.gid, .int .i64 n5.mtime, .int .i64 n5.ctime, .int .i64 n5.links, .int .i64 n5.up, .string (bs n5.data), .slice A6 n5.ents.length k6] by rw [H1.out]]
        refine KS.mono ?_
        rintro e w14 ⟨rfl, b14⟩
        go_wp2_with fail
        go_roundw
        case rel => exact ⟨k + 1, by go_num, by omega, by omega, (HE.out.trans HEO.out).trans b14⟩
        case measure => simp [intOf]; omega
    · by_cases hc1 : (k : Int) = no
      · have s3 : ((k : Int) == no) = true := by simpa using hc1
        have HC := Lib.hid hc1
        clear hc1
        go_upto_region 19 with fail
        obtain ⟨W, hW⟩ : ∃ W, W = (((w11.setCell ⟨b1, 6, none⟩ (.int .i64 0)).setCell ⟨b2, 6, none⟩ (.int .i64 0)).setCell ⟨b1, 7, none⟩ (.int .i64 0)).setCell ⟨b2, 7, none⟩ (.int .i64 0) := ⟨_, rfl⟩
        obtain ⟨n7, hn7⟩ : ∃ n7 : NodeD, n7 = { n5 with mtime := 0, ctime := 0 } := ⟨_, rfl⟩
        obtain ⟨m7, hm7⟩ : ∃ m7 : NodeD, m7 = { n6 with mtime := 0, ctime := 0 } := ⟨_, rfl⟩
        obtain ⟨N12, M12, O12⟩ := clear_two N11 M11 hne hW hn7 hm7
        rw [← hW]
        clear hW a6 a7 e6 e7 f6 f7 g6 g7 az ez
        have a7 : W.cell? ⟨b1, 7, none⟩ = some (.int .i64 n7.ctime) := N12.cell 7
        have e7 : W.cell? ⟨b2, 7, none⟩ = some (.int .i64 m7.ctime) := M12.cell 7
        have f7 : W.frozen? ⟨b1, 7, none⟩ = false := (N12.free 7).trans (by simp)
        have g7 : W.frozen? ⟨b2, 7, none⟩ = false := (M12.free 7).trans (by simp)
        have az := N12.lt
        have ez := M12.lt
        go_upto_region 21 with fail
        obtain ⟨W2, hW2⟩ : ∃ W2, W2 = (W.setCell ⟨b1, 7, none⟩ (.int .i64 0)).setCell ⟨b2, 7, none⟩ (.int .i64 0) := ⟨_, rfl⟩
        obtain ⟨n8, hn8⟩ : ∃ n8 : NodeD, n8 = { n7 with ctime := 0 } := ⟨_, rfl⟩
        obtain ⟨m8, hm8⟩ : ∃ m8 : NodeD, m8 = { m7 with ctime := 0 } := ⟨_, rfl⟩
        obtain ⟨N13, M13, O13⟩ := clear_one N12 M12 hne hW2 hn8 hm8
        rw [← hW2]
        clear hW2 a7 e7 f7 g7 az ez
        have O := O12.then O13
        have hnm : n8 = m8 := by
          have := HQ.out
          unfold clearN at this
          simp only [if_pos HD.out, if_pos HC.out] at this
          rw [hn8, hm8, hn7, hm7]
          exact this
        have q1 : EntsAt W2 A5 n8.ents := by
          have := (ok11.ents.only O HAP.out).ents
          rw [hn8, hn7]; exact this
        have q2 : EntsAt W2 A6 m8.ents := by
          have := (okm.ents.only O HAP.out).ents
          rw [hm8, hm7]; exact this
        have q3 : n8.ents.length ≤ 1000000 := by
          have := HEL.out
          have h2 := HEE.out
          rw [hn8, hn7]; show n5.ents.length ≤ _
          rw [h2]; omega
        have EO : Ext wr W2 := O.after HX11.out (by intro b hb; simp only [List.mem_cons, List.not_mem_nil, or_false] at hb; rcases hb with rfl | rfl <;> omega)
        have HEO := Lib.hid EO
        have H1 := Lib.hid hnm
        have Q1 := Lib.hid q1
        have Q2 := Lib.hid q2
        have Q3 := Lib.hid q3
        clear hnm q1 q2 q3 EO O ok11 okm hn8 hm8 hn7 hm7
        go_wp2_with (first | (refine wpList_load_node rfl _ rfl b1 n8 A5 k5 rfl N13 ?_) | (refine wpList_load_node rfl _ rfl b2 m8 A6 k6 rfl M13 ?_))
        have KS := same_node n8 A5 A6 k5 k6 _ Q1.out (by rw [H1.out]; exact Q2.out) Q3.out
        rw [show (Value.agg #[.int .i64 m8.no, .int .i64 m8.dev, .int .i64 m8.kind, .int .i64 m8.mode, .int .i64 m8.uid, .int .i64 m8.gid, .int .i64 m8.mtime, .int .i64 m8.ctime, .int .i64 m8.links, .int .i64 m8.up, .string (bs m8.data), .slice A6 m8.ents.length k6]) = .agg #[.int .i64 n8.no, .int .i64 n8.dev, .int .i64 n8.kind, .int .i64 n8.mode, .int .i64 n8.uid, .int .i64 n8.gid, .int .i64 n8.mtime, .int .i64 n8.ctime, .int .i64 n8.links, .int .i64 n8.up, .string (bs n8.data), .slice A6 n8.ents.length k6] by rw [H1.out]]
        refine KS.mono ?_
        rintro e w14 ⟨rfl, b14⟩
        go_wp2_with fail
        go_roundw
        case rel => exact ⟨k + 1, by go_num, by omega, by omega, (HE.out.trans HEO.out).trans b14⟩
        case measure => simp [intOf]; omega
      · have s3 : ((k : Int) == no) = false := by simpa using hc1
        have HC := Lib.hid hc1
        clear hc1
        go_upto_region 19 with fail
        obtain ⟨W, hW⟩ : ∃ W, W = (((w11.setCell ⟨b1, 6, none⟩ (.int .i64 0)).setCell ⟨b2, 6, none⟩ (.int .i64 0)).setCell ⟨b1, 7, none⟩ (.int .i64 0)).setCell ⟨b2, 7, none⟩ (.int .i64 0) := ⟨_, rfl⟩
        obtain ⟨n7, hn7⟩ : ∃ n7 : NodeD, n7 = { n5 with mtime := 0, ctime := 0 } := ⟨_, rfl⟩
        obtain ⟨m7, hm7⟩ : ∃ m7 : NodeD, m7 = { n6 with mtime := 0, ctime := 0 } := ⟨_, rfl⟩
        obtain ⟨N12, M12, O12⟩ := clear_two N11 M11 hne hW hn7 hm7
        rw [← hW]
        clear hW a6 a7 e6 e7 f6 f7 g6 g7 az ez
        go_upto_region 21 with fail
        have O := O12
        have hnm : n7 = m7 := by
          have := HQ.out
          unfold clearN at this
          simp only [if_pos HD.out, if_neg HC.out] at this
          rw [hn7, hm7]
          exact this
        have q1 : EntsAt W A5 n7.ents := by
          have := (ok11.ents.only O HAP.out).ents
          rw [hn7]; exact this
        have q2 : EntsAt W A6 m7.ents := by
          have := (okm.ents.only O HAP.out).ents
          rw [hm7]; exact this
        have q3 : n7.ents.length ≤ 1000000 := by
          have := HEL.out
          have h2 := HEE.out
          rw [hn7]; show n5.ents.length ≤ _
          rw [h2]; omega
        have EO : Ext wr W := O.after HX11.out (by intro b hb; simp only [List.mem_cons, List.not_mem_nil, or_false] at hb; rcases hb with rfl | rfl <;> omega)
        have HEO := Lib.hid EO
        have H1 := Lib.hid hnm
        have Q1 := Lib.hid q1
        have Q2 := Lib.hid q2
        have Q3 := Lib.hid q3
        clear hnm q1 q2 q3 EO O ok11 okm hn7 hm7
        go_wp2_with (first | (refine wpList_load_node rfl _ rfl b1 n7 A5 k5 rfl N12 ?_) | (refine wpList_load_node rfl _ rfl b2 m7 A6 k6 rfl M12 ?_))
        have KS := same_node n7 A5 A6 k5 k6 _ Q1.out (by rw [H1.out]; exact Q2.out) Q3.out
        rw [show (Value.agg #[.int .i64 m7.no, .int .i64 m7.dev, .int .i64 m7.kind, .int .i64 m7.mode, .int .i64 m7.uid, .int .i64 m7.gid, .int .i64 m7.mtime, .int .i64 m7.ctime, .int .i64 m7.links, .int .i64 m7.up, .string (bs m7.data), .slice A6 m7.ents.length k6]) = .agg #[.int .i64 n7.no, .int .i64 n7.dev, .int .i64 n7.kind, .int .i64 n7.mode, .int .i64 n7.uid, .int .i64 n7.gid, .int .i64 n7.mtime, .int .i64 n7.ctime, .int .i64 n7.links, .int .i64 n7.up, .string (bs n7.data), .slice A6 n7.ents.length k6] by rw [H1.out]]
        refine KS.mono ?_
        rintro e w14 ⟨rfl, b14⟩
        go_wp2_with fail
        go_roundw
        case rel => exact ⟨k + 1, by go_num, by omega, by omega, (HE.out.trans HEO.out).trans b14⟩
        case measure => simp [intOf]; omega
    · by_cases hc1 : (k : Int) = no
      · have s3 : ((k : Int) == no) = true := by simpa using hc1
        have HC := Lib.hid hc1
        clear hc1
        go_upto_region 19 with fail
        obtain ⟨W, hW⟩ : ∃ W, W = (((w11.setCell ⟨b1, 6, none⟩ (.int .i64 0)).setCell ⟨b2, 6, none⟩ (.int .i64 0)).setCell ⟨b1, 7, none⟩ (.int .i64 0)).setCell ⟨b2, 7, none⟩ (.int .i64 0) := ⟨_, rfl⟩
        obtain ⟨n7, hn7⟩ : ∃ n7 : NodeD, n7 = { n5 with mtime := 0, ctime := 0 } := ⟨_, rfl⟩
        obtain ⟨m7, hm7⟩ : ∃ m7 : NodeD, m7 = { n6 with mtime := 0, ctime := 0 } := ⟨_, rfl⟩
        obtain ⟨N12, M12, O12⟩ := clear_two N11 M11 hne hW hn7 hm7
        rw [← hW]
        clear hW a6 a7 e6 e7 f6 f7 g6 g7 az ez
        have a7 : W.cell? ⟨b1, 7, none⟩ = some (.int .i64 n7.ctime) := N12.cell 7
        have e7 : W.cell? ⟨b2, 7, none⟩ = some (.int .i64 m7.ctime) := M12.cell 7
        have f7 : W.frozen? ⟨b1, 7, none⟩ = false := (N12.free 7).trans (by simp)
        have g7 : W.frozen? ⟨b2, 7, none⟩ = false := (M12.free 7).trans (by simp)
        have az := N12.lt
        have ez := M12.lt
        go_upto_region 21 with fail
        obtain ⟨W2, hW2⟩ : ∃ W2, W2 = (W.setCell ⟨b1, 7, none⟩ (.int .i64 0)).setCell ⟨b2, 7, none⟩ (.int .i64 0) := ⟨_, rfl⟩
        obtain ⟨n8, hn8⟩ : ∃ n8 : NodeD, n8 = { n7 with ctime := 0 } := ⟨_, rfl⟩
        obtain ⟨m8, hm8⟩ : ∃ m8 : NodeD, m8 = { m7 with ctime := 0 } := ⟨_, rfl⟩
        obtain ⟨N13, M13, O13⟩ := clear_one N12 M12 hne hW2 hn8 hm8
        rw [← hW2]
        clear hW2 a7 e7 f7 g7 az ez
        have O := O12.then O13
        have hnm : n8 = m8 := by
          have := HQ.out
          unfold clearN at this
          simp only [if_pos HD.out, if_pos HC.out] at this
          rw [hn8, hm8, hn7, hm7]
          exact this
        have q1 : EntsAt W2 A5 n8.ents := by
          have := (ok11.ents.only O HAP.out).ents
          rw [hn8, hn7]; exact this
        have q2 : EntsAt W2 A6 m8.ents := by
          have := (okm.ents.only O HAP.out).ents
          rw [hm8, hm7]; exact this
        have q3 : n8.ents.length ≤ 1000000 := by
          have := HEL.out
          have h2 := HEE.out
          rw [hn8, hn7]; show n5.ents.length ≤ _
          rw [h2]; omega
        have EO : Ext wr W2 := O.after HX11.out (by intro b hb; simp only [List.mem_cons, List.not_mem_nil, or_false] at hb; rcases hb with rfl | rfl <;> omega)
        have HEO := Lib.hid EO
        have H1 := Lib.hid hnm
        have Q1 := Lib.hid q1
        have Q2 := Lib.hid q2
        have Q3 := Lib.hid q3
        clear hnm q1 q2 q3 EO O ok11 okm hn8 hm8 hn7 hm7
        go_wp2_with (first | (refine wpList_load_node rfl _ rfl b1 n8 A5 k5 rfl N13 ?_) | (refine wpList_load_node rfl _ rfl b2 m8 A6 k6 rfl M13 ?_))
        have KS := same_node n8 A5 A6 k5 k6 _ Q1.out (by rw [H1.out]; exact Q2.out) Q3.out
        rw [show (Value.agg #[.int .i64 m8.no, .int .i64 m8.dev, .int .i64 m8.kind, .int .i64 m8.mode, .int .i64 m8.uid, .int .i64 m8.gid, .int .i64 m8.mtime, .int .i64 m8.ctime, .int .i64 m8.links, .int .i64 m8.up, .string (bs m8.data), .slice A6 m8.ents.length k6]) = .agg #[.int .i64 n8.no, .int .i64 n8.dev, .int .i64 n8.kind, .int .i64 n8.mode, .int .i64 n8.uid, .int .i64 n8.gid, .int .i64 n8.mtime, .int .i64 n8.ctime, .int .i64 n8.links, .int .i64 n8.up, .string (bs n8.data), .slice A6 n8.ents.length k6] by rw [H1.out]]
        refine KS.mono ?_
        rintro e w14 ⟨rfl, b14⟩
        go_wp2_with fail
        go_roundw
        case rel => exact ⟨k + 1, by go_num, by omega, by omega, (HE.out.trans HEO.out).trans b14⟩
        case measure => simp [intOf]; omega
      · have s3 : ((k : Int) == no) = false := by simpa using hc1
        have HC := Lib.hid hc1
        clear hc1
        go_upto_region 19 with fail
        obtain ⟨W, hW⟩ : ∃ W, W = (((w11.setCell ⟨b1, 6, none⟩ (.int .i64 0)).setCell ⟨b2, 6, none⟩ (.int .i64 0)).setCell ⟨b1, 7, none⟩ (.int .i64 0)).setCell ⟨b2, 7, none⟩ (.int .i64 0) := ⟨_, rfl⟩
        obtain ⟨n7, hn7⟩ : ∃ n7 : NodeD, n7 = { n5 with mtime := 0, ctime := 0 } := ⟨_, rfl⟩
        obtain ⟨m7, hm7⟩ : ∃ m7 : NodeD, m7 = { n6 with mtime := 0, ctime := 0 } := ⟨_, rfl⟩
        obtain ⟨N12, M12, O12⟩ := clear_two N11 M11 hne hW hn7 hm7
        rw [← hW]
        clear hW a6 a7 e6 e7 f6 f7 g6 g7 az ez
        go_upto_region 21 with fail
        have O := O12
        have hnm : n7 = m7 := by
          have := HQ.out
          unfold clearN at this
          simp only [if_pos HD.out, if_neg HC.out] at this
          rw [hn7, hm7]
          exact this
        have q1 : EntsAt W A5 n7.ents := by
          have := (ok11.ents.only O HAP.out).ents
          rw [hn7]; exact this
        have q2 : EntsAt W A6 m7.ents := by
          have := (okm.ents.only O HAP.out).ents
          rw [hm7]; exact this
        have q3 : n7.ents.length ≤ 1000000 := by
          have := HEL.out
          have h2 := HEE.out
          rw [hn7]; show n5.ents.length ≤ _
          rw [h2]; omega
        have EO : Ext wr W := O.after HX11.out (by intro b hb; simp only [List.mem_cons, List.not_mem_nil, or_false] at hb; rcases hb with rfl | rfl <;> omega)
        have HEO := Lib.hid EO
        have H1 := Lib.hid hnm
        have Q1 := Lib.hid q1
        have Q2 := Lib.hid q2
        have Q3 := Lib.hid q3
        clear hnm q1 q2 q3 EO O ok11 okm hn7 hm7
        go_wp2_with (first | (refine wpList_load_node rfl _ rfl b1 n7 A5 k5 rfl N12 ?_) | (refine wpList_load_node rfl _ rfl b2 m7 A6 k6 rfl M12 ?_))
        have KS := same_node n7 A5 A6 k5 k6 _ Q1.out (by rw [H1.out]; exact Q2.out) Q3.out
        rw [show (Value.agg #[.int .i64 m7.no, .int .i64 m7.dev, .int .i64 m7.kind, .int .i64 m7.mode, .int .i64 m7.uid, .int .i64 m7.gid, .int .i64 m7.mtime, .int .i64 m7.ctime, .int .i64 m7.links, .int .i64 m7.up, .string (bs m7.data), .slice A6 m7.ents.length k6]) = .agg #[.int .i64 n7.no, .int .i64 n7.dev, .int .i64 n7.kind, .int .i64 n7.mode, .int .i64 n7.uid, .int .i64 n7.gid, .int .i64 n7.mtime, .int .i64 n7.ctime, .int .i64 n7.links, .int .i64 n7.up, .string (bs n7.data), .slice A6 n7.ents.length k6] by rw [H1.out]]
        refine KS.mono ?_
        rintro e w14 ⟨rfl, b14⟩
        go_wp2_with fail
        go_roundw
        case rel => exact ⟨k + 1, by go_num, by omega, by omega, (HE.out.trans HEO.out).trans b14⟩
        case measure => simp [intOf]; omega
set_option maxRecDepth 100000 in
theorem renameBack_walk {H : Type} {enc : TypeId × Value → H} (W : World) (base : Nat) (v0 v1 : Value) (d0 d1 : DataW H) (p0 p1 : List MemPlace)
    (k0 : Value.okWide Try.prog W .any base 24 v0) (h0 : DataW.Trod enc Try.prog W 0 (fun _ => true) true 24 v0 d0 p0)
    (k1 : Value.okWide Try.prog W .any base 64 v1) (h1 : DataW.Trod enc Try.prog W 0 (fun _ => true) true 64 v1 d1 p1)
    : Calls Try.prog 14 #[v0, v1] W (Ret W (.bool true)) := by
  obtain ⟨A, l, cap, rfl, hA, _, hl, hc⟩ := open_Items k0 h0
  obtain ⟨x, rfl⟩ := open_Act k1 h1
  exact renameBack_any A l cap x W hA (by unfold maxLen at hc; omega)
end Go.Proofs.Ytebghednhjaniaa
