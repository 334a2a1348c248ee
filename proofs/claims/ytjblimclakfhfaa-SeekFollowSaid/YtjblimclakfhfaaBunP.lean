/- Plain: the ways of a tree that grows. | Plain: what is left where a node goes. | Layer 18, plain; Less of both. | Layer 18: the program's Leave. (Printed by gen_drpb.py.) | Layer 18: the program's gone, Unlink, Rmdir. (Printed by gen_drpc.py.) | Layer 19: what a move makes; the program's over. | Layer 19: the program's Move. (Printed by gen_movb.py.) | Layer 17: the program's Dir, File, Sym. (Printed by gen_brgc.py.) | Layer 17: the chapter's example. | Layer 20: the reference's Write. | Law 20's do: an attribute call of both. (Printed by gen_doa.py.) | Layer 20 (attr): the chapter's example. | The law AttrPlays, walked. | The law BringThere, walked. (Printed by gen_brgg.py.) | Plain: trees stay true where names go. | Plain: a tree stays true through a move. | Plain, for RenameOne: a grown tree has every number; what a move leaves. | Layer 15 (seek), plain: what is followed, and what is not. | Layer 15 (seek), plain: a directory's path leads to it. -/
import Derived.Test.YtjblimclakfhfaaBunO
import Derived.Test.YtjblimclakfhfaaBunF
import Derived.Test.YtjblimclakfhfaaBunH
import Derived.Test.YtjblimclakfhfaaBunL
import Derived.Test.YtjblimclakfhfaaBunE
import Derived.Test.YtjblimclakfhfaaShelf
import Derived.Test.YtjblimclakfhfaaBunD
import Derived.Test.YtjblimclakfhfaaBunG
import Derived.Deep.CutBlock
namespace Go.Proofs.Ytjblimclakfhfaa

/-- What covers what. -/
structure Mounts (S : TreeD) : Prop where
  over0 : ∀ h : 0 < S.devs.length, S.devs[0].over = 0
  roots : ∀ k, (h : k < S.devs.length) → ∃ m ∈ S.nodes, m.no = S.devs[k].root ∧ m.kind = 1 ∧ m.dev = (k : Int) + 1
  free : ∀ k, (h : k + 1 < S.devs.length) → ∃ m ∈ S.nodes, m.no = S.devs[k + 1].over ∧ rootF S.devs m.dev ≠ S.devs[k + 1].over
theorem rootF_app {ds : List DevD} {d : DevD} {i : Int} (h : hasD ds i = true) : rootF (ds ++ [d]) i = rootF ds i := by
  have h2 : hasD (ds ++ [d]) i = true := by
    unfold hasD at h ⊢
    rw [List.length_append]
    simp at h ⊢
    omega
  unfold rootF
  rw [if_pos h, if_pos h2]
  unfold devN
  have : (i - 1).toNat < ds.length := by unfold hasD at h; simp at h; omega
  rw [List.getD_eq_getElem?_getD, List.getD_eq_getElem?_getD, List.getElem?_append_left this]
theorem rootF_setQ (ds : List DevD) (d i : Int) (q : SpaceD) : rootF (setQ ds d q) i = rootF ds i := by
  unfold rootF hasD
  rw [setQ_len]
  split
  · rename_i h
    unfold devN
    have h1 : (i - 1).toNat < ds.length := by simp at h; omega
    have h2 : (i - 1).toNat < (setQ ds d q).length := by rw [setQ_len]; exact h1
    rw [List.getD_eq_getElem?_getD, List.getD_eq_getElem?_getD, List.getElem?_eq_getElem h1, List.getElem?_eq_getElem h2]
    exact (setQ_at h2 h1).1
  · rfl
theorem mounts_root {S : TreeD} (h : Grown S) (m : Mounts S) {over b n : Int} (ho : ∃ x ∈ S.nodes, x.no = over ∧ rootF S.devs x.dev ≠ over) : Mounts (rootT S over b n) := by
  have sub : ∀ m ∈ S.nodes, m ∈ (rootT S over b n).nodes := fun m hm => List.mem_append_left _ hm
  have hlen : (rootT S over b n).devs.length = S.devs.length + 1 := by simp [rootT]
  have hold : ∀ k, (hk : k < S.devs.length) → (hk' : k < (rootT S over b n).devs.length) → (rootT S over b n).devs[k]'hk' = S.devs[k] := fun k hk hk' => app_left S.devs _ k hk hk'
  have hnew : ∀ k, (hk : k = S.devs.length) → (hk' : k < (rootT S over b n).devs.length) → (rootT S over b n).devs[k]'hk' = ⟨S.last + 1, over, ⟨1, 1, b, n⟩⟩ := fun k hk hk' => app_right S.devs _ k hk hk'
  have hrf : ∀ x ∈ S.nodes, rootF (rootT S over b n).devs x.dev = rootF S.devs x.dev := fun x hx => rootF_app (h.on x hx).1
  refine ⟨fun h0 => ?_, fun k hk => ?_, fun k hk => ?_⟩
  · exact (congrArg DevD.over (hold 0 h.good.devs h0)).trans (m.over0 h.good.devs)
  · rw [hlen] at hk
    by_cases hk2 : k < S.devs.length
    · obtain ⟨x, hx, e⟩ := m.roots k hk2
      rw [hold k hk2]
      exact ⟨x, sub x hx, e⟩
    · rw [hnew k (by omega)]
      refine ⟨rootNode S, List.mem_append_right _ (List.mem_singleton.2 rfl), rfl, rfl, ?_⟩
      show (S.devs.length : Int) + 1 = k + 1
      omega
  · rw [hlen] at hk
    by_cases hk2 : k + 1 < S.devs.length
    · obtain ⟨x, hx, e1, e2⟩ := m.free k hk2
      rw [hold (k + 1) hk2]
      exact ⟨x, sub x hx, e1, by rw [hrf x hx]; exact e2⟩
    · rw [hnew (k + 1) (by omega)]
      obtain ⟨x, hx, e1, e2⟩ := ho
      exact ⟨x, sub x hx, e1, by rw [hrf x hx]; exact e2⟩
theorem mounts_mount {S : TreeD} (h : Grown S) (m : Mounts S) (a b n : Int) : Mounts (mountT S a b n) := by
  unfold mountT
  split
  · rename_i h0
    refine mounts_root h m ?_
    unfold mountE at h0
    split at h0
    · cases h0
    · rename_i hi
      split at h0
      · cases h0
      · split at h0
        · cases h0
        · rename_i hk
          have hi2 : isN S.nodes a = true := by simpa using hi
          rw [not_or] at hk
          exact ⟨_, (isN_true hi2).2.2, (isN_true hi2).2.1, hk.2⟩
  · exact m
theorem mounts_make {S : TreeD} (m : Mounts S) (n : NodeD) : Mounts (makeT S n) := by
  unfold makeT
  split
  · obtain ⟨Q, hQ⟩ : ∃ Q, Q = setQ S.devs n.dev (takeQ (devN S.devs n.dev).q (blocksF n.kind n.data.length) 1) := ⟨_, rfl⟩
    have hlen : Q.length = S.devs.length := by rw [hQ, setQ_len]
    have hq : ∀ k, (hk : k < Q.length) → (hk2 : k < S.devs.length) → Q[k].root = S.devs[k].root ∧ Q[k].over = S.devs[k].over := by
      intro k hk hk2
      subst hQ
      exact setQ_at hk hk2
    have hrf : ∀ i, rootF Q i = rootF S.devs i := fun i => by rw [hQ]; exact rootF_setQ _ _ _ _
    rw [← hQ]
    refine ⟨fun h0 => ?_, fun k hk => ?_, fun k hk => ?_⟩
    · have h0' : 0 < S.devs.length := by rw [← hlen]; exact h0
      exact (hq 0 h0 h0').2.trans (m.over0 h0')
    · have hk2 : k < S.devs.length := by rw [← hlen]; exact hk
      obtain ⟨x, hx, e1, e2⟩ := m.roots k hk2
      exact ⟨x, List.mem_append_left _ hx, e1.trans (hq k hk hk2).1.symm, e2⟩
    · have hk2 : k + 1 < S.devs.length := by rw [← hlen]; exact hk
      obtain ⟨x, hx, e1, e2⟩ := m.free k hk2
      have e := (hq (k + 1) hk hk2).2
      refine ⟨x, List.mem_append_left _ hx, e1.trans e.symm, ?_⟩
      show rootF Q x.dev ≠ Q[k + 1].over
      rw [hrf, e]; exact e2
  · exact m
theorem mounts_set {S : TreeD} (m : Mounts S) {n : NodeD} (hsame : ∀ m ∈ S.nodes, m.no = n.no → n.kind = m.kind ∧ n.dev = m.dev) : Mounts (setT S n) := by
  have keep : ∀ m ∈ S.nodes, ∃ m' ∈ (setT S n).nodes, m'.no = m.no ∧ m'.kind = m.kind ∧ m'.dev = m.dev := by
    intro m hm
    refine ⟨_, set_has hm, ?_⟩
    split
    · rename_i e; exact ⟨e.symm, hsame m hm e⟩
    · exact ⟨rfl, rfl, rfl⟩
  refine ⟨m.over0, fun k hk => ?_, fun k hk => ?_⟩
  · obtain ⟨x, hx, e1, e2, e3⟩ := m.roots k hk
    obtain ⟨y, hy, f1, f2, f3⟩ := keep x hx
    exact ⟨y, hy, f1.trans e1, f2.trans e2, f3.trans e3⟩
  · obtain ⟨x, hx, e1, e2⟩ := m.free k hk
    obtain ⟨y, hy, f1, f2, f3⟩ := keep x hx
    refine ⟨y, hy, f1.trans e1, ?_⟩
    rw [f3]; exact e2
theorem mounts_grow {S : TreeD} (h : Grown S) (m : Mounts S) (it : ItemD) : Mounts (growT S it) := by
  unfold growT
  split
  · exact mounts_mount h m _ _ _
  · split
    · rename_i hc
      split
      · rename_i h0
        unfold comesI at hc
        simp only [Bool.and_eq_true, decide_eq_true_eq] at hc
        obtain ⟨⟨⟨⟨c1, c2⟩, c3⟩, c4⟩, c5⟩ := hc
        obtain ⟨g1, g2, g3⟩ := getN_node c1
        refine mounts_set (mounts_make m _) ?_
        intro x hx e
        have hx2 : x ∈ S.nodes ++ [{ nodeI S it with no := S.last + 1 }] := by unfold makeT at hx; rw [if_pos h0] at hx; exact hx
        have e2 : x.no = (getN S.nodes (atI S it)).no := e
        rcases List.mem_append.1 hx2 with hx2 | hx2
        · have := (mem_getN h.good.nos hx2).1
          rw [e2, g2] at this
          rw [← this]; exact ⟨rfl, rfl⟩
        · rw [List.mem_singleton] at hx2
          subst hx2
          have := (h.good.nos.2 _ g3).2
          have e3 : S.last + 1 = (getN S.nodes (atI S it)).no := e2
          omega
      · exact m
    · exact m
theorem mounts_all {S : TreeD} (h : Grown S) (m : Mounts S) (l : List ItemD) (hs : ∀ x ∈ l, shortI x) : Mounts (growAll S l) := by
  unfold growAll
  induction l generalizing S with
  | nil => exact m
  | cons x l ih => rw [List.foldl_cons]; exact ih (grown_grow h x (hs x (List.mem_cons_self ..))) (mounts_grow h m x) fun y hy => hs y (List.mem_cons_of_mem _ hy)
theorem mounts_first {b n : Int} : Mounts (rootT emptyT 0 b n) := by
  refine ⟨fun _ => rfl, fun k hk => ?_, fun k hk => ?_⟩
  · have hk2 : k < 1 := hk
    have : k = 0 := by omega
    subst this
    exact ⟨rootNode emptyT, List.mem_append_right _ (List.mem_singleton.2 rfl), rfl, rfl, rfl⟩
  · have : k + 1 < 1 := hk
    omega
/-! ### The ways. -/
theorem nm_ne {S : TreeD} (hn : NamesOk S) {no : Int} {x : List UInt8} (h : nmF S no = some x) : x ≠ [] := by
  unfold nmF at h
  rw [Option.map_eq_some_iff] at h
  obtain ⟨y, hy, rfl⟩ := h
  have hm := nameOf_mem hy
  cases hi : isN S.nodes (aboveF S no)
  · rw [(isN_false hi).1] at hm; cases hm
  · exact (hn _ (isN_true hi).2.2 y hm).1
theorem wi_of_wh {S : TreeD} (hu : NosUp S.nodes S.last) : ∀ (f : Nat) (no : Int) (l : List (List UInt8)), whL S f no = some l → wiF S 1 f no = true
  | 0, _, _, h => by cases h
  | f + 1, no, l, h => by
    by_cases h1 : no = 1
    · subst h1; unfold wiF; rw [if_neg (by decide), if_pos rfl]
    · rw [wh_succ S f no h1] at h
      have h0 : no ≠ 0 := by
        rintro rfl
        rw [nmF_zero hu] at h; cases h
      cases hx : nmF S no with
      | none => rw [hx] at h; cases h
      | some x =>
        rw [hx] at h
        have h' : (whL S f (aboveF S no)).map (x :: ·) = some l := h
        rw [Option.map_eq_some_iff] at h'
        obtain ⟨l', hl', _⟩ := h'
        unfold wiF
        rw [if_neg h0, if_neg h1]
        exact wi_of_wh hu f _ l' hl'
theorem wi_low {S : TreeD} (h : Grown S) : ∀ (f : Nat) (a b : Int), wiF S b f a = true → b ≤ a
  | 0, _, _, hw => by cases hw
  | f + 1, a, b, hw => by
    unfold wiF at hw
    split at hw
    · cases hw
    · split at hw
      · rename_i e; omega
      · have := wi_low h f _ _ hw
        by_cases h0 : aboveF S a = 0
        · rw [h0, wi_zero] at hw; cases hw
        · by_cases hs : aboveF S a = a
          · omega
          · have := (h.above a h0 hs).1; omega
/-- One step up. -/
theorem way_up {S : TreeD} (h : Grown S) {no : Int} (h1 : no ≠ 1) {l : List (List UInt8)} (hw : wayF S no = some l) :
    ∃ x l', l = x :: l' ∧ x ≠ [] ∧ nmF S no = some x ∧ wayF S (aboveF S no) = some l' ∧ aboveF S no ≠ no ∧ aboveF S no ≠ 0 ∧ no ≠ 0 := by
  have hu := h.good.nos
  have hs : aboveF S no ≠ no := by
    intro e
    rw [way_stay e h1] at hw; cases hw
  rw [way_step h.rank hu h1 hs] at hw
  cases hx : nmF S no with
  | none => rw [hx] at hw; cases hw
  | some x =>
    rw [hx] at hw
    have h' : (wayF S (aboveF S no)).map (x :: ·) = some l := hw
    rw [Option.map_eq_some_iff] at h'
    obtain ⟨l', hl', e⟩ := h'
    refine ⟨x, l', e.symm, nm_ne h.names hx, rfl, hl', hs, ?_, ?_⟩
    · intro e0
      rw [e0] at hl'
      unfold wayF at hl'
      rw [wh_zero hu] at hl'; cases hl'
    · rintro rfl
      rw [nmF_zero hu] at hx; cases hx
theorem overF_cases {S : TreeD} (m : Mounts S) {no : Int} (hn : 0 < no) : overF S.devs no = no ∨ ∃ k, ∃ hk : k + 1 < S.devs.length, S.devs[k + 1].over = no ∧ overF S.devs no = S.devs[k + 1].root := by
  unfold overF
  rw [if_pos hn]
  cases hf : S.devs.find? (fun d => d.over == no) with
  | none => exact .inl rfl
  | some d =>
    right
    have hm := List.mem_of_find?_eq_some hf
    have ho : d.over = no := by simpa using List.find?_some hf
    obtain ⟨k, hk, e⟩ := List.getElem_of_mem hm
    match k, hk, e with
    | 0, hk, e =>
      have := m.over0 hk
      rw [e] at this
      omega
    | k + 1, hk, e => exact ⟨k, hk, by rw [e]; exact ho, by rw [e]⟩
/-- A mount's root lies where what it covers would. -/
theorem way_over {S : TreeD} (h : Grown S) (m : Mounts S) {no : Int} (h2 : 1 < no) (hs : aboveF S no ≠ no) : wayF S (overF S.devs no) = wayF S no := by
  rcases overF_cases m (by omega : 0 < no) with e | ⟨k, hk, ho, e⟩
  · rw [e]
  · rw [e]
    have hu := h.good.nos
    obtain ⟨o1, d, hd, d1, d2⟩ := h.overs k hk
    obtain ⟨x, hx, x1, x2⟩ := m.free k hk
    obtain ⟨y, hy, y1, y2, y3⟩ := m.roots (k + 1) hk
    rw [ho] at o1 d1 x1 x2
    have gd := (mem_getN hu hd).1
    have gx := (mem_getN hu hx).1
    have gy := (mem_getN hu hy).1
    rw [d1] at gd
    rw [x1] at gx
    rw [y1] at gy
    have hxd : x = d := by rw [← gx, gd]
    subst hxd
    obtain ⟨ro, hro⟩ : ∃ ro, ro = S.devs[k + 1].root := ⟨_, rfl⟩
    rw [← hro] at o1 gy ⊢
    have hrf : rootF S.devs y.dev = ro ∧ (devN S.devs y.dev).over = no := by
      rcases rootF_zero h.good.roots y.dev with ⟨_, e2⟩ | ⟨j, hj, e1, e2, e3, e4, _⟩
      · have := (h.on y hy).1; rw [e2] at this; cases this
      · have hjk : j = k + 1 := by omega
        subst hjk
        exact ⟨by rw [e4, hro], by rw [e3]; exact ho⟩
    have a1 : aboveF S no = x.up := by
      unfold aboveF
      rw [gd, if_pos d2, if_neg (fun hh => x2 hh.1)]
    have a2 : aboveF S ro = x.up := by
      unfold aboveF
      rw [gy, if_pos y2, if_pos ⟨hrf.1, by rw [y3]; omega⟩, hrf.2, gd]
    have c1 : childF S no = no := by
      unfold childF
      rw [gd, if_neg (fun hh => x2 hh.1)]
    have c2 : childF S ro = no := by
      unfold childF
      rw [gy, if_pos ⟨hrf.1, by rw [y3]; omega⟩, hrf.2]
    have n1 : nmF S ro = nmF S no := by unfold nmF; rw [a1, a2, c1, c2]
    have hup := (h.ups x hd d2).1
    rw [d1] at hup
    rw [way_step h.rank hu (by omega) hs, way_step h.rank hu (by omega) (by rw [a2]; omega), n1, a1, a2]
/-- What the law asks of a directory that has a path. -/
theorem ways {S : TreeD} (h : Grown S) (m : Mounts S) {no : Int} (h2 : 2 ≤ no) {s : List UInt8} (hw : whereF S no = some s) :
    ∃ t, whereF S (aboveF S no) = some t ∧ t.length < s.length ∧ withinF S no (aboveF S no) = true ∧ withinF S no 1 = true ∧ withinF S (aboveF S no) no = false ∧ whereF S (overF S.devs no) = some s := by
  have hw2 : (wayF S no).map pathT = some s := hw
  rw [Option.map_eq_some_iff] at hw2
  obtain ⟨l, hl, rfl⟩ := hw2
  obtain ⟨x, l', rfl, hx, hn, hup, hs, h0, hno⟩ := way_up h (by omega) hl
  have ha := (h.above no h0 hs).1
  refine ⟨pathT l', ?_, ?_, ?_, ?_, ?_, ?_⟩
  · show (wayF S (aboveF S no)).map pathT = _; rw [hup]; rfl
  · have hxl : 0 < x.length := List.length_pos_iff.2 hx
    have e : pathB (x :: l') = pathB l' ++ 47 :: x := by unfold pathB; simp
    have e2 : pathT (x :: l') = pathB l' ++ 47 :: x := by unfold pathT; rw [if_neg (List.cons_ne_nil _ _), e]
    rw [e2, List.length_append, List.length_cons]
    by_cases hl0 : l' = []
    · subst hl0
      show 1 < _
      omega
    · have e3 : pathT l' = pathB l' := by unfold pathT; rw [if_neg hl0]
      rw [e3]; omega
  · rw [within_step h.rank hno (Ne.symm hs) hs, within_base h0 rfl]
  · exact wi_of_wh h.good.nos _ _ _ hl
  · cases hb : withinF S (aboveF S no) no
    · rfl
    · have := wi_low h _ _ _ hb; omega
  · show (wayF S (overF S.devs no)).map pathT = _
    rw [way_over h m (by omega) hs, hl]; rfl
end Go.Proofs.Ytjblimclakfhfaa

namespace Go.Proofs.Ytjblimclakfhfaa

theorem Live.len {S : TreeD} (h : Live S) (hl : S.last ≤ 1000) : S.nodes.length ≤ 1000 := by have := h.count; omega
theorem Live.kept {S : TreeD} (h : Live S) {no : Int} (hk : killB S no = true) : dropN S.nodes no ≠ [] := by
  obtain ⟨m, hm, e⟩ := h.first
  have h1 := (h.killed hk).2
  intro h0
  have : m ∈ dropN S.nodes no := List.mem_filter.2 ⟨hm, by rw [e]; simpa using Ne.symm h1⟩
  rw [h0] at this; cases this
end Go.Proofs.Ytjblimclakfhfaa

namespace Go.Proofs.Ytjblimclakfhfaa
open Go.ChangeShapes Go.WideShapes Go.ChangeAt Go.RowKit

def leaveE (S : TreeD) (cu cg dir : Int) (nm : List UInt8) : Int :=
  if ¬ placeE S cu cg dir nm = 0 then placeE S cu cg dir nm else if isN S.nodes (findF (getN S.nodes dir).ents nm) = false then 5
  else if ¬ overF S.devs (findF (getN S.nodes dir).ents nm) = findF (getN S.nodes dir).ents nm then 16
  else if freeB cu (getN S.nodes dir).mode (getN S.nodes dir).uid (getN S.nodes (findF (getN S.nodes dir).ents nm)).uid = false then 4 else 0
def leaveD (S : TreeD) (cu cg dir : Int) (nm : List UInt8) : NodeD := if leaveE S cu cg dir nm = 0 then getN S.nodes dir else nodeZ
def leaveN (S : TreeD) (cu cg dir : Int) (nm : List UInt8) : NodeD := if leaveE S cu cg dir nm = 0 then getN S.nodes (findF (getN S.nodes dir).ents nm) else nodeZ
/-- One name less. -/
def lessN (now : Int) (n : NodeD) : NodeD := { n with links := n.links - 1, ctime := now }
def lessT (S : TreeD) (now : Int) (n : NodeD) : TreeD := if n.links - 1 < 1 then killT (setT S (lessN now n)) n.no else setT S (lessN now n)
def goneT (S : TreeD) (now : Int) (d n : NodeD) (nm : List UInt8) : TreeD := lessT (touchT S d.no now (dropF d.ents nm)) now n
def unlinkE (S : TreeD) (cu cg dir : Int) (nm : List UInt8) : Int := if ¬ leaveE S cu cg dir nm = 0 then leaveE S cu cg dir nm else if (leaveN S cu cg dir nm).kind = 1 then 8 else 0
def rmdirE (S : TreeD) (cu cg dir : Int) (nm : List UInt8) : Int :=
  if ¬ leaveE S cu cg dir nm = 0 then leaveE S cu cg dir nm else if ¬ (leaveN S cu cg dir nm).kind = 1 then 9 else if 0 < ((leaveN S cu cg dir nm).ents.length : Int) then 10 else 0
def unlinkT (S : TreeD) (cu cg now dir : Int) (nm : List UInt8) : TreeD := if unlinkE S cu cg dir nm = 0 then goneT S now (leaveD S cu cg dir nm) (leaveN S cu cg dir nm) nm else S
def rmdirT (S : TreeD) (cu cg now dir : Int) (nm : List UInt8) : TreeD := if rmdirE S cu cg dir nm = 0 then goneT S now (leaveD S cu cg dir nm) (leaveN S cu cg dir nm) nm else S
/-- A node as the calls hold it: of a tree, or like one of it. -/
structure Held (S : TreeD) (n : NodeD) : Prop where
  links : 1 ≤ n.links ∧ n.links ≤ 1000
  dev : hasD S.devs n.dev = true
  data : n.data.length ≤ 1048576
  one : n.no = 1 → n.dev = 1
theorem Held.live {S : TreeD} {n : NodeD} (h : Held S n) (L : Live S) (now : Int) : Live (setT S (lessN now n)) := L.set _ h.dev h.data h.one
theorem Ok.held {S : TreeD} (O : Ok S) {no : Int} (hi : isN S.nodes no = true) : Held S (getN S.nodes no) :=
  ⟨O.links _ (isN_true hi).2.2, (O.live.on _ (isN_true hi).2.2).1, (O.live.on _ (isN_true hi).2.2).2, O.live.one _ (isN_true hi).2.2⟩
set_option maxRecDepth 100000 in
set_option maxHeartbeats 4000000 in
theorem pless_any (B : Nat) (g : GhW) (S : TreeD) (now : Int) (n : NodeD) (A : Option Addr) (c : Nat) (w : World) (h : WAt w B g S) (L : Live S) (hn : NodeOk w B n A c) (hh : Held S n) :
    Calls Try.prog 103 #[.pointer (some ⟨g.bW, 0, none⟩), .int .i64 now, .agg #[.int .i64 n.no, .int .i64 n.dev, .int .i64 n.kind, .int .i64 n.mode, .int .i64 n.uid, .int .i64 n.gid, .int .i64 n.mtime, .int .i64 n.ctime, .int .i64 n.links, .int .i64 n.up, .string (bs n.data), .slice A n.ents.length c]] w (TouchR w B g (lessT S now n)) := by
  obtain ⟨W0, hW0⟩ : ∃ W0, W0 = w.alloc (.cells #[.int .i64 n.no, .int .i64 n.dev, .int .i64 n.kind, .int .i64 n.mode, .int .i64 n.uid, .int .i64 n.gid, .int .i64 n.mtime, .int .i64 n.ctime, .int .i64 n.links, .int .i64 n.up, .string (bs n.data), .slice A n.ents.length c] 42) := ⟨_, rfl⟩
  have E0 : Ext w W0 := by rw [hW0]; exact (Ext.refl _).alloc _
  obtain ⟨b5, hb5⟩ : ∃ b, b = w.heap.size := ⟨_, rfl⟩
  have N0 : Has W0 b5 (.cells #[.int .i64 n.no, .int .i64 n.dev, .int .i64 n.kind, .int .i64 n.mode, .int .i64 n.uid, .int .i64 n.gid, .int .i64 n.mtime, .int .i64 n.ctime, .int .i64 n.links, .int .i64 n.up, .string (bs n.data), .slice A n.ents.length c] 42) := by rw [hW0, hb5]; exact Has.new _ _
  have hbw : w.heap.size ≤ b5 := by omega
  have HL := Lib.hid L
  have HH := Lib.hid hh
  have LL := Lib.hid (hh.live L now)
  have y8 : W0.cell? ⟨b5, 8, none⟩ = some (.int .i64 n.links) := N0.cell 8
  have y7 : W0.cell? ⟨b5, 7, none⟩ = some (.int .i64 n.ctime) := N0.cell 7
  have yf : ∀ i, W0.frozen? ⟨b5, i, none⟩ = false := fun i => (N0.free i).trans (by simp)
  have yz := N0.lt
  have y4 : IntKind.i64.wrap (n.links - 1) = n.links - 1 := wrap_i64_in (by have := hh.links; omega) (by have := hh.links; omega)
  have HLT : Hid (lessT S now n = if n.links - 1 < 1 then killT (setT S (lessN now n)) n.no else setT S (lessN now n)) := by show _ = _; rfl
  obtain ⟨n', hn'⟩ : ∃ n', n' = lessN now n := ⟨_, rfl⟩
  rw [← hn'] at HLT LL
  have HN' := Lib.hid hn'
  clear L hh hn'
  go_enter Try.func103, Try.ntmps103
  go_upto_region 1 with fail
  rw [← hW0]
  rw [← hb5]
  clear hW0 hb5
  go_upto_region 3 with fail
  obtain ⟨V, hV⟩ : ∃ V, V = (W0.setCell ⟨b5, 8, none⟩ (.int .i64 (n.links - 1))).setCell ⟨b5, 7, none⟩ (.int .i64 now) := ⟨_, rfl⟩
  rw [← hV]
  have NV : Has V b5 (.cells #[.int .i64 (n').no, .int .i64 (n').dev, .int .i64 (n').kind, .int .i64 (n').mode, .int .i64 (n').uid, .int .i64 (n').gid, .int .i64 (n').mtime, .int .i64 (n').ctime, .int .i64 (n').links, .int .i64 (n').up, .string (bs (n').data), .slice A (n').ents.length c] 42) := by rw [hV, HN'.out]; exact (N0.setCell 8 _).setCell 7 _
  have OV : Only [b5] W0 V := by rw [hV]; exact (Only.setCell _ _ _ _).then (Only.setCell _ _ _ _)
  have haP : Apart W0 B [b5] := by
    intro b hb
    rw [List.mem_singleton] at hb
    subst hb
    exact ⟨by have := h.1; have := h.lt.1; omega, N0.noTag (by decide)⟩
  have EV : Ext w V := OV.after E0 (by intro b hb; rw [List.mem_singleton] at hb; omega)
  have KV := h.ext EV
  have okV : NodeOk V B n' A c := ((hn.ext E0).only OV haP).same (by rw [HN'.out]; rfl)
  clear hV y8 y7 yf yz y4
  obtain ⟨_, _, cdV, hWV, _⟩ := id KV
  have v0 : V.cell? ⟨g.bW, 0, none⟩ = some (.pointer (some ⟨g.bT, 0, none⟩)) := hWV.cell 0
  have vz := hWV.lt
  obtain ⟨x0, x1, x2, x3, x4, x5, x6, x7, x8, x9, x10, x11⟩ := NV.node12
  have zN := NV.lt
  clear hWV
  go_still_tail 5, (by kernel_rfl)
  change wpList _ _ _ _ _ V.drew
  go_wp2_with fail
  have ED : Ext V V.drew := (Ext.refl _).drew
  refine (wset_any B g S n' A c _ (KV.ext ED) HL.out.nos (okV.ext ED)).mono ?_
  rintro e w7 ⟨rfl, K7, O7⟩
  have hbg : b5 ∉ g.list := by
    have hlw := h.lt
    simp only [GhW.list, List.mem_cons, List.not_mem_nil, or_false]
    omega
  have N7 := O7.has (NV.ext ED) hbg
  have Ow7 : Only g.list w w7 := Only.pre (EV.trans ED) O7
  have z8 : w7.cell? ⟨b5, 8, none⟩ = some (.int .i64 n'.links) := N7.cell 8
  have z0 : w7.cell? ⟨b5, 0, none⟩ = some (.int .i64 n'.no) := N7.cell 0
  have zz := N7.lt
  have hnl : n'.links = n.links - 1 := by rw [HN'.out]; rfl
  have hno : n'.no = n.no := by rw [HN'.out]; rfl
  rw [hnl] at z8
  rw [hno] at z0
  clear v0 vz x0 x1 x2 x3 x4 x5 x6 x7 x8 x9 x10 x11 zN hnl hno
  by_cases hk : n.links - 1 ≤ 0
  · have t1 : decide (n.links - 1 ≤ 0) = true := decide_eq_true hk
    have e1 : Hid (lessT S now n = killT (setT S n') n.no) := by show _ = _; rw [HLT.out, if_pos (by omega)]
    clear hk
    go_wp2_with fail
    refine (pkill_any B g (setT S n') n.no _ K7 LL.out.devs LL.out.eight LL.out.roots LL.out.nos LL.out.on).mono ?_
    rintro e w8 ⟨rfl, K8, O8⟩
    go_wp2_with fail
    go_end0
    exact ⟨rfl, by rw [e1.out]; exact K8, Ow7.then O8⟩
  · have t1 : decide (n.links - 1 ≤ 0) = false := decide_eq_false hk
    have e1 : Hid (lessT S now n = setT S n') := by show _ = _; rw [HLT.out, if_neg (by omega)]
    clear hk
    go_wp2_with fail
    go_end0
    exact ⟨rfl, by rw [e1.out]; exact K7, Ow7⟩
/-- What a call of the reference's that tells nothing leaves. -/
def NoneF (w : World) (B : Nat) (g : GhF) (T : TreeD) (X : Xtra) (e : Ending) (w' : World) : Prop := e = .returned (.tuple #[]) ∧ ∃ g2, FAt w' B g2 T X ∧ Only g.list w w' ∧ GhF.on g2 g w
end Go.Proofs.Ytjblimclakfhfaa

namespace Go.Proofs.Ytjblimclakfhfaa
open Go.ChangeShapes Go.WideShapes Go.ChangeAt Go.RowKit

attribute [local irreducible] wpLexE wpQuiet
attribute [local go_sem] changeUpon
/-- A late store of a node into a box, as a change. -/
theorem wpLexE_store_node {ops : Array Oper} {Ph : Nat → World → Prop} {ks : List Nat} {Q : Act → Prop} {a : Act} {o : Oper} {rest : List Oper} {k : Nat} (j : Nat) (hp : placeOf ks k = some j) (hg : o.guard = none) (hd : o.dst = none)
    (x y : Operand) (ho : o.op = .store 42 x y) (b : Nat) (n : NodeD) (A : Option Addr) (c : Nat) (hx : a.eval x = .pointer (some ⟨b, 0, none⟩)) (hy : a.eval y = .agg #[.int .i64 n.no, .int .i64 n.dev, .int .i64 n.kind, .int .i64 n.mode, .int .i64 n.uid, .int .i64 n.gid, .int .i64 n.mtime, .int .i64 n.ctime, .int .i64 n.links, .int .i64 n.up, .string (bs n.data), .slice A n.ents.length c])
    (hb : ∀ u : Wc (Ph j), ∃ (m : NodeD) (A' : Option Addr) (c' : Nat), Has u.w b (.cells #[.int .i64 m.no, .int .i64 m.dev, .int .i64 m.kind, .int .i64 m.mode, .int .i64 m.uid, .int .i64 m.gid, .int .i64 m.mtime, .int .i64 m.ctime, .int .i64 m.links, .int .i64 m.up, .string (bs m.data), .slice A' m.ents.length c'] 42)) (hn : ∀ (u : Wc (Ph j)) (w' : World), Has w' b (.cells #[.int .i64 n.no, .int .i64 n.dev, .int .i64 n.kind, .int .i64 n.mode, .int .i64 n.uid, .int .i64 n.gid, .int .i64 n.mtime, .int .i64 n.ctime, .int .i64 n.links, .int .i64 n.up, .string (bs n.data), .slice A n.ents.length c] 42) → Only [b] u.w w' → Ph (j + 1) w')
    (h : wpLexE ops (phE Try.prog Ph ks) Q rest (k + 1) a) : wpLexE ops (phE Try.prog Ph ks) Q (o :: rest) k a := by
  refine wpLexE_change j hp hg fun K hK => ⟨undef, fun u => ?_, ?_⟩
  · obtain ⟨m, A', c', hu⟩ := hb u
    have hr : (execOp a.eval o).run Try.prog u.w = .ok .skip (u.w.setCells b 0 (nodeL n A c)) := by
      simp only [execOp, ho, hx, hy, run_storeAt_mid u.w b 0 42 #[.int .i64 n.no, .int .i64 n.dev, .int .i64 n.kind, .int .i64 n.mode, .int .i64 n.uid, .int .i64 n.gid, .int .i64 n.mtime, .int .i64 n.ctime, .int .i64 n.links, .int .i64 n.up, .string (bs n.data), .slice A n.ents.length c] hu.there infoNode12 (node_all n A c), Sem.run_bind, Sem.run_pure, Result.andThen_ok]
      rfl
    rw [hr]
    exact ⟨rfl, hn u _ (hu.setNode n A c) (only_setCells (nodeL n A c) 0 u.w)⟩
  · rw [hd]
    exact hK _ h
theorem res_node2 {fn : Func} {p q t : Tmp} (h : fn.results = #[.cell p 42, .cell q 42, .tmp t]) (tmps : Array Value) (w : World) (b1 b2 : Nat) (n m : NodeD) (A A' : Option Addr) (c c' : Nat) (v : Value)
    (hp : tmps.getD p undef = .pointer (some ⟨b1, 0, none⟩)) (hq : tmps.getD q undef = .pointer (some ⟨b2, 0, none⟩)) (hv : tmps.getD t undef = v) (h1 : Has w b1 (.cells #[.int .i64 n.no, .int .i64 n.dev, .int .i64 n.kind, .int .i64 n.mode, .int .i64 n.uid, .int .i64 n.gid, .int .i64 n.mtime, .int .i64 n.ctime, .int .i64 n.links, .int .i64 n.up, .string (bs n.data), .slice A n.ents.length c] 42)) (h2 : Has w b2 (.cells #[.int .i64 m.no, .int .i64 m.dev, .int .i64 m.kind, .int .i64 m.mode, .int .i64 m.uid, .int .i64 m.gid, .int .i64 m.mtime, .int .i64 m.ctime, .int .i64 m.links, .int .i64 m.up, .string (bs m.data), .slice A' m.ents.length c'] 42)) :
    (results fn tmps).run Try.prog w = .ok (.tuple #[.agg #[.int .i64 n.no, .int .i64 n.dev, .int .i64 n.kind, .int .i64 n.mode, .int .i64 n.uid, .int .i64 n.gid, .int .i64 n.mtime, .int .i64 n.ctime, .int .i64 n.links, .int .i64 n.up, .string (bs n.data), .slice A n.ents.length c], .agg #[.int .i64 m.no, .int .i64 m.dev, .int .i64 m.kind, .int .i64 m.mode, .int .i64 m.uid, .int .i64 m.gid, .int .i64 m.mtime, .int .i64 m.ctime, .int .i64 m.links, .int .i64 m.up, .string (bs m.data), .slice A' m.ents.length c'], v]) w := by
  have hp' : tmps[p]?.getD undef = .pointer (some ⟨b1, 0, none⟩) := by simpa using hp
  have hq' : tmps[q]?.getD undef = .pointer (some ⟨b2, 0, none⟩) := by simpa using hq
  have hv' : tmps[t]?.getD undef = v := by simpa using hv
  have hl1 := run_loadVar_row (P := Try.prog) w b1 42 42 _ (0, 0) _ h1 Try.underlying42 rfl infoNode12
  have hl2 := run_loadVar_row (P := Try.prog) w b2 42 42 _ (0, 0) _ h2 Try.underlying42 rfl infoNode12
  simp [results, h, hp', hq', hv', asAddr, hl1, hl2]
def LeaveQ (w : World) (B : Nat) (S : TreeD) (cu cg dir : Int) (nm : List UInt8) (e : Ending) (w' : World) : Prop :=
  ∃ A c A' c', e = .returned (.tuple #[.agg #[.int .i64 (leaveD S cu cg dir nm).no, .int .i64 (leaveD S cu cg dir nm).dev, .int .i64 (leaveD S cu cg dir nm).kind, .int .i64 (leaveD S cu cg dir nm).mode, .int .i64 (leaveD S cu cg dir nm).uid, .int .i64 (leaveD S cu cg dir nm).gid, .int .i64 (leaveD S cu cg dir nm).mtime, .int .i64 (leaveD S cu cg dir nm).ctime, .int .i64 (leaveD S cu cg dir nm).links, .int .i64 (leaveD S cu cg dir nm).up, .string (bs (leaveD S cu cg dir nm).data), .slice A (leaveD S cu cg dir nm).ents.length c], .agg #[.int .i64 (leaveN S cu cg dir nm).no, .int .i64 (leaveN S cu cg dir nm).dev, .int .i64 (leaveN S cu cg dir nm).kind, .int .i64 (leaveN S cu cg dir nm).mode, .int .i64 (leaveN S cu cg dir nm).uid, .int .i64 (leaveN S cu cg dir nm).gid, .int .i64 (leaveN S cu cg dir nm).mtime, .int .i64 (leaveN S cu cg dir nm).ctime, .int .i64 (leaveN S cu cg dir nm).links, .int .i64 (leaveN S cu cg dir nm).up, .string (bs (leaveN S cu cg dir nm).data), .slice A' (leaveN S cu cg dir nm).ents.length c'], .int .i64 (leaveE S cu cg dir nm)]) ∧ NodeOk w' B (leaveD S cu cg dir nm) A c ∧ NodeOk w' B (leaveN S cu cg dir nm) A' c' ∧ Ext w w'
theorem pure_over (ds : List DevD) (no : Int) : overF ds no = overF ds no := rfl
set_option maxRecDepth 100000 in
set_option maxHeartbeats 8000000 in
theorem pleave_any (B : Nat) (g : GhW) (S : TreeD) (cu cg dir : Int) (nm : List UInt8) (w : World) (h : WAt w B g S) (O : Ok S) :
    Calls Try.prog 100 #[.pointer (some ⟨g.bW, 0, none⟩), .agg #[.int .i64 cu, .int .i64 cg], .int .i64 dir, .string (bs nm)] w (LeaveQ w B S cu cg dir nm) := by
  obtain ⟨W0, hW0⟩ : ∃ W0, W0 = ((w.alloc (.cells #[.int .i64 cu, .int .i64 cg] 24)).alloc (.cells #[.int .i64 0, .int .i64 0, .int .i64 0, .int .i64 0, .int .i64 0, .int .i64 0, .int .i64 0, .int .i64 0, .int .i64 0, .int .i64 0, .string ⟨#[]⟩, .slice none 0 0] 42)).alloc (.cells #[.int .i64 0, .int .i64 0, .int .i64 0, .int .i64 0, .int .i64 0, .int .i64 0, .int .i64 0, .int .i64 0, .int .i64 0, .int .i64 0, .string ⟨#[]⟩, .slice none 0 0] 42) := ⟨_, rfl⟩
  have E0 : Ext w W0 := by rw [hW0]; exact (((Ext.refl _).alloc _).alloc _).alloc _
  obtain ⟨b5, hb5⟩ : ∃ b, b = w.heap.size := ⟨_, rfl⟩
  have C0 : Has W0 b5 (.cells #[.int .i64 cu, .int .i64 cg] 24) := by rw [hW0, hb5]; exact ((Has.new w _).alloc _).alloc _
  have P0 : Has W0 (b5 + 1) (.cells #[.int .i64 nodeZ.no, .int .i64 nodeZ.dev, .int .i64 nodeZ.kind, .int .i64 nodeZ.mode, .int .i64 nodeZ.uid, .int .i64 nodeZ.gid, .int .i64 nodeZ.mtime, .int .i64 nodeZ.ctime, .int .i64 nodeZ.links, .int .i64 nodeZ.up, .string (bs nodeZ.data), .slice none nodeZ.ents.length 0] 42) := by
    rw [hW0, hb5]
    have := (Has.new (w.alloc (.cells #[.int .i64 cu, .int .i64 cg] 24)) (.cells #[.int .i64 nodeZ.no, .int .i64 nodeZ.dev, .int .i64 nodeZ.kind, .int .i64 nodeZ.mode, .int .i64 nodeZ.uid, .int .i64 nodeZ.gid, .int .i64 nodeZ.mtime, .int .i64 nodeZ.ctime, .int .i64 nodeZ.links, .int .i64 nodeZ.up, .string (bs nodeZ.data), .slice none nodeZ.ents.length 0] 42)).alloc (.cells #[.int .i64 0, .int .i64 0, .int .i64 0, .int .i64 0, .int .i64 0, .int .i64 0, .int .i64 0, .int .i64 0, .int .i64 0, .int .i64 0, .string ⟨#[]⟩, .slice none 0 0] 42)
    rwa [World.size_alloc] at this
  have Q0 : Has W0 (b5 + 2) (.cells #[.int .i64 nodeZ.no, .int .i64 nodeZ.dev, .int .i64 nodeZ.kind, .int .i64 nodeZ.mode, .int .i64 nodeZ.uid, .int .i64 nodeZ.gid, .int .i64 nodeZ.mtime, .int .i64 nodeZ.ctime, .int .i64 nodeZ.links, .int .i64 nodeZ.up, .string (bs nodeZ.data), .slice none nodeZ.ents.length 0] 42) := by
    rw [hW0, hb5]
    have := Has.new ((w.alloc (.cells #[.int .i64 cu, .int .i64 cg] 24)).alloc (.cells #[.int .i64 0, .int .i64 0, .int .i64 0, .int .i64 0, .int .i64 0, .int .i64 0, .int .i64 0, .int .i64 0, .int .i64 0, .int .i64 0, .string ⟨#[]⟩, .slice none 0 0] 42)) (.cells #[.int .i64 nodeZ.no, .int .i64 nodeZ.dev, .int .i64 nodeZ.kind, .int .i64 nodeZ.mode, .int .i64 nodeZ.uid, .int .i64 nodeZ.gid, .int .i64 nodeZ.mtime, .int .i64 nodeZ.ctime, .int .i64 nodeZ.links, .int .i64 nodeZ.up, .string (bs nodeZ.data), .slice none nodeZ.ents.length 0] 42)
    rwa [World.size_alloc, World.size_alloc] at this
  have HO := Lib.hid O
  have hm : Hid (leaveE S cu cg dir nm = if ¬ placeE S cu cg dir nm = 0 then placeE S cu cg dir nm else if isN S.nodes (findF (getN S.nodes dir).ents nm) = false then 5
    else if ¬ overF S.devs (findF (getN S.nodes dir).ents nm) = findF (getN S.nodes dir).ents nm then 16
    else if freeB cu (getN S.nodes dir).mode (getN S.nodes dir).uid (getN S.nodes (findF (getN S.nodes dir).ents nm)).uid = false then 4 else 0) := by show _ = _; rfl
  have hp : Hid (placeE S cu cg dir nm = 0 → placeN S cu cg dir nm = getN S.nodes dir ∧ isN S.nodes dir = true) := fun h0 => ⟨placeN_zero h0, (placeE_zero h0).1⟩
  have hlw := h.lt
  have HS : Hid (∀ (v w' : World) (x : Int), Ext w v → Only [b5 + 1, b5 + 2] v w' → leaveE S cu cg dir nm = x → x ≠ 0 → LeaveQ w B S cu cg dir nm (.returned (.tuple #[.agg #[.int .i64 nodeZ.no, .int .i64 nodeZ.dev, .int .i64 nodeZ.kind, .int .i64 nodeZ.mode, .int .i64 nodeZ.uid, .int .i64 nodeZ.gid, .int .i64 nodeZ.mtime, .int .i64 nodeZ.ctime, .int .i64 nodeZ.links, .int .i64 nodeZ.up, .string (bs nodeZ.data), .slice none nodeZ.ents.length 0], .agg #[.int .i64 nodeZ.no, .int .i64 nodeZ.dev, .int .i64 nodeZ.kind, .int .i64 nodeZ.mode, .int .i64 nodeZ.uid, .int .i64 nodeZ.gid, .int .i64 nodeZ.mtime, .int .i64 nodeZ.ctime, .int .i64 nodeZ.links, .int .i64 nodeZ.up, .string (bs nodeZ.data), .slice none nodeZ.ents.length 0], .int .i64 x])) w') := by
    show ∀ (v w' : World) (x : Int), _
    intro v w' x hE hO hx h0
    have e1 : leaveD S cu cg dir nm = nodeZ := by unfold leaveD; rw [if_neg (by rw [hx]; exact h0)]
    have e2 : leaveN S cu cg dir nm = nodeZ := by unfold leaveN; rw [if_neg (by rw [hx]; exact h0)]
    exact ⟨none, 0, none, 0, by rw [e1, e2, hx], by rw [e1]; exact NodeOk.zero _ _, by rw [e2]; exact NodeOk.zero _ _, hO.after hE (by intro b hb; simp only [List.mem_cons, List.not_mem_nil, or_false] at hb; omega)⟩
  have hb5a : b5 ≤ w.heap.size := by omega
  have hb5b : w.heap.size ≤ b5 := by omega
  clear O
  go_enter Try.func100, Try.ntmps100
  go_upto_region 1 with fail
  rw [← hW0]
  rw [← hb5]
  clear hW0 hb5
  have x0 : W0.cell? ⟨b5, 0, none⟩ = some (.int .i64 cu) := C0.cell 0
  have x1 : W0.cell? ⟨b5, 1, none⟩ = some (.int .i64 cg) := C0.cell 1
  have xz := C0.lt
  go_wp2_with fail
  refine (pplace_any B g S cu cg dir nm _ (h.ext E0) HO.out.live.devs).mono ?_
  rintro e w2 ⟨A2, k2, rfl, ok2, b2⟩
  obtain ⟨m, hmm⟩ : ∃ m, m = placeN S cu cg dir nm := ⟨_, rfl⟩
  obtain ⟨x, hx⟩ : ∃ x, x = placeE S cu cg dir nm := ⟨_, rfl⟩
  rw [← hmm] at ok2 hp
  rw [← hx] at hm hp
  rw [← hmm, ← hx]
  obtain ⟨W3, hW3⟩ : ∃ W3, W3 = w2.alloc (.cells #[.int .i64 m.no, .int .i64 m.dev, .int .i64 m.kind, .int .i64 m.mode, .int .i64 m.uid, .int .i64 m.gid, .int .i64 m.mtime, .int .i64 m.ctime, .int .i64 m.links, .int .i64 m.up, .string (bs m.data), .slice A2 m.ents.length k2] 42) := ⟨_, rfl⟩
  obtain ⟨b11, hb11⟩ : ∃ b, b = w2.heap.size := ⟨_, rfl⟩
  have E23 : Ext w2 W3 := by rw [hW3]; exact (Ext.refl _).alloc _
  have M3 : Has W3 b11 (.cells #[.int .i64 m.no, .int .i64 m.dev, .int .i64 m.kind, .int .i64 m.mode, .int .i64 m.uid, .int .i64 m.gid, .int .i64 m.mtime, .int .i64 m.ctime, .int .i64 m.links, .int .i64 m.up, .string (bs m.data), .slice A2 m.ents.length k2] 42) := by rw [hW3, hb11]; exact Has.new _ _
  have E03 : Ext W0 W3 := b2.trans E23
  have C3 := C0.ext E03
  have P3 := P0.ext E03
  have Q3 := Q0.ext E03
  have ok3 := ok2.ext E23
  have E3 := E0.trans E03
  have hb11w : W0.heap.size ≤ b11 := by rw [hb11]; exact b2.size
  have hb52 : b5 + 2 < W0.heap.size := Q0.lt
  clear x0 x1 xz hmm hx C0 P0 Q0
  go_upto_region 2 with fail
  rw [← hW3]
  rw [← hb11]
  clear hW3 hb11
  by_cases hx0 : x = 0
  case neg =>
    have t0 : (x == 0) = false := by simpa using hx0
    have t0b : (x != 0) = true := by simpa using hx0
    have hE : Hid (leaveE S cu cg dir nm = x) := by show _ = _; rw [hm.out, if_pos hx0]
    have HX := Lib.hid hx0
    clear hm hx0
    go_wp2_with (first | (refine wpList_store_node rfl _ _ rfl (b5 + 1) nodeZ none 0 rfl rfl P3 ?_; intro wp Pp Op; have Qp := Op.has Q3 (by rw [List.mem_singleton]; omega)) | (refine wpList_store_node rfl _ _ rfl (b5 + 2) nodeZ none 0 rfl rfl Qp ?_; intro wq Qq Oq; have Pq := Oq.has Pp (by rw [List.mem_singleton]; omega)))
    refine bodyPost_ret (v := .tuple #[.agg #[.int .i64 nodeZ.no, .int .i64 nodeZ.dev, .int .i64 nodeZ.kind, .int .i64 nodeZ.mode, .int .i64 nodeZ.uid, .int .i64 nodeZ.gid, .int .i64 nodeZ.mtime, .int .i64 nodeZ.ctime, .int .i64 nodeZ.links, .int .i64 nodeZ.up, .string (bs nodeZ.data), .slice none nodeZ.ents.length 0], .agg #[.int .i64 nodeZ.no, .int .i64 nodeZ.dev, .int .i64 nodeZ.kind, .int .i64 nodeZ.mode, .int .i64 nodeZ.uid, .int .i64 nodeZ.gid, .int .i64 nodeZ.mtime, .int .i64 nodeZ.ctime, .int .i64 nodeZ.links, .int .i64 nodeZ.up, .string (bs nodeZ.data), .slice none nodeZ.ents.length 0], .int .i64 x]) (res_node2 Try.results100 _ _ (b5 + 1) (b5 + 2) nodeZ nodeZ none none 0 0 _ rfl rfl rfl Pq Qq) rfl ?_
    exact HS.out _ _ _ E3 ((Op.mono (by simp)).then (Oq.mono (by simp))) hE.out HX.out
  have t0 : (x == 0) = true := by simpa using hx0
  have t0b : (x != 0) = false := by simpa using hx0
  obtain ⟨hmg, hid⟩ := hp.out hx0
  obtain ⟨no, hno⟩ : ∃ no, no = findF m.ents nm := ⟨_, rfl⟩
  have hm2 : Hid (leaveE S cu cg dir nm = if isN S.nodes no = false then 5 else if ¬ overF S.devs no = no then 16 else if freeB cu m.mode m.uid (getN S.nodes no).uid = false then 4 else 0) := by
    show _ = _; rw [hm.out, if_neg (by simpa using hx0), ← hmg, ← hno]
  have HMG := Lib.hid hmg
  have hen := HO.out.entsN dir
  rw [← hmg] at hen
  have HEN := Lib.hid hen
  have KF : Hid (∀ u : Gr W3, Calls Try.prog 87 #[.slice A2 m.ents.length k2, .string (bs nm)] u.w (Ret u.w (.int .i64 no))) := by
    show ∀ u : Gr W3, _
    intro u
    rw [hno, ← numOf_findF HEN.out.1]
    exact find_any A2 m.ents k2 nm u.w (ok3.ext u.h).ents.ents HEN.out.1 (by have := HEN.out.2; omega)
  obtain ⟨A4, k4, ok4, C4⟩ := tget_fix B g S no W3 (h.ext E3)
  obtain ⟨n, hn⟩ : ∃ n, n = getN S.nodes no := ⟨_, rfl⟩
  obtain ⟨i, hi⟩ : ∃ i, i = isN S.nodes no := ⟨_, rfl⟩
  have hin : isN S.nodes no = true → (getN S.nodes no).no = no := fun h => (isN_true h).2.1
  rw [← hn] at ok4 hm2 hin
  rw [← hi] at hm2 hin
  rw [← hn, ← hi] at C4
  have HC4 := Lib.hid C4
  have HIN := Lib.hid hin
  have HNO := Lib.hid hno
  have HNN := Lib.hid hn
  have HI := Lib.hid hi
  obtain ⟨_, _, cd, h3, _⟩ := id (h.ext E3)
  have v0 : ∀ u : Gr W3, u.w.cell? ⟨g.bW, 0, none⟩ = some (.pointer (some ⟨g.bT, 0, none⟩)) := Gr.cell h3.lt (h3.cell 0)
  have y11 : ∀ u : Gr W3, u.w.cell? ⟨b11, 11, none⟩ = some (.slice A2 m.ents.length k2) := Gr.cell M3.lt (M3.cell 11)
  clear hm hp hx0 hmg hid hen hno hn hi hin C4 h3
  go_upto_region 4 with fail
  refine wp_region_nbox W3 12 13 13 38 n A4 k4 _ _ (by kernel_rfl) (by kernel_rfl) rfl rfl rfl rfl (by simp) ((Ext.refl _).drew) ?_
  simp only [List.take_succ_cons, List.take_zero, List.drop_succ_cons, List.drop_zero, List.drop_nil]
  repeat (refine wpQuietR_step (fun K hK => ?_)
          go_simp
          first
            | (refine hK _ ?_; clear hK K)
            | (apply Exists.intro
               refine ⟨fun u => ?_, hK _ ?_⟩
               first
                 | ((with_reducible refine (KF.out _).mono ?_); rintro e w'' ⟨rfl, hx⟩; exact ⟨rfl, hx⟩)
                 | ((with_reducible refine (HC4.out _ u.h).mono ?_); rintro e w'' ⟨rfl, hx⟩; exact ⟨rfl, hx⟩)
               clear hK K))
  refine wpQuietR_nil ?_
  refine wpQuietR_nil ⟨rfl, ?_⟩
  refine wpQuietR_step (fun K hK => ?_)
  go_simp
  refine hK _ ?_
  clear hK K
  refine wpQuietR_nil ?_
  intro w4 b13 E34 hb13 N4
  simp only [Act.put]
  have C4 := C3.ext E34
  have P4 := P3.ext E34
  have Q4 := Q3.ext E34
  have M4 := M3.ext E34
  have okm4 := ok3.ext E34
  have okn4 := ok4.ext E34
  have E4 := E3.trans E34
  have hM3 := M3.lt
  clear v0 y11 KF C3 P3 Q3 M3 ok3 ok4 E3
  cases i
  · have hE : Hid (leaveE S cu cg dir nm = 5) := by show _ = _; rw [hm2.out]; rfl
    clear hm2
    go_wp2_with (first | (refine wpList_store_node rfl _ _ rfl (b5 + 1) nodeZ none 0 rfl rfl P4 ?_; intro wp Pp Op; have Qp := Op.has Q4 (by rw [List.mem_singleton]; omega)) | (refine wpList_store_node rfl _ _ rfl (b5 + 2) nodeZ none 0 rfl rfl Qp ?_; intro wq Qq Oq; have Pq := Oq.has Pp (by rw [List.mem_singleton]; omega)))
    refine bodyPost_ret (v := .tuple #[.agg #[.int .i64 nodeZ.no, .int .i64 nodeZ.dev, .int .i64 nodeZ.kind, .int .i64 nodeZ.mode, .int .i64 nodeZ.uid, .int .i64 nodeZ.gid, .int .i64 nodeZ.mtime, .int .i64 nodeZ.ctime, .int .i64 nodeZ.links, .int .i64 nodeZ.up, .string (bs nodeZ.data), .slice none nodeZ.ents.length 0], .agg #[.int .i64 nodeZ.no, .int .i64 nodeZ.dev, .int .i64 nodeZ.kind, .int .i64 nodeZ.mode, .int .i64 nodeZ.uid, .int .i64 nodeZ.gid, .int .i64 nodeZ.mtime, .int .i64 nodeZ.ctime, .int .i64 nodeZ.links, .int .i64 nodeZ.up, .string (bs nodeZ.data), .slice none nodeZ.ents.length 0], .int .i64 5]) (res_node2 Try.results100 _ _ (b5 + 1) (b5 + 2) nodeZ nodeZ none none 0 0 _ rfl rfl rfl Pq Qq) rfl ?_
    exact HS.out _ _ _ E4 ((Op.mono (by simp)).then (Oq.mono (by simp))) hE.out (by decide)
  have hnn := HIN.out (by trivial)
  have z0 : w4.cell? ⟨b13, 0, none⟩ = some (.int .i64 n.no) := N4.cell 0
  rw [hnn] at z0
  have KO : Hid (∀ u : Gr w4, Calls Try.prog 16 #[.pointer (some ⟨g.bW, 0, none⟩), .int .i64 no] u.w (Ret u.w (.int .i64 (overF S.devs no)))) := by
    show ∀ u : Gr w4, _
    exact fun u => pover_any B g S no _ ((h.ext E4).ext u.h) HO.out.live.devs (by have := HO.out.live.eight; omega)
  have y0 := Gr.cell N4.lt z0
  clear z0 hnn
  go_upto_region 7 with fail
  by_cases ho : overF S.devs no = no
  case neg =>
    have t1 : (overF S.devs no == no) = false := by simpa using ho
    have t1b : (overF S.devs no != no) = true := by simpa using ho
    have hE : Hid (leaveE S cu cg dir nm = 16) := by show _ = _; rw [hm2.out, if_neg (by decide), if_pos ho]
    clear hm2 ho
    refine wp_region_grow w4 (by kernel_rfl) (by kernel_rfl) (Ext.refl _).drew ?_
    repeat (quiet_step (((with_reducible refine (KO.out _).mono ?_); rintro e w'' ⟨rfl, hEx⟩; exact ⟨rfl, ⟨w'', Ext.trans (Gr.h _) hEx⟩, rfl⟩)))
    refine wpQuiet_nil ?_
    rintro w5 ⟨⟨w5', b5'⟩, h5⟩
    dsimp only at h5
    subst h5
    clear y0 KO
    have P5 := P4.ext b5'
    have Q5 := Q4.ext b5'
    go_wp2_with (first | (refine wpList_store_node rfl _ _ rfl (b5 + 1) nodeZ none 0 rfl rfl P5 ?_; intro wp Pp Op; have Qp := Op.has Q5 (by rw [List.mem_singleton]; omega)) | (refine wpList_store_node rfl _ _ rfl (b5 + 2) nodeZ none 0 rfl rfl Qp ?_; intro wq Qq Oq; have Pq := Oq.has Pp (by rw [List.mem_singleton]; omega)))
    refine bodyPost_ret (v := .tuple #[.agg #[.int .i64 nodeZ.no, .int .i64 nodeZ.dev, .int .i64 nodeZ.kind, .int .i64 nodeZ.mode, .int .i64 nodeZ.uid, .int .i64 nodeZ.gid, .int .i64 nodeZ.mtime, .int .i64 nodeZ.ctime, .int .i64 nodeZ.links, .int .i64 nodeZ.up, .string (bs nodeZ.data), .slice none nodeZ.ents.length 0], .agg #[.int .i64 nodeZ.no, .int .i64 nodeZ.dev, .int .i64 nodeZ.kind, .int .i64 nodeZ.mode, .int .i64 nodeZ.uid, .int .i64 nodeZ.gid, .int .i64 nodeZ.mtime, .int .i64 nodeZ.ctime, .int .i64 nodeZ.links, .int .i64 nodeZ.up, .string (bs nodeZ.data), .slice none nodeZ.ents.length 0], .int .i64 16]) (res_node2 Try.results100 _ _ (b5 + 1) (b5 + 2) nodeZ nodeZ none none 0 0 _ rfl rfl rfl Pq Qq) rfl ?_
    exact HS.out _ _ _ (E4.trans b5') ((Op.mono (by simp)).then (Oq.mono (by simp))) hE.out (by decide)
  have t1 : (overF S.devs no == no) = true := by simpa using ho
  have t1b : (overF S.devs no != no) = false := by simpa using ho
  have HOV := Lib.hid (show ¬ ¬ overF S.devs no = no by simpa using ho)
  clear ho
  refine wp_region_grow w4 (by kernel_rfl) (by kernel_rfl) (Ext.refl _).drew ?_
  repeat (quiet_step (((with_reducible refine (KO.out _).mono ?_); rintro e w'' ⟨rfl, hEx⟩; exact ⟨rfl, ⟨w'', Ext.trans (Gr.h _) hEx⟩, rfl⟩)))
  refine wpQuiet_nil ?_
  rintro w5 ⟨⟨w5', b5'⟩, h5⟩
  dsimp only at h5
  subst h5
  clear y0 KO
  have P5 := P4.ext b5'
  have Q5 := Q4.ext b5'
  have C5 := C4.ext b5'
  have M5 := M4.ext b5'
  have N5 := N4.ext b5'
  have okm5 := okm4.ext b5'
  have okn5 := okn4.ext b5'
  have E5 := E4.trans b5'
  have x0 : w5.cell? ⟨b5, 0, none⟩ = some (.int .i64 cu) := C5.cell 0
  have x1 : w5.cell? ⟨b5, 1, none⟩ = some (.int .i64 cg) := C5.cell 1
  have xz := C5.lt
  obtain ⟨u, hu⟩ : ∃ u, u = freeB cu m.mode m.uid n.uid := ⟨_, rfl⟩
  have hm3 : Hid (leaveE S cu cg dir nm = if u = false then 4 else 0) := by show _ = _; rw [hm2.out, if_neg (by decide), if_neg HOV.out, hu]
  have HU := Lib.hid hu
  clear hm2 hu P4 Q4 C4 M4 N4 okm4 okn4
  go_wp2_with (first | (refine wpList_load_node rfl _ rfl b11 m A2 k2 rfl M5 ?_) | (refine wpList_load_node rfl _ rfl b13 n A4 k4 rfl N5 ?_))
  refine (pfree_any cu cg _ _ _ m.mode m.uid _ _ _ _ _ _ _ _ _ _ _ n.uid _ _ _ _ _ _ _ _).mono ?_
  rw [← HU.out]
  rintro e w6 ⟨rfl, b6⟩
  have P6 := P5.ext b6
  have Q6 := Q5.ext b6
  have M6 := M5.ext b6
  have N6 := N5.ext b6
  have okm6 := okm5.ext b6
  have okn6 := okn5.ext b6
  have E6 := E5.trans b6
  clear x0 x1 xz P5 Q5 M5 N5 C5
  cases u
  · have hE : Hid (leaveE S cu cg dir nm = 4) := by show _ = _; rw [hm3.out]; rfl
    clear hm3
    go_wp2_with (first | (refine wpList_store_node rfl _ _ rfl (b5 + 1) nodeZ none 0 rfl rfl P6 ?_; intro wp Pp Op; have Qp := Op.has Q6 (by rw [List.mem_singleton]; omega)) | (refine wpList_store_node rfl _ _ rfl (b5 + 2) nodeZ none 0 rfl rfl Qp ?_; intro wq Qq Oq; have Pq := Oq.has Pp (by rw [List.mem_singleton]; omega)))
    refine bodyPost_ret (v := .tuple #[.agg #[.int .i64 nodeZ.no, .int .i64 nodeZ.dev, .int .i64 nodeZ.kind, .int .i64 nodeZ.mode, .int .i64 nodeZ.uid, .int .i64 nodeZ.gid, .int .i64 nodeZ.mtime, .int .i64 nodeZ.ctime, .int .i64 nodeZ.links, .int .i64 nodeZ.up, .string (bs nodeZ.data), .slice none nodeZ.ents.length 0], .agg #[.int .i64 nodeZ.no, .int .i64 nodeZ.dev, .int .i64 nodeZ.kind, .int .i64 nodeZ.mode, .int .i64 nodeZ.uid, .int .i64 nodeZ.gid, .int .i64 nodeZ.mtime, .int .i64 nodeZ.ctime, .int .i64 nodeZ.links, .int .i64 nodeZ.up, .string (bs nodeZ.data), .slice none nodeZ.ents.length 0], .int .i64 4]) (res_node2 Try.results100 _ _ (b5 + 1) (b5 + 2) nodeZ nodeZ none none 0 0 _ rfl rfl rfl Pq Qq) rfl ?_
    exact HS.out _ _ _ E6 ((Op.mono (by simp)).then (Oq.mono (by simp))) hE.out (by decide)
  have hE : Hid (leaveE S cu cg dir nm = 0) := by show _ = _; rw [hm3.out]; rfl
  clear hm3
  go_upto_region 11 with fail
  obtain ⟨Ph, hPh⟩ : ∃ Ph : Nat → World → Prop, Ph = ph2 (fun w' => w' = w6.drew) (fun w' => Has w' (b5 + 1) (.cells #[.int .i64 m.no, .int .i64 m.dev, .int .i64 m.kind, .int .i64 m.mode, .int .i64 m.uid, .int .i64 m.gid, .int .i64 m.mtime, .int .i64 m.ctime, .int .i64 m.links, .int .i64 m.up, .string (bs m.data), .slice A2 m.ents.length k2] 42) ∧ Only [b5 + 1] w6.drew w') (fun w' => Has w' (b5 + 1) (.cells #[.int .i64 m.no, .int .i64 m.dev, .int .i64 m.kind, .int .i64 m.mode, .int .i64 m.uid, .int .i64 m.gid, .int .i64 m.mtime, .int .i64 m.ctime, .int .i64 m.links, .int .i64 m.up, .string (bs m.data), .slice A2 m.ents.length k2] 42) ∧ Has w' (b5 + 2) (.cells #[.int .i64 n.no, .int .i64 n.dev, .int .i64 n.kind, .int .i64 n.mode, .int .i64 n.uid, .int .i64 n.gid, .int .i64 n.mtime, .int .i64 n.ctime, .int .i64 n.links, .int .i64 n.up, .string (bs n.data), .slice A4 n.ents.length k4] 42) ∧ Only [b5 + 1, b5 + 2] w6.drew w') := ⟨_, rfl⟩
  have ED : Ext w6 w6.drew := (Ext.refl _).drew
  have HV : Hid (Ph 0 w6.drew) := by show Ph 0 _; rw [hPh]; exact rfl
  have hne : Nonempty (Hp Ph) := ⟨⟨0, _, HV.out⟩⟩
  have uM : ∀ u : Hp Ph, Has u.w b11 (.cells #[.int .i64 m.no, .int .i64 m.dev, .int .i64 m.kind, .int .i64 m.mode, .int .i64 m.uid, .int .i64 m.gid, .int .i64 m.mtime, .int .i64 m.ctime, .int .i64 m.links, .int .i64 m.up, .string (bs m.data), .slice A2 m.ents.length k2] 42) := by
    rw [hPh]
    exact ph2_all (T := fun w' => Has w' b11 (.cells #[.int .i64 m.no, .int .i64 m.dev, .int .i64 m.kind, .int .i64 m.mode, .int .i64 m.uid, .int .i64 m.gid, .int .i64 m.mtime, .int .i64 m.ctime, .int .i64 m.links, .int .i64 m.up, .string (bs m.data), .slice A2 m.ents.length k2] 42)) (fun w' h' => by rw [h']; exact M6.ext ED) (fun w' h' => h'.2.has (M6.ext ED) (by rw [List.mem_singleton]; omega)) (fun w' h' => h'.2.2.has (M6.ext ED) (by simp only [List.mem_cons, List.not_mem_nil, or_false]; omega))
  have uN : ∀ u : Hp Ph, Has u.w b13 (.cells #[.int .i64 n.no, .int .i64 n.dev, .int .i64 n.kind, .int .i64 n.mode, .int .i64 n.uid, .int .i64 n.gid, .int .i64 n.mtime, .int .i64 n.ctime, .int .i64 n.links, .int .i64 n.up, .string (bs n.data), .slice A4 n.ents.length k4] 42) := by
    rw [hPh]
    exact ph2_all (T := fun w' => Has w' b13 (.cells #[.int .i64 n.no, .int .i64 n.dev, .int .i64 n.kind, .int .i64 n.mode, .int .i64 n.uid, .int .i64 n.gid, .int .i64 n.mtime, .int .i64 n.ctime, .int .i64 n.links, .int .i64 n.up, .string (bs n.data), .slice A4 n.ents.length k4] 42)) (fun w' h' => by rw [h']; exact N6.ext ED) (fun w' h' => h'.2.has (N6.ext ED) (by rw [List.mem_singleton]; omega)) (fun w' h' => h'.2.2.has (N6.ext ED) (by simp only [List.mem_cons, List.not_mem_nil, or_false]; omega))
  have my0 : ∀ u : Hp Ph, u.w.cell? ⟨b11, 0, none⟩ = some (.int .i64 m.no) := fun u => (uM u).cell 0
  have my1 : ∀ u : Hp Ph, u.w.cell? ⟨b11, 1, none⟩ = some (.int .i64 m.dev) := fun u => (uM u).cell 1
  have my2 : ∀ u : Hp Ph, u.w.cell? ⟨b11, 2, none⟩ = some (.int .i64 m.kind) := fun u => (uM u).cell 2
  have my3 : ∀ u : Hp Ph, u.w.cell? ⟨b11, 3, none⟩ = some (.int .i64 m.mode) := fun u => (uM u).cell 3
  have my4 : ∀ u : Hp Ph, u.w.cell? ⟨b11, 4, none⟩ = some (.int .i64 m.uid) := fun u => (uM u).cell 4
  have my5 : ∀ u : Hp Ph, u.w.cell? ⟨b11, 5, none⟩ = some (.int .i64 m.gid) := fun u => (uM u).cell 5
  have my6 : ∀ u : Hp Ph, u.w.cell? ⟨b11, 6, none⟩ = some (.int .i64 m.mtime) := fun u => (uM u).cell 6
  have my7 : ∀ u : Hp Ph, u.w.cell? ⟨b11, 7, none⟩ = some (.int .i64 m.ctime) := fun u => (uM u).cell 7
  have my8 : ∀ u : Hp Ph, u.w.cell? ⟨b11, 8, none⟩ = some (.int .i64 m.links) := fun u => (uM u).cell 8
  have my9 : ∀ u : Hp Ph, u.w.cell? ⟨b11, 9, none⟩ = some (.int .i64 m.up) := fun u => (uM u).cell 9
  have my10 : ∀ u : Hp Ph, u.w.cell? ⟨b11, 10, none⟩ = some (.string (bs m.data)) := fun u => (uM u).cell 10
  have my11 : ∀ u : Hp Ph, u.w.cell? ⟨b11, 11, none⟩ = some (.slice A2 m.ents.length k2) := fun u => (uM u).cell 11
  have ny0 : ∀ u : Hp Ph, u.w.cell? ⟨b13, 0, none⟩ = some (.int .i64 n.no) := fun u => (uN u).cell 0
  have ny1 : ∀ u : Hp Ph, u.w.cell? ⟨b13, 1, none⟩ = some (.int .i64 n.dev) := fun u => (uN u).cell 1
  have ny2 : ∀ u : Hp Ph, u.w.cell? ⟨b13, 2, none⟩ = some (.int .i64 n.kind) := fun u => (uN u).cell 2
  have ny3 : ∀ u : Hp Ph, u.w.cell? ⟨b13, 3, none⟩ = some (.int .i64 n.mode) := fun u => (uN u).cell 3
  have ny4 : ∀ u : Hp Ph, u.w.cell? ⟨b13, 4, none⟩ = some (.int .i64 n.uid) := fun u => (uN u).cell 4
  have ny5 : ∀ u : Hp Ph, u.w.cell? ⟨b13, 5, none⟩ = some (.int .i64 n.gid) := fun u => (uN u).cell 5
  have ny6 : ∀ u : Hp Ph, u.w.cell? ⟨b13, 6, none⟩ = some (.int .i64 n.mtime) := fun u => (uN u).cell 6
  have ny7 : ∀ u : Hp Ph, u.w.cell? ⟨b13, 7, none⟩ = some (.int .i64 n.ctime) := fun u => (uN u).cell 7
  have ny8 : ∀ u : Hp Ph, u.w.cell? ⟨b13, 8, none⟩ = some (.int .i64 n.links) := fun u => (uN u).cell 8
  have ny9 : ∀ u : Hp Ph, u.w.cell? ⟨b13, 9, none⟩ = some (.int .i64 n.up) := fun u => (uN u).cell 9
  have ny10 : ∀ u : Hp Ph, u.w.cell? ⟨b13, 10, none⟩ = some (.string (bs n.data)) := fun u => (uN u).cell 10
  have ny11 : ∀ u : Hp Ph, u.w.cell? ⟨b13, 11, none⟩ = some (.slice A4 n.ents.length k4) := fun u => (uN u).cell 11
  have hB0 : Hid (∀ u : Wc (Ph 0), ∃ (m : NodeD) (A' : Option Addr) (c' : Nat), Has u.w (b5 + 1) (.cells #[.int .i64 m.no, .int .i64 m.dev, .int .i64 m.kind, .int .i64 m.mode, .int .i64 m.uid, .int .i64 m.gid, .int .i64 m.mtime, .int .i64 m.ctime, .int .i64 m.links, .int .i64 m.up, .string (bs m.data), .slice A' m.ents.length c'] 42)) := by
    show ∀ u : Wc (Ph 0), _
    rintro ⟨u, hu⟩
    rw [hPh] at hu
    exact ⟨nodeZ, none, 0, by show Has u _ _; rw [show u = w6.drew from hu]; exact P6.ext ED⟩
  have hN0 : Hid (∀ (u : Wc (Ph 0)) (w' : World), Has w' (b5 + 1) (.cells #[.int .i64 m.no, .int .i64 m.dev, .int .i64 m.kind, .int .i64 m.mode, .int .i64 m.uid, .int .i64 m.gid, .int .i64 m.mtime, .int .i64 m.ctime, .int .i64 m.links, .int .i64 m.up, .string (bs m.data), .slice A2 m.ents.length k2] 42) → Only [b5 + 1] u.w w' → Ph 1 w') := by
    show ∀ (u : Wc (Ph 0)) (w' : World), _
    rintro ⟨u, hu⟩ w' h1 h2
    rw [hPh] at hu ⊢
    dsimp only at h2
    rw [show u = w6.drew from hu] at h2
    exact ⟨h1, h2⟩
  have hB1 : Hid (∀ u : Wc (Ph 1), ∃ (m : NodeD) (A' : Option Addr) (c' : Nat), Has u.w (b5 + 2) (.cells #[.int .i64 m.no, .int .i64 m.dev, .int .i64 m.kind, .int .i64 m.mode, .int .i64 m.uid, .int .i64 m.gid, .int .i64 m.mtime, .int .i64 m.ctime, .int .i64 m.links, .int .i64 m.up, .string (bs m.data), .slice A' m.ents.length c'] 42)) := by
    show ∀ u : Wc (Ph 1), _
    rintro ⟨u, hu⟩
    rw [hPh] at hu
    exact ⟨nodeZ, none, 0, hu.2.has (Q6.ext ED) (by rw [List.mem_singleton]; omega)⟩
  have hN1 : Hid (∀ (u : Wc (Ph 1)) (w' : World), Has w' (b5 + 2) (.cells #[.int .i64 n.no, .int .i64 n.dev, .int .i64 n.kind, .int .i64 n.mode, .int .i64 n.uid, .int .i64 n.gid, .int .i64 n.mtime, .int .i64 n.ctime, .int .i64 n.links, .int .i64 n.up, .string (bs n.data), .slice A4 n.ents.length k4] 42) → Only [b5 + 2] u.w w' → Ph 2 w') := by
    show ∀ (u : Wc (Ph 1)) (w' : World), _
    rintro ⟨u, hu⟩ w' h1 h2
    rw [hPh] at hu ⊢
    dsimp only at h2
    exact ⟨h2.has hu.1 (by rw [List.mem_singleton]; omega), h1, (hu.2.mono (by simp)).then (h2.mono (by simp))⟩
  have KQ : Hid (∀ w', Ph 2 w' → Has w' (b5 + 1) (.cells #[.int .i64 m.no, .int .i64 m.dev, .int .i64 m.kind, .int .i64 m.mode, .int .i64 m.uid, .int .i64 m.gid, .int .i64 m.mtime, .int .i64 m.ctime, .int .i64 m.links, .int .i64 m.up, .string (bs m.data), .slice A2 m.ents.length k2] 42) ∧ Has w' (b5 + 2) (.cells #[.int .i64 n.no, .int .i64 n.dev, .int .i64 n.kind, .int .i64 n.mode, .int .i64 n.uid, .int .i64 n.gid, .int .i64 n.mtime, .int .i64 n.ctime, .int .i64 n.links, .int .i64 n.up, .string (bs n.data), .slice A4 n.ents.length k4] 42) ∧ Only [b5 + 1, b5 + 2] w6.drew w') := by
    show ∀ w', _
    intro w' hw
    rw [hPh] at hw
    exact hw
  clear hPh uM uN
  refine wp_region_phase Ph [2, 3] (by kernel_rfl) (by kernel_rfl) (by kernel_rfl) HV.out ?_
  iterate 2 (refine wpLexE_plain (by kernel_rfl) (fun K hK => ?_); go_simp; refine hK _ ?_; clear hK K)
  refine wpLexE_store_node 0 (by kernel_rfl) rfl rfl _ _ rfl (b5 + 1) m A2 k2 rfl rfl hB0.out hN0.out ?_
  refine wpLexE_store_node 1 (by kernel_rfl) rfl rfl _ _ rfl (b5 + 2) n A4 k4 rfl rfl hB1.out hN1.out ?_
  refine wpLexE_plain (by kernel_rfl) (fun K hK => ?_)
  go_simp
  refine hK _ ?_
  clear hK K
  refine wpLexE_nil ?_
  intro w7 hw7
  obtain ⟨P7, Q7, O7⟩ := KQ.out _ hw7
  clear my0 my1 my2 my3 my4 my5 my6 my7 my8 my9 my10 my11 ny0 ny1 ny2 ny3 ny4 ny5 ny6 ny7 ny8 ny9 ny10 ny11 hB0 hN0 hB1 hN1 KQ hw7
  go_wp2_with fail
  refine bodyPost_ret (v := .tuple #[.agg #[.int .i64 m.no, .int .i64 m.dev, .int .i64 m.kind, .int .i64 m.mode, .int .i64 m.uid, .int .i64 m.gid, .int .i64 m.mtime, .int .i64 m.ctime, .int .i64 m.links, .int .i64 m.up, .string (bs m.data), .slice A2 m.ents.length k2], .agg #[.int .i64 n.no, .int .i64 n.dev, .int .i64 n.kind, .int .i64 n.mode, .int .i64 n.uid, .int .i64 n.gid, .int .i64 n.mtime, .int .i64 n.ctime, .int .i64 n.links, .int .i64 n.up, .string (bs n.data), .slice A4 n.ents.length k4], .int .i64 0]) (res_node2 Try.results100 _ _ (b5 + 1) (b5 + 2) m n A2 A4 k2 k4 _ rfl rfl rfl P7 Q7) rfl ?_
  have e1 : leaveD S cu cg dir nm = m := by unfold leaveD; rw [if_pos hE.out, HMG.out]
  have e2 : leaveN S cu cg dir nm = n := by unfold leaveN; rw [if_pos hE.out, HNN.out, HNO.out, HMG.out]
  have haP : Apart w6.drew B [b5 + 1, b5 + 2] := by
    intro b hb
    simp only [List.mem_cons, List.not_mem_nil, or_false] at hb
    have := h.1
    rcases hb with rfl | rfl
    · exact ⟨by omega, (P6.ext ED).noTag (by decide)⟩
    · exact ⟨by omega, (Q6.ext ED).noTag (by decide)⟩
  refine ⟨A2, k2, A4, k4, by rw [e1, e2, hE.out], by rw [e1]; exact (okm6.ext ED).only O7 haP, by rw [e2]; exact (okn6.ext ED).only O7 haP, O7.after (E6.trans ED) (by intro b hb; simp only [List.mem_cons, List.not_mem_nil, or_false] at hb; omega)⟩
end Go.Proofs.Ytjblimclakfhfaa

namespace Go.Proofs.Ytjblimclakfhfaa
open Go.ChangeShapes Go.WideShapes Go.ChangeAt Go.RowKit

theorem has_of_find {l : List EntD} {nm : List UInt8} (h : findF l nm ≠ 0) : has l nm = true := by
  unfold findF at h
  unfold has
  rw [List.any_eq_true]
  cases hf : l.find? (fun x => x.1 == nm) with
  | none => rw [hf] at h; exact absurd rfl h
  | some y =>
    have h2 := List.find?_some (p := fun x : EntD => x.1 == nm) hf
    exact ⟨y, List.mem_of_find?_eq_some hf, h2⟩
/-! ### Unlink, Rmdir. -/
theorem leaveE_zero {S : TreeD} {cu cg dir : Int} {nm : List UInt8} (h : leaveE S cu cg dir nm = 0) : placeE S cu cg dir nm = 0 ∧ isN S.nodes (findF (getN S.nodes dir).ents nm) = true ∧ overF S.devs (findF (getN S.nodes dir).ents nm) = findF (getN S.nodes dir).ents nm ∧ leaveD S cu cg dir nm = getN S.nodes dir ∧ leaveN S cu cg dir nm = getN S.nodes (findF (getN S.nodes dir).ents nm) := by
  have e1 : leaveD S cu cg dir nm = getN S.nodes dir := by unfold leaveD; rw [if_pos h]
  have e2 : leaveN S cu cg dir nm = getN S.nodes (findF (getN S.nodes dir).ents nm) := by unfold leaveN; rw [if_pos h]
  refine ⟨?_, ?_, ?_, e1, e2⟩ <;> unfold leaveE at h <;> split at h
  · rename_i h1; exact absurd h h1
  · rename_i h1; exact Decidable.not_not.1 h1
  · rename_i h1; exact absurd h h1
  · split at h
    · cases h
    · rename_i h2; simpa using h2
  · rename_i h1; exact absurd h h1
  · split at h
    · cases h
    · split at h
      · cases h
      · rename_i h3; exact Decidable.not_not.1 h3
end Go.Proofs.Ytjblimclakfhfaa

namespace Go.Proofs.Ytjblimclakfhfaa
open Go.ChangeShapes Go.WideShapes Go.ChangeAt Go.RowKit

attribute [local irreducible] wpQuiet
def putE (S : TreeD) (cu : Int) (d n old : NodeD) : Int :=
  if ¬ overF S.devs old.no = old.no then 16 else if n.kind = 1 ∧ ¬ old.kind = 1 then 9 else if ¬ n.kind = 1 ∧ old.kind = 1 then 8
  else if 0 < (old.ents.length : Int) then 10 else if freeB cu d.mode d.uid old.uid = false then 4 else 0
set_option maxRecDepth 100000 in
set_option maxHeartbeats 8000000 in
theorem pover19_any (B : Nat) (g : GhW) (S : TreeD) (cu cg : Int) (d n old : NodeD) (Ad An Ao : Option Addr) (cd cn co : Nat) (w : World) (h : WAt w B g S) (hd : 0 < S.devs.length) (hd8 : S.devs.length ≤ 8) (hol : old.ents.length ≤ 1000000) :
    Calls Try.prog 102 #[.pointer (some ⟨g.bW, 0, none⟩), .agg #[.int .i64 cu, .int .i64 cg], .agg #[.int .i64 d.no, .int .i64 d.dev, .int .i64 d.kind, .int .i64 d.mode, .int .i64 d.uid, .int .i64 d.gid, .int .i64 d.mtime, .int .i64 d.ctime, .int .i64 d.links, .int .i64 d.up, .string (bs d.data), .slice Ad d.ents.length cd], .agg #[.int .i64 n.no, .int .i64 n.dev, .int .i64 n.kind, .int .i64 n.mode, .int .i64 n.uid, .int .i64 n.gid, .int .i64 n.mtime, .int .i64 n.ctime, .int .i64 n.links, .int .i64 n.up, .string (bs n.data), .slice An n.ents.length cn], .agg #[.int .i64 old.no, .int .i64 old.dev, .int .i64 old.kind, .int .i64 old.mode, .int .i64 old.uid, .int .i64 old.gid, .int .i64 old.mtime, .int .i64 old.ctime, .int .i64 old.links, .int .i64 old.up, .string (bs old.data), .slice Ao old.ents.length co]] w (Ret w (.int .i64 (putE S cu d n old))) := by
  obtain ⟨W1, hW1⟩ : ∃ W1, W1 = w.alloc (.cells #[.int .i64 cu, .int .i64 cg] 24) := ⟨_, rfl⟩
  obtain ⟨W2, hW2⟩ : ∃ W2, W2 = W1.alloc (.cells #[.int .i64 d.no, .int .i64 d.dev, .int .i64 d.kind, .int .i64 d.mode, .int .i64 d.uid, .int .i64 d.gid, .int .i64 d.mtime, .int .i64 d.ctime, .int .i64 d.links, .int .i64 d.up, .string (bs d.data), .slice Ad d.ents.length cd] 42) := ⟨_, rfl⟩
  obtain ⟨W3, hW3⟩ : ∃ W3, W3 = W2.alloc (.cells #[.int .i64 n.no, .int .i64 n.dev, .int .i64 n.kind, .int .i64 n.mode, .int .i64 n.uid, .int .i64 n.gid, .int .i64 n.mtime, .int .i64 n.ctime, .int .i64 n.links, .int .i64 n.up, .string (bs n.data), .slice An n.ents.length cn] 42) := ⟨_, rfl⟩
  obtain ⟨W4, hW4⟩ : ∃ W4, W4 = W3.alloc (.cells #[.int .i64 old.no, .int .i64 old.dev, .int .i64 old.kind, .int .i64 old.mode, .int .i64 old.uid, .int .i64 old.gid, .int .i64 old.mtime, .int .i64 old.ctime, .int .i64 old.links, .int .i64 old.up, .string (bs old.data), .slice Ao old.ents.length co] 42) := ⟨_, rfl⟩
  have E1 : Ext w W1 := by rw [hW1]; exact (Ext.refl _).alloc _
  have E2 : Ext W1 W2 := by rw [hW2]; exact (Ext.refl _).alloc _
  have E3 : Ext W2 W3 := by rw [hW3]; exact (Ext.refl _).alloc _
  have E4 : Ext W3 W4 := by rw [hW4]; exact (Ext.refl _).alloc _
  have C1 : Has W1 w.heap.size (.cells #[.int .i64 cu, .int .i64 cg] 24) := by rw [hW1]; exact Has.new _ _
  have z1 : W1.heap.size = w.heap.size + 1 := by rw [hW1]; simp
  have z2 : W2.heap.size = w.heap.size + 1 + 1 := by rw [hW2, World.size_alloc, z1]
  have z3 : W3.heap.size = w.heap.size + 1 + 1 + 1 := by rw [hW3, World.size_alloc, z2]
  have D2 : Has W2 (w.heap.size + 1) (.cells #[.int .i64 d.no, .int .i64 d.dev, .int .i64 d.kind, .int .i64 d.mode, .int .i64 d.uid, .int .i64 d.gid, .int .i64 d.mtime, .int .i64 d.ctime, .int .i64 d.links, .int .i64 d.up, .string (bs d.data), .slice Ad d.ents.length cd] 42) := by rw [hW2, ← z1]; exact Has.new _ _
  have N3 : Has W3 (w.heap.size + 1 + 1) (.cells #[.int .i64 n.no, .int .i64 n.dev, .int .i64 n.kind, .int .i64 n.mode, .int .i64 n.uid, .int .i64 n.gid, .int .i64 n.mtime, .int .i64 n.ctime, .int .i64 n.links, .int .i64 n.up, .string (bs n.data), .slice An n.ents.length cn] 42) := by rw [hW3, ← z2]; exact Has.new _ _
  have O4 : Has W4 (w.heap.size + 1 + 1 + 1) (.cells #[.int .i64 old.no, .int .i64 old.dev, .int .i64 old.kind, .int .i64 old.mode, .int .i64 old.uid, .int .i64 old.gid, .int .i64 old.mtime, .int .i64 old.ctime, .int .i64 old.links, .int .i64 old.up, .string (bs old.data), .slice Ao old.ents.length co] 42) := by rw [hW4, ← z3]; exact Has.new _ _
  have E04 := ((E1.trans E2).trans E3).trans E4
  have C4 := C1.ext ((E2.trans E3).trans E4)
  have D4 := D2.ext (E3.trans E4)
  have N4 := N3.ext E4
  have K4 := h.ext E04
  obtain ⟨b6, hb6⟩ : ∃ b, b = w.heap.size := ⟨_, rfl⟩
  obtain ⟨b7, hb7⟩ : ∃ b, b = w.heap.size + 1 := ⟨_, rfl⟩
  obtain ⟨b8, hb8⟩ : ∃ b, b = w.heap.size + 1 + 1 := ⟨_, rfl⟩
  obtain ⟨b9, hb9⟩ : ∃ b, b = w.heap.size + 1 + 1 + 1 := ⟨_, rfl⟩
  have hm : (putE S cu d n old = if ¬ overF S.devs old.no = old.no then 16 else if n.kind = 1 ∧ ¬ old.kind = 1 then 9 else if ¬ n.kind = 1 ∧ old.kind = 1 then 8
    else if 0 < (old.ents.length : Int) then 10 else if freeB cu d.mode d.uid old.uid = false then 4 else 0) := rfl
  have HW4 : Hid ((((w.alloc (.cells #[.int .i64 cu, .int .i64 cg] 24)).alloc (.cells #[.int .i64 d.no, .int .i64 d.dev, .int .i64 d.kind, .int .i64 d.mode, .int .i64 d.uid, .int .i64 d.gid, .int .i64 d.mtime, .int .i64 d.ctime, .int .i64 d.links, .int .i64 d.up, .string (bs d.data), .slice Ad d.ents.length cd] 42)).alloc (.cells #[.int .i64 n.no, .int .i64 n.dev, .int .i64 n.kind, .int .i64 n.mode, .int .i64 n.uid, .int .i64 n.gid, .int .i64 n.mtime, .int .i64 n.ctime, .int .i64 n.links, .int .i64 n.up, .string (bs n.data), .slice An n.ents.length cn] 42)).alloc (.cells #[.int .i64 old.no, .int .i64 old.dev, .int .i64 old.kind, .int .i64 old.mode, .int .i64 old.uid, .int .i64 old.gid, .int .i64 old.mtime, .int .i64 old.ctime, .int .i64 old.links, .int .i64 old.up, .string (bs old.data), .slice Ao old.ents.length co] 42) = W4) := by show _ = _; rw [hW4, hW3, hW2, hW1]
  clear hW1 hW2 hW3 hW4 E1 E2 E3 E4 C1 z1 z2 z3 D2 N3
  have KO : Hid (∀ u : Gr W4, Calls Try.prog 16 #[.pointer (some ⟨g.bW, 0, none⟩), .int .i64 old.no] u.w (Ret u.w (.int .i64 (overF S.devs old.no)))) := by
    show ∀ u : Gr W4, _
    exact fun u => pover_any B g S old.no u.w (K4.ext u.h) hd (by omega)
  go_enter Try.func102, Try.ntmps102
  go_upto_region 1 with fail
  rw [HW4.out]
  rw [← hb9] at O4
  rw [← hb8] at N4
  rw [← hb7] at D4
  rw [← hb6] at C4
  rw [← hb9, ← hb8, ← hb7, ← hb6]
  clear hb9 hb8 hb7 hb6
  obtain ⟨no, hno⟩ : ∃ no, no = old.no := ⟨_, rfl⟩
  have r0 : ∀ u : Gr W4, u.w.cell? ⟨b9, 0, none⟩ = some (.int .i64 no) := by rw [hno]; exact Gr.cell O4.lt (O4.cell 0)
  obtain ⟨ov, hov⟩ : ∃ ov, ov = overF S.devs no := ⟨_, rfl⟩
  have KO' : Hid (∀ u : Gr W4, Calls Try.prog 16 #[.pointer (some ⟨g.bW, 0, none⟩), .int .i64 no] u.w (Ret u.w (.int .i64 ov))) := by rw [hov, hno]; exact KO
  rw [← hno, ← hov] at hm
  clear KO hov hno
  refine wp_region_grow W4 (by kernel_rfl) (by kernel_rfl) (Ext.refl _).drew ?_
  repeat (quiet_step (first
    | ((with_reducible refine (KO'.out _).mono ?_); rintro e w'' ⟨rfl, hEx⟩; exact ⟨rfl, ⟨w'', Ext.trans (Gr.h _) hEx⟩, rfl⟩)))
  refine wpQuiet_nil ?_
  rintro w5 ⟨⟨wy, b5⟩, h5⟩
  dsimp only at h5
  subst h5
  have E5 : Ext w w5 := E04.trans b5
  have C5 := C4.ext b5
  have D5 := D4.ext b5
  have N5 := N4.ext b5
  have O5 := O4.ext b5
  have HE5 := Lib.hid E5
  have n2 : w5.cell? ⟨b8, 2, none⟩ = some (.int .i64 n.kind) := N5.cell 2
  have o2 : w5.cell? ⟨b9, 2, none⟩ = some (.int .i64 old.kind) := O5.cell 2
  obtain ⟨lo, hlo⟩ : ∃ lo, lo = old.ents.length := ⟨_, rfl⟩
  have o11 : w5.cell? ⟨b9, 11, none⟩ = some (.slice Ao lo co) := by rw [hlo]; exact O5.cell 11
  rw [← hlo] at hm
  have hlo' : lo ≤ 1000000 := by omega
  have nz := N5.lt
  have oz := O5.lt
  clear hlo r0 KO' E5 E04 C4 D4 N4 O4 K4 b5
  by_cases c0 : ov = no
  case neg =>
    have t0 : (ov == no) = false := by simpa using c0
    have t0b : (ov != no) = true := by simpa using c0
    have hE : Hid (putE S cu d n old = 16) := by show _ = _; rw [hm, if_pos c0]
    clear hm c0
    go_wp2_with fail
    go_ret
    exact Ret.mk (by rw [hE.out]; rfl) HE5.out
  have t0 : (ov == no) = true := by simpa using c0
  have t0b : (ov != no) = false := by simpa using c0
  have h0 := c0
  rw [if_neg (not_not_intro h0)] at hm
  clear c0 h0
  by_cases c1 : n.kind = 1
  · have t1 : (n.kind == 1) = true := by simpa using c1
    have t1b : (n.kind != 1) = false := by simpa using c1
    by_cases c2 : old.kind = 1
    case neg =>
      have t2 : (old.kind == 1) = false := by simpa using c2
      have t2b : (old.kind != 1) = true := by simpa using c2
      have hE : Hid (putE S cu d n old = 9) := by show _ = _; rw [hm, if_pos ⟨c1, c2⟩]
      clear hm c1 c2
      go_wp2_with fail
      go_ret
      exact Ret.mk (by rw [hE.out]; rfl) HE5.out
    have t2 : (old.kind == 1) = true := by simpa using c2
    have t2b : (old.kind != 1) = false := by simpa using c2
    rw [if_neg (fun h => h.2 c2), if_neg (fun h => h.1 c1)] at hm
    clear c1 c2
    by_cases c3 : 0 < (lo : Int)
    · have t3 : decide ((0 : Int) < (lo : Int)) = true := decide_eq_true c3
      have t3b : decide (0 < lo) = true := decide_eq_true (by omega)
      have t3c : 0 < lo := by omega
      have hE : Hid (putE S cu d n old = 10) := by show _ = _; rw [hm, if_pos c3]
      clear hm c3
      go_wp2_with fail
      go_ret
      exact Ret.mk (by rw [hE.out]; rfl) HE5.out
    have t3 : decide ((0 : Int) < (lo : Int)) = false := decide_eq_false c3
    have t3b : decide (0 < lo) = false := decide_eq_false (by omega)
    obtain rfl : lo = 0 := by omega
    clear hlo'
    rw [if_neg c3] at hm
    have x0 : w5.cell? ⟨b6, 0, none⟩ = some (.int .i64 cu) := C5.cell 0
    have x1 : w5.cell? ⟨b6, 1, none⟩ = some (.int .i64 cg) := C5.cell 1
    have xz := C5.lt
    obtain ⟨fb, hfb⟩ : ∃ fb, fb = freeB cu d.mode d.uid old.uid := ⟨_, rfl⟩
    rw [← hfb] at hm
    have HFB := Lib.hid hfb
    clear c3 hfb
    go_wp2_with (first | (refine wpList_load_node rfl _ rfl b7 d Ad cd rfl D5 ?_) | (refine wpList_load_node rfl _ rfl b9 old Ao co rfl O5 ?_))
    all_goals
      refine (pfree_any cu cg _ _ _ d.mode d.uid _ _ _ _ _ _ _ _ _ _ _ old.uid _ _ _ _ _ _ _ _).mono ?_
      rw [← HFB.out]
      rintro e w6 ⟨rfl, b6'⟩
      clear x0 x1 xz n2 o2 o11 nz oz
      cases fb
      · have hE : Hid (putE S cu d n old = 4) := by show _ = _; rw [hm, if_pos rfl]
        clear hm
        go_wp2_with fail
        go_ret
        exact Ret.mk (by rw [hE.out]; rfl) (HE5.out.trans b6')
      · have hE : Hid (putE S cu d n old = 0) := by show _ = _; rw [hm, if_neg (by decide)]
        clear hm
        go_wp2_with fail
        go_ret
        exact Ret.mk (by rw [hE.out]; rfl) (HE5.out.trans b6')
  · have t1 : (n.kind == 1) = false := by simpa using c1
    have t1b : (n.kind != 1) = true := by simpa using c1
    by_cases c2 : old.kind = 1
    · have t2 : (old.kind == 1) = true := by simpa using c2
      have t2b : (old.kind != 1) = false := by simpa using c2
      have hE : Hid (putE S cu d n old = 8) := by show _ = _; rw [hm, if_neg (fun h => c1 h.1), if_pos ⟨c1, c2⟩]
      clear hm c1 c2
      go_wp2_with fail
      go_ret
      exact Ret.mk (by rw [hE.out]; rfl) HE5.out
    have t2 : (old.kind == 1) = false := by simpa using c2
    have t2b : (old.kind != 1) = true := by simpa using c2
    rw [if_neg (fun h => c1 h.1), if_neg (fun h => c2 h.2)] at hm
    clear c1 c2
    by_cases c3 : 0 < (lo : Int)
    · have t3 : decide ((0 : Int) < (lo : Int)) = true := decide_eq_true c3
      have t3b : decide (0 < lo) = true := decide_eq_true (by omega)
      have t3c : 0 < lo := by omega
      have hE : Hid (putE S cu d n old = 10) := by show _ = _; rw [hm, if_pos c3]
      clear hm c3
      go_wp2_with fail
      go_ret
      exact Ret.mk (by rw [hE.out]; rfl) HE5.out
    have t3 : decide ((0 : Int) < (lo : Int)) = false := decide_eq_false c3
    have t3b : decide (0 < lo) = false := decide_eq_false (by omega)
    obtain rfl : lo = 0 := by omega
    clear hlo'
    rw [if_neg c3] at hm
    have x0 : w5.cell? ⟨b6, 0, none⟩ = some (.int .i64 cu) := C5.cell 0
    have x1 : w5.cell? ⟨b6, 1, none⟩ = some (.int .i64 cg) := C5.cell 1
    have xz := C5.lt
    obtain ⟨fb, hfb⟩ : ∃ fb, fb = freeB cu d.mode d.uid old.uid := ⟨_, rfl⟩
    rw [← hfb] at hm
    have HFB := Lib.hid hfb
    clear c3 hfb
    go_wp2_with (first | (refine wpList_load_node rfl _ rfl b7 d Ad cd rfl D5 ?_) | (refine wpList_load_node rfl _ rfl b9 old Ao co rfl O5 ?_))
    all_goals
      refine (pfree_any cu cg _ _ _ d.mode d.uid _ _ _ _ _ _ _ _ _ _ _ old.uid _ _ _ _ _ _ _ _).mono ?_
      rw [← HFB.out]
      rintro e w6 ⟨rfl, b6'⟩
      clear x0 x1 xz n2 o2 o11 nz oz
      cases fb
      · have hE : Hid (putE S cu d n old = 4) := by show _ = _; rw [hm, if_pos rfl]
        clear hm
        go_wp2_with fail
        go_ret
        exact Ret.mk (by rw [hE.out]; rfl) (HE5.out.trans b6')
      · have hE : Hid (putE S cu d n old = 0) := by show _ = _; rw [hm, if_neg (by decide)]
        clear hm
        go_wp2_with fail
        go_ret
        exact Ret.mk (by rw [hE.out]; rfl) (HE5.out.trans b6')
end Go.Proofs.Ytjblimclakfhfaa

namespace Go.Proofs.Ytjblimclakfhfaa
open Go.ChangeShapes Go.WideShapes Go.ChangeAt Go.RowKit

attribute [local irreducible] wpQuiet
/-- What a move meets: the node in whose place it comes. -/
def oldNo (S : TreeD) (cu cg to_ : Int) (b : List UInt8) : Int := findF (placeN S cu cg to_ b).ents b
def sameB (S : TreeD) (cu cg fr to_ : Int) (a b : List UInt8) : Prop := isN S.nodes (oldNo S cu cg to_ b) = true ∧ (getN S.nodes (oldNo S cu cg to_ b)).no = (leaveN S cu cg fr a).no
instance (S : TreeD) (cu cg fr to_ : Int) (a b : List UInt8) : Decidable (sameB S cu cg fr to_ a b) := by unfold sameB; exact inferInstance
def moveX (S : TreeD) (cu cg fr to_ x y : Int) (d n t : NodeD) (is : Bool) (old : NodeD) : Int :=
  if ¬ x = 0 then x else if ¬ y = 0 then y else if ¬ d.dev = t.dev then 11 else if n.kind = 1 ∧ withinF S to_ n.no = true then 17
  else if is = true ∧ old.no = n.no then 0 else if n.kind = 1 ∧ ¬ fr = to_ ∧ mayB cu cg n.uid n.gid n.mode 2 = false then 6
  else if is = true then putE S cu t n old else 0
def moveE (S : TreeD) (cu cg fr to_ : Int) (a b : List UInt8) : Int :=
  moveX S cu cg fr to_ (leaveE S cu cg fr a) (placeE S cu cg to_ b) (leaveD S cu cg fr a) (leaveN S cu cg fr a) (placeN S cu cg to_ b) (isN S.nodes (oldNo S cu cg to_ b)) (getN S.nodes (oldNo S cu cg to_ b))
/-- What comes in the place of what. -/
def overT (S : TreeD) (now no : Int) : TreeD := if isN S.nodes no = true then lessT S now (getN S.nodes no) else S
def laidN (now to_ : Int) (n : NodeD) : NodeD := { n with ctime := now, up := if n.kind = 1 then to_ else n.up }
def laidT (T : TreeD) (now fr to_ : Int) (a b : List UInt8) (d n : NodeD) : TreeD :=
  setT (touchT (touchT T fr now (dropF d.ents a)) to_ now (putF (getN (touchT T fr now (dropF d.ents a)).nodes to_).ents (b, n.no))) (laidN now to_ n)
def moveT (S : TreeD) (cu cg now fr to_ : Int) (a b : List UInt8) : TreeD :=
  if moveE S cu cg fr to_ a b = 0 ∧ ¬ sameB S cu cg fr to_ a b then laidT (overT S now (oldNo S cu cg to_ b)) now fr to_ a b (leaveD S cu cg fr a) (leaveN S cu cg fr a) else S
theorem all_over {S : TreeD} {P : NodeD → Prop} (h : ∀ m ∈ S.nodes, P m) (now no : Int) (hl : ∀ m, P m → P (lessN now m)) : ∀ m ∈ (overT S now no).nodes, P m := by
  unfold overT
  split
  · rename_i hi
    have hs : ∀ m ∈ (setT S (lessN now (getN S.nodes no))).nodes, P m := fun m hm => by
      rcases mem_setN hm with hm | rfl
      · exact h m hm
      · exact hl _ (h _ (isN_true hi).2.2)
    unfold lessT
    split
    · unfold killT
      split
      · exact fun m hm => hs m (List.mem_filter.1 hm).1
      · exact hs
    · exact hs
  · exact h
set_option maxRecDepth 100000 in
set_option maxHeartbeats 16000000 in
theorem pmove_any (B : Nat) (g : GhW) (S : TreeD) (r : Int → Nat) (cu cg now fr to_ : Int) (a b : List UInt8) (w : World) (h : WAt w B g S) (O : Ok S) (R : Rank S r) :
    Calls Try.prog 67 #[.pointer (some ⟨g.bW, 0, none⟩), .agg #[.int .i64 cu, .int .i64 cg], .int .i64 now, .int .i64 fr, .string (bs a), .int .i64 to_, .string (bs b)] w (ErrR w B g (moveT S cu cg now fr to_ a b) (moveE S cu cg fr to_ a b)) := by
  obtain ⟨W0, hW0⟩ : ∃ W0, W0 = w.alloc (.cells #[.int .i64 cu, .int .i64 cg] 24) := ⟨_, rfl⟩
  have E0 : Ext w W0 := by rw [hW0]; exact (Ext.refl _).alloc _
  have C0 : Has W0 w.heap.size (.cells #[.int .i64 cu, .int .i64 cg] 24) := by rw [hW0]; exact Has.new w _
  have HO := Lib.hid O
  have HR := Lib.hid R
  have HE : Hid (moveE S cu cg fr to_ a b = moveX S cu cg fr to_ (leaveE S cu cg fr a) (placeE S cu cg to_ b) (leaveD S cu cg fr a) (leaveN S cu cg fr a) (placeN S cu cg to_ b) (isN S.nodes (oldNo S cu cg to_ b)) (getN S.nodes (oldNo S cu cg to_ b))) := by show _ = _; rfl
  have HZ : Hid (leaveE S cu cg fr a = 0 → _) := fun h0 => leaveE_zero (nm := a) h0
  have HP : Hid (placeE S cu cg to_ b = 0 → _) := fun h0 => placeE_zero (nm := b) h0
  have HS : Hid (∀ (w' : World) (x : Int), Ext w w' → moveE S cu cg fr to_ a b = x → (x ≠ 0 ∨ sameB S cu cg fr to_ a b) → ErrR w B g (moveT S cu cg now fr to_ a b) (moveE S cu cg fr to_ a b) (.returned (.int .i64 x)) w') := by
    show ∀ (w' : World) (x : Int), _
    intro w' x hE hx h0
    rw [hx]
    refine errR_same h hE ?_
    unfold moveT
    rw [if_neg]
    rintro ⟨h1, h2⟩
    rcases h0 with h0 | h0
    · exact h0 (hx.symm.trans h1)
    · exact h2 h0
  have x0 : W0.cell? ⟨w.heap.size, 0, none⟩ = some (.int .i64 cu) := C0.cell 0
  have x1 : W0.cell? ⟨w.heap.size, 1, none⟩ = some (.int .i64 cg) := C0.cell 1
  have xz := C0.lt
  clear O R
  go_enter Try.func67, Try.ntmps67
  go_upto_region 1 with fail
  rw [← hW0]
  clear hW0
  go_wp2_with fail
  refine (pleave_any B g S cu cg fr a _ (h.ext E0) HO.out).mono ?_
  rintro e w2 ⟨A1, c1, A2, c2, rfl, okd, okn, b2⟩
  obtain ⟨d, hd⟩ : ∃ d, d = leaveD S cu cg fr a := ⟨_, rfl⟩
  obtain ⟨n, hn⟩ : ∃ n, n = leaveN S cu cg fr a := ⟨_, rfl⟩
  obtain ⟨x, hx⟩ : ∃ x, x = leaveE S cu cg fr a := ⟨_, rfl⟩
  rw [← hd] at okd
  rw [← hn] at okn
  rw [← hd, ← hn, ← hx]
  rw [← hx] at HZ
  rw [← hd, ← hn, ← hx] at HE
  have HDD := Lib.hid hd
  have HNN := Lib.hid hn
  obtain ⟨W3, hW3⟩ : ∃ W3, W3 = (w2.alloc (.cells #[.int .i64 d.no, .int .i64 d.dev, .int .i64 d.kind, .int .i64 d.mode, .int .i64 d.uid, .int .i64 d.gid, .int .i64 d.mtime, .int .i64 d.ctime, .int .i64 d.links, .int .i64 d.up, .string (bs d.data), .slice A1 d.ents.length c1] 42)).alloc (.cells #[.int .i64 n.no, .int .i64 n.dev, .int .i64 n.kind, .int .i64 n.mode, .int .i64 n.uid, .int .i64 n.gid, .int .i64 n.mtime, .int .i64 n.ctime, .int .i64 n.links, .int .i64 n.up, .string (bs n.data), .slice A2 n.ents.length c2] 42) := ⟨_, rfl⟩
  have E23 : Ext w2 W3 := by rw [hW3]; exact ((Ext.refl _).alloc _).alloc _
  obtain ⟨b15, hb15⟩ : ∃ b, b = w2.heap.size := ⟨_, rfl⟩
  have D3 : Has W3 b15 (.cells #[.int .i64 d.no, .int .i64 d.dev, .int .i64 d.kind, .int .i64 d.mode, .int .i64 d.uid, .int .i64 d.gid, .int .i64 d.mtime, .int .i64 d.ctime, .int .i64 d.links, .int .i64 d.up, .string (bs d.data), .slice A1 d.ents.length c1] 42) := by rw [hW3, hb15]; exact (Has.new w2 _).alloc _
  have N3 : Has W3 (b15 + 1) (.cells #[.int .i64 n.no, .int .i64 n.dev, .int .i64 n.kind, .int .i64 n.mode, .int .i64 n.uid, .int .i64 n.gid, .int .i64 n.mtime, .int .i64 n.ctime, .int .i64 n.links, .int .i64 n.up, .string (bs n.data), .slice A2 n.ents.length c2] 42) := by
    rw [hW3, hb15]
    have := Has.new (w2.alloc (.cells #[.int .i64 d.no, .int .i64 d.dev, .int .i64 d.kind, .int .i64 d.mode, .int .i64 d.uid, .int .i64 d.gid, .int .i64 d.mtime, .int .i64 d.ctime, .int .i64 d.links, .int .i64 d.up, .string (bs d.data), .slice A1 d.ents.length c1] 42)) (.cells #[.int .i64 n.no, .int .i64 n.dev, .int .i64 n.kind, .int .i64 n.mode, .int .i64 n.uid, .int .i64 n.gid, .int .i64 n.mtime, .int .i64 n.ctime, .int .i64 n.links, .int .i64 n.up, .string (bs n.data), .slice A2 n.ents.length c2] 42)
    rwa [World.size_alloc] at this
  have okd3 := okd.ext E23
  have okn3 := okn.ext E23
  have E3 := (E0.trans b2).trans E23
  have C3 := C0.ext (b2.trans E23)
  have hb15w : w.heap.size ≤ b15 := by rw [hb15]; exact (E0.trans b2).size
  clear x0 x1 xz hd hn hx C0 okd okn E23
  go_upto_region 2 with fail
  rw [← hW3]
  rw [← hb15]
  clear hW3 hb15
  by_cases hx0 : x = 0
  case neg =>
    have t0 : (x == 0) = false := by simpa using hx0
    have t0b : (x != 0) = true := by simpa using hx0
    have hE : Hid (moveE S cu cg fr to_ a b = x) := by show _ = _; rw [HE.out]; unfold moveX; rw [if_pos hx0]
    have HX := Lib.hid hx0
    clear hx0
    go_wp2_with fail
    go_ret
    exact HS.out _ _ E3 hE.out (.inl HX.out)
  have t0 : (x == 0) = true := by simpa using hx0
  have t0b : (x != 0) = false := by simpa using hx0
  have HLZ := Lib.hid (HZ.out hx0)
  have HX0 := Lib.hid hx0
  have x0 : W3.cell? ⟨w.heap.size, 0, none⟩ = some (.int .i64 cu) := C3.cell 0
  have x1 : W3.cell? ⟨w.heap.size, 1, none⟩ = some (.int .i64 cg) := C3.cell 1
  have xz := C3.lt
  clear hx0 HZ
  go_wp2_with fail
  refine (pplace_any B g S cu cg to_ b _ (h.ext E3) HO.out.live.devs).mono ?_
  rintro e w4 ⟨A4, c4, rfl, okt, b4⟩
  obtain ⟨t, ht⟩ : ∃ t, t = placeN S cu cg to_ b := ⟨_, rfl⟩
  obtain ⟨y, hy⟩ : ∃ y, y = placeE S cu cg to_ b := ⟨_, rfl⟩
  rw [← ht] at okt
  rw [← ht, ← hy]
  rw [← ht, ← hy] at HE
  rw [← hy] at HP
  have HTT := Lib.hid ht
  have HYY := Lib.hid hy
  obtain ⟨W5, hW5⟩ : ∃ W5, W5 = w4.alloc (.cells #[.int .i64 t.no, .int .i64 t.dev, .int .i64 t.kind, .int .i64 t.mode, .int .i64 t.uid, .int .i64 t.gid, .int .i64 t.mtime, .int .i64 t.ctime, .int .i64 t.links, .int .i64 t.up, .string (bs t.data), .slice A4 t.ents.length c4] 42) := ⟨_, rfl⟩
  have E45 : Ext w4 W5 := by rw [hW5]; exact (Ext.refl _).alloc _
  obtain ⟨b18, hb18⟩ : ∃ b, b = w4.heap.size := ⟨_, rfl⟩
  have T5 : Has W5 b18 (.cells #[.int .i64 t.no, .int .i64 t.dev, .int .i64 t.kind, .int .i64 t.mode, .int .i64 t.uid, .int .i64 t.gid, .int .i64 t.mtime, .int .i64 t.ctime, .int .i64 t.links, .int .i64 t.up, .string (bs t.data), .slice A4 t.ents.length c4] 42) := by rw [hW5, hb18]; exact Has.new w4 _
  have E35 := b4.trans E45
  have okd5 := okd3.ext E35
  have okn5 := okn3.ext E35
  have okt5 := okt.ext E45
  have D5 := D3.ext E35
  have N5 := N3.ext E35
  have C5 := C3.ext E35
  have E5 := E3.trans E35
  have hb18w : b15 + 1 < b18 := by rw [hb18]; have := N3.lt; have := b4.size; omega
  clear x0 x1 xz ht hy okt E45 D3 N3 C3 okd3 okn3 b4
  go_upto_region 5 with fail
  rw [← hW5]
  rw [← hb18]
  clear hW5 hb18
  by_cases hy0 : y = 0
  case neg =>
    have t1 : (y == 0) = false := by simpa using hy0
    have t1b : (y != 0) = true := by simpa using hy0
    have hE : Hid (moveE S cu cg fr to_ a b = y) := by show _ = _; rw [HE.out]; unfold moveX; rw [if_neg (not_not_intro HX0.out), if_pos hy0]
    have HX := Lib.hid hy0
    clear hy0
    go_wp2_with fail
    go_ret
    exact HS.out _ _ E5 hE.out (.inl HX.out)
  have t1 : (y == 0) = true := by simpa using hy0
  have t1b : (y != 0) = false := by simpa using hy0
  have HPZ := Lib.hid (HP.out hy0)
  have HY0 := Lib.hid hy0
  have HPN : Hid (t = getN S.nodes to_) := Lib.hid (HTT.out.trans (placeN_zero (by rw [← HYY.out]; exact hy0)))
  obtain ⟨old_, hold⟩ : ∃ o, o = oldNo S cu cg to_ b := ⟨_, rfl⟩
  have hold2 : findF t.ents b = old_ := by rw [hold, HTT.out]; rfl
  have hre := HO.out.entsN to_
  rw [← HPN.out] at hre
  have KF : Hid (∀ u : Gr W5, Calls Try.prog 87 #[.slice A4 t.ents.length c4, .string (bs b)] u.w (Ret u.w (.int .i64 old_))) := by
    show ∀ u : Gr W5, _
    intro u
    rw [← hold2, ← numOf_findF hre.1]
    exact find_any A4 t.ents c4 b u.w (okt5.ext u.h).ents.ents hre.1 (by have := hre.2; omega)
  have K5 := h.ext E5
  obtain ⟨A6, c6, ok6, C6⟩ := tget_fix B g S old_ W5 K5
  obtain ⟨o, ho⟩ : ∃ o, o = getN S.nodes old_ := ⟨_, rfl⟩
  obtain ⟨is, his⟩ : ∃ is, is = isN S.nodes old_ := ⟨_, rfl⟩
  rw [← ho] at ok6 C6
  rw [← his] at C6
  rw [← hold, ← ho, ← his] at HE
  have HC6 := Lib.hid C6
  have HOO := Lib.hid ho
  have HIS := Lib.hid his
  have HOLD := Lib.hid hold
  obtain ⟨_, _, cdw, hWw, _⟩ := id K5
  have v0 : ∀ u : Gr W5, u.w.cell? ⟨g.bW, 0, none⟩ = some (.pointer (some ⟨g.bT, 0, none⟩)) := Gr.cell hWw.lt (hWw.cell 0)
  have t11 : ∀ u : Gr W5, u.w.cell? ⟨b18, 11, none⟩ = some (.slice A4 t.ents.length c4) := Gr.cell T5.lt (T5.cell 11)
  clear hy0 HP hold hold2 hre C6 ho his hWw
  go_upto_region 7 with fail
  refine wp_region_nbox W5 12 13 19 57 o A6 c6 _ _ (by kernel_rfl) (by kernel_rfl) rfl rfl rfl rfl (by simp) ((Ext.refl _).drew) ?_
  simp only [List.take_succ_cons, List.take_zero, List.drop_succ_cons, List.drop_zero, List.drop_nil]
  repeat (refine wpQuietR_step (fun K hK => ?_)
          go_simp
          first
            | (refine hK _ ?_; clear hK K)
            | (apply Exists.intro
               refine ⟨fun u => ?_, hK _ ?_⟩
               first
                 | ((with_reducible refine (KF.out _).mono ?_); rintro e w'' ⟨rfl, hx⟩; exact ⟨rfl, hx⟩)
                 | ((with_reducible refine (HC6.out _ u.h).mono ?_); rintro e w'' ⟨rfl, hx⟩; exact ⟨rfl, hx⟩)
               clear hK K))
  refine wpQuietR_nil ?_
  refine wpQuietR_nil ⟨rfl, ?_⟩
  repeat (refine wpQuietR_step (fun K hK => ?_); go_simp; refine hK _ ?_; clear hK K)
  refine wpQuietR_nil ?_
  intro w6 b19 E56 hb19 O6
  simp only [Act.put]
  have okd6 := okd5.ext E56
  have okn6 := okn5.ext E56
  have okt6 := okt5.ext E56
  have oko6 := ok6.ext E56
  have D6 := D5.ext E56
  have N6 := N5.ext E56
  have T6 := T5.ext E56
  have C6' := C5.ext E56
  have X6 := E5.trans E56
  have hb19w : b18 < b19 := by have := T5.lt; omega
  have HKS : Hid (moveE S cu cg fr to_ a b = moveX S cu cg fr to_ x y d n t is o) := HE
  have HSM : Hid (sameB S cu cg fr to_ a b ↔ (is = true ∧ o.no = n.no)) := by
    refine Lib.hid ?_
    unfold sameB
    rw [HIS.out, HOO.out, HNN.out, HOLD.out]
  have HX6 := Lib.hid X6
  have e1 : w6.cell? ⟨b15, 1, none⟩ = some (.int .i64 d.dev) := D6.cell 1
  have e2 : w6.cell? ⟨b18, 1, none⟩ = some (.int .i64 t.dev) := T6.cell 1
  have e3 : w6.cell? ⟨b15 + 1, 2, none⟩ = some (.int .i64 n.kind) := N6.cell 2
  have e4 : w6.cell? ⟨b15 + 1, 0, none⟩ = some (.int .i64 n.no) := N6.cell 0
  have e5 : w6.cell? ⟨b19, 0, none⟩ = some (.int .i64 o.no) := O6.cell 0
  have z1 := D6.lt
  have z2 := T6.lt
  have z3 := N6.lt
  have z4 := O6.lt
  clear v0 t11 KF HC6 okd5 okn5 okt5 ok6 D5 N5 T5 C5 E5 E56 hb19 K5 E3 E35 X6 HE
  go_upto_block 0 with fail
  go_simp
  go_cut [59] (fun _ wc => Ext w6 wc ∧ d.dev = t.dev ∧ ¬ (n.kind = 1 ∧ withinF S to_ n.no = true) ∧ ¬ (is = true ∧ o.no = n.no) ∧ ¬ (n.kind = 1 ∧ ¬ fr = to_ ∧ mayB cu cg n.uid n.gid n.mode 2 = false))
  case first =>
    by_cases q1 : d.dev = t.dev
    case neg =>
      have s1 : (d.dev == t.dev) = false := by simpa using q1
      have s1b : (d.dev != t.dev) = true := by simpa using q1
      have hE : Hid (moveE S cu cg fr to_ a b = 11) := by show _ = _; rw [HKS.out]; unfold moveX; rw [if_neg (not_not_intro HX0.out), if_neg (not_not_intro HY0.out), if_pos q1]
      clear q1
      go_wp2_with fail
      go_ret
      exact HS.out _ _ HX6.out hE.out (.inl (by decide))
    have s1 : (d.dev == t.dev) = true := by simpa using q1
    have s1b : (d.dev != t.dev) = false := by simpa using q1
    have Q1 := Lib.hid q1
    clear q1
    by_cases q2 : n.kind = 1
    case neg =>
      have s2 : (n.kind == 1) = false := by simpa using q2
      have Q2 := Lib.hid q2
      clear q2
      cases is
      · have HNS : Hid (¬ (false = true ∧ o.no = n.no)) := Lib.hid (fun h => absurd h.1 (by decide))
        go_wp2_with fail
        go_meet
        exact ⟨Ext.refl _, Q1.out, fun h => Q2.out h.1, HNS.out, fun h => Q2.out h.1⟩
      · by_cases q3 : o.no = n.no
        · have s3 : (o.no == n.no) = true := by simpa using q3
          have hE : Hid (moveE S cu cg fr to_ a b = 0) := by show _ = _; rw [HKS.out]; unfold moveX; rw [if_neg (not_not_intro HX0.out), if_neg (not_not_intro HY0.out), if_neg (not_not_intro Q1.out), if_neg (fun h => Q2.out h.1), if_pos ⟨rfl, q3⟩]
          have hsm : Hid (sameB S cu cg fr to_ a b) := Lib.hid (HSM.out.2 ⟨rfl, q3⟩)
          clear q3
          go_wp2_with fail
          go_ret
          exact HS.out _ _ HX6.out hE.out (.inr hsm.out)
        have s3 : (o.no == n.no) = false := by simpa using q3
        have HNS : Hid (¬ (true = true ∧ o.no = n.no)) := Lib.hid (fun h => q3 h.2)
        clear q3
        go_wp2_with fail
        go_meet
        exact ⟨Ext.refl _, Q1.out, fun h => Q2.out h.1, HNS.out, fun h => Q2.out h.1⟩
    have s2 : (n.kind == 1) = true := by simpa using q2
    have Q2 := Lib.hid q2
    clear q2
    go_wp2_with fail
    refine (pwithin_any B g S r to_ n.no _ (h.ext HX6.out) HO.out.live.devs HO.out.live.eight HO.out.live.roots HO.out.live.nos HR.out).mono ?_
    rintro e w7 ⟨rfl, b7⟩
    have B7 := Lib.hid b7
    have X7 := HX6.out.trans b7
    obtain ⟨wi, hwi⟩ : ∃ wi, wi = withinF S to_ n.no := ⟨_, rfl⟩
    rw [← hwi]
    have HWI := Lib.hid hwi
    have e3' : w7.cell? ⟨b15 + 1, 2, none⟩ = some (.int .i64 n.kind) := (N6.ext b7).cell 2
    have e4' : w7.cell? ⟨b15 + 1, 0, none⟩ = some (.int .i64 n.no) := (N6.ext b7).cell 0
    have e5' : w7.cell? ⟨b19, 0, none⟩ = some (.int .i64 o.no) := (O6.ext b7).cell 0
    have z3' := (N6.ext b7).lt
    have z4' := (O6.ext b7).lt
    clear hwi b7 e1 e2 e3 e4 e5 z1 z2 z3 z4
    cases wi
    case true =>
      have hE : Hid (moveE S cu cg fr to_ a b = 17) := by show _ = _; rw [HKS.out]; unfold moveX; rw [if_neg (not_not_intro HX0.out), if_neg (not_not_intro HY0.out), if_neg (not_not_intro Q1.out), if_pos ⟨Q2.out, HWI.out.symm⟩]
      go_wp2_with fail
      go_ret
      exact HS.out _ _ X7 hE.out (.inl (by decide))
    have HNW : Hid (¬ (n.kind = 1 ∧ withinF S to_ n.no = true)) := Lib.hid (fun h => by rw [← HWI.out] at h; exact absurd h.2 (by decide))
    cases is
    · have HNS : Hid (¬ (false = true ∧ o.no = n.no)) := Lib.hid (fun h => absurd h.1 (by decide))
      by_cases q4 : fr = to_
      · have s4 : (fr == to_) = true := by simpa using q4
        have s4b : (fr != to_) = false := by simpa using q4
        have Q4 := Lib.hid q4
        clear q4
        go_wp2_with fail
        go_meet
        exact ⟨B7.out, Q1.out, HNW.out, HNS.out, fun h => h.2.1 Q4.out⟩
      have s4 : (fr == to_) = false := by simpa using q4
      have s4b : (fr != to_) = true := by simpa using q4
      have Q4 := Lib.hid q4
      have x0 : w7.cell? ⟨w.heap.size, 0, none⟩ = some (.int .i64 cu) := (C6'.ext B7.out).cell 0
      have x1 : w7.cell? ⟨w.heap.size, 1, none⟩ = some (.int .i64 cg) := (C6'.ext B7.out).cell 1
      have xz := (C6'.ext B7.out).lt
      obtain ⟨n0, n1, n2, n3, n4, n5, n6, n7, n8, n9, n10, n11⟩ := (N6.ext B7.out).node12
      obtain ⟨u, hu⟩ : ∃ u, u = mayB cu cg n.uid n.gid n.mode 2 := ⟨_, rfl⟩
      have HU := Lib.hid hu
      have HE6 : Hid (u = false → moveE S cu cg fr to_ a b = 6) := Lib.hid (fun hu' => by rw [HKS.out]; unfold moveX; rw [if_neg (not_not_intro HX0.out), if_neg (not_not_intro HY0.out), if_neg (not_not_intro Q1.out), if_neg HNW.out, if_neg HNS.out, if_pos ⟨Q2.out, Q4.out, by rw [← HU.out]; exact hu'⟩])
      clear q4 hu e3' e4'
      go_wp2_with fail
      refine (pnode_any cu cg _ _ _ n.mode n.uid n.gid _ _ _ _ _ _ 2 _).mono ?_
      rw [← HU.out]
      rintro e w8 ⟨rfl, b8⟩
      clear x0 x1 xz n0 n1 n2 n3 n4 n5 n6 n7 n8 n9 n10 n11
      cases u
      · have hE : Hid (moveE S cu cg fr to_ a b = 6) := Lib.hid (HE6.out rfl)
        go_wp2_with fail
        go_ret
        exact HS.out _ _ (X7.trans b8) hE.out (.inl (by decide))
      · go_wp2_with fail
        go_meet
        exact ⟨B7.out.trans b8, Q1.out, HNW.out, HNS.out, fun h => by rw [← HU.out] at h; exact absurd h.2.2 (by decide)⟩
    · by_cases q3 : o.no = n.no
      · have s3 : (o.no == n.no) = true := by simpa using q3
        have hE : Hid (moveE S cu cg fr to_ a b = 0) := by show _ = _; rw [HKS.out]; unfold moveX; rw [if_neg (not_not_intro HX0.out), if_neg (not_not_intro HY0.out), if_neg (not_not_intro Q1.out), if_neg HNW.out, if_pos ⟨rfl, q3⟩]
        have hsm : Hid (sameB S cu cg fr to_ a b) := Lib.hid (HSM.out.2 ⟨rfl, q3⟩)
        clear q3
        go_wp2_with fail
        go_ret
        exact HS.out _ _ X7 hE.out (.inr hsm.out)
      have s3 : (o.no == n.no) = false := by simpa using q3
      have HNS : Hid (¬ (true = true ∧ o.no = n.no)) := Lib.hid (fun h => q3 h.2)
      clear q3
      by_cases q4 : fr = to_
      · have s4 : (fr == to_) = true := by simpa using q4
        have s4b : (fr != to_) = false := by simpa using q4
        have Q4 := Lib.hid q4
        clear q4
        go_wp2_with fail
        go_meet
        exact ⟨B7.out, Q1.out, HNW.out, HNS.out, fun h => h.2.1 Q4.out⟩
      have s4 : (fr == to_) = false := by simpa using q4
      have s4b : (fr != to_) = true := by simpa using q4
      have Q4 := Lib.hid q4
      have x0 : w7.cell? ⟨w.heap.size, 0, none⟩ = some (.int .i64 cu) := (C6'.ext B7.out).cell 0
      have x1 : w7.cell? ⟨w.heap.size, 1, none⟩ = some (.int .i64 cg) := (C6'.ext B7.out).cell 1
      have xz := (C6'.ext B7.out).lt
      obtain ⟨n0, n1, n2, n3, n4, n5, n6, n7, n8, n9, n10, n11⟩ := (N6.ext B7.out).node12
      obtain ⟨u, hu⟩ : ∃ u, u = mayB cu cg n.uid n.gid n.mode 2 := ⟨_, rfl⟩
      have HU := Lib.hid hu
      have HE6 : Hid (u = false → moveE S cu cg fr to_ a b = 6) := Lib.hid (fun hu' => by rw [HKS.out]; unfold moveX; rw [if_neg (not_not_intro HX0.out), if_neg (not_not_intro HY0.out), if_neg (not_not_intro Q1.out), if_neg HNW.out, if_neg HNS.out, if_pos ⟨Q2.out, Q4.out, by rw [← HU.out]; exact hu'⟩])
      clear q4 hu e3' e4'
      go_wp2_with fail
      refine (pnode_any cu cg _ _ _ n.mode n.uid n.gid _ _ _ _ _ _ 2 _).mono ?_
      rw [← HU.out]
      rintro e w8 ⟨rfl, b8⟩
      clear x0 x1 xz n0 n1 n2 n3 n4 n5 n6 n7 n8 n9 n10 n11
      cases u
      · have hE : Hid (moveE S cu cg fr to_ a b = 6) := Lib.hid (HE6.out rfl)
        go_wp2_with fail
        go_ret
        exact HS.out _ _ (X7.trans b8) hE.out (.inl (by decide))
      · go_wp2_with fail
        go_meet
        exact ⟨B7.out.trans b8, Q1.out, HNW.out, HNS.out, fun h => by rw [← HU.out] at h; exact absurd h.2.2 (by decide)⟩
  case rest =>
  obtain ⟨B7, q1, q2, q3, q4⟩ := hcut
  obtain ⟨w7, hw7⟩ : ∃ w7, w7 = wc := ⟨_, rfl⟩
  rw [← hw7] at B7 ⊢
  have X7 := HX6.out.trans B7
  have K7 := h.ext X7
  have okd7 := okd6.ext B7
  have okn7 := okn6.ext B7
  have okt7 := okt6.ext B7
  have oko7 := oko6.ext B7
  have D7 := D6.ext B7
  have N7 := N6.ext B7
  have T7 := T6.ext B7
  have O7 := O6.ext B7
  have C7 := C6'.ext B7
  have HEX : Hid (moveE S cu cg fr to_ a b = if is = true then putE S cu t n o else 0) := by
    refine Lib.hid ?_
    rw [HKS.out]; unfold moveX
    rw [if_neg (not_not_intro HX0.out), if_neg (not_not_intro HY0.out), if_neg (not_not_intro q1), if_neg q2, if_neg q3, if_neg q4]
  have HMT : Hid (moveE S cu cg fr to_ a b = 0 → moveT S cu cg now fr to_ a b = laidT (overT S now old_) now fr to_ a b d n) := by
    refine Lib.hid fun h0 => ?_
    unfold moveT
    rw [if_pos ⟨h0, fun hs => q3 (HSM.out.1 hs)⟩, ← HDD.out, ← HNN.out, ← HOLD.out]
  have HX7 := Lib.hid X7
  have HD6 := Lib.hid D7
  clear hw7 q1 q2 q3 q4 e1 e2 e3 e4 e5 z1 z2 z3 z4 okd6 okn6 okt6 oko6 D6 N6 T6 O6 C6' B7
  go_upto_if 100 with fail
  go_cut [21] (fun _ wc => ∃ T, WAt wc B g T ∧ Only g.list w7 wc ∧ T = overT S now old_ ∧ moveE S cu cg fr to_ a b = 0)
  case first =>
    cases is
    · go_wp2_with fail
      go_meet
      exact ⟨S, K7, Only.refl _ _, by unfold overT; rw [← HIS.out, if_neg (by decide)], by rw [HEX.out]; rfl⟩
    have x0 : w7.cell? ⟨w.heap.size, 0, none⟩ = some (.int .i64 cu) := C7.cell 0
    have x1 : w7.cell? ⟨w.heap.size, 1, none⟩ = some (.int .i64 cg) := C7.cell 1
    have xz := C7.lt
    have hol := HO.out.entsN old_
    rw [← HOO.out] at hol
    have hto : overT S now old_ = lessT S now o := by unfold overT; rw [← HIS.out, if_pos rfl, HOO.out]
    have HTO := Lib.hid hto
    have hhe := HO.out.held (no := old_) (by rw [← HIS.out])
    rw [← HOO.out] at hhe
    have HHE := Lib.hid hhe
    have HOL := Lib.hid hol
    obtain ⟨p, hp⟩ : ∃ p, p = putE S cu t n o := ⟨_, rfl⟩
    have HPP := Lib.hid hp
    have hE : Hid (moveE S cu cg fr to_ a b = p) := by show _ = _; rw [HEX.out, if_pos rfl, hp]
    clear hol hto hhe hp
    go_wp2_with (first | (refine wpList_load_node rfl _ rfl b18 t A4 c4 rfl T7 ?_) | (refine wpList_load_node rfl _ rfl (b15 + 1) n A2 c2 rfl N7 ?_) | (refine wpList_load_node rfl _ rfl b19 o A6 c6 rfl O7 ?_))
    refine (pover19_any B g S cu cg t n o A4 A2 A6 c4 c2 c6 _ K7 HO.out.live.devs HO.out.live.eight (by have := HOL.out.2; omega)).mono ?_
    rw [← HPP.out]
    rintro e w8 ⟨rfl, b8⟩
    have O8 := O7.ext b8
    have oko8 := oko7.ext b8
    have K8 := K7.ext b8
    clear x0 x1 xz
    by_cases hp0 : p = 0
    case neg =>
      have s1 : (p == 0) = false := by simpa using hp0
      have s1b : (p != 0) = true := by simpa using hp0
      have HP0 := Lib.hid hp0
      clear hp0
      go_wp2_with fail
      go_ret
      exact HS.out _ _ (HX7.out.trans b8) hE.out (.inl HP0.out)
    have s1 : (p == 0) = true := by simpa using hp0
    have s1b : (p != 0) = false := by simpa using hp0
    have HP0 := Lib.hid hp0
    clear hp0
    go_wp2_with (refine wpList_load_node rfl _ rfl b19 o A6 c6 rfl O8 ?_)
    refine (pless_any B g S now o A6 c6 _ K8 HO.out.live oko8 HHE.out).mono ?_
    rintro e w9 ⟨rfl, K9, O9⟩
    go_wp2_with fail
    go_meet
    exact ⟨_, K9, Only.pre b8 O9, HTO.out.symm, hE.out.trans HP0.out⟩
  case rest =>
  obtain ⟨T, K8', O8', hT, hE0⟩ := hcut
  obtain ⟨w8, hw8⟩ : ∃ w8, w8 = wc := ⟨_, rfl⟩
  rw [← hw8] at K8' O8' ⊢
  have hng : ∀ b, w.heap.size ≤ b → b ∉ g.list := by
    intro b hb hm
    have hlw := h.lt
    simp only [GhW.list, List.mem_cons, List.not_mem_nil, or_false] at hm
    omega
  have HNG := Lib.hid hng
  have okd8 := okd7.only O8' K7.apart
  have okn8 := okn7.only O8' K7.apart
  have D8 := O8'.has D7 (hng _ (by omega))
  have N8 := O8'.has N7 (hng _ (by omega))
  have T8 := O8'.has T7 (hng _ (by omega))
  have Ow8 := Only.pre HX7.out O8'
  have hTL : Live T := by
    rw [hT]
    unfold overT
    split
    · rename_i hi
      have hh := HO.out.held hi
      have hl := hh.live HO.out.live now
      unfold lessT
      split
      · exact hl.kill _
      · exact hl
    · exact HO.out.live
  have HT := Lib.hid hT
  have HE0 := Lib.hid hE0
  have HTL := Lib.hid hTL
  obtain ⟨zz1, zz2, zz3, zz4, zz5⟩ := HLZ.out
  rw [← HDD.out] at zz4
  have hpos : findF (getN S.nodes fr).ents a ≠ 0 := fun e => by
    rw [e] at zz2
    have := HO.out.live.nos.zero (no := 0) (.inl (by omega))
    rw [this] at zz2; cases zz2
  have hhas : has d.ents a = true := by rw [zz4]; exact has_of_find hpos
  have hden := HO.out.entsN fr
  rw [← zz4] at hden
  have HDEN := Lib.hid hden
  have HHAS := Lib.hid hhas
  have y11 : w8.cell? ⟨b15, 11, none⟩ = some (.slice A1 d.ents.length c1) := D8.cell 11
  have yz := D8.lt
  clear hw8 hng hT hE0 hTL zz1 zz2 zz3 zz4 zz5 hpos hhas hden K7 okd7 okn7 okt7 oko7 D7 N7 T7 O7 C7 O8' X7
  go_wp2_with fail
  refine (drop_yes A1 d.ents c1 a _ okd8.ents.ents HDEN.out.1 okd8.cap okd8.max (by have := HDEN.out.2; omega) HHAS.out).mono ?_
  rintro e w9 ⟨v9, rfl, hown, b9⟩
  rw [cutP_dropF _ _ HDEN.out.1 HHAS.out] at hown
  obtain ⟨A9, c9, rfl, q1, q2, q3, q4⟩ := hown.entsT (B := B)
  have K9 := K8'.ext b9
  have N9 := N8.ext b9
  have T9 := T8.ext b9
  have okn9 := okn8.ext b9
  have Ow9 := Ow8.ext b9
  obtain ⟨L9, hL9⟩ : ∃ L, L = dropF d.ents a := ⟨_, rfl⟩
  rw [← hL9] at q1 q3 ⊢
  have HL9 := Lib.hid hL9
  obtain ⟨T1, hT1⟩ : ∃ T1, T1 = touchT T fr now L9 := ⟨_, rfl⟩
  have HT1 := Lib.hid hT1
  have KT : Hid (Calls Try.prog 98 #[.pointer (some ⟨g.bW, 0, none⟩), .int .i64 fr, .int .i64 now, .slice A9 L9.length c9] w9 (TouchR w9 B g T1)) := by
    show Calls _ _ _ _ _
    rw [hT1]
    exact ptouch_any B g T fr now A9 L9 c9 w9 K9 HTL.out.nos q3 q1 q2 q4
  have HU1 : Hid (NosUp T1.nodes T1.last) := by show NosUp _ _; rw [hT1]; exact HTL.out.nos.set _
  clear y11 yz hown q1 q2 q3 q4 hL9 hT1 okd8 okn8 D8 N8 T8 K8' Ow8
  go_wp2_with fail
  refine KT.out.mono ?_
  rintro e w10 ⟨rfl, K10, O10⟩
  have N10 := O10.has N9 (HNG.out _ (by have := b9.size; omega))
  have T10 := O10.has T9 (HNG.out _ (by omega))
  have okn10 := okn9.only O10 K9.apart
  have Ow10 := Ow9.then O10
  obtain ⟨_, _, cdx, hWx, _⟩ := id K10
  have v0 : w10.cell? ⟨g.bW, 0, none⟩ = some (.pointer (some ⟨g.bT, 0, none⟩)) := hWx.cell 0
  have vz := hWx.lt
  clear KT O10 N9 T9 okn9 Ow9 K9 hWx
  go_wp2_with fail
  refine (tget_any B g.bT g.bM T1.nodes T1.last to_ _ K10.2.1).mono ?_
  rintro e w11 ⟨A11, c11, rfl, ok11, b11⟩
  obtain ⟨t1', ht1⟩ : ∃ t1, t1 = getN T1.nodes to_ := ⟨_, rfl⟩
  obtain ⟨i1, hi1⟩ : ∃ i1, i1 = isN T1.nodes to_ := ⟨_, rfl⟩
  rw [← ht1] at ok11
  rw [← ht1, ← hi1]
  have hrise : Rise t1'.ents ∧ t1'.ents.length ≤ 100000 := by
    have hS : ∀ m ∈ S.nodes, Rise m.ents ∧ m.ents.length ≤ 100000 := fun m hm => by
      have := HO.out.entsN m.no
      rw [(mem_getN HO.out.live.nos hm).1] at this
      exact this
    have hTA : ∀ m ∈ T.nodes, Rise m.ents ∧ m.ents.length ≤ 100000 := by
      rw [HT.out]
      exact all_over hS now old_ fun m hm => hm
    have hT1A : ∀ m ∈ T1.nodes, Rise m.ents ∧ m.ents.length ≤ 100000 := fun m hm => by
      rw [HT1.out] at hm
      rcases mem_setN hm with hm | rfl
      · exact hTA m hm
      · show Rise L9 ∧ L9.length ≤ 100000
        rw [HL9.out]
        exact ⟨rise_dropF _ HDEN.out.1, Nat.le_trans (dropF_len _ _) HDEN.out.2⟩
    rw [ht1]
    cases hi : isN T1.nodes to_
    · rw [(isN_false hi).1]; exact ⟨List.Pairwise.nil, Nat.zero_le _⟩
    · exact hT1A _ (isN_true hi).2.2
  have HRS := Lib.hid hrise
  have HT1' := Lib.hid ht1
  have T11 := T10.ext b11
  have N11 := N10.ext b11
  have K11 := K10.ext b11
  have okn11 := okn10.ext b11
  have Ow11 := Ow10.ext b11
  clear hrise ht1 hi1 v0 vz T10 N10 K10 okn10 Ow10
  go_upto_region 24 with (refine wpList_store_node rfl _ _ rfl b18 t1' A11 c11 rfl rfl T11 ?_; intro w12 T12 O12)
  have hap : Apart w11 B [b18] := by
    intro b hb
    rw [List.mem_singleton] at hb
    subst hb
    exact ⟨by have := h.1; have := h.lt.1; omega, T11.noTag (by decide)⟩
  have hnb18 : ∀ b ∈ g.list, b ∉ [b18] := by
    intro b hb he
    rw [List.mem_singleton] at he
    subst he
    exact HNG.out _ (by omega) hb
  have K12 : WAt w12 B g T1 := K11.only O12 hap hnb18
  have okn12 := okn11.only O12 hap
  have ok12 := ok11.only O12 hap
  have N12 := O12.has N11 (by simp; omega)
  have Ow12 : Only g.list w w12 := Ow11.trans O12 (by intro b hb; rw [List.mem_singleton] at hb; right; omega)
  have y11 : w12.cell? ⟨b18, 11, none⟩ = some (.slice A11 t1'.ents.length c11) := T12.cell 11
  have y0 : w12.cell? ⟨b15 + 1, 0, none⟩ = some (.int .i64 n.no) := N12.cell 0
  have yz := T12.lt
  have yz' := N12.lt
  clear hap hnb18 K11 okn11 ok11 N11 Ow11 O12 T11
  go_wp2_with fail
  refine (put_any A11 t1'.ents c11 b n.no _ ok12.ents.ents ok12.nil HRS.out.1 ok12.cap ok12.max (by have := HRS.out.2; omega)).mono ?_
  rintro e w13 ⟨v13, rfl, hown, b13⟩
  rw [putP_putF _ _ _ HRS.out.1] at hown
  obtain ⟨A13, c13, rfl, q1, q2, q3, q4⟩ := hown.entsT (B := B)
  have K13 := K12.ext b13
  have N13 := N12.ext b13
  have okn13 := okn12.ext b13
  have Ow13 := Ow12.ext b13
  obtain ⟨L13, hL13⟩ : ∃ L, L = putF t1'.ents (b, n.no) := ⟨_, rfl⟩
  rw [← hL13] at q1 q3 ⊢
  have HL13 := Lib.hid hL13
  obtain ⟨T2, hT2⟩ : ∃ T2, T2 = touchT T1 to_ now L13 := ⟨_, rfl⟩
  have HT2 := Lib.hid hT2
  have KT2 : Hid (Calls Try.prog 98 #[.pointer (some ⟨g.bW, 0, none⟩), .int .i64 to_, .int .i64 now, .slice A13 L13.length c13] w13 (TouchR w13 B g T2)) := by
    show Calls _ _ _ _ _
    rw [hT2]
    exact ptouch_any B g T1 to_ now A13 L13 c13 w13 K13 HU1.out q3 q1 q2 q4
  have HU2 : Hid (NosUp T2.nodes T2.last) := by show NosUp _ _; rw [hT2]; exact HU1.out.set _
  clear y11 y0 yz yz' hown q1 q2 q3 q4 hL13 hT2 K12 N12 okn12 ok12 Ow12 T12
  go_wp2_with fail
  refine KT2.out.mono ?_
  rintro e w14 ⟨rfl, K14, O14⟩
  have N14 := O14.has N13 (HNG.out _ (by omega))
  have okn14 := okn13.only O14 K13.apart
  have Ow14 := Ow13.then O14
  have y7 : w14.cell? ⟨b15 + 1, 7, none⟩ = some (.int .i64 n.ctime) := N14.cell 7
  have yf : ∀ i, w14.frozen? ⟨b15 + 1, i, none⟩ = false := fun i => (N14.free i).trans (by simp)
  have yz := N14.lt
  have HN14 := Lib.hid N14
  clear KT2 O14 N13 okn13 Ow13 K13
  go_upto_region 26 with fail
  obtain ⟨w15, hw15⟩ : ∃ w15, w15 = w14.setCell ⟨b15 + 1, 7, none⟩ (.int .i64 now) := ⟨_, rfl⟩
  rw [← hw15]
  have N15 : Has w15 (b15 + 1) (.cells #[.int .i64 (({ n with ctime := now } : NodeD)).no, .int .i64 (({ n with ctime := now } : NodeD)).dev, .int .i64 (({ n with ctime := now } : NodeD)).kind, .int .i64 (({ n with ctime := now } : NodeD)).mode, .int .i64 (({ n with ctime := now } : NodeD)).uid, .int .i64 (({ n with ctime := now } : NodeD)).gid, .int .i64 (({ n with ctime := now } : NodeD)).mtime, .int .i64 (({ n with ctime := now } : NodeD)).ctime, .int .i64 (({ n with ctime := now } : NodeD)).links, .int .i64 (({ n with ctime := now } : NodeD)).up, .string (bs (({ n with ctime := now } : NodeD)).data), .slice A2 (({ n with ctime := now } : NodeD)).ents.length c2] 42) := by rw [hw15]; exact N14.setCell 7 _
  have O15 : Only [b15 + 1] w14 w15 := by rw [hw15]; exact Only.setCell _ _ _ _
  have y2 : w15.cell? ⟨b15 + 1, 2, none⟩ = some (.int .i64 n.kind) := N15.cell 2
  have y9 : w15.cell? ⟨b15 + 1, 9, none⟩ = some (.int .i64 n.up) := N15.cell 9
  have yf' : ∀ i, w15.frozen? ⟨b15 + 1, i, none⟩ = false := fun i => (N15.free i).trans (by simp)
  have yz' := N15.lt
  clear hw15 y7 yf yz N14
  go_upto_if 149 with fail
  go_cut [150] (fun _ wc => Has wc (b15 + 1) (.cells #[.int .i64 (laidN now to_ n).no, .int .i64 (laidN now to_ n).dev, .int .i64 (laidN now to_ n).kind, .int .i64 (laidN now to_ n).mode, .int .i64 (laidN now to_ n).uid, .int .i64 (laidN now to_ n).gid, .int .i64 (laidN now to_ n).mtime, .int .i64 (laidN now to_ n).ctime, .int .i64 (laidN now to_ n).links, .int .i64 (laidN now to_ n).up, .string (bs (laidN now to_ n).data), .slice A2 (laidN now to_ n).ents.length c2] 42) ∧ Only [b15 + 1] w14 wc)
  case first =>
    by_cases hk : n.kind = 1
    · have s1 : (n.kind == 1) = true := by simpa using hk
      have hl : Hid (laidN now to_ n = { n with ctime := now, up := to_ }) := by show _ = _; unfold laidN; rw [if_pos hk]
      clear hk
      go_wp2_with fail
      go_meet
      exact ⟨by rw [hl.out]; exact N15.setCell 9 _, O15.then (Only.setCell _ _ _ _)⟩
    · have s1 : (n.kind == 1) = false := by simpa using hk
      have hl : Hid (laidN now to_ n = { n with ctime := now }) := by show _ = _; unfold laidN; rw [if_neg hk]
      clear hk
      go_wp2_with fail
      go_meet
      exact ⟨by rw [hl.out]; exact N15, O15⟩
  case rest =>
  obtain ⟨N16, O16⟩ := hcut
  obtain ⟨w16, hw16⟩ : ∃ w16, w16 = wc := ⟨_, rfl⟩
  rw [← hw16] at N16 O16 ⊢
  obtain ⟨n', hn'⟩ : ∃ n', n' = laidN now to_ n := ⟨_, rfl⟩
  rw [← hn'] at N16
  have hap : Apart w14 B [b15 + 1] := by
    intro b hb
    rw [List.mem_singleton] at hb
    subst hb
    exact ⟨by have := h.1; have := h.lt.1; omega, HN14.out.noTag (by decide)⟩
  have K16 : WAt w16 B g T2 := K14.only O16 hap (by
    intro b hb he
    rw [List.mem_singleton] at he
    subst he
    exact HNG.out _ (by omega) hb)
  have okn16 : NodeOk w16 B n' A2 c2 := (okn14.only O16 hap).same (by rw [hn']; unfold laidN; rfl)
  have Ow16 : Only g.list w w16 := Ow14.trans O16 (by intro b hb; rw [List.mem_singleton] at hb; right; omega)
  have HN' := Lib.hid hn'
  obtain ⟨_, _, cdy, hWy, _⟩ := id K16
  have v0 : w16.cell? ⟨g.bW, 0, none⟩ = some (.pointer (some ⟨g.bT, 0, none⟩)) := hWy.cell 0
  have vz := hWy.lt
  obtain ⟨e0, e1, e2, e3, e4, e5, e6, e7, e8, e9, e10, e11⟩ := N16.node12
  have ez := N16.lt
  clear hw16 hn' hap hWy N15 O15 y2 y9 yf' yz' K14 okn14 Ow14 O16
  go_upto_region 28 with fail
  go_still_tail 5, (by kernel_rfl)
  change wpList _ _ _ _ _ w16.drew
  go_wp2_with fail
  have ED : Ext w16 w16.drew := (Ext.refl _).drew
  refine (wset_any B g T2 n' A2 c2 _ (K16.ext ED) HU2.out (okn16.ext ED)).mono ?_
  rintro e w17 ⟨rfl, K17, O17⟩
  clear e0 e1 e2 e3 e4 e5 e6 e7 e8 e9 e10 e11 ez v0 vz
  go_wp2_with fail
  go_ret
  rw [HE0.out]
  refine ⟨rfl, ?_, Ow16.then (Only.pre ED O17)⟩
  rw [HMT.out HE0.out]
  unfold laidT
  rw [← HT.out, ← HL9.out, ← HT1.out, ← HT1'.out, ← HL13.out, ← HT2.out, ← HN'.out]
  exact K17
end Go.Proofs.Ytjblimclakfhfaa

namespace Go.Proofs.Ytjblimclakfhfaa
open Go.ChangeShapes Go.WideShapes Go.ChangeAt Go.RowKit

/-- A call that makes a node: its number, the error. -/
def NoR (w : World) (B : Nat) (g : GhW) (T : TreeD) (a x : Int) (e : Ending) (w' : World) : Prop := e = .returned (.tuple #[.int .i64 a, .int .i64 x]) ∧ WAt w' B g T ∧ Only g.list w w'
theorem NoR.to {w w' : World} {B : Nat} {g : GhW} {T : TreeD} {a x : Int} {e : Ending} (h : NoR w B g T a x e w') : e = .returned (.tuple #[.int .i64 a, .int .i64 x]) ∧ ∃ g2, WAt w' B g2 T ∧ Only g.list w w' ∧ GhW.on g2 g w := ⟨h.1, g, h.2.1, h.2.2, GhW.on_refl g w⟩
theorem noR_same {w w' : World} {B : Nat} {g : GhW} {S T : TreeD} {p a x : Int} (h : WAt w B g S) (hE : Ext w w') (hp : p ≠ 0) : NoR w B g (preT p S T) (preN p a) (preE p x) (.returned (.tuple #[.int .i64 0, .int .i64 p])) w' :=
  ⟨by unfold preN preE; rw [if_pos hp, if_pos hp], by unfold preT; rw [if_pos hp]; exact h.ext hE, Only.of_ext hE⟩
theorem indexOf_mem (l : List UInt8) (c : UInt8) : decide (0 ≤ Lib.indexByte l c) = hasB l c := by
  rw [← Lib.contains_iff_indexByte, Bool.eq_iff_iff]
  simp [hasB]
set_option maxRecDepth 100000 in
set_option maxHeartbeats 4000000 in
theorem pdir_any (B : Nat) (g : GhW) (S : TreeD) (cu cg now dir : Int) (nm : List UInt8) (mode : Int) (w : World) (h : WAt w B g S) (O : Ok S) (hl1 : S.last ≤ 100000) :
    Calls Try.prog 63 #[.pointer (some ⟨g.bW, 0, none⟩), .agg #[.int .i64 cu, .int .i64 cg], .int .i64 now, .int .i64 dir, .string (bs nm), .int .i64 mode] w
      (NoR w B g (preT (dirP mode) S (comeT S cu cg now dir nm (dirZ mode dir))) (preN (dirP mode) (comeN S cu cg now dir nm (dirZ mode dir))) (preE (dirP mode) (comeE S cu cg now dir nm (dirZ mode dir)))) := by
  obtain ⟨W0, hW0⟩ : ∃ W0, W0 = w.alloc (.cells #[.int .i64 cu, .int .i64 cg] 24) := ⟨_, rfl⟩
  have E0 : Ext w W0 := by rw [hW0]; exact (Ext.refl _).alloc _
  have C0 : Has W0 w.heap.size (.cells #[.int .i64 cu, .int .i64 cg] 24) := by rw [hW0]; exact Has.new w _
  have x0 : W0.cell? ⟨w.heap.size, 0, none⟩ = some (.int .i64 cu) := C0.cell 0
  have x1 : W0.cell? ⟨w.heap.size, 1, none⟩ = some (.int .i64 cg) := C0.cell 1
  have xz := C0.lt
  have HO := Lib.hid O
  obtain ⟨p, hp⟩ : ∃ p, p = dirP mode := ⟨_, rfl⟩
  have HS : Hid (∀ (w' : World) (x : Int), Ext w w' → p = x → x ≠ 0 → NoR w B g (preT p S (comeT S cu cg now dir nm (dirZ mode dir))) (preN p (comeN S cu cg now dir nm (dirZ mode dir))) (preE p (comeE S cu cg now dir nm (dirZ mode dir))) (.returned (.tuple #[.int .i64 0, .int .i64 x])) w') := by
    show ∀ (w' : World) (x : Int), _
    intro w' x hE hx h0
    subst hx
    exact noR_same h hE h0
  have HD : Hid (∀ (e : Ending) (w' : World), PutR W0 B g S cu cg now dir nm (dirZ mode dir) e w' → p = 0 → e = .returned (.tuple #[.int .i64 (comeN S cu cg now dir nm (dirZ mode dir)), .int .i64 (comeE S cu cg now dir nm (dirZ mode dir))]) ∧ NoR w B g (preT p S (comeT S cu cg now dir nm (dirZ mode dir))) (preN p (comeN S cu cg now dir nm (dirZ mode dir))) (preE p (comeE S cu cg now dir nm (dirZ mode dir))) e w') := by
    show ∀ (e : Ending) (w' : World), _
    rintro e w' ⟨he, hK, hO⟩ h0
    have n0 : ¬ (p ≠ 0) := fun x => x h0
    exact ⟨he, by unfold preN preE; rw [if_neg n0, if_neg n0]; exact he, by unfold preT; rw [if_neg n0]; exact hK, Only.pre E0 hO⟩
  have KP : Hid (Calls Try.prog 96 #[.pointer (some ⟨g.bW, 0, none⟩), .agg #[.int .i64 cu, .int .i64 cg], .int .i64 now, .int .i64 dir, .string (bs nm), .agg #[.int .i64 ((dirZ mode dir)).no, .int .i64 ((dirZ mode dir)).dev, .int .i64 ((dirZ mode dir)).kind, .int .i64 ((dirZ mode dir)).mode, .int .i64 ((dirZ mode dir)).uid, .int .i64 ((dirZ mode dir)).gid, .int .i64 ((dirZ mode dir)).mtime, .int .i64 ((dirZ mode dir)).ctime, .int .i64 ((dirZ mode dir)).links, .int .i64 ((dirZ mode dir)).up, .string (bs ((dirZ mode dir)).data), .slice none ((dirZ mode dir)).ents.length 0]] W0 (PutR W0 B g S cu cg now dir nm (dirZ mode dir))) := by
    refine pput_any B g S cu cg now dir nm (dirZ mode dir) none 0 W0 (h.ext E0) O hl1 ⟨.nil _ _ _, Nat.le_refl _, Nat.zero_le _, fun _ => rfl⟩ ?_
    simp [dirZ, nodeZ]
  rw [← hp]
  have HP := Lib.hid hp
  have HE0 := Lib.hid E0
  clear O hp E0 C0
  go_enter Try.func63, Try.ntmps63
  go_upto_region 1 with fail
  rw [← hW0]
  clear hW0
  by_cases c1 : mode < 0
  · have t1 : decide (mode < 0) = true := decide_eq_true c1
    have hE : Hid (p = 1) := by show _ = _; rw [HP.out]; unfold dirP; rw [if_pos (.inl c1)]
    clear c1
    go_wp2_with fail
    go_ret2
    exact HS.out _ _ HE0.out hE.out (by decide)
  · have t1 : decide (mode < 0) = false := decide_eq_false c1
    by_cases c2 : 1023 < mode
    · have t2 : decide (1023 < mode) = true := decide_eq_true c2
      have hE : Hid (p = 1) := by show _ = _; rw [HP.out]; unfold dirP; rw [if_pos (.inr c2)]
      clear c1 c2
      go_wp2_with fail
      go_ret2
      exact HS.out _ _ HE0.out hE.out (by decide)
    · have t2 : decide (1023 < mode) = false := decide_eq_false c2
      have hE : Hid (p = 0) := by show _ = _; rw [HP.out]; unfold dirP; rw [if_neg (by omega)]
      clear c1 c2
      go_wp2_with fail
      refine KP.out.mono ?_
      rintro e w2 hr
      obtain ⟨rfl, hD⟩ := HD.out _ _ hr hE.out
      clear hr
      go_wp2_with fail
      go_ret2
      exact hD
set_option maxRecDepth 100000 in
set_option maxHeartbeats 4000000 in
theorem pfile_any (B : Nat) (g : GhW) (S : TreeD) (cu cg now dir : Int) (nm : List UInt8) (mode : Int) (data : List UInt8) (w : World) (h : WAt w B g S) (O : Ok S) (hl1 : S.last ≤ 100000) (hd : data.length ≤ 1000000000) :
    Calls Try.prog 64 #[.pointer (some ⟨g.bW, 0, none⟩), .agg #[.int .i64 cu, .int .i64 cg], .int .i64 now, .int .i64 dir, .string (bs nm), .int .i64 mode, .string (bs data)] w
      (NoR w B g (preT (fileP mode data.length) S (comeT S cu cg now dir nm (fileZ mode data))) (preN (fileP mode data.length) (comeN S cu cg now dir nm (fileZ mode data))) (preE (fileP mode data.length) (comeE S cu cg now dir nm (fileZ mode data)))) := by
  obtain ⟨W0, hW0⟩ : ∃ W0, W0 = w.alloc (.cells #[.int .i64 cu, .int .i64 cg] 24) := ⟨_, rfl⟩
  have E0 : Ext w W0 := by rw [hW0]; exact (Ext.refl _).alloc _
  have C0 : Has W0 w.heap.size (.cells #[.int .i64 cu, .int .i64 cg] 24) := by rw [hW0]; exact Has.new w _
  have x0 : W0.cell? ⟨w.heap.size, 0, none⟩ = some (.int .i64 cu) := C0.cell 0
  have x1 : W0.cell? ⟨w.heap.size, 1, none⟩ = some (.int .i64 cg) := C0.cell 1
  have xz := C0.lt
  have HO := Lib.hid O
  obtain ⟨p, hp⟩ : ∃ p, p = fileP mode data.length := ⟨_, rfl⟩
  have HS : Hid (∀ (w' : World) (x : Int), Ext w w' → p = x → x ≠ 0 → NoR w B g (preT p S (comeT S cu cg now dir nm (fileZ mode data))) (preN p (comeN S cu cg now dir nm (fileZ mode data))) (preE p (comeE S cu cg now dir nm (fileZ mode data))) (.returned (.tuple #[.int .i64 0, .int .i64 x])) w') := by
    show ∀ (w' : World) (x : Int), _
    intro w' x hE hx h0
    subst hx
    exact noR_same h hE h0
  have HD : Hid (∀ (e : Ending) (w' : World), PutR W0 B g S cu cg now dir nm (fileZ mode data) e w' → p = 0 → e = .returned (.tuple #[.int .i64 (comeN S cu cg now dir nm (fileZ mode data)), .int .i64 (comeE S cu cg now dir nm (fileZ mode data))]) ∧ NoR w B g (preT p S (comeT S cu cg now dir nm (fileZ mode data))) (preN p (comeN S cu cg now dir nm (fileZ mode data))) (preE p (comeE S cu cg now dir nm (fileZ mode data))) e w') := by
    show ∀ (e : Ending) (w' : World), _
    rintro e w' ⟨he, hK, hO⟩ h0
    have n0 : ¬ (p ≠ 0) := fun x => x h0
    exact ⟨he, by unfold preN preE; rw [if_neg n0, if_neg n0]; exact he, by unfold preT; rw [if_neg n0]; exact hK, Only.pre E0 hO⟩
  have KP : Hid (Calls Try.prog 96 #[.pointer (some ⟨g.bW, 0, none⟩), .agg #[.int .i64 cu, .int .i64 cg], .int .i64 now, .int .i64 dir, .string (bs nm), .agg #[.int .i64 ((fileZ mode data)).no, .int .i64 ((fileZ mode data)).dev, .int .i64 ((fileZ mode data)).kind, .int .i64 ((fileZ mode data)).mode, .int .i64 ((fileZ mode data)).uid, .int .i64 ((fileZ mode data)).gid, .int .i64 ((fileZ mode data)).mtime, .int .i64 ((fileZ mode data)).ctime, .int .i64 ((fileZ mode data)).links, .int .i64 ((fileZ mode data)).up, .string (bs ((fileZ mode data)).data), .slice none ((fileZ mode data)).ents.length 0]] W0 (PutR W0 B g S cu cg now dir nm (fileZ mode data))) := by
    refine pput_any B g S cu cg now dir nm (fileZ mode data) none 0 W0 (h.ext E0) O hl1 ⟨.nil _ _ _, Nat.le_refl _, Nat.zero_le _, fun _ => rfl⟩ ?_
    exact hd
  rw [← hp]
  have HP := Lib.hid hp
  have HE0 := Lib.hid E0
  clear O hp E0 C0
  go_enter Try.func64, Try.ntmps64
  go_upto_region 1 with fail
  rw [← hW0]
  clear hW0
  have hsz : ((bs data).size : Int) = data.length := by rw [bs_size]
  by_cases c1 : mode < 0
  · have t1 : decide (mode < 0) = true := decide_eq_true c1
    have hE : Hid (p = 1) := by show _ = _; rw [HP.out]; unfold fileP; rw [if_pos (.inl c1)]
    clear c1
    go_wp2_with fail
    go_ret2
    exact HS.out _ _ HE0.out hE.out (by decide)
  · have t1 : decide (mode < 0) = false := decide_eq_false c1
    by_cases c2 : 1023 < mode
    · have t2 : decide (1023 < mode) = true := decide_eq_true c2
      have hE : Hid (p = 1) := by show _ = _; rw [HP.out]; unfold fileP; rw [if_pos (.inr c2)]
      clear c1 c2
      go_wp2_with fail
      go_ret2
      exact HS.out _ _ HE0.out hE.out (by decide)
    · have t2 : decide (1023 < mode) = false := decide_eq_false c2
      by_cases c3 : (1048576 : Int) < data.length
      · have t3 : decide ((1048576 : Int) < (data.length : Int)) = true := decide_eq_true c3
        have hE : Hid (p = 3) := by show _ = _; rw [HP.out]; unfold fileP; rw [if_neg (by omega), if_pos c3]
        clear c1 c2 c3
        go_wp2_with fail
        go_ret2
        exact HS.out _ _ HE0.out hE.out (by decide)
      · have t3 : decide ((1048576 : Int) < (data.length : Int)) = false := decide_eq_false c3
        have hE : Hid (p = 0) := by show _ = _; rw [HP.out]; unfold fileP; rw [if_neg (by omega), if_neg c3]
        clear c1 c2 c3
        go_wp2_with fail
        refine KP.out.mono ?_
        rintro e w2 hr
        obtain ⟨rfl, hD⟩ := HD.out _ _ hr hE.out
        clear hr
        go_wp2_with fail
        go_ret2
        exact hD
end Go.Proofs.Ytjblimclakfhfaa

namespace Go.Proofs.Ytjblimclakfhfaa
open Go.ChangeShapes Go.WideShapes Go.ChangeAt Go.RowKit

def b17a : TreeD := rootT emptyT 0 9 9
def b17b : TreeD := comeT b17a 0 0 7 1 [100] (dirZ 448 1)
def b17c : TreeD := comeT b17b 0 0 8 2 [120] (fileZ 384 [97, 98, 99])
def b17d : TreeD := hardT b17c 0 0 9 3 1 [121]
theorem b17_1 : preE (dirP 448) (comeE b17a 0 0 7 1 [100] (dirZ 448 1)) = 0 ∧ preN (dirP 448) (comeN b17a 0 0 7 1 [100] (dirZ 448 1)) = 2 := ⟨by kernel_rfl, by kernel_rfl⟩
theorem b17_1t : preT (dirP 448) b17a (comeT b17a 0 0 7 1 [100] (dirZ 448 1)) = b17b := by kernel_rfl
theorem b17_2 : preE (dirP 448) (comeE b17b 0 0 7 1 [100] (dirZ 448 1)) = 7 ∧ preN (dirP 448) (comeN b17b 0 0 7 1 [100] (dirZ 448 1)) = 0 := ⟨by kernel_rfl, by kernel_rfl⟩
theorem b17_2t : preT (dirP 448) b17b (comeT b17b 0 0 7 1 [100] (dirZ 448 1)) = b17b := by kernel_rfl
theorem b17_3 : preE (fileP 384 3) (comeE b17b 0 0 8 2 [120] (fileZ 384 [97, 98, 99])) = 0 ∧ preN (fileP 384 3) (comeN b17b 0 0 8 2 [120] (fileZ 384 [97, 98, 99])) = 3 := ⟨by kernel_rfl, by kernel_rfl⟩
theorem b17_3t : preT (fileP 384 3) b17b (comeT b17b 0 0 8 2 [120] (fileZ 384 [97, 98, 99])) = b17c := by kernel_rfl
theorem b17_4 : hardE b17c 0 0 3 1 [121] = 0 := by kernel_rfl
theorem b17_5 : getN b17d.nodes 3 = ⟨3, 1, 2, 384, 0, 0, 8, 9, 2, 0, [97, 98, 99], []⟩ ∧ isN b17d.nodes 3 = true := ⟨by kernel_rfl, by kernel_rfl⟩
theorem b17_tre : Tre 0 b17a ∧ Tre 1 b17b ∧ Tre 2 b17c := by
  have h0 : Tre 0 b17a := tre_first (by decide)
  have h1 : Tre 1 b17b := tre_comeT h0 rfl (by decide) (fun _ => rfl) ⟨by decide, by decide⟩
  exact ⟨h0, h1, tre_comeT h1 rfl (by decide) (fun h => by cases h) ⟨by decide, by decide⟩⟩
end Go.Proofs.Ytjblimclakfhfaa

namespace Go.Proofs.Ytjblimclakfhfaa
open Go.ChangeShapes Go.WideShapes Go.ChangeAt Go.RowKit

theorem Only.size_le {L : List Nat} {w w' : World} (h : Only L w w') : w.heap.size ≤ w'.heap.size := h.size
end Go.Proofs.Ytjblimclakfhfaa

namespace Go.Proofs.Ytjblimclakfhfaa
open Go.ChangeShapes Go.WideShapes Go.ChangeAt Go.RowKit

attribute [local irreducible] wpLexE
attribute [local go_sem] changeUpon
def do20T (S : TreeD) (now : Int) (x : ActD) : TreeD :=
  if x.kind = 0 then modeT S x.uid now (nearF S.last x.no) x.n else if x.kind = 1 then ownrT S x.uid now (nearF S.last x.no) x.n x.to_ else if x.kind = 2 then timeT S x.uid now (nearF S.last x.no) x.n else wriT S x.uid x.gid now (nearF S.last x.no) x.text
def DoR (w0 : World) (B : Nat) (g : GhW) (f : GhF) (T : TreeD) (X : Xtra) (e : Ending) (w' : World) : Prop := e = .returned (.bool true) ∧ Mix w0 B g f T T X w'
end Go.Proofs.Ytjblimclakfhfaa

namespace Go.Proofs.Ytjblimclakfhfaa
open Go.ChangeShapes Go.WideShapes Go.ChangeAt Go.RowKit

/-- A list of one item, as it lies in its own block. -/
theorem items_one {w : World} {b : Nat} {t : TypeId} (it : ItemD) (h : Has w b (.cells #[.int .i64 it.dir, .string (bs it.name), .int .i64 it.kind, .int .i64 it.mode, .int .i64 it.uid, .int .i64 it.gid, .string (bs it.data), .int .i64 it.n] t)) : ItemsAt w (some ⟨b, 0, none⟩) [it] := by
  refine .inr ⟨b, 0, rfl, h.lt, fun k hk => ?_⟩
  have : k = 0 := by simpa using hk
  subst this
  exact ⟨h.cell 0, h.cell 1, h.cell 2, h.cell 3, h.cell 4, h.cell 5, h.cell 6, h.cell 7⟩
def exI : ItemD := ⟨0, [102], 2, 384, 5, 0, [], 0⟩
def exF (mode uid gid mt ct : Int) (data : List UInt8) : NodeD := ⟨2, 1, 2, mode, uid, gid, mt, ct, 1, 0, data, []⟩
def exT (f : NodeD) (b : Int) : TreeD := ⟨[⟨1, 1, 1, 493, 0, 0, 0, 0, 1, 1, [], [([102], 2)]⟩, f], [⟨1, 0, ⟨b, 2, 9, 9⟩⟩], 2⟩
theorem ex0 : growAll (firstT 9 9) [exI] = exT (exF 384 5 0 0 0 []) 1 := by kernel_rfl
theorem ex1 : modeE (exT (exF 384 5 0 0 0 []) 1) 6 2 0 = 4 ∧ modeT (exT (exF 384 5 0 0 0 []) 1) 6 1 2 0 = exT (exF 384 5 0 0 0 []) 1 := ⟨by kernel_rfl, by kernel_rfl⟩
theorem ex2 : modeE (exT (exF 384 5 0 0 0 []) 1) 5 2 256 = 0 ∧ modeT (exT (exF 384 5 0 0 0 []) 1) 5 1 2 256 = exT (exF 256 5 0 0 1 []) 1 := ⟨by kernel_rfl, by kernel_rfl⟩
theorem ex3 : wriE (exT (exF 256 5 0 0 1 []) 1) 5 0 2 1 = 6 ∧ wriT (exT (exF 256 5 0 0 1 []) 1) 5 0 2 2 [120] = exT (exF 256 5 0 0 1 []) 1 := ⟨by kernel_rfl, by kernel_rfl⟩
theorem ex4 : ownrE (exT (exF 256 5 0 0 1 []) 1) 0 2 7 8 = 0 ∧ ownrT (exT (exF 256 5 0 0 1 []) 1) 0 3 2 7 8 = exT (exF 256 7 8 0 3 []) 1 := ⟨by kernel_rfl, by kernel_rfl⟩
theorem ex5 : timeE (exT (exF 256 7 8 0 3 []) 1) 7 2 99 = 0 ∧ timeT (exT (exF 256 7 8 0 3 []) 1) 7 4 2 99 = exT (exF 256 7 8 99 4 []) 1 := ⟨by kernel_rfl, by kernel_rfl⟩
theorem ex6 : wriE (exT (exF 256 7 8 99 4 []) 1) 0 0 2 2 = 0 ∧ wriT (exT (exF 256 7 8 99 4 []) 1) 0 0 5 2 [120, 121] = exT (exF 256 7 8 5 5 [120, 121]) 2 := ⟨by kernel_rfl, by kernel_rfl⟩
theorem ex7 : getN (exT (exF 256 7 8 5 5 [120, 121]) 2).nodes 2 = exF 256 7 8 5 5 [120, 121] ∧ isN (exT (exF 256 7 8 5 5 [120, 121]) 2).nodes 2 = true := ⟨by kernel_rfl, by kernel_rfl⟩
theorem exT_nos {f : NodeD} (b : Int) (h : f.no = 2) : NosUp (exT f b).nodes (exT f b).last := by
  refine ⟨?_, ?_⟩
  · unfold exT; simp [h]
  · intro n hn
    simp only [exT, List.mem_cons, List.not_mem_nil, or_false] at hn ⊢
    rcases hn with rfl | rfl
    · exact ⟨by show (1 : Int) ≤ 1; decide, by show (1 : Int) ≤ 2; decide⟩
    · omega
theorem exT_roots {f : NodeD} {b : Int} (h0 : 0 ≤ b) (h1 : b ≤ 9) : RootsOk (exT f b).devs := by
  intro d hd
  simp only [exT, List.mem_singleton] at hd
  subst hd
  exact ⟨by show (0 : Int) < 1; decide, by unfold Fine; simp only; omega⟩
theorem exT_dev {f : NodeD} {b : Int} (h : f.dev = 1) (h2 : f.data.length ≤ 1048576) : OnDev (exT f b) := by
  intro n hn
  simp only [exT, List.mem_cons, List.not_mem_nil, or_false] at hn
  rcases hn with rfl | rfl
  · exact ⟨rfl, by simp⟩
  · exact ⟨by rw [h]; rfl, h2⟩
end Go.Proofs.Ytjblimclakfhfaa

namespace Go.Proofs.Ytjblimclakfhfaa
open Go.ChangeShapes Go.WideShapes Go.ChangeAt Go.RowKit

theorem tre_do20 {c : Nat} {S : TreeD} (h : Tre c S) (now : Int) (x : ActD) : Tre c (do20T S now x) := by
  unfold do20T
  split
  · exact tre_mode h ..
  · split
    · exact tre_ownr h ..
    · split
      · exact tre_time h ..
      · exact tre_wri h ..
theorem do20_last (S : TreeD) (now : Int) (x : ActD) : (do20T S now x).last = S.last := by
  unfold do20T
  split
  · exact modeT_last ..
  · split
    · exact ownrT_last ..
    · split
      · exact timeT_last ..
      · exact wriT_last ..
theorem FAt.setNow {w : World} {B : Nat} {f : GhF} {S : TreeD} {X : Xtra} (h : FAt w B f S X) (v : Int) : FAt (w.setCell ⟨f.bF, 3, none⟩ (.int .i64 v)) B f S { X with now := v } := by
  have h0 := h
  have ha := h.apart
  obtain ⟨n1, n2, _⟩ := h.ne
  obtain ⟨h1, cn, ce, h2, ⟨xs, h3, h5⟩, h4⟩ := h
  have o := Only.setCell w f.bF 3 (.int .i64 v)
  refine ⟨h1, cn, ce, h2.setCell 3 _, ⟨xs, ownsRow_only h3 o fun b hb => ?_, h5.only o (ha.sub (by simp))⟩, ownsRow_only h4 o fun b hb => ?_⟩
  · simp [Value.ownBlock] at hb; subst hb; simpa using Ne.symm n1
  · simp [Value.ownBlock] at hb; subst hb; simpa using Ne.symm n2
theorem Mix.setNow {w0 w : World} {B : Nat} {g : GhW} {f : GhF} {S T : TreeD} {X : Xtra} (h : Mix w0 B g f T S X w) (v : Int) : Mix w0 B g f T S { X with now := v } (w.setCell ⟨f.bF, 3, none⟩ (.int .i64 v)) := by
  obtain ⟨g1, f1, h1, h2, h3, h4, h5⟩ := h
  have := h4.setNow v
  rw [h2.1] at this
  refine Mix.refc h1 h2 h3 h4 h5 this ?_ (GhF.on_refl _ _)
  exact (Only.setCell w f.bF 3 (.int .i64 v)).mono (by intro x hx; rw [List.mem_singleton] at hx; subst hx; rw [← h2.1]; simp)
end Go.Proofs.Ytjblimclakfhfaa

namespace Go.Proofs.Ytjblimclakfhfaa
open Go.ChangeShapes Go.WideShapes Go.ChangeAt Go.RowKit

attribute [local irreducible] wpQuiet
theorem findF_put (l : List EntD) (nm : List UInt8) (no : Int) : findF (putF l (nm, no)) nm = no := by
  unfold findF putF lessF moreF
  have h1 : (l.filter fun x => bl x.1 nm).find? (fun x => x.1 == nm) = none := by
    rw [List.find?_eq_none]
    intro x hx
    rw [List.mem_filter] at hx
    have := bl_ne hx.2
    simpa using this
  simp only [List.find?_append, h1, Option.none_or, List.find?_cons, beq_self_eq_true, Option.some_or]
theorem put_length (l : List EntD) (nm : List UInt8) (no : Int) (h : ∀ x ∈ l, x.1 ≠ nm) : (putF l (nm, no)).length = l.length + 1 := by
  have hs : ∀ l : List EntD, (∀ x ∈ l, x.1 ≠ nm) → (l.filter fun x => bl x.1 nm).length + (l.filter fun x => bl nm x.1).length = l.length := by
    intro l
    induction l with
    | nil => intro _; rfl
    | cons x l ih =>
      intro h
      have := ih fun y hy => h y (List.mem_cons_of_mem _ hy)
      simp only [List.filter_cons, List.length_cons]
      have hx := h x (List.mem_cons_self ..)
      rcases bl_tri x.1 nm with g | g | g
      · have g2 := bl_asymm g
        rw [if_pos g, if_neg (by rw [g2]; decide)]
        simp only [List.length_cons]; omega
      · exact absurd g hx
      · have g2 := bl_asymm g
        rw [if_pos g, if_neg (by rw [g2]; decide)]
        simp only [List.length_cons]; omega
  have := hs l h
  unfold putF lessF moreF
  simp only [List.length_append, List.length_singleton]
  omega
/-- What a node that came has left. -/
structure Came (S T : TreeD) (uid gid now dir : Int) (nm : List UInt8) : Prop where
  len : T.nodes.length = S.nodes.length + 1
  node : (getN T.nodes (S.last + 1)).uid = uid ∧ (getN T.nodes (S.last + 1)).gid = gid ∧ (getN T.nodes (S.last + 1)).dev = (getN S.nodes dir).dev ∧ (getN T.nodes (S.last + 1)).links = 1 ∧ (getN T.nodes (S.last + 1)).mtime = now
  find : findF (getN T.nodes dir).ents nm = S.last + 1
  ents : (getN T.nodes dir).ents.length = (getN S.nodes dir).ents.length + 1
  mtime : (getN T.nodes dir).mtime = now
theorem set_self {S : TreeD} (hu : NosUp S.nodes S.last) {n : NodeD} (hi : isN S.nodes n.no = true) : getN (setT S n).nodes n.no = n := by
  have hm := set_has (n := n) (isN_true hi).2.2
  rw [if_pos (isN_true hi).2.1] at hm
  exact (mem_getN (S := setT S n) (hu.set n) hm).1
theorem came {c : Nat} {S : TreeD} (h : Tre c S) {cu cg now dir : Int} {nm : List UInt8} {n : NodeD} (h0 : comeE S cu cg now dir nm n = 0) : Came S (comeT S cu cg now dir nm n) cu cg now dir nm := by
  obtain ⟨hp, hf, hmk⟩ := comeE_zero h0
  obtain ⟨hi, hkd, hc⟩ := placeE_zero hp
  obtain ⟨e1, e2⟩ := getN_make h.nos (newN S cu cg now dir n) hi
  obtain ⟨_, hno, hmem⟩ := isN_true hi
  have hlt := (h.nos.2 _ hmem).2
  rw [hno] at hlt
  have hT : comeT S cu cg now dir nm n = setT (makeT S (newN S cu cg now dir n)) (touchN (makeT S (newN S cu cg now dir n)) dir now (putF (getN S.nodes dir).ents (nm, S.last + 1))) := by
    unfold comeT touchT; rw [if_pos h0]
  have hN : (touchN (makeT S (newN S cu cg now dir n)) dir now (putF (getN S.nodes dir).ents (nm, S.last + 1))).no = dir := by
    show (getN (makeT S (newN S cu cg now dir n)).nodes dir).no = dir
    rw [e1, hno]
  have hu := nos_make h.live (newN S cu cg now dir n)
  have hd : getN (comeT S cu cg now dir nm n).nodes dir = touchN (makeT S (newN S cu cg now dir n)) dir now (putF (getN S.nodes dir).ents (nm, S.last + 1)) := by
    rw [hT]
    have := set_self hu (n := touchN (makeT S (newN S cu cg now dir n)) dir now (putF (getN S.nodes dir).ents (nm, S.last + 1))) (by rw [hN]; exact e2)
    rw [hN] at this
    exact this
  have hnew : getN (comeT S cu cg now dir nm n).nodes (S.last + 1) = { newN S cu cg now dir n with no := S.last + 1 } := by
    rw [hT, (setN_get (by rw [hN]; omega)).1]
    have hm : ({ newN S cu cg now dir n with no := S.last + 1 } : NodeD) ∈ (makeT S (newN S cu cg now dir n)).nodes := by
      unfold makeT
      rw [if_pos hmk]
      exact List.mem_append_right _ (List.mem_singleton.2 rfl)
    exact (mem_getN hu hm).1
  have hx := putF_find (fun x hx => (h.pos _ hmem x hx).1) hf
  refine ⟨?_, by rw [hnew]; exact ⟨rfl, rfl, rfl, rfl, rfl⟩, by rw [hd]; exact findF_put _ _ _, by rw [hd]; exact put_length _ _ _ hx, by rw [hd]; rfl⟩
  rw [hT]
  show (setN _ _).length = _
  rw [setN_len]
  unfold makeT
  rw [if_pos hmk]
  simp
theorem preE_zero {p e : Int} (h : preE p e = 0) : p = 0 ∧ e = 0 := by
  unfold preE at h
  split at h
  · rename_i h1; exact absurd h h1
  · rename_i h1; exact ⟨Decidable.not_not.1 h1, h⟩
/-- A call that makes a node, at one instant. -/
def ThereR (w : World) (B : Nat) (g : GhW) (S : TreeD) (uid gid now dir : Int) (nm : List UInt8) (a x : Int) (w' : World) : Prop :=
  ∃ T, WAt w' B g T ∧ Only g.list w w' ∧ ((x ≠ 0 ∧ a = 0 ∧ T = S) ∨ (x = 0 ∧ a = S.last + 1 ∧ Came S T uid gid now dir nm ∧ NosUp T.nodes T.last))
theorem there {c : Nat} {S : TreeD} (h : Tre c S) {w w' : World} {B : Nat} {g : GhW} {cu cg now dir p : Int} {nm : List UInt8} {n : NodeD} {e : Ending}
    (hr : NoR w B g (preT p S (comeT S cu cg now dir nm n)) (preN p (comeN S cu cg now dir nm n)) (preE p (comeE S cu cg now dir nm n)) e w') : ∃ a x, e = .returned (.tuple #[.int .i64 a, .int .i64 x]) ∧ ThereR w B g S cu cg now dir nm a x w' := by
  obtain ⟨he, hK, hO⟩ := hr
  refine ⟨_, _, he, _, hK, hO, ?_⟩
  by_cases hz : preE p (comeE S cu cg now dir nm n) = 0
  · obtain ⟨h1, h2⟩ := preE_zero hz
    right
    subst h1
    have hT : preT 0 S (comeT S cu cg now dir nm n) = comeT S cu cg now dir nm n := rfl
    refine ⟨hz, by show comeN S cu cg now dir nm n = _; unfold comeN; rw [if_pos h2], by rw [hT]; exact came h h2, ?_⟩
    rw [hT]
    unfold comeT
    rw [if_pos h2]
    exact (nos_make h.live _).set _
  · left
    refine ⟨hz, ?_, ?_⟩
    · unfold preE preN at *
      split
      · rfl
      · rename_i h1
        rw [if_neg h1] at hz
        unfold comeN; rw [if_neg hz]
    · unfold preE preT at *
      split
      · rfl
      · rename_i h1
        rw [if_neg h1] at hz
        unfold comeT; rw [if_neg hz]
end Go.Proofs.Ytjblimclakfhfaa

namespace Go.Proofs.Ytjblimclakfhfaa

theorem getN_setT {S : TreeD} {n : NodeD} {no : Int} (hne : no ≠ n.no) : getN (setT S n).nodes no = getN S.nodes no := (setN_get hne).1
/-- A kill asks what is on which mount, of what size: the node's other parts do not matter. -/
theorem kill_set {S : TreeD} (hu : NosUp S.nodes S.last) {n : NodeD} (hkb : killB S n.no = true) (hi : isN S.nodes n.no = true) (hv : n.dev = (getN S.nodes n.no).dev) (hk : n.kind = (getN S.nodes n.no).kind) (hd : n.data = (getN S.nodes n.no).data) : killT (setT S n) n.no = killT S n.no := by
  have hg := set_self hu hi
  have hi2 : isN (setT S n).nodes n.no = true := by show isN (setN S.nodes n) n.no = true; rw [isN_set]; exact hi
  have hb : killB (setT S n) n.no = killB S n.no := by
    unfold killB
    rw [hi, hi2, hg, hv]; rfl
  unfold killT
  have hq : killQ (setT S n) (getN (setT S n).nodes n.no) = killQ S (getN S.nodes n.no) := by
    unfold killQ
    rw [hg, hv, hk, hd]; rfl
  have hn : dropN (setT S n).nodes n.no = dropN S.nodes n.no := by
    unfold dropN setT setN
    induction S.nodes with
    | nil => rfl
    | cons m ms ih =>
      simp only [List.map_cons, List.filter_cons] at ih ⊢
      rw [ih]
      by_cases e : m.no = n.no
      · simp [e]
      · simp [e]
  rw [hq, hn, hb, if_pos hkb, if_pos hkb]
  rfl
/-- A node has one name less; without any it goes. -/
theorem tre_less {c : Nat} {k : Int} {S : TreeD} (h : TreB c k S) {no now : Int} (hi : isN S.nodes no = true) (ho : overF S.devs no = no) (hr : rootF S.devs (getN S.nodes no).dev ≠ no) (hne : (getN S.nodes no).kind = 1 → (getN S.nodes no).ents = []) (hkk : k = 0 ∨ (k = no ∧ (getN S.nodes no).kind = 1)) : Tre c (lessT S now (getN S.nodes no)) := by
  obtain ⟨_, hno, hm⟩ := isN_true hi
  have hb := h.bits _ hm
  unfold lessT
  split
  · have hkb : killB S no = true := by unfold killB; rw [hi]; simpa using hr
    have e : killT (setT S (lessN now (getN S.nodes no))) (getN S.nodes no).no = killT S no := by
      have := kill_set h.nos (n := lessN now (getN S.nodes no)) (by show killB S (getN S.nodes no).no = true; rw [hno]; exact hkb) (by show isN S.nodes (getN S.nodes no).no = true; rw [hno]; exact hi) (by show _ = (getN S.nodes (getN S.nodes no).no).dev; rw [hno]; rfl) (by show _ = (getN S.nodes (getN S.nodes no).no).kind; rw [hno]; rfl) (by show _ = (getN S.nodes (getN S.nodes no).no).data; rw [hno]; rfl)
      have e2 : (lessN now (getN S.nodes no)).no = no := hno
      rw [e2] at this
      rw [hno]; exact this
    rw [e]
    refine tre_kill h hkb ho ?_ hne
    · rcases hkk with e | e
      · exact .inr (.inr e)
      · exact .inr (.inl e.1)
  · rename_i hl
    have hnk : (getN S.nodes no).kind ≠ 1 := fun hk => by
      have := h.dlinks _ hm hk
      rw [this] at hl
      omega
    have hk0 : k = 0 := by
      rcases hkk with e | e
      · exact e
      · exact absurd e.2 hnk
    subst hk0
    have e1 : ∀ {P : NodeD → Prop}, P (getN S.nodes no) → P (getN S.nodes (lessN now (getN S.nodes no)).no) := fun hp => by
      have : (lessN now (getN S.nodes no)).no = no := hno
      rw [this]; exact hp
    refine tre_set h (.inl rfl) (by show isN S.nodes (getN S.nodes no).no = true; rw [hno]; exact hi) (Nat.le_refl _) (e1 (P := fun m => (lessN now (getN S.nodes no)).kind = m.kind) rfl) (e1 (P := fun m => (lessN now (getN S.nodes no)).dev = m.dev) rfl) (e1 (P := fun m => (lessN now (getN S.nodes no)).up = m.up) rfl) (fun hk1 => absurd hk1 hnk) (h.rise (getN S.nodes no) hm) (h.names (getN S.nodes no) hm) (h.pos (getN S.nodes no) hm) (h.small (getN S.nodes no) hm) (h.on (getN S.nodes no) hm).2
      ⟨hb.1, hb.2.1, by show 1 ≤ (getN S.nodes no).links - 1; omega, by show (getN S.nodes no).links - 1 ≤ 1000; omega⟩ (fun x hx => h.kin (getN S.nodes no) hm x hx) (fun q hq hqk _ hqu hqn => ?_)
    rcases h.ups q hq hqk (by have := (h.nos.2 q hq).1; omega) with ⟨_, u2⟩ | ⟨_, _, m, hm2, u3, u4, _⟩
    · exact absurd (u2.symm.trans hqu) hqn
    · have : m = getN S.nodes no := node_eq h.nos hm2 hm (by rw [u3, hqu]; rfl)
      subst this
      exact absurd u4 hnk
theorem findF_mem {l : List EntD} {nm : List UInt8} (hr : Rise l) {x : EntD} (hx : x ∈ l) (he : x.1 = nm) : findF l nm = x.2 := by
  unfold findF
  cases hf : l.find? (fun x => x.1 == nm) with
  | none => have := List.find?_eq_none.1 hf x hx; simp at this; exact absurd he this
  | some y =>
    have h2 := List.find?_some (p := fun x : EntD => x.1 == nm) hf
    have h2' : y.1 = nm := by simpa using h2
    have hy := List.mem_of_find?_eq_some hf
    have : y = x := by
      obtain ⟨i, hi, rfl⟩ := List.getElem_of_mem hy
      obtain ⟨j, hj, rfl⟩ := List.getElem_of_mem hx
      rcases Nat.lt_trichotomy i j with g | g | g
      · have := bl_ne (List.pairwise_iff_getElem.1 hr i j hi hj g)
        rw [h2', he] at this; exact absurd rfl this
      · subst g; rfl
      · have := bl_ne (List.pairwise_iff_getElem.1 hr j i hj hi g)
        rw [h2', he] at this; exact absurd rfl this
    subst this; rfl
theorem findF_in {l : List EntD} {nm : List UInt8} (h : findF l nm ≠ 0) : ∃ x ∈ l, x.1 = nm ∧ x.2 = findF l nm := by
  unfold findF at h ⊢
  cases hf : l.find? (fun x => x.1 == nm) with
  | none => rw [hf] at h; exact absurd rfl h
  | some y =>
    have h2 := List.find?_some (p := fun x : EntD => x.1 == nm) hf
    exact ⟨y, List.mem_of_find?_eq_some hf, by simpa using h2, rfl⟩
theorem mem_dropF {l : List EntD} {nm : List UInt8} {x : EntD} (h : x ∈ dropF l nm) : x ∈ l ∧ x.1 ≠ nm := by
  unfold dropF at h
  rw [List.mem_filter] at h
  exact ⟨h.1, by simpa using h.2⟩
/-- A name goes out of its directory: of the node itself it is no longer said where it lies. -/
theorem tre_unname {c : Nat} {S : TreeD} (h : Tre c S) {dir now : Int} {nm : List UInt8} (hi : isN S.nodes dir = true) (hkd : (getN S.nodes dir).kind = 1) {k' : Int} (hk' : ∀ q ∈ S.nodes, q.kind = 1 → q.no ≠ k' → q.no ≠ findF (getN S.nodes dir).ents nm) : TreB c k' (touchT S dir now (dropF (getN S.nodes dir).ents nm)) := by
  obtain ⟨_, hno, hmem⟩ := isN_true hi
  refine tre_touch h (.inl rfl) hi hkd (Nat.le_refl _) (h.rise _ hmem |>.sublist List.filter_sublist) (fun x hx => h.names _ hmem x (mem_dropF hx).1) (fun x hx => h.pos _ hmem x (mem_dropF hx).1) ?_ (fun x hx => h.kin _ hmem x (mem_dropF hx).1) (fun q hq hqk hqk' hqu hqn => ?_)
  · have h1 : (dropF (getN S.nodes dir).ents nm).length ≤ (getN S.nodes dir).ents.length := List.length_filter_le ..
    have := h.small _ hmem
    omega
  · rcases h.ups0 q hq hqk with ⟨_, u2⟩ | ⟨_, _, m, hm, u3, _, _, x, hx, u6⟩
    · exact absurd (u2.symm.trans hqu) hqn
    · have : m = getN S.nodes dir := node_eq h.nos hm hmem (by rw [u3, hqu, hno])
      subst this
      refine ⟨x, ?_, u6⟩
      unfold dropF
      rw [List.mem_filter]
      refine ⟨hx, ?_⟩
      have : x.1 ≠ nm := fun e => by
        have := findF_mem (h.rise _ hmem) hx e
        exact hk' q hq hqk hqk' (by rw [this, u6])
      simpa using this
theorem kin_root {c : Nat} {k : Int} {S : TreeD} (h : TreB c k S) {no y dev : Int} (hK : Kin S no dev y) (d : Int) (hd : hasD S.devs d = true) : rootF S.devs d ≠ y := by
  rcases rootF_zero h.roots d with ⟨_, e2⟩ | ⟨j, hj, _, _, _, e4, _⟩
  · rw [e2] at hd; cases hd
  · rw [e4]
    exact fun e => hK.2.1 _ (List.getElem_mem hj) e.symm
theorem tre_gone {c : Nat} {S : TreeD} (h : Tre c S) {cu cg now dir : Int} {nm : List UInt8} (hl : leaveE S cu cg dir nm = 0) (hne : (leaveN S cu cg dir nm).kind = 1 → (leaveN S cu cg dir nm).ents = []) : Tre c (goneT S now (leaveD S cu cg dir nm) (leaveN S cu cg dir nm) nm) := by
  obtain ⟨z1, z2, z3, z4, z5⟩ := leaveE_zero hl
  obtain ⟨hi, hkd, _⟩ := placeE_zero z1
  obtain ⟨_, hno, hmem⟩ := isN_true hi
  rw [z5] at hne
  obtain ⟨no, hn⟩ : ∃ no, no = findF (getN S.nodes dir).ents nm := ⟨_, rfl⟩
  rw [← hn] at z2 z3 z5 hne
  have hpos := (h.nos.2 _ (isN_true z2).2.2).1
  rw [(isN_true z2).2.1] at hpos
  obtain ⟨x, hx, hx1, hx2⟩ := findF_in (l := (getN S.nodes dir).ents) (nm := nm) (by rw [← hn]; omega)
  have hK := h.kin _ hmem x hx
  rw [hx2, ← hn, hno] at hK
  have hnd : no ≠ dir := hK.1
  unfold goneT
  rw [z4, z5, hno]
  have hgn : getN (touchT S dir now (dropF (getN S.nodes dir).ents nm)).nodes no = getN S.nodes no := getN_setT (by show no ≠ (getN S.nodes dir).no; rw [hno]; exact hnd)
  have hin : isN (touchT S dir now (dropF (getN S.nodes dir).ents nm)).nodes no = true := by
    show isN (setN S.nodes _) no = true; rw [isN_set]; exact z2
  have hrt := kin_root h hK (getN S.nodes no).dev (h.on _ (isN_true z2).2.2).1
  rw [← hgn] at hrt hne ⊢
  by_cases hk : (getN S.nodes no).kind = 1
  · have hT := tre_unname h (now := now) (nm := nm) hi hkd (k' := no) (fun q _ _ hq => by rw [← hn]; exact hq)
    exact tre_less hT hin z3 hrt hne (.inr ⟨rfl, by rw [hgn]; exact hk⟩)
  · have hT := tre_unname h (now := now) (nm := nm) hi hkd (k' := 0) (fun q hq hqk _ e => by
      rw [← hn] at e
      have := (mem_getN h.nos hq).1
      rw [e] at this
      rw [this] at hk
      exact hk hqk)
    exact tre_less hT hin z3 hrt hne (.inl rfl)
theorem tre_unlink {c : Nat} {S : TreeD} (h : Tre c S) (cu cg now dir : Int) (nm : List UInt8) : Tre c (unlinkT S cu cg now dir nm) := by
  unfold unlinkT
  split
  · rename_i h0
    unfold unlinkE at h0
    split at h0
    · rename_i h1; exact absurd h0 h1
    · rename_i h1
      split at h0
      · cases h0
      · rename_i h2
        exact tre_gone h (Decidable.not_not.1 h1) (fun hk => absurd hk h2)
  · exact h
theorem tre_rmdir {c : Nat} {S : TreeD} (h : Tre c S) (cu cg now dir : Int) (nm : List UInt8) : Tre c (rmdirT S cu cg now dir nm) := by
  unfold rmdirT
  split
  · rename_i h0
    unfold rmdirE at h0
    split at h0
    · rename_i h1; exact absurd h0 h1
    · rename_i h1
      split at h0
      · cases h0
      · split at h0
        · cases h0
        · rename_i h3
          refine tre_gone h (Decidable.not_not.1 h1) (fun _ => ?_)
          exact List.eq_nil_of_length_eq_zero (by omega)
  · exact h
end Go.Proofs.Ytjblimclakfhfaa

namespace Go.Proofs.Ytjblimclakfhfaa

/-- What goes changes no other node. -/
theorem over_get {c : Nat} {S : TreeD} (_h : Tre c S) (now : Int) {no q : Int} (hq : q ≠ no) : getN (overT S now no).nodes q = getN S.nodes q ∧ isN (overT S now no).nodes q = isN S.nodes q := by
  unfold overT
  split
  · rename_i hi
    have hno := (isN_true hi).2.1
    have hs := setN_get (S := S) (n := lessN now (getN S.nodes no)) (no := q) (by show q ≠ (getN S.nodes no).no; rw [hno]; exact hq)
    unfold lessT
    split
    · unfold killT
      split
      · have hd : ∀ ns : List NodeD, getO (dropN ns no) q = getO ns q := by
          intro ns
          unfold getO dropN
          induction ns with
          | nil => rfl
          | cons m ms ih =>
            rw [List.find?_cons]
            by_cases e : m.no = no
            · rw [List.filter_cons_of_neg (by simpa using e), ih]
              have : (m.no == q) = false := by rw [e]; simpa using Ne.symm hq
              rw [this]
            · rw [List.filter_cons_of_pos (by simpa using e), List.find?_cons, ih]
        rw [hno]
        refine ⟨?_, ?_⟩
        · show (getO (dropN (setT S _).nodes no) q).getD nodeZ = _
          rw [hd]; exact hs.1
        · show (getO (dropN (setT S _).nodes no) q).isSome = _
          rw [hd]; exact hs.2
      · exact hs
    · exact hs
  · exact ⟨rfl, rfl⟩
theorem over_devs (S : TreeD) (now no : Int) : (overT S now no).last = S.last ∧ ∀ i, rootF (overT S now no).devs i = rootF S.devs i := by
  unfold overT
  split
  · unfold lessT
    split
    · unfold killT
      split
      · exact ⟨rfl, fun i => by show rootF (setQ _ _ _) i = _; rw [rootQ]; rfl⟩
      · exact ⟨rfl, fun _ => rfl⟩
    · exact ⟨rfl, fun _ => rfl⟩
  · exact ⟨rfl, fun _ => rfl⟩
/-- What is left of the nodes: each was there, of the same kind, at the same place. -/
theorem over_mem {S : TreeD} {now no : Int} {m : NodeD} (hm : m ∈ (overT S now no).nodes) : ∃ m' ∈ S.nodes, m'.no = m.no ∧ m'.kind = m.kind ∧ m'.up = m.up ∧ m'.dev = m.dev := by
  refine all_over (S := S) (P := fun m => ∃ m' ∈ S.nodes, m'.no = m.no ∧ m'.kind = m.kind ∧ m'.up = m.up ∧ m'.dev = m.dev) (fun m hm => ⟨m, hm, rfl, rfl, rfl, rfl⟩) now no ?_ m hm
  rintro m ⟨m', h1, h2, h3, h4, h5⟩
  exact ⟨m', h1, h2, h3, h4, h5⟩
/-- A directory that is replaced goes. -/
theorem over_gone {c : Nat} {S : TreeD} (h : Tre c S) {now no : Int} (hk : (getN S.nodes no).kind = 1) (hr : rootF S.devs (getN S.nodes no).dev ≠ no) : ∀ m ∈ (overT S now no).nodes, m.no ≠ no := by
  obtain ⟨hi, hno, hmem⟩ := getN_node hk
  have hl := h.dlinks _ hmem hk
  have hkb : killB S no = true := by unfold killB; rw [hi]; simpa using hr
  have hi2 : isN (setT S (lessN now (getN S.nodes no))).nodes no = true := by show isN (setN S.nodes _) no = true; rw [isN_set]; exact hi
  have hg : getN (setT S (lessN now (getN S.nodes no))).nodes no = lessN now (getN S.nodes no) := by
    have := set_self (n := lessN now (getN S.nodes no)) h.nos (by show isN S.nodes (getN S.nodes no).no = true; rw [hno]; exact hi)
    have e : (lessN now (getN S.nodes no)).no = no := hno
    rw [e] at this; exact this
  have hkb2 : killB (setT S (lessN now (getN S.nodes no))) no = true := by
    unfold killB
    rw [hi2, hg]
    have e : rootF (setT S (lessN now (getN S.nodes no))).devs (lessN now (getN S.nodes no)).dev ≠ no := hr
    simpa using e
  unfold overT
  rw [if_pos hi]
  unfold lessT
  rw [if_pos (by omega), hno]
  unfold killT
  rw [if_pos hkb2]
  intro m hm
  exact (mem_drop hm).2
theorem putF_mem (l : List EntD) (x : EntD) : x ∈ putF l x := by
  unfold putF
  exact List.mem_append_left _ (List.mem_append_right _ (List.mem_singleton.2 rfl))
theorem putF_old {l : List EntD} {x y : EntD} (hy : y ∈ l) (hne : y.1 ≠ x.1) : y ∈ putF l x := by
  unfold putF lessF moreF
  rcases bl_tri y.1 x.1 with g | g | g
  · exact List.mem_append_left _ (List.mem_append_left _ (List.mem_filter.2 ⟨hy, g⟩))
  · exact absurd g hne
  · exact List.mem_append_right _ (List.mem_filter.2 ⟨hy, g⟩)
theorem moveE_zero {S : TreeD} {cu cg fr to_ : Int} {a b : List UInt8} (h : moveE S cu cg fr to_ a b = 0) (hs : ¬ sameB S cu cg fr to_ a b) :
    leaveE S cu cg fr a = 0 ∧ placeE S cu cg to_ b = 0 ∧ (leaveD S cu cg fr a).dev = (placeN S cu cg to_ b).dev ∧ ¬ ((leaveN S cu cg fr a).kind = 1 ∧ withinF S to_ (leaveN S cu cg fr a).no = true) ∧
    (isN S.nodes (oldNo S cu cg to_ b) = true → putE S cu (placeN S cu cg to_ b) (leaveN S cu cg fr a) (getN S.nodes (oldNo S cu cg to_ b)) = 0) := by
  unfold moveE moveX at h
  split at h
  · rename_i h1; exact absurd h h1
  · rename_i h1
    split at h
    · rename_i h2; exact absurd h h2
    · rename_i h2
      split at h
      · cases h
      · rename_i h3
        split at h
        · cases h
        · rename_i h4
          split at h
          · rename_i h5; exact absurd h5 hs
          · split at h
            · cases h
            · refine ⟨Decidable.not_not.1 h1, Decidable.not_not.1 h2, Decidable.not_not.1 h3, h4, fun hi => ?_⟩
              rw [if_pos hi] at h; exact h
theorem putE_zero {S : TreeD} {cu : Int} {d n o : NodeD} (h : putE S cu d n o = 0) : overF S.devs o.no = o.no ∧ (n.kind = 1 → o.kind = 1) ∧ (¬ n.kind = 1 → ¬ o.kind = 1) ∧ o.ents = [] := by
  unfold putE at h
  split at h
  · cases h
  · rename_i h1
    split at h
    · cases h
    · rename_i h2
      split at h
      · cases h
      · rename_i h3
        split at h
        · cases h
        · rename_i h4
          refine ⟨Decidable.not_not.1 h1, fun hk => Decidable.byContradiction fun e => h2 ⟨hk, e⟩, fun hk e => h3 ⟨hk, e⟩, ?_⟩
          cases ho : o.ents with
          | nil => rfl
          | cons x l => rw [ho] at h4; simp at h4
theorem tre_move {c : Nat} {S : TreeD} (h : Tre c S) (cu cg now fr to_ : Int) (a b : List UInt8) : Tre (c + 1) (moveT S cu cg now fr to_ a b) := by
  unfold moveT
  split
  case isFalse => exact tre_mono h (by omega)
  rename_i hc
  obtain ⟨p1, p2, p3, p4, p5⟩ := moveE_zero hc.1 hc.2
  have hns := hc.2
  obtain ⟨z1, z2, z3, z4, z5⟩ := leaveE_zero p1
  obtain ⟨if0, kf, _⟩ := placeE_zero z1
  obtain ⟨it0, kt, ckb⟩ := placeE_zero p2
  have pt := placeN_zero p2
  unfold sameB at hns
  unfold oldNo at hns p5 ⊢
  rw [z5, pt] at hns
  rw [z4, pt] at p3
  rw [z5] at p4
  rw [z5, pt] at p5
  rw [z4, z5, pt]
  clear z4 z5 pt hc p1 p2
  obtain ⟨no, hno⟩ : ∃ no, no = findF (getN S.nodes fr).ents a := ⟨_, rfl⟩
  obtain ⟨old, hold⟩ : ∃ old, old = findF (getN S.nodes to_).ents b := ⟨_, rfl⟩
  rw [← hno] at z2 z3 p4 p5 hns ⊢
  rw [← hold] at p5 hns ⊢
  have nfr := (isN_true if0).2.1
  have nto := (isN_true it0).2.1
  have mfr := (isN_true if0).2.2
  have mto := (isN_true it0).2.2
  have nno := (isN_true z2).2.1
  have mno := (isN_true z2).2.2
  have hpos := h.nos.2 _ mno
  rw [nno] at hpos
  have hpt := (h.nos.2 _ mto).1
  rw [nto] at hpt
  obtain ⟨x, hx, hx1, hx2⟩ := findF_in (l := (getN S.nodes fr).ents) (nm := a) (by rw [← hno]; omega)
  rw [← hno] at hx2
  have hK := h.kin _ mfr x hx
  rw [hx2, nfr] at hK
  have hnfr : no ≠ fr := hK.1
  have hdv : (getN S.nodes no).dev = (getN S.nodes fr).dev := hK.2.2 _ mno nno
  have hrt : rootF S.devs (getN S.nodes no).dev ≠ no := kin_root h hK _ (h.on _ mno).1
  -- what is replaced
  have hO : isN S.nodes old = true → old ≠ to_ ∧ old ≠ fr ∧ old ≠ no ∧ rootF S.devs (getN S.nodes old).dev ≠ old ∧ overF S.devs old = old ∧ ((getN S.nodes no).kind = 1 → (getN S.nodes old).kind = 1) ∧ (getN S.nodes old).ents = [] := by
    intro hi
    have mo := (isN_true hi).2.2
    have eo := (isN_true hi).2.1
    obtain ⟨u1, u2, u3, u4⟩ := putE_zero (p5 hi)
    have hpo := (h.nos.2 _ mo).1
    rw [eo] at hpo
    obtain ⟨y, hy, hy1, hy2⟩ := findF_in (l := (getN S.nodes to_).ents) (nm := b) (by rw [← hold]; omega)
    rw [← hold] at hy2
    have hKo := h.kin _ mto y hy
    rw [hy2, nto] at hKo
    refine ⟨hKo.1, fun e => ?_, fun e => hns ⟨hi, by rw [e]⟩, kin_root h hKo _ (h.on _ mo).1, by rw [eo] at u1; exact u1, u2, u4⟩
    rw [e] at u4
    rw [u4] at hx; cases hx
  obtain ⟨T, hT⟩ : ∃ T, T = overT S now old := ⟨_, rfl⟩
  have h0 : Tre c T := by
    rw [hT]
    unfold overT
    split
    · rename_i hi
      obtain ⟨_, _, _, o4, o5, _, o7⟩ := hO hi
      exact tre_less h hi o5 o4 (fun _ => o7) (.inl rfl)
    · exact h
  have hgT : ∀ q, (isN S.nodes old = true → old ≠ q) → getN T.nodes q = getN S.nodes q ∧ isN T.nodes q = isN S.nodes q := by
    intro q hq
    rw [hT]
    cases hi : isN S.nodes old
    · unfold overT; rw [if_neg (by rw [hi]; decide)]; exact ⟨rfl, rfl⟩
    · exact over_get h now (Ne.symm (hq hi))
  have gfr := hgT fr fun hi => (hO hi).2.1
  have gto := hgT to_ fun hi => (hO hi).1
  have gno := hgT no fun hi => (hO hi).2.2.1
  have hold' : ∀ q ∈ T.nodes, q.kind = 1 → q.no ≠ old := by
    intro q hq hqk e
    rw [hT] at hq
    obtain ⟨m', hm', e1, e2, _⟩ := over_mem hq
    have hi : isN S.nodes old = true := by
      have := (mem_getN h.nos hm').2
      rw [e1, e] at this; exact this
    have hmo : m' = getN S.nodes old := node_eq h.nos hm' (isN_true hi).2.2 (by rw [e1, e, (isN_true hi).2.1])
    have hok : (getN S.nodes old).kind = 1 := by rw [← hmo, e2]; exact hqk
    exact over_gone h hok (hO hi).2.2.2.1 q hq e
  obtain ⟨k', hk'⟩ : ∃ k', k' = if (getN S.nodes no).kind = 1 then no else 0 := ⟨_, rfl⟩
  have hkq : ∀ q ∈ T.nodes, q.kind = 1 → q.no ≠ k' → q.no ≠ no := by
    intro q hq hqk hqk' e
    have : q = getN T.nodes no := node_eq h0.nos hq (isN_true (gno.2.trans z2)).2.2 (by rw [e, (isN_true (gno.2.trans z2)).2.1])
    have hkn : (getN S.nodes no).kind = 1 := by rw [← gno.1, ← this]; exact hqk
    rw [if_pos hkn] at hk'
    exact hqk' (e.trans hk'.symm)
  have h1 : TreB c k' (touchT T fr now (dropF (getN S.nodes fr).ents a)) := by
    have := tre_unname h0 (dir := fr) (now := now) (nm := a) (gfr.2.trans if0) (by rw [gfr.1]; exact kf) (k' := k') (by rw [gfr.1, ← hno]; exact hkq)
    rw [gfr.1] at this; exact this
  obtain ⟨T1, hT1⟩ : ∃ T1, T1 = touchT T fr now (dropF (getN S.nodes fr).ents a) := ⟨_, rfl⟩
  rw [← hT1] at h1
  unfold laidT
  rw [← hT, ← hT1]
  have nT : (getN T.nodes fr).no = fr := by rw [gfr.1]; exact nfr
  have g1 : ∀ q, q ≠ fr → getN T1.nodes q = getN T.nodes q ∧ isN T1.nodes q = isN T.nodes q := by
    intro q hq
    rw [hT1]
    exact setN_get (n := touchN T fr now (dropF (getN S.nodes fr).ents a)) (by show q ≠ (getN T.nodes fr).no; rw [nT]; exact hq)
  have gf1 : getN T1.nodes fr = touchN T fr now (dropF (getN S.nodes fr).ents a) := by
    have := set_self (n := touchN T fr now (dropF (getN S.nodes fr).ents a)) h0.nos (by show isN T.nodes (getN T.nodes fr).no = true; rw [nT]; exact gfr.2.trans if0)
    have e : (touchN T fr now (dropF (getN S.nodes fr).ents a)).no = fr := nT
    rw [e] at this
    rw [hT1]; exact this
  have if1 : isN T1.nodes fr = true := by
    rw [hT1]; show isN (setN T.nodes _) fr = true; rw [isN_set]; exact gfr.2.trans if0
  have hto1 : isN T1.nodes to_ = true ∧ (getN T1.nodes to_).kind = 1 ∧ (getN T1.nodes to_).dev = (getN S.nodes to_).dev ∧ (∀ x ∈ (getN T1.nodes to_).ents, x ∈ (getN S.nodes to_).ents) := by
    by_cases e : to_ = fr
    · rw [e, gf1]
      refine ⟨if1, by show (getN T.nodes fr).kind = 1; rw [gfr.1]; exact kf, by show (getN T.nodes fr).dev = _; rw [gfr.1], fun x hx => ?_⟩
      exact (mem_dropF hx).1
    · rw [(g1 to_ e).1, (g1 to_ e).2, gto.1, gto.2]
      exact ⟨it0, kt, rfl, fun x hx => hx⟩
  obtain ⟨it1, kt1, dt1, et1⟩ := hto1
  have nt1 := (isN_true it1).2.1
  have mt1 := (isN_true it1).2.2
  have hnto : no ≠ to_ := by
    intro e
    by_cases hk : (getN S.nodes no).kind = 1
    · refine p4 ⟨hk, ?_⟩
      rw [nno, ← e]
      exact within_base (by omega) rfl
    · rw [e] at hk; exact hk kt
  have hKT := h0.kin _ (isN_true (gfr.2.trans if0)).2.2 x (by rw [gfr.1]; exact hx)
  rw [hx2, nT] at hKT
  have h2 : TreB (c + 1) k' (touchT T1 to_ now (putF (getN T1.nodes to_).ents (b, (getN S.nodes no).no))) := by
    rw [nno]
    refine tre_touch h1 (.inr rfl) it1 kt1 (by omega) (rise_putF _ (h1.rise _ mt1)) (fun y hy => ?_) (fun y hy => ?_) ?_ (fun y hy => ?_) (fun q hq hqk hqk' hqu hqn => ?_)
    · rcases mem_putF hy with hy | rfl
      · exact h1.names _ mt1 y hy
      · exact checkN_short ckb
    · rcases mem_putF hy with hy | rfl
      · exact h1.pos _ mt1 y hy
      · have e : T1.last = S.last := by rw [hT1]; show T.last = _; rw [hT]; exact (over_devs S now old).1
        rw [e]; exact hpos
    · have := putF_len (getN T1.nodes to_).ents (b, no)
      have := h1.small _ mt1
      omega
    · rcases mem_putF hy with hy | rfl
      · exact h1.kin _ mt1 y hy
      · refine ⟨by rw [nt1]; exact hnto, by rw [hT1]; exact hKT.2.1, fun q hq e => ?_⟩
        rw [hT1] at hq
        rcases mem_setT hq with ⟨hq, _⟩ | rfl
        · rw [hKT.2.2 q hq e, gfr.1, dt1, p3]
        · exact absurd (nT.symm.trans e).symm hnfr
    · rcases h1.ups q hq hqk hqk' with ⟨_, u2⟩ | ⟨_, _, m, hm, u3, _, _, y, hy, u6⟩
      · exact absurd (u2.symm.trans hqu) hqn
      · have : m = getN T1.nodes to_ := node_eq h1.nos hm mt1 (by rw [u3, hqu, nt1])
        subst this
        refine ⟨y, putF_old hy fun e => ?_, u6⟩
        have e2 := findF_mem (h.rise _ mto) (et1 y hy) e
        rw [← hold, u6] at e2
        rw [hT1] at hq
        rcases mem_setT hq with ⟨hq, _⟩ | rfl
        · exact hold' q hq hqk e2.symm
        · have e3 : old = fr := e2.trans nT
          have hq2 : getN T.nodes fr ∈ T.nodes := (isN_true (gfr.2.trans if0)).2.2
          exact hold' _ hq2 (by rw [gfr.1]; exact kf) (by rw [nT]; exact e3.symm)
  obtain ⟨T2, hT2⟩ : ∃ T2, T2 = touchT T1 to_ now (putF (getN T1.nodes to_).ents (b, (getN S.nodes no).no)) := ⟨_, rfl⟩
  rw [← hT2] at h2 ⊢
  have g2 : getN T2.nodes no = getN S.nodes no ∧ isN T2.nodes no = true := by
    have := setN_get (S := T1) (n := touchN T1 to_ now (putF (getN T1.nodes to_).ents (b, (getN S.nodes no).no))) (no := no) (by show no ≠ (getN T1.nodes to_).no; rw [nt1]; exact hnto)
    rw [hT2]
    exact ⟨this.1.trans ((g1 no hnfr).1.trans gno.1), this.2.trans ((g1 no hnfr).2.trans (gno.2.trans z2))⟩
  have m2 := (isN_true g2.2).2.2
  rw [g2.1] at m2
  have hb := h.bits _ mno
  by_cases hk : (getN S.nodes no).kind = 1
  · rw [if_pos hk] at hk'
    subst hk'
    have gt2 : getN T2.nodes to_ = touchN T1 to_ now (putF (getN T1.nodes to_).ents (b, (getN S.nodes k').no)) ∧ isN T2.nodes to_ = true := by
      have := set_self (n := touchN T1 to_ now (putF (getN T1.nodes to_).ents (b, (getN S.nodes k').no))) h1.nos (by show isN T1.nodes (getN T1.nodes to_).no = true; rw [nt1]; exact it1)
      have e : (touchN T1 to_ now (putF (getN T1.nodes to_).ents (b, (getN S.nodes k').no))).no = to_ := nt1
      rw [e] at this
      rw [hT2]
      exact ⟨this, by show isN (setN T1.nodes _) to_ = true; rw [isN_set]; exact it1⟩
    have mt2 := (isN_true gt2.2).2.2
    rw [gt2.1] at mt2
    refine tre_lies (n := laidN now to_ (getN S.nodes k')) (m0 := getN S.nodes k') (t := touchN T1 to_ now (putF (getN T1.nodes to_).ents (b, (getN S.nodes k').no))) ?_ m2 rfl hk hk rfl rfl (h.on _ mno).2 (show (getN S.nodes k').links = 1 from h.dlinks _ mno hk) rfl mt2 kt1 ?_ ⟨_, putF_mem _ _, rfl⟩ ?_ ?_ ?_
    · have e : (laidN now to_ (getN S.nodes k')).no = k' := nno
      rw [e]; exact h2
    · show (getN T1.nodes to_).dev = (getN S.nodes k').dev
      rw [dt1, ← p3, hdv]
    · show (if (getN S.nodes k').kind = 1 then to_ else _) = (getN T1.nodes to_).no
      rw [if_pos hk, nt1]
    · show rootF T2.devs (getN S.nodes k').dev ≠ (getN S.nodes k').no
      rw [nno, hT2]
      show rootF T1.devs _ ≠ _
      rw [hT1]
      show rootF T.devs _ ≠ _
      rw [hT, (over_devs S now old).2]
      exact hrt
    · intro hU
      have hU' : UpTo T2 k' to_ := by
        have e1 : (laidN now to_ (getN S.nodes k')).no = k' := nno
        have e2 : (touchN T1 to_ now (putF (getN T1.nodes to_).ents (b, (getN S.nodes k').no))).no = to_ := nt1
        rw [e1, e2] at hU; exact hU
      have hback : ∀ q ∈ T2.nodes, q.kind = 1 → ∃ q' ∈ S.nodes, q'.no = q.no ∧ q'.kind = 1 ∧ q'.up = q.up := by
        have bT : ∀ q ∈ T.nodes, ∃ q' ∈ S.nodes, q'.no = q.no ∧ q'.kind = q.kind ∧ q'.up = q.up := fun q hq => by
          rw [hT] at hq
          obtain ⟨m', a1, a2, a3, a4, _⟩ := over_mem hq
          exact ⟨m', a1, a2, a3, a4⟩
        have b1 : ∀ q ∈ T1.nodes, ∃ q' ∈ S.nodes, q'.no = q.no ∧ q'.kind = q.kind ∧ q'.up = q.up := fun q hq => by
          rw [hT1] at hq
          rcases mem_setT hq with ⟨hq, _⟩ | rfl
          · exact bT q hq
          · exact bT (getN T.nodes fr) (isN_true (gfr.2.trans if0)).2.2
        intro q hq hqk
        rw [hT2] at hq
        rcases mem_setT hq with ⟨hq, _⟩ | rfl
        · obtain ⟨q', a1, a2, a3, a4⟩ := b1 q hq
          exact ⟨q', a1, a2, a3.trans hqk, a4⟩
        · obtain ⟨q', a1, a2, a3, a4⟩ := b1 (getN T1.nodes to_) mt1
          exact ⟨q', a1, a2, a3.trans kt1, a4⟩
      have := UpTo.within h (by omega) (UpTo.mono hU' hback)
      exact p4 ⟨hk, by rw [nno]; exact this⟩
  · rw [if_neg hk] at hk'
    subst hk'
    refine tre_same h2 (no := no) g2.2 nno ?_ ?_ ?_ ?_ ?_ ?_ ?_
    · rw [g2.1]; rfl
    · exact (h.on _ mno).2
    · rw [g2.1]; rfl
    · rw [g2.1]; rfl
    · rw [g2.1]; unfold laidN; show (if (getN S.nodes no).kind = 1 then to_ else (getN S.nodes no).up) = _; rw [if_neg hk]
    · rw [g2.1]; rfl
    · exact ⟨hb.1, hb.2.1⟩
end Go.Proofs.Ytjblimclakfhfaa

namespace Go.Proofs.Ytjblimclakfhfaa

theorem full_grow {S : TreeD} (h : (S.nodes.length : Int) = S.last) (it : ItemD) : ((growT S it).nodes.length : Int) = (growT S it).last := by
  unfold growT
  split
  · unfold mountT
    split
    · unfold rootT; simp; omega
    · exact h
  · split
    · split
      · rename_i h0
        show ((setN _ _).length : Int) = _
        rw [setN_len]
        unfold makeT
        rw [if_pos h0]
        simp only [List.length_append, List.length_singleton]
        show _ = S.last + 1
        omega
      · exact h
    · exact h
theorem full_all {S : TreeD} (h : (S.nodes.length : Int) = S.last) (l : List ItemD) : ((growAll S l).nodes.length : Int) = (growAll S l).last := by
  unfold growAll
  induction l generalizing S with
  | nil => exact h
  | cons x l ih => rw [List.foldl_cons]; exact ih (full_grow h x)
theorem full_first (b n : Int) (l : List ItemD) : ((growAll (firstT b n) l).nodes.length : Int) = (growAll (firstT b n) l).last := full_all (S := firstT b n) rfl l
theorem full_is {ns : List NodeD} {last : Int} (hu : NosUp ns last) (h : (ns.length : Int) = last) {k : Int} (h1 : 1 ≤ k) (h2 : k ≤ last) : isN ns k = true := by
  have lo : ∀ i, (hi : i < ns.length) → (i : Int) + 1 ≤ (ns[i]).no := by
    intro i
    induction i with
    | zero => intro hi; have := (hu.2 _ (List.getElem_mem hi)).1; omega
    | succ i ih =>
      intro hi
      have h3 := ih (by omega)
      have h4 := List.pairwise_iff_getElem.1 hu.1 i (i + 1) (by omega) hi (by omega)
      omega
  have up : ∀ d i, (hi : i < ns.length) → i + d + 1 = ns.length → (ns[i]).no + d ≤ last := by
    intro d
    induction d with
    | zero => intro i hi _; have := (hu.2 _ (List.getElem_mem hi)).2; omega
    | succ d ih =>
      intro i hi e
      have h3 := ih (i + 1) (by omega) (by omega)
      have h4 := List.pairwise_iff_getElem.1 hu.1 i (i + 1) hi (by omega) (by omega)
      omega
  have hk : (k - 1).toNat < ns.length := by omega
  have h5 := lo _ hk
  have h6 := up (ns.length - 1 - (k - 1).toNat) _ hk (by omega)
  have e : (ns[(k - 1).toNat]).no = k := by omega
  rw [isN_iff]
  exact ⟨_, hk, e⟩
theorem drop_len {ns : List NodeD} (no : Int) (hu : ns.Pairwise fun a b => a.no < b.no) : ns.length ≤ (dropN ns no).length + 1 ∧ (dropN ns no).length ≤ ns.length := by
  refine ⟨?_, List.length_filter_le ..⟩
  induction ns with
  | nil => simp
  | cons m ms ih =>
    obtain ⟨h1, h2⟩ := List.pairwise_cons.1 hu
    by_cases e : m.no = no
    · have e2 : dropN (m :: ms) no = ms := by
        unfold dropN
        rw [List.filter_cons_of_neg (by simpa using e), List.filter_eq_self]
        intro x hx
        have := h1 x hx
        have : x.no ≠ no := by omega
        simpa using this
      rw [e2]; simp
    · have e2 : dropN (m :: ms) no = m :: dropN ms no := by
        unfold dropN
        rw [List.filter_cons_of_pos (by simpa using e)]
      rw [e2]
      have := ih h2
      simp only [List.length_cons]; omega
theorem over_len {c : Nat} {S : TreeD} (h : Tre c S) (now no : Int) : S.nodes.length ≤ (overT S now no).nodes.length + 1 ∧ (overT S now no).nodes.length ≤ S.nodes.length := by
  unfold overT
  split
  · unfold lessT
    split
    · unfold killT
      split
      · have := drop_len (getN S.nodes no).no (h.nos.set (lessN now (getN S.nodes no))).1
        rw [setN_len] at this
        exact this
      · show _ ≤ (setN _ _).length + 1 ∧ (setN _ _).length ≤ _; rw [setN_len]; omega
    · show _ ≤ (setN _ _).length + 1 ∧ (setN _ _).length ≤ _; rw [setN_len]; omega
  · omega
theorem over_nos {c : Nat} {S : TreeD} (h : Tre c S) (now no : Int) : NosUp (overT S now no).nodes (overT S now no).last := by
  unfold overT
  split
  · unfold lessT
    split
    · unfold killT
      split
      · exact (h.nos.set _).drop _
      · exact h.nos.set _
    · exact h.nos.set _
  · exact h.nos
/-- What a move leaves. -/
theorem moved {c : Nat} {S : TreeD} (h : Tre c S) {cu cg now fr to_ : Int} {a b : List UInt8} (h0 : moveE S cu cg fr to_ a b = 0) :
    (∀ k, k ≠ findF (getN S.nodes to_).ents b → isN S.nodes k = true → isN (moveT S cu cg now fr to_ a b).nodes k = true) ∧
    (S.nodes.length ≤ (moveT S cu cg now fr to_ a b).nodes.length + 1 ∧ (moveT S cu cg now fr to_ a b).nodes.length ≤ S.nodes.length) ∧
    findF (getN (moveT S cu cg now fr to_ a b).nodes to_).ents b = findF (getN S.nodes fr).ents a ∧ Tre (c + 1) (moveT S cu cg now fr to_ a b) := by
  have hT := tre_move h cu cg now fr to_ a b
  have hle : leaveE S cu cg fr a = 0 ∧ placeE S cu cg to_ b = 0 := by
    unfold moveE moveX at h0
    split at h0
    · rename_i h1; exact absurd h0 h1
    · rename_i h1
      split at h0
      · rename_i h2; exact absurd h0 h2
      · rename_i h2; exact ⟨Decidable.not_not.1 h1, Decidable.not_not.1 h2⟩
  obtain ⟨p1, p2⟩ := hle
  obtain ⟨z1, z2, z3, z4, z5⟩ := leaveE_zero p1
  have pt := placeN_zero p2
  have nno := (isN_true z2).2.1
  by_cases hs : sameB S cu cg fr to_ a b
  · have e : moveT S cu cg now fr to_ a b = S := by unfold moveT; rw [if_neg (fun x => x.2 hs)]
    rw [e] at hT ⊢
    refine ⟨fun k _ hk => hk, by omega, ?_, hT⟩
    unfold sameB oldNo at hs
    rw [pt, z5] at hs
    rw [← (isN_true hs.1).2.1, hs.2, nno]
  · obtain ⟨it0, kt, _⟩ := placeE_zero p2
    have e : moveT S cu cg now fr to_ a b = laidT (overT S now (findF (getN S.nodes to_).ents b)) now fr to_ a b (getN S.nodes fr) (getN S.nodes (findF (getN S.nodes fr).ents a)) := by
      unfold moveT; rw [if_pos ⟨h0, hs⟩, z4, z5]; unfold oldNo; rw [pt]
    rw [e] at hT ⊢
    have hl := over_len h now (findF (getN S.nodes to_).ents b)
    obtain ⟨_, _, _, p4, _⟩ := moveE_zero h0 hs
    rw [z5] at p4
    obtain ⟨no, hno⟩ : ∃ no, no = findF (getN S.nodes fr).ents a := ⟨_, rfl⟩
    obtain ⟨old, hold⟩ : ∃ old, old = findF (getN S.nodes to_).ents b := ⟨_, rfl⟩
    rw [← hno] at p4 z2 nno hT ⊢
    rw [← hold] at hT hl ⊢
    have nto := (isN_true it0).2.1
    have mto := (isN_true it0).2.2
    have hpt := (h.nos.2 _ mto).1
    rw [nto] at hpt
    have hto : to_ ≠ old := by
      intro e
      obtain ⟨y, hy, _, hy2⟩ := findF_in (l := (getN S.nodes to_).ents) (nm := b) (by rw [← hold]; omega)
      have := (h.kin _ mto y hy).1
      rw [hy2, ← hold, nto] at this
      exact this e.symm
    have hnto : no ≠ to_ := by
      intro e
      by_cases hk : (getN S.nodes no).kind = 1
      · refine p4 ⟨hk, ?_⟩
        rw [nno, ← e]
        exact within_base (by omega) rfl
      · rw [e] at hk; exact hk kt
    obtain ⟨T, hTT⟩ : ∃ T, T = overT S now old := ⟨_, rfl⟩
    have hnT := over_nos h now old
    have hgT : ∀ k, k ≠ old → isN T.nodes k = isN S.nodes k := fun k hk => by rw [hTT]; exact (over_get h now hk).2
    rw [← hTT] at hl hnT hT ⊢
    obtain ⟨T1, hT1⟩ : ∃ T1, T1 = touchT T fr now (dropF (getN S.nodes fr).ents a) := ⟨_, rfl⟩
    have hn1 : NosUp T1.nodes T1.last := by rw [hT1]; exact hnT.set _
    have hi1 : ∀ k, isN T1.nodes k = isN T.nodes k := fun k => by rw [hT1]; show isN (setN T.nodes _) k = _; rw [isN_set]
    have hl1 : T1.nodes.length = T.nodes.length := by rw [hT1]; show (setN _ _).length = _; rw [setN_len]
    have it1 : isN T1.nodes to_ = true := by rw [hi1, hgT _ hto]; exact it0
    have nt1 := (isN_true it1).2.1
    unfold laidT at hT ⊢
    rw [← hT1] at hT ⊢
    refine ⟨fun k hk hik => ?_, ?_, ?_, hT⟩
    · show isN (setN (setN T1.nodes _) _) k = true
      rw [isN_set, isN_set, hi1, hgT k hk]; exact hik
    · show _ ≤ (setN (setN T1.nodes _) _).length + 1 ∧ (setN (setN T1.nodes _) _).length ≤ _
      rw [setN_len, setN_len, hl1]; exact hl
    · have e1 := (setN_get (S := touchT T1 to_ now (putF (getN T1.nodes to_).ents (b, (getN S.nodes no).no))) (n := laidN now to_ (getN S.nodes no)) (no := to_) (by show to_ ≠ (getN S.nodes no).no; rw [nno]; exact Ne.symm hnto)).1
      have e2 := set_self (n := touchN T1 to_ now (putF (getN T1.nodes to_).ents (b, (getN S.nodes no).no))) hn1 (by show isN T1.nodes (getN T1.nodes to_).no = true; rw [nt1]; exact it1)
      have e3 : (touchN T1 to_ now (putF (getN T1.nodes to_).ents (b, (getN S.nodes no).no))).no = to_ := nt1
      rw [e3] at e2
      rw [e1]
      show findF (getN (setT T1 (touchN T1 to_ now _)).nodes to_).ents b = no
      rw [e2]
      show findF (putF _ _) b = no
      rw [findF_put, nno]
end Go.Proofs.Ytjblimclakfhfaa

namespace Go.Proofs.Ytjblimclakfhfaa

/-- What two calls tell, of which the second one follows a link at the end. -/
structure FolOk (S : TreeD) (x y : FndD × Int) : Prop where
  bad : x.2 ≠ 0 → x.1 = fndZ ∧ y.2 ≠ 0
  same : x.2 = 0 → (getN S.nodes x.1.no).kind ≠ 3 → y = x
  top : x.2 = 0 → x.1.name = [] → x.1.dir = 0 ∧ x.1.no ≠ 0
  look : x.2 = 0 → x.1.name ≠ [] → lookN S 0 0 x.1.dir x.1.name = x.1.no
theorem step_dir {S : TreeD} {cu cg at_ : Int} {p : List UInt8} (h : stepE S cu cg at_ p = 0) : (getN S.nodes at_).kind = 1 := by
  unfold stepE at h
  split at h
  · cases h
  · rename_i hk; exact Classical.not_not.1 hk
theorem look_zero {S : TreeD} {d : Int} (hk : (getN S.nodes d).kind = 1) (p : List UInt8) : lookN S 0 0 d p = if findF (getN S.nodes d).ents p = 0 then 0 else overF S.devs (findF (getN S.nodes d).ents p) := by
  have hi := (getN_node hk).1
  have he : openE S 0 0 d 1 1 = 0 := by
    unfold openE
    rw [if_neg (by rw [hi]; decide), if_pos hk, if_neg]
    rw [mayB_0 _ _ _ _ _ rfl]; decide
  have hn : openN S 0 0 d 1 1 = getN S.nodes d := by unfold openN; rw [if_pos he]
  unfold lookN lookE
  rw [hn, if_pos he]
  split
  · rw [if_neg (by decide)]
  · rw [if_pos rfl]
theorem findF_in15 {l : List EntD} {nm : List UInt8} (h : findF l nm ≠ 0) : ∃ x ∈ l, x.1 = nm ∧ x.2 = findF l nm := by
  unfold findF at h ⊢
  cases hf : l.find? (fun x => x.1 == nm) with
  | none => rw [hf] at h; exact absurd rfl h
  | some x => exact ⟨x, List.mem_of_find?_eq_some hf, by simpa using List.find?_some hf, rfl⟩
/-- A name that is there leads to a node. -/
theorem step_is {c : Nat} {S : TreeD} (h : Tre c S) (m : Mounts S) (hf : (S.nodes.length : Int) = S.last) {d : Int} (hk : (getN S.nodes d).kind = 1) {p : List UInt8} (h0 : findF (getN S.nodes d).ents p ≠ 0) : isN S.nodes (stepN S d p) = true := by
  obtain ⟨x, hx, _, e⟩ := findF_in15 h0
  have hp := h.pos _ (getN_node hk).2.2 x hx
  rw [e] at hp
  have hi := full_is h.nos hf hp.1 hp.2
  unfold stepN
  rcases overF_cases m (show 0 < findF (getN S.nodes d).ents p by omega) with e | ⟨k, hk2, _, e⟩
  · rw [e]; exact hi
  · rw [e]
    obtain ⟨y, hy, y1, _, _⟩ := m.roots (k + 1) hk2
    rw [isN_iff]
    obtain ⟨j, hj, ej⟩ := List.getElem_of_mem hy
    exact ⟨j, hj, by rw [ej]; exact y1⟩
theorem fol_bad {S : TreeD} {e g : Int} {y : FndD} (he : e ≠ 0) (hg : g ≠ 0) : FolOk S (fndZ, e) (y, g) := ⟨fun _ => ⟨rfl, hg⟩, fun h => absurd h he, fun h => absurd h he, fun h => absurd h he⟩
theorem follow_seek {c : Nat} {S : TreeD} (h : Tre c S) (m : Mounts S) (hf : (S.nodes.length : Int) = S.last) (hab : ∀ d, (getN S.nodes d).kind = 1 → aboveF S d ≠ 0) (cu cg : Int) :
    ∀ l hh, (∀ p ∈ l, p ≠ []) → ∀ at_ mu, at_ ≠ 0 → FolOk S (seekF S cu cg false at_ l hh mu) (seekF S cu cg true at_ l hh mu) := by
  refine seek_ind fun l hh ih hl at_ mu h0 => ?_
  cases l with
  | nil => rw [seek_nil, seek_nil]; exact ⟨fun k => absurd rfl k, fun _ _ => rfl, fun _ _ => ⟨rfl, h0⟩, fun _ k => absurd rfl k⟩
  | cons p l =>
    have hp := hl p (List.mem_cons_self ..)
    have hl' : ∀ q ∈ l, q ≠ [] := fun q hq => hl q (List.mem_cons_of_mem _ hq)
    by_cases h1 : stepE S cu cg at_ p = 0
    case neg => rw [seek_err h1, seek_err h1]; exact fol_bad h1 h1
    have hk := step_dir h1
    by_cases h2 : p = [46, 46]
    · rw [seek_up h1 h2, seek_up h1 h2]
      exact ih l hh (.inr ⟨rfl, by simp⟩) hl' _ _ (hab _ hk)
    · by_cases h3 : isN S.nodes (stepN S at_ p) = true
      case neg =>
        have h3' : isN S.nodes (stepN S at_ p) = false := by simpa using h3
        have hz : findF (getN S.nodes at_).ents p = 0 := Classical.byContradiction fun k => h3 (step_is h m hf hk k)
        by_cases h4 : l = []
        · rw [seek_free h1 h2 h3' h4, seek_free h1 h2 h3' h4]
          refine ⟨fun k => absurd rfl k, fun _ _ => rfl, fun _ k => absurd k hp, fun _ _ => ?_⟩
          rw [look_zero hk, if_pos hz]
        · rw [seek_none h1 h2 h3' h4, seek_none h1 h2 h3' h4]; exact fol_bad (by decide) (by decide)
      by_cases h4 : (getN S.nodes (stepN S at_ p)).kind = 3
      · by_cases h5 : l ≠ [] ∨ mu = true
        · have h5a : l ≠ [] ∨ mu = true ∨ false = true := h5.imp id .inl
          have h5b : l ≠ [] ∨ mu = true ∨ true = true := h5.imp id .inl
          by_cases h6 : 8 < hh + 1
          · rw [seek_loop h1 h2 h3 h4 h5a h6, seek_loop h1 h2 h3 h4 h5b h6]; exact fol_bad (by decide) (by decide)
          by_cases h7 : (getN S.nodes (stepN S at_ p)).data = []
          · rw [seek_empty h1 h2 h3 h4 h5a h6 h7, seek_empty h1 h2 h3 h4 h5b h6 h7]; exact fol_bad (by decide) (by decide)
          rw [seek_link h1 h2 h3 h4 h5a h6 h7, seek_link h1 h2 h3 h4 h5b h6 h7]
          refine ih _ _ (.inl ⟨by omega, by omega⟩) ?_ _ _ ?_
          · intro q hq
            rcases List.mem_append.1 hq with hq | hq
            · exact (parts_no hq).2.1
            · exact hl' q hq
          · split
            · decide
            · exact h0
        · have h5a : ¬ ((getN S.nodes (stepN S at_ p)).kind = 3 ∧ (l ≠ [] ∨ mu = true ∨ false = true)) := fun k => h5 (by rcases k.2 with k | k | k; exact .inl k; exact .inr k; cases k)
          have h5c : ¬ ((getN S.nodes (stepN S at_ p)).kind ≠ 1 ∧ (l ≠ [] ∨ mu = true)) := fun k => h5 k.2
          have h6 : l = [] := Classical.byContradiction fun k => h5 (.inl k)
          rw [seek_last h1 h2 h3 h5a h5c h6]
          refine ⟨fun k => absurd rfl k, fun _ k => absurd h4 k, fun _ k => absurd k hp, fun _ _ => ?_⟩
          rw [look_zero hk, if_neg]
          · rfl
          · intro k
            have : stepN S at_ p = 0 := by unfold stepN; rw [k]; rfl
            rw [this, h.nos.zero (.inl (by decide))] at h3
            cases h3
      · have h4a : ∀ f : Bool, ¬ ((getN S.nodes (stepN S at_ p)).kind = 3 ∧ (l ≠ [] ∨ mu = true ∨ f = true)) := fun f k => h4 k.1
        by_cases h5 : (getN S.nodes (stepN S at_ p)).kind ≠ 1 ∧ (l ≠ [] ∨ mu = true)
        · rw [seek_file h1 h2 h3 (h4a _) h5.1 h5.2, seek_file h1 h2 h3 (h4a _) h5.1 h5.2]; exact fol_bad (by decide) (by decide)
        by_cases h6 : l = []
        · rw [seek_last h1 h2 h3 (h4a _) h5 h6, seek_last h1 h2 h3 (h4a _) h5 h6]
          refine ⟨fun k => absurd rfl k, fun _ _ => rfl, fun _ k => absurd k hp, fun _ _ => ?_⟩
          rw [look_zero hk, if_neg]
          · rfl
          · intro k
            have : stepN S at_ p = 0 := by unfold stepN; rw [k]; rfl
            rw [this, h.nos.zero (.inl (by decide))] at h3
            cases h3
        · rw [seek_down h1 h2 h3 (h4a _) h5 h6, seek_down h1 h2 h3 (h4a _) h5 h6]
          refine ih l hh (.inr ⟨rfl, by simp⟩) hl' _ _ ?_
          intro k
          rw [k, h.nos.zero (.inl (by decide))] at h3
          cases h3
end Go.Proofs.Ytjblimclakfhfaa

namespace Go.Proofs.Ytjblimclakfhfaa

/-- All names in directories may be names. -/
def GoodNames (S : TreeD) : Prop := ∀ n ∈ S.nodes, ∀ x ∈ n.ents, checkN x.1 = 0
theorem goodnames_grow {S : TreeD} (h : GoodNames S) (it : ItemD) : GoodNames (growT S it) := by
  unfold growT
  split
  · unfold mountT
    split
    · intro n hn
      rcases List.mem_append.1 hn with hn | hn
      · exact h n hn
      · rw [List.mem_singleton] at hn; subst hn
        intro x hx; cases hx
    · exact h
  · split
    · rename_i hc
      split
      · rename_i h0
        unfold comesI at hc
        simp only [Bool.and_eq_true, decide_eq_true_eq] at hc
        obtain ⟨⟨⟨⟨c1, c2⟩, c3⟩, c4⟩, c5⟩ := hc
        have hm : GoodNames (makeT S (nodeI S it)) := by
          unfold makeT
          rw [if_pos h0]
          intro n hn
          rcases List.mem_append.1 hn with hn | hn
          · exact h n hn
          · rw [List.mem_singleton] at hn; subst hn
            intro x hx; cases hx
        intro n hn
        rcases mem_setN hn with hn | rfl
        · exact hm n hn
        · intro x hx
          rcases mem_putF hx with hx | rfl
          · exact h _ (getN_node c1).2.2 x hx
          · exact c4
      · exact h
    · exact h
theorem goodnames_all {S : TreeD} (h : GoodNames S) (l : List ItemD) : GoodNames (growAll S l) := by
  unfold growAll
  induction l generalizing S with
  | nil => exact h
  | cons x l ih => rw [List.foldl_cons]; exact ih (goodnames_grow h x)
theorem goodnames_first (b n : Int) (l : List ItemD) : GoodNames (growAll (firstT b n) l) := goodnames_all (fun n hn => by
  have hn' : n ∈ [rootNode emptyT] := hn
  rw [List.mem_singleton] at hn'; subst hn'
  intro x hx; cases hx) l
/-- Does it lie in what a mount covers? -/
def hiddenB (S : TreeD) : Nat → Int → Bool
  | 0, _ => false
  | f + 1, no => if overF S.devs (aboveF S no) = aboveF S no then hiddenB S f (aboveF S no) else true
theorem check_parts {x : List UInt8} (h : checkN x = 0) : x ≠ [] ∧ x ≠ [46] ∧ x ≠ [46, 46] ∧ 47 ∉ x ∧ 0 ∉ x ∧ x.length ≤ 255 := by
  unfold checkN at h
  split at h
  · cases h
  · rename_i h1
    split at h
    · cases h
    · refine ⟨fun e => h1 (.inl e), fun e => h1 (.inr (.inl e)), fun e => h1 (.inr (.inr (.inl e))), fun e => h1 (.inr (.inr (.inr (.inl (by unfold hasB; simpa using e))))), fun e => h1 (.inr (.inr (.inr (.inr (by unfold hasB; simpa using e))))), by omega⟩
/-- No two mounts cover one directory. -/
def OneOver (S : TreeD) : Prop := (S.devs.map (·.over)).Nodup
theorem Tre.mounts {c : Nat} {S : TreeD} (h : Tre c S) : Mounts S := ⟨h.over0, h.rootsIn, fun k hk => by
  obtain ⟨m, hm, a, _, _, b⟩ := h.overs k hk
  exact ⟨m, hm, a, by rw [← a]; exact b⟩⟩
theorem overs_setQ15 (ds : List DevD) (d : Int) (q : SpaceD) : (setQ ds d q).map (·.over) = ds.map (·.over) := by
  apply List.ext_getElem
  · simp [setQ_len]
  · intro i h1 h2
    rw [List.length_map] at h1 h2
    rw [List.getElem_map, List.getElem_map]
    exact (setQ_at h1 h2).2
theorem oneover_grow {c : Nat} {S : TreeD} (h : Tre c S) (o : OneOver S) (it : ItemD) : OneOver (growT S it) := by
  unfold growT
  split
  · unfold mountT
    split
    · rename_i h0
      unfold mountE at h0
      split at h0
      · cases h0
      · rename_i hi
        split at h0
        · cases h0
        · split at h0
          · cases h0
          · rename_i hov
            have hi' : isN S.nodes (atI S it) = true := by simpa using hi
            have h1 := (h.nos.2 _ (isN_true hi').2.2).1
            rw [(isN_true hi').2.1] at h1
            have hov' : overF S.devs (atI S it) = atI S it := Classical.byContradiction fun k => hov (.inl k)
            have hf := over_free h h1 hov'
            unfold OneOver rootT
            rw [List.map_append, List.nodup_append]
            refine ⟨o, by simp, fun a ha b hb => ?_⟩
            rw [List.map_singleton, List.mem_singleton] at hb
            subst hb
            rw [List.mem_map] at ha
            obtain ⟨d, hd, rfl⟩ := ha
            obtain ⟨k, hk, rfl⟩ := List.getElem_of_mem hd
            cases k with
            | zero => rw [h.over0 hk]; show (0 : Int) ≠ atI S it; omega
            | succ k => exact hf k hk
    · exact o
  · split
    · split
      · unfold makeT
        rename_i h0
        rw [if_pos h0]
        unfold OneOver setT
        show ((setQ _ _ _).map (·.over)).Nodup
        rw [overs_setQ15]; exact o
      · exact o
    · exact o
theorem oneover_all {c : Nat} {S : TreeD} (h : Tre c S) (o : OneOver S) (l : List ItemD) (hs : ∀ x ∈ l, shortI x) : OneOver (growAll S l) := by
  unfold growAll
  induction l generalizing S c with
  | nil => exact o
  | cons x l ih =>
    rw [List.foldl_cons]
    exact ih (tre_grow h x (hs x (List.mem_cons_self ..))) (oneover_grow h o x) fun y hy => hs y (List.mem_cons_of_mem _ hy)
theorem over_one {c : Nat} {S : TreeD} (h : Tre c S) : overF S.devs 1 = 1 := by
  rcases overF_cases h.mounts (show (0 : Int) < 1 by decide) with e | ⟨k, hk, e, _⟩
  · exact e
  · obtain ⟨m, hm, a, _, _, b⟩ := h.overs k hk
    rw [e] at a
    rw [(h.one m hm a).2.1, h.root1, a] at b
    exact absurd rfl b
theorem above_kind {c : Nat} {S : TreeD} (h : Tre c S) {no : Int} (hk : (getN S.nodes no).kind = 1) (hi : isN S.nodes (aboveF S no) = true) : (getN S.nodes (aboveF S no)).kind = 1 := by
  by_cases e : aboveF S no = no
  · rw [e]; exact hk
  · have h0 : aboveF S no ≠ 0 := by
      intro k; rw [k, h.nos.zero (.inl (by decide))] at hi; cases hi
    obtain ⟨_, _, m, hm, _, _, m1, m2, _⟩ := h.above no h0 e
    have := (mem_getN h.nos hm).1
    rw [m1] at this
    rw [this]; exact m2
theorem over_child {c : Nat} {S : TreeD} (h : Tre c S) (o : OneOver S) {no : Int} (hk : (getN S.nodes no).kind = 1) : overF S.devs (childF S no) = overF S.devs no := by
  obtain ⟨i1, i2, i3⟩ := getN_node hk
  have hn1 := (h.nos.2 _ i3).1
  rw [i2] at hn1
  unfold childF
  split
  · rename_i hr
    rcases rootF_zero h.roots (getN S.nodes no).dev with ⟨e1, _⟩ | ⟨k, hkl, e1, _, e3, e4, e5, _⟩
    · rw [e1] at hr; omega
    · obtain ⟨j, rfl⟩ : ∃ j, k = j + 1 := ⟨k - 1, by omega⟩
      rw [e3]
      obtain ⟨m, hm, a1, a2, a3, a4⟩ := h.overs j hkl
      have hm1 := (h.nos.2 _ hm).1
      have hno : overF S.devs no = no := by
        rcases overF_cases h.mounts (show 0 < no by omega) with e | ⟨i, hi, e, _⟩
        · exact e
        · obtain ⟨q, hq, b1, _, _, b4⟩ := h.overs i hi
          have := node_eq h.nos hq i3 (by rw [b1, i2, e])
          rw [this, i2] at b4
          exact absurd hr.1 b4
      rw [hno, ← hr.1, e4]
      rcases overF_cases h.mounts (show 0 < S.devs[j + 1].over by omega) with e | ⟨i, hi, e, e2⟩
      · exact absurd rfl (over_free h (by omega) e j hkl)
      · rw [e2]
        have hij : i = j := by
          have hp := List.pairwise_iff_getElem.1 o
          rcases Nat.lt_trichotomy i j with g | g | g
          · have := hp (i + 1) (j + 1) (by simpa using hi) (by simpa using hkl) (by omega)
            rw [List.getElem_map, List.getElem_map] at this
            exact absurd e this
          · exact g
          · have := hp (j + 1) (i + 1) (by simpa using hkl) (by simpa using hi) (by omega)
            rw [List.getElem_map, List.getElem_map] at this
            exact absurd e.symm this
        subst hij; rfl
  · rfl
/-- A name of a directory that has a path is found in the one above it. -/
theorem home_step {c : Nat} {S : TreeD} (h : Tre c S) (o : OneOver S) (gn : GoodNames S) {no : Int} {x : List UInt8} (hx : nmF S no = some x) :
    stepE S 0 0 (aboveF S no) x = 0 ∧ x ≠ [46, 46] ∧ checkN x = 0 ∧ stepN S (aboveF S no) x = overF S.devs no ∧ isN S.nodes (overF S.devs no) = true ∧ (getN S.nodes (overF S.devs no)).kind = 1 := by
  unfold nmF at hx
  rw [Option.map_eq_some_iff] at hx
  obtain ⟨y, hy, rfl⟩ := hx
  have hm := nameOf_mem hy
  have hup : isN S.nodes (aboveF S no) = true := by
    cases hi : isN S.nodes (aboveF S no)
    · rw [(isN_false hi).1] at hm; cases hm
    · rfl
  have hmn := (isN_true hup).2.2
  have hc := gn _ hmn y hm
  obtain ⟨c1, c2, c3, c4, c5, c6⟩ := check_parts hc
  have hkn : (getN S.nodes no).kind = 1 := by
    unfold aboveF at hup
    split at hup
    · assumption
    · rw [h.nos.zero (.inl (by decide))] at hup; cases hup
  obtain ⟨in1, in2, in3⟩ := getN_node hkn
  have hn1 := (h.nos.2 _ in3).1
  rw [in2] at hn1
  have hy2 : y.2 = childF S no := by unfold nameOf at hy; simpa using List.find?_some hy
  have hka := above_kind h hkn hup
  have hf : findF (getN S.nodes (aboveF S no)).ents y.1 = childF S no := by rw [← hy2]; exact findF_mem (h.rise _ hmn) hm rfl
  have hov : overF S.devs (childF S no) = overF S.devs no := over_child h o hkn
  refine ⟨?_, c3, hc, ?_, ?_⟩
  · unfold stepE
    rw [if_neg (fun k => k hka), if_neg (by rw [mayB_0 _ _ _ _ _ rfl]; decide), if_neg c3, if_neg (by omega)]
  · unfold stepN; rw [hf, hov]
  · rcases overF_cases h.mounts (show 0 < no by omega) with e | ⟨k, hk, _, e⟩
    · rw [e]; exact ⟨in1, hkn⟩
    · rw [e]
      obtain ⟨q, hq, q1, q2, _⟩ := h.mounts.roots (k + 1) hk
      have := mem_getN h.nos hq
      rw [q1] at this
      exact ⟨this.2, by rw [this.1]; exact q2⟩
theorem home_seek {c : Nat} {S : TreeD} (h : Tre c S) (o : OneOver S) (gn : GoodNames S) (fol : Bool) : ∀ (f k : Nat) (no : Int) (ns : List (List UInt8)), f ≤ k → whL S f no = some ns → hiddenB S k no = false →
    (∀ x ∈ ns, checkN x = 0) ∧ ∀ rest mu, rest ≠ [] → seekF S 0 0 fol 1 (ns.reverse ++ rest) 0 mu = seekF S 0 0 fol (overF S.devs no) rest 0 mu
  | 0, _, _, _, _, hw, _ => by cases hw
  | f + 1, 0, _, _, hk, _, _ => by omega
  | f + 1, k + 1, no, ns, hk, hw, hh => by
    by_cases h1 : no = 1
    · subst h1
      unfold whL at hw
      rw [if_pos rfl] at hw
      cases hw
      refine ⟨by simp, fun rest mu _ => ?_⟩
      rw [over_one h]; rfl
    · rw [wh_succ S f no h1] at hw
      cases hx : nmF S no with
      | none => rw [hx] at hw; cases hw
      | some x =>
        rw [hx] at hw
        have hw' : (whL S f (aboveF S no)).map (x :: ·) = some ns := hw
        rw [Option.map_eq_some_iff] at hw'
        obtain ⟨ns', hw2, rfl⟩ := hw'
        unfold hiddenB at hh
        split at hh
        case isFalse => cases hh
        rename_i hov
        obtain ⟨i1, i2⟩ := home_seek h o gn fol f k _ ns' (by omega) hw2 hh
        obtain ⟨s1, s2, s3, s4, s5, s6⟩ := home_step h o gn hx
        refine ⟨?_, fun rest mu hr => ?_⟩
        · intro y hy
          rcases List.mem_cons.1 hy with rfl | hy
          · exact s3
          · exact i1 y hy
        · rw [List.reverse_cons, List.append_assoc, i2 _ _ (by simp), hov, List.singleton_append, seek_down s1 s2 (by rw [s4]; exact s5) ?_ ?_ hr, s4]
          · rw [s4, s6]; exact fun k => absurd k.1 (by decide)
          · rw [s4, s6]; exact fun k => absurd rfl k.1
/-- The text of a path and its parts. -/
theorem pc_app {x : List UInt8} (hx : 47 ∉ x) (r : List UInt8) : ∀ cur, pc cur (x ++ r) = pc (cur ++ x) r := by
  induction x with
  | nil => intro cur; simp
  | cons a x ih =>
    intro cur
    have h1 : a ≠ 47 := fun e => hx (by simp [e])
    rw [List.cons_append, pc, if_neg h1, ih (fun k => hx (List.mem_cons_of_mem _ k))]
    simp
theorem cat_parts (L : List (List UInt8)) (hL : ∀ x ∈ L, checkN x = 0) (t : List UInt8) (ht : t = [] ∨ t = [47, 46]) : ∀ cur, (pc cur (L.flatMap (fun x => 47 :: x) ++ t)).filter good = [cur].filter good ++ L := by
  induction L with
  | nil =>
    intro cur
    rcases ht with rfl | rfl
    · simp [pc]
    · show (pc cur [47, 46]).filter good = _
      have : pc cur [47, 46] = [cur, [46]] := by simp [pc]
      rw [this, List.append_nil, List.filter_cons, List.filter_cons]
      have h46 : good [46] = false := by decide
      rw [h46]
      simp [List.filter_cons]
  | cons x L ih =>
    intro cur
    obtain ⟨c1, c2, c3, c4, c5, c6⟩ := check_parts (hL x (List.mem_cons_self ..))
    have hg : good x = true := by unfold good; simp [c1, c2]
    rw [List.flatMap_cons, List.cons_append, List.cons_append, pc, if_pos rfl, List.append_assoc, pc_app c4, List.nil_append, List.filter_cons]
    rw [ih (fun y hy => hL y (List.mem_cons_of_mem _ hy)) x]
    have e : [x].filter good = [x] := by rw [List.filter_cons, if_pos hg]; rfl
    rw [e, List.filter_cons]
    split <;> rfl
theorem cat_zero (L : List (List UInt8)) (hL : ∀ x ∈ L, checkN x = 0) : (0 : UInt8) ∉ L.flatMap (fun x => 47 :: x) := by
  intro hm
  rw [List.mem_flatMap] at hm
  obtain ⟨x, hx, h0⟩ := hm
  rcases List.mem_cons.1 h0 with h0 | h0
  · cases h0
  · exact (check_parts (hL x hx)).2.2.2.2.1 h0
theorem pathT_cat (ns : List (List UInt8)) : ns ≠ [] → pathT ns = ns.reverse.flatMap (fun x => 47 :: x) := fun h => by unfold pathT; rw [if_neg h]; rfl
theorem pathT_parts {ns : List (List UInt8)} (h : ∀ x ∈ ns, checkN x = 0) : partsN (pathT ns) = ns.reverse ∧ partsN (pathT ns ++ [47, 46]) = ns.reverse := by
  by_cases h0 : ns = []
  · subst h0; exact ⟨by decide, by decide⟩
  · rw [pathT_cat ns h0]
    have hr : ∀ x ∈ ns.reverse, checkN x = 0 := fun x hx => h x (List.mem_reverse.1 hx)
    have h1 := cat_parts ns.reverse hr [] (.inl rfl) []
    have h2 := cat_parts ns.reverse hr [47, 46] (.inr rfl) []
    rw [List.append_nil] at h1
    exact ⟨h1, h2⟩
theorem pathT_fine {ns : List (List UInt8)} (h : ∀ x ∈ ns, checkN x = 0) (hl : (pathT ns).length ≤ 4000) : pathN (pathT ns) = 0 ∧ pathN (pathT ns ++ [47, 46]) = 0 := by
  have hh : (pathT ns).head? = some 47 := by
    by_cases h0 : ns = []
    · subst h0; rfl
    · rw [pathT_cat ns h0]
      have : ns.reverse ≠ [] := by simpa using h0
      cases hr : ns.reverse with
      | nil => exact absurd hr this
      | cons x l => rfl
  have hz : (0 : UInt8) ∉ pathT ns := by
    by_cases h0 : ns = []
    · subst h0; decide
    · rw [pathT_cat ns h0]; exact cat_zero _ fun x hx => h x (List.mem_reverse.1 hx)
  have hne : pathT ns ≠ [] := by intro e; rw [e] at hh; cases hh
  constructor
  · rw [pathN_no hne, if_neg, if_neg (by omega)]
    rintro (k | k)
    · exact k hh
    · exact hz (by unfold hasB at k; simpa using k)
  · rw [pathN_no (by simp), if_neg, if_neg (by simp; omega)]
    rintro (k | k)
    · refine k ?_
      cases hp : pathT ns with
      | nil => exact absurd hp hne
      | cons a l => rw [hp] at hh; exact hh
    · have : (0 : UInt8) ∈ pathT ns ++ [47, 46] := by unfold hasB at k; simpa using k
      rcases List.mem_append.1 this with k | k
      · exact hz k
      · exact absurd k (by decide)
theorem home_end {c : Nat} {S : TreeD} (h : Tre c S) (o : OneOver S) (gn : GoodNames S) (fol mu : Bool) {f k : Nat} {no : Int} {ns : List (List UInt8)} (hk : f ≤ k) (hw : whL S f no = some ns) (hh : hiddenB S k no = false) :
    (seekF S 0 0 fol 1 ns.reverse 0 mu).2 = 0 ∧ (seekF S 0 0 fol 1 ns.reverse 0 mu).1.no = overF S.devs no := by
  cases f with
  | zero => cases hw
  | succ f =>
    cases k with
    | zero => omega
    | succ k =>
      by_cases h1 : no = 1
      · subst h1
        unfold whL at hw
        rw [if_pos rfl] at hw
        cases hw
        rw [List.reverse_nil, seek_nil]
        exact ⟨rfl, (over_one h).symm⟩
      · rw [wh_succ S f no h1] at hw
        cases hx : nmF S no with
        | none => rw [hx] at hw; cases hw
        | some x =>
          rw [hx] at hw
          have hw' : (whL S f (aboveF S no)).map (x :: ·) = some ns := hw
          rw [Option.map_eq_some_iff] at hw'
          obtain ⟨ns', hw2, rfl⟩ := hw'
          unfold hiddenB at hh
          split at hh
          case isFalse => cases hh
          rename_i hov
          obtain ⟨i1, i2⟩ := home_seek h o gn fol f k _ ns' (by omega) hw2 hh
          obtain ⟨s1, s2, s3, s4, s5, s6⟩ := home_step h o gn hx
          rw [List.reverse_cons, i2 _ _ (by simp), hov, seek_last s1 s2 (by rw [s4]; exact s5) ?_ ?_ rfl, s4]
          · exact ⟨rfl, rfl⟩
          · rw [s4, s6]; exact fun k => absurd k.1 (by decide)
          · rw [s4, s6]; exact fun k => absurd rfl k.1
theorem hidden_le {S : TreeD} : ∀ (f k : Nat) (no : Int), f ≤ k → hiddenB S k no = false → hiddenB S f no = false
  | 0, _, _, _, _ => rfl
  | f + 1, 0, _, hk, _ => by omega
  | f + 1, k + 1, no, hk, hh => by
    unfold hiddenB at hh ⊢
    split
    · rename_i e; rw [if_pos e] at hh; exact hidden_le f k _ (by omega) hh
    · rename_i e; rw [if_neg e] at hh; cases hh
/-- What the law asks. -/
theorem home {c : Nat} {S : TreeD} (h : Tre c S) (o : OneOver S) (gn : GoodNames S) {no : Int} {s : List UInt8} (hw : whereF S no = some s) (hs : s.length ≤ 4000) (hh : hiddenB S (S.last + 1).toNat no = false) :
    (pathF S 0 0 s true).2 = 0 ∧ (pathF S 0 0 s true).1.no = overF S.devs no ∧ (pathF S 0 0 (s ++ [47, 46]) false).2 = 0 ∧ (pathF S 0 0 (s ++ [47, 46]) false).1.no = overF S.devs no := by
  unfold whereF at hw
  rw [Option.map_eq_some_iff] at hw
  obtain ⟨ns, hn, rfl⟩ := hw
  have hc := h.count
  have hk : S.nodes.length + 1 ≤ (S.last + 1).toNat := by omega
  have hck := (home_seek h o gn false _ _ _ _ hk hn hh).1
  obtain ⟨p1, p2⟩ := pathT_parts hck
  obtain ⟨q1, q2⟩ := pathT_fine hck hs
  unfold pathF
  rw [if_pos q1, if_pos q2, p1, p2]
  obtain ⟨a1, a2⟩ := home_end h o gn true (slashB (pathT ns)) hk hn hh
  obtain ⟨b1, b2⟩ := home_end h o gn false (slashB (pathT ns ++ [47, 46])) hk hn hh
  exact ⟨a1, a2, b1, b2⟩
end Go.Proofs.Ytjblimclakfhfaa
