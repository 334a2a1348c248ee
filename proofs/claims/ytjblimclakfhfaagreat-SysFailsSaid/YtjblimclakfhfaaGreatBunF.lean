/- Plain: mounts whose room changes, mounts that come: their roots stay. | Plain: what is true of every tree that the calls make (Tre); it fits (Fit). | The table: Drop. | A drawn region with one late store whose address is made of operations that are bound to it through one another (two steps). | Layer 14: the program's Kill. | Plain: what stays true of a tree in which nodes go too (Live). | Plain: trees stay true where a node goes, or lies elsewhere. -/
import Derived.Test.YtjblimclakfhfaaGreatBunE
import Derived.Test.YtjblimclakfhfaaGreatBunD
import Derived.Test.YtjblimclakfhfaaGreatBunC
namespace Go.Proofs.YtjblimclakfhfaaGreat

theorem hasD_len {ds es : List DevD} (h : es.length = ds.length) (d : Int) : hasD es d = hasD ds d := by unfold hasD; rw [h]
theorem hasD_lt {ds : List DevD} {k : Int} (hh : hasD ds k = true) : 1 ≤ k ∧ (k - 1).toNat < ds.length := by
  unfold hasD at hh
  simp only [Bool.and_eq_true, decide_eq_true_eq] at hh
  omega
theorem rootQ (ds : List DevD) (d : Int) (q : SpaceD) (k : Int) : rootF (setQ ds d q) k = rootF ds k := by
  unfold rootF
  rw [hasD_len (setQ_len ds d q)]
  by_cases hh : hasD ds k = true
  · rw [if_pos hh, if_pos hh]
    have h1 := (hasD_lt hh).2
    have h2 : (k - 1).toNat < (setQ ds d q).length := by rw [setQ_len]; exact h1
    unfold devN
    rw [List.getD_eq_getElem?_getD, List.getD_eq_getElem?_getD, List.getElem?_eq_getElem h1, List.getElem?_eq_getElem h2]
    exact (setQ_at h2 h1).1
  · rw [if_neg hh, if_neg hh]
theorem rootAt {ds : List DevD} {k : Nat} (hk : k < ds.length) : rootF ds ((k : Int) + 1) = ds[k].root := by
  unfold rootF hasD devN
  rw [if_pos (by simp; omega), show ((k : Int) + 1 - 1).toNat = k by omega, List.getD_eq_getElem?_getD, List.getElem?_eq_getElem hk]
  rfl
end Go.Proofs.YtjblimclakfhfaaGreat

namespace Go.Proofs.YtjblimclakfhfaaGreat

/-- What lies above a directory: itself, if it is a mount's root; else a directory of the same mount that has its name. -/
def UpOk (S : TreeD) (n : NodeD) : Prop :=
  (rootF S.devs n.dev = n.no ∧ n.up = n.no) ∨ (rootF S.devs n.dev ≠ n.no ∧ n.up ≠ n.no ∧ ∃ m ∈ S.nodes, m.no = n.up ∧ m.kind = 1 ∧ m.dev = n.dev ∧ ∃ x ∈ m.ents, x.2 = n.no)
/-- A number that a directory may list: not its own, no mount's root, on its own mount. -/
def Kin (S : TreeD) (no dev y : Int) : Prop := y ≠ no ∧ (∀ d ∈ S.devs, y ≠ d.root) ∧ ∀ q ∈ S.nodes, q.no = y → q.dev = dev
/-- All that is true; of the directory k it is not asked that it lies where it says. -/
structure TreB (c : Nat) (k : Int) (S : TreeD) : Prop where
  nos : NosUp S.nodes S.last
  last : 1 ≤ S.last
  devs : 0 < S.devs.length
  eight : S.devs.length ≤ 8
  roots : RootsOk S.devs
  count : S.nodes.length ≤ S.last
  small : ∀ n ∈ S.nodes, n.ents.length ≤ c
  rise : ∀ n ∈ S.nodes, Rise n.ents
  names : NamesOk S
  pos : ∀ n ∈ S.nodes, ∀ x ∈ n.ents, 1 ≤ x.2 ∧ x.2 ≤ S.last
  on : OnDev S
  first : ∃ m ∈ S.nodes, m.no = 1
  one : ∀ n ∈ S.nodes, n.no = 1 → n.kind = 1 ∧ n.dev = 1 ∧ n.up = 1
  root1 : rootF S.devs 1 = 1
  dlinks : ∀ n ∈ S.nodes, n.kind = 1 → n.links = 1
  ups : ∀ n ∈ S.nodes, n.kind = 1 → n.no ≠ k → UpOk S n
  bits : ∀ n ∈ S.nodes, 0 ≤ n.mode ∧ n.mode ≤ 1023 ∧ 1 ≤ n.links ∧ n.links ≤ 1000
  kin : ∀ m ∈ S.nodes, ∀ x ∈ m.ents, Kin S m.no m.dev x.2
  over0 : ∀ h : 0 < S.devs.length, S.devs[0].over = 0
  overs : ∀ k, (h : k + 1 < S.devs.length) → ∃ m ∈ S.nodes, m.no = S.devs[k + 1].over ∧ m.kind = 1 ∧ m.dev ≤ (k : Int) + 1 ∧ rootF S.devs m.dev ≠ m.no
  rootsIn : ∀ k, (h : k < S.devs.length) → ∃ m ∈ S.nodes, m.no = S.devs[k].root ∧ m.kind = 1 ∧ m.dev = (k : Int) + 1
  deep : ∃ d : Int → Nat, ∀ n ∈ S.nodes, n.kind = 1 → n.up ≠ n.no → d n.up < d n.no
abbrev Tre (c : Nat) (S : TreeD) : Prop := TreB c 0 S
theorem Tre.ups0 {c : Nat} {S : TreeD} (h : Tre c S) : ∀ n ∈ S.nodes, n.kind = 1 → UpOk S n := fun n hn hk => h.ups n hn hk (by have := (h.nos.2 n hn).1; omega)
theorem Tre.base {c : Nat} {S : TreeD} (h : Tre c S) (hc : c ≤ 1000000) : Base S := ⟨h.nos, h.last, h.devs, h.eight, h.roots, h.count, fun n hn => by have := h.small n hn; omega⟩
theorem Tre.getN {c : Nat} {S : TreeD} (h : Tre c S) (no : Int) : Rise (getN S.nodes no).ents ∧ (getN S.nodes no).ents.length ≤ c := by
  cases hi : isN S.nodes no
  · rw [(isN_false hi).1]
    exact ⟨List.Pairwise.nil, Nat.zero_le _⟩
  · have := (isN_true hi).2.2
    exact ⟨h.rise _ this, h.small _ this⟩
/-! ### Whoever goes up comes to an end. -/
theorem cnt_lt {ns : List NodeD} {f : Int → Nat} {a b : Int} (hab : f a < f b) (h : ∃ m ∈ ns, m.no = a) : (ns.filter fun m => decide (f m.no < f a)).length < (ns.filter fun m => decide (f m.no < f b)).length := by
  have mono : ∀ l : List NodeD, (l.filter fun m => decide (f m.no < f a)).length ≤ (l.filter fun m => decide (f m.no < f b)).length := by
    intro l
    induction l with
    | nil => exact Nat.le_refl _
    | cons x l ih =>
      simp only [List.filter_cons]
      by_cases h1 : f x.no < f a
      · rw [if_pos (by simpa using h1), if_pos (by simp; omega)]; simp only [List.length_cons]; omega
      · rw [if_neg (by simpa using h1)]
        split
        · simp only [List.length_cons]; omega
        · exact ih
  induction ns with
  | nil => obtain ⟨m, hm, _⟩ := h; cases hm
  | cons x l ih =>
    obtain ⟨m, hm, he⟩ := h
    simp only [List.filter_cons]
    rcases List.mem_cons.1 hm with rfl | hm
    · have := mono l
      rw [he, if_neg (by simp), if_pos (by simpa using hab)]
      simp only [List.length_cons]; omega
    · have := ih ⟨m, hm, he⟩
      by_cases h1 : f x.no < f a
      · rw [if_pos (by simpa using h1), if_pos (by simp; omega)]; simp only [List.length_cons]; omega
      · rw [if_neg (by simpa using h1)]
        split
        · simp only [List.length_cons]; omega
        · exact this
/-- A rank of any kind makes one that is not above the number of nodes. -/
theorem rank_of {S : TreeD} {f : Int → Nat} (h : ∀ no, no ≠ 0 → aboveF S no ≠ 0 → aboveF S no ≠ no → f (aboveF S no) < f no ∧ ∃ m ∈ S.nodes, m.no = aboveF S no) : ∃ r, Rank S r :=
  ⟨fun no => (S.nodes.filter fun m => decide (f m.no < f no)).length, fun no h0 h1 h2 => cnt_lt (h no h0 h1 h2).1 (h no h0 h1 h2).2, fun _ => List.length_filter_le ..⟩
theorem Tre.up {c : Nat} {S : TreeD} (h : Tre c S) {no : Int} (hk : (Proofs.YtjblimclakfhfaaGreat.getN S.nodes no).kind = 1) : UpOk S (Proofs.YtjblimclakfhfaaGreat.getN S.nodes no) := h.ups0 _ (getN_node hk).2.2 hk
/-- One step up. -/
theorem Tre.above {c : Nat} {S : TreeD} (h : Tre c S) (no : Int) (h0 : aboveF S no ≠ 0) (hs : aboveF S no ≠ no) :
    ∃ n ∈ S.nodes, ∃ m ∈ S.nodes, n.no = no ∧ n.kind = 1 ∧ m.no = aboveF S no ∧ m.kind = 1 ∧ (m.dev < n.dev ∨ (m.dev = n.dev ∧ m.no = n.up ∧ n.up ≠ n.no)) := by
  unfold aboveF at h0 hs ⊢
  by_cases hk : (Proofs.YtjblimclakfhfaaGreat.getN S.nodes no).kind = 1
  · obtain ⟨_, hn, hm⟩ := getN_node hk
    rw [if_pos hk] at h0 hs ⊢
    by_cases hr : rootF S.devs (Proofs.YtjblimclakfhfaaGreat.getN S.nodes no).dev = no ∧ 1 < (Proofs.YtjblimclakfhfaaGreat.getN S.nodes no).dev
    · rw [if_pos hr] at h0 hs ⊢
      rcases rootF_zero h.roots (Proofs.YtjblimclakfhfaaGreat.getN S.nodes no).dev with ⟨e1, _⟩ | ⟨k, hkl, e1, _, e3, e4, e5, _⟩
      · obtain ⟨h1, h2⟩ := hr
        rw [e1] at h1
        rw [← h1] at hm hn
        have := h.nos.2 _ hm
        omega
      · obtain ⟨j, rfl⟩ : ∃ j, k = j + 1 := ⟨k - 1, by omega⟩
        rw [e3] at h0 hs ⊢
        obtain ⟨m, hm2, o1, o2, o3, o4⟩ := h.overs j hkl
        have hg := (mem_getN h.nos hm2).1
        rw [o1] at hg
        rw [hg] at h0 hs ⊢
        rcases h.ups0 m hm2 o2 with ⟨u1, _⟩ | ⟨_, u2, m2, hm3, u3, u4, u5, _⟩
        · exact absurd u1 o4
        · exact ⟨_, hm, m2, hm3, hn, hk, u3, u4, .inl (by omega)⟩
    · rw [if_neg hr] at h0 hs ⊢
      rcases h.up hk with ⟨_, u2⟩ | ⟨_, u2, m2, hm3, u3, u4, u5, _⟩
      · exact absurd (u2.trans hn) hs
      · exact ⟨_, hm, m2, hm3, hn, hk, u3, u4, .inr ⟨u5, u3, u2⟩⟩
  · rw [if_neg hk] at h0; exact absurd rfl h0
theorem Tre.rank {c : Nat} {S : TreeD} (h : Tre c S) : ∃ r, Rank S r := by
  obtain ⟨d, hd⟩ := h.deep
  obtain ⟨N, hN⟩ : ∃ N, N = S.nodes.length + 1 := ⟨_, rfl⟩
  obtain ⟨e, he⟩ : ∃ e : Int → Nat, e = fun no => (S.nodes.filter fun m => decide (d m.no < d no)).length := ⟨_, rfl⟩
  have hb : ∀ no, e no < N := fun no => by rw [he, hN]; exact Nat.lt_succ_of_le (List.length_filter_le ..)
  refine rank_of (f := fun no => (Proofs.YtjblimclakfhfaaGreat.getN S.nodes no).dev.toNat * N + e no) fun no h0 h1 h2 => ?_
  obtain ⟨n, hn, m, hm, a1, a2, a3, a4, a5⟩ := h.above no h1 h2
  have g1 := (mem_getN h.nos hn).1
  have g2 := (mem_getN h.nos hm).1
  rw [a1] at g1
  rw [a3] at g2
  refine ⟨?_, m, hm, a3⟩
  show (Proofs.YtjblimclakfhfaaGreat.getN S.nodes (aboveF S no)).dev.toNat * N + e (aboveF S no) < (Proofs.YtjblimclakfhfaaGreat.getN S.nodes no).dev.toNat * N + e no
  rw [g1, g2]
  have p1 := (hasD_lt (h.on _ hn).1).1
  have p2 := (hasD_lt (h.on _ hm).1).1
  rcases a5 with a5 | ⟨a5, a6, a7⟩
  · have q1 : m.dev.toNat + 1 ≤ n.dev.toNat := by omega
    have q2 := hb (aboveF S no)
    have q3 := Nat.mul_le_mul_right N q1
    rw [Nat.add_mul] at q3
    omega
  · rw [a5]
    have : e (aboveF S no) < e no := by
      rw [he]
      refine cnt_lt ?_ ⟨m, hm, a3⟩
      have := hd n hn a2 a7
      rw [← a6, a3, a1] at this
      exact this
    omega
theorem Tre.aboveOne {c : Nat} {S : TreeD} (h : Tre c S) : aboveF S 1 = 1 := by
  obtain ⟨m, hm, he⟩ := h.first
  have hg := (mem_getN h.nos hm).1
  rw [he] at hg
  obtain ⟨a1, a2, a3⟩ := h.one m hm he
  unfold aboveF
  rw [hg, if_pos a1, if_neg (by rw [a2]; omega), a3]
theorem Tre.fit {c : Nat} {S : TreeD} (h : Tre c S) (hc : c ≤ 1000000) (hl : S.last ≤ 1000) : Fit S := by
  refine ⟨h.base hc, h.names, ?_, h.aboveOne, h.rank, hl⟩
  intro no h0 h1 h2
  rcases rootF_zero h.roots (Proofs.YtjblimclakfhfaaGreat.getN S.nodes no).dev with ⟨e1, _⟩ | ⟨k, hkl, e1, _, e3, e4, e5, _⟩
  · rw [e1] at h1; exact absurd h1.symm h0
  · have : (Proofs.YtjblimclakfhfaaGreat.getN S.nodes no).dev = 1 := by omega
    rw [this, h.root1] at h1
    rw [← h1]; exact h.aboveOne
/-! ### It stays. -/
theorem mem_set' {S : TreeD} {n m : NodeD} (h : m ∈ S.nodes) (hne : m.no ≠ n.no) : m ∈ (setT S n).nodes := by
  have := set_has (n := n) h
  rw [if_neg hne] at this
  exact this
theorem mem_set_self {S : TreeD} {n m : NodeD} (h : m ∈ S.nodes) (he : m.no = n.no) : n ∈ (setT S n).nodes := by
  have := set_has (n := n) h
  rw [if_pos he] at this
  exact this
theorem mem_setT {S : TreeD} {n m : NodeD} (h : m ∈ (setT S n).nodes) : (m ∈ S.nodes ∧ m.no ≠ n.no) ∨ m = n := by
  unfold setT setN at h
  obtain ⟨x, hx, e⟩ := List.mem_map.1 h
  split at e
  · exact .inr e.symm
  · rename_i hne
    rw [← e]
    exact .inl ⟨hx, by simpa using hne⟩
/-- A node is put in the place of the one of its number, alike in kind, mount and the directory above; all directories that lie in it keep their names. -/
theorem tre_set {c c' : Nat} {k k' : Int} {S : TreeD} (h : TreB c k S) (hkk : k = 0 ∨ k = k') {n : NodeD} (hi : isN S.nodes n.no = true) (hcc : c ≤ c') (hk : n.kind = (getN S.nodes n.no).kind) (hv : n.dev = (getN S.nodes n.no).dev) (hu : n.up = (getN S.nodes n.no).up)
    (hl : n.kind = 1 → n.links = 1) (hr : Rise n.ents) (hn : ∀ x ∈ n.ents, x.1 ≠ [] ∧ x.1.length ≤ 255) (hp : ∀ x ∈ n.ents, 1 ≤ x.2 ∧ x.2 ≤ S.last) (hs : n.ents.length ≤ c') (hd : n.data.length ≤ 1048576)
    (hb : 0 ≤ n.mode ∧ n.mode ≤ 1023 ∧ 1 ≤ n.links ∧ n.links ≤ 1000) (hx : ∀ x ∈ n.ents, Kin S n.no n.dev x.2)
    (keep : ∀ q ∈ S.nodes, q.kind = 1 → q.no ≠ k' → q.up = n.no → q.no ≠ n.no → ∃ x ∈ n.ents, x.2 = q.no) : TreB c' k' (setT S n) := by
  have hm0 := (isN_true hi).2
  obtain ⟨m0, hm0e⟩ : ∃ m0, m0 = Proofs.YtjblimclakfhfaaGreat.getN S.nodes n.no := ⟨_, rfl⟩
  rw [← hm0e] at hk hv hu hm0
  have same : ∀ m ∈ S.nodes, m.no = n.no → m = m0 := fun m hm e => by
    have := (mem_getN h.nos hm).1
    rw [e] at this
    rw [hm0e, this]
  have move : ∀ m ∈ S.nodes, ∃ m' ∈ (setT S n).nodes, m'.no = m.no ∧ m'.kind = m.kind ∧ m'.dev = m.dev := by
    intro m hm
    by_cases e : m.no = n.no
    · have := same m hm e
      subst this
      exact ⟨n, mem_set_self hm e, e.symm, hk, hv⟩
    · exact ⟨m, mem_set' hm e, rfl, rfl, rfl⟩
  have upk : ∀ q ∈ S.nodes, q.kind = 1 → q.no ≠ k' → (q.no ≠ n.no ∨ q = m0) → ∀ q', q'.no = q.no → q'.dev = q.dev → q'.up = q.up → UpOk (setT S n) q' := by
    intro q hq hqk hqk' hqn q' e1 e2 e3
    unfold UpOk
    rw [e1, e2, e3]
    have hq0 : q.no ≠ k := by
      rcases hkk with e | e
      · have := (h.nos.2 q hq).1; omega
      · rw [e]; exact hqk'
    rcases h.ups q hq hqk hq0 with ⟨u1, u2⟩ | ⟨u1, u2, m, hm, u3, u4, u5, x, hx, u6⟩
    · exact .inl ⟨u1, u2⟩
    · refine .inr ⟨u1, u2, ?_⟩
      by_cases e : m.no = n.no
      · have hqne : q.no ≠ n.no := fun e' => u2 (by rw [← u3, e, e'])
        obtain ⟨y, hy, hy2⟩ := keep q hq hqk hqk' (by rw [← u3, e]) hqne
        have := same m hm e
        subst this
        exact ⟨n, mem_set_self hm e, by rw [← u3, e], by rw [hk]; exact u4, by rw [hv]; exact u5, y, hy, hy2⟩
      · exact ⟨m, mem_set' hm e, u3, u4, u5, x, hx, u6⟩
  refine ⟨h.nos.set n, h.last, h.devs, h.eight, h.roots, ?_, ?_, ?_, ?_, ?_, ?_, ?_, ?_, h.root1, ?_, ?_, ?_, ?_, h.over0, ?_, ?_, ?_⟩
  · show ((setN S.nodes n).length : Int) ≤ S.last; rw [setN_len]; exact h.count
  · intro m hm
    rcases mem_setT hm with ⟨hm, _⟩ | rfl
    · have := h.small m hm; omega
    · exact hs
  · intro m hm
    rcases mem_setT hm with ⟨hm, _⟩ | rfl
    · exact h.rise m hm
    · exact hr
  · intro m hm
    rcases mem_setT hm with ⟨hm, _⟩ | rfl
    · exact h.names m hm
    · exact hn
  · intro m hm
    rcases mem_setT hm with ⟨hm, _⟩ | rfl
    · exact h.pos m hm
    · exact hp
  · intro m hm
    rcases mem_setT hm with ⟨hm, _⟩ | rfl
    · exact h.on m hm
    · exact ⟨by rw [hv]; exact (h.on _ hm0.2).1, hd⟩
  · obtain ⟨m, hm, e⟩ := h.first
    obtain ⟨m', hm', e', _⟩ := move m hm
    exact ⟨m', hm', e'.trans e⟩
  · intro m hm e
    rcases mem_setT hm with ⟨hm, _⟩ | rfl
    · exact h.one m hm e
    · have := h.one _ hm0.2 (hm0.1.trans e)
      rw [hk, hv, hu]; exact this
  · intro m hm hmk
    rcases mem_setT hm with ⟨hm, _⟩ | rfl
    · exact h.dlinks m hm hmk
    · exact hl hmk
  · intro m hm hmk hmk'
    rcases mem_setT hm with ⟨hm, hne⟩ | rfl
    · exact upk m hm hmk hmk' (.inl hne) m rfl rfl rfl
    · exact upk m0 hm0.2 (hk.symm.trans hmk) (by rw [hm0.1]; exact hmk') (.inr rfl) m hm0.1.symm hv hu
  · intro m hm
    rcases mem_setT hm with ⟨hm, _⟩ | rfl
    · exact h.bits m hm
    · exact hb
  · have kset : ∀ {no dev y : Int}, Kin S no dev y → Kin (setT S n) no dev y := fun hK => ⟨hK.1, hK.2.1, fun q hq e => by
      rcases mem_setT hq with ⟨hq, _⟩ | rfl
      · exact hK.2.2 q hq e
      · rw [hv]; exact hK.2.2 m0 hm0.2 (hm0.1.trans e)⟩
    intro m hm x hxm
    rcases mem_setT hm with ⟨hm, _⟩ | rfl
    · exact kset (h.kin m hm x hxm)
    · exact kset (hx x hxm)
  · intro j hj
    obtain ⟨m, hm, o1, o2, o3, o4⟩ := h.overs j hj
    obtain ⟨m', hm', e1, e2, e3⟩ := move m hm
    exact ⟨m', hm', e1.trans o1, e2.trans o2, by rw [e3]; exact o3, by rw [e3, e1]; exact o4⟩
  · intro j hj
    obtain ⟨m, hm, o1, o2, o3⟩ := h.rootsIn j hj
    obtain ⟨m', hm', e1, e2, e3⟩ := move m hm
    exact ⟨m', hm', e1.trans o1, e2.trans o2, e3.trans o3⟩
  · obtain ⟨d, hdd⟩ := h.deep
    refine ⟨d, fun m hm hmk hmu => ?_⟩
    rcases mem_setT hm with ⟨hm, _⟩ | rfl
    · exact hdd m hm hmk hmu
    · have := hdd m0 hm0.2 (hk.symm.trans hmk) (by rw [← hu, hm0.1]; exact hmu)
      rw [← hu, hm0.1] at this
      exact this
/-- Mounts' room, and the last number, change alone. -/
theorem tre_room {c : Nat} {k : Int} {S : TreeD} (h : TreB c k S) (d : Int) (q : SpaceD) (hq : Fine q) (l : Int) (hl : S.last ≤ l) : TreB c k ⟨S.nodes, setQ S.devs d q, l⟩ := by
  have hro : RootsOk (setQ S.devs d q) := roots_setQ h.roots _ _ hq
  obtain ⟨Q, hQ⟩ : ∃ Q, Q = setQ S.devs d q := ⟨_, rfl⟩
  have hlen : Q.length = S.devs.length := by rw [hQ, setQ_len]
  have hat : ∀ k, (hk : k < Q.length) → (hk2 : k < S.devs.length) → Q[k].root = S.devs[k].root ∧ Q[k].over = S.devs[k].over := by
    intro k hk hk2
    subst hQ
    exact setQ_at hk hk2
  have hrf : ∀ i, rootF Q i = rootF S.devs i := fun i => by rw [hQ]; exact rootQ _ _ _ _
  have hh : ∀ i, hasD Q i = hasD S.devs i := fun i => hasD_len hlen i
  rw [← hQ] at hro ⊢
  refine ⟨⟨h.nos.1, fun n hn => ⟨(h.nos.2 n hn).1, by have := (h.nos.2 n hn).2; show n.no ≤ l; omega⟩⟩, by have := h.last; show 1 ≤ l; omega, by show 0 < Q.length; rw [hlen]; exact h.devs, by show Q.length ≤ 8; rw [hlen]; exact h.eight, hro,
    by have := h.count; show (S.nodes.length : Int) ≤ l; omega, h.small, h.rise, h.names, fun n hn x hx => ⟨(h.pos n hn x hx).1, by have := (h.pos n hn x hx).2; show x.2 ≤ l; omega⟩, fun n hn => ⟨(hh _).trans (h.on n hn).1, (h.on n hn).2⟩, h.first, h.one, (hrf 1).trans h.root1, h.dlinks, ?_, h.bits, ?_, ?_, ?_, ?_, h.deep⟩
  · intro n hn hk hnk
    unfold UpOk
    show (rootF Q n.dev = n.no ∧ _) ∨ (rootF Q n.dev ≠ n.no ∧ _)
    rw [hrf]; exact h.ups n hn hk hnk
  · intro m hm x hx
    have hK := h.kin m hm x hx
    refine ⟨hK.1, fun d hd => ?_, hK.2.2⟩
    obtain ⟨i, hi, rfl⟩ := List.getElem_of_mem hd
    have hi2 : i < S.devs.length := by have : i < Q.length := hi; omega
    show x.2 ≠ Q[i].root
    rw [(hat i hi hi2).1]
    exact hK.2.1 _ (List.getElem_mem hi2)
  · intro h0
    exact ((hat 0 h0 h.devs).2).trans (h.over0 h.devs)
  · intro k hk
    have hk2 : k + 1 < S.devs.length := by have : k + 1 < Q.length := hk; omega
    obtain ⟨m, hm, o1, o2, o3, o4⟩ := h.overs k hk2
    exact ⟨m, hm, o1.trans (hat (k + 1) hk hk2).2.symm, o2, o3, by show rootF Q m.dev ≠ m.no; rw [hrf]; exact o4⟩
  · intro k hk
    have hk2 : k < S.devs.length := by have : k < Q.length := hk; omega
    obtain ⟨m, hm, o1, o2⟩ := h.rootsIn k hk2
    exact ⟨m, hm, o1.trans (hat k hk hk2).1.symm, o2⟩
/-- A node comes: the last number is its own. -/
theorem tre_app {c : Nat} {S : TreeD} (h : Tre c S) {n : NodeD} (hno : n.no = S.last) (hlt : ∀ m ∈ S.nodes, m.no < S.last) (hc : (S.nodes.length : Int) + 1 ≤ S.last) (he : n.ents = []) (hd : n.data.length ≤ 1048576) (hh : hasD S.devs n.dev = true) (hb : 0 ≤ n.mode ∧ n.mode ≤ 1023 ∧ 1 ≤ n.links ∧ n.links ≤ 1000) (hkin : ∀ m ∈ S.nodes, ∀ x ∈ m.ents, x.2 = n.no → n.dev = m.dev)
    (hk : n.kind = 1 → n.links = 1 ∧ rootF S.devs n.dev ≠ n.no ∧ ∃ m ∈ S.nodes, m.no = n.up ∧ m.kind = 1 ∧ m.dev = n.dev ∧ ∃ x ∈ m.ents, x.2 = n.no) : Tre c ⟨S.nodes ++ [n], S.devs, S.last⟩ := by
  have sub : ∀ m ∈ S.nodes, m ∈ S.nodes ++ [n] := fun m hm => List.mem_append_left _ hm
  have h1 := h.last
  have new : ∀ {m : NodeD}, m ∈ S.nodes ++ [n] → m ∈ S.nodes ∨ m = n := fun hm => by
    rcases List.mem_append.1 hm with hm | hm
    · exact .inl hm
    · exact .inr (List.mem_singleton.1 hm)
  have hupn : n.kind = 1 → n.up < n.no := fun hkk => by
    obtain ⟨_, _, m, hm, e, _⟩ := hk hkk
    have := hlt m hm
    omega
  refine ⟨⟨?_, ?_⟩, h.last, h.devs, h.eight, h.roots, ?_, ?_, ?_, ?_, ?_, ?_, ?_, ?_, h.root1, ?_, ?_, ?_, ?_, h.over0, ?_, ?_, ?_⟩
  · rw [List.pairwise_append]
    refine ⟨h.nos.1, List.pairwise_singleton .., fun a ha b hb => ?_⟩
    rw [List.mem_singleton] at hb
    subst hb
    rw [hno]; exact hlt a ha
  · intro m hm
    rcases new hm with hm | rfl
    · exact h.nos.2 m hm
    · rw [hno]; exact ⟨h1, Int.le_refl _⟩
  · show ((S.nodes ++ [n]).length : Int) ≤ S.last
    simp; exact hc
  · intro m hm
    rcases new hm with hm | rfl
    · exact h.small m hm
    · rw [he]; exact Nat.zero_le _
  · intro m hm
    rcases new hm with hm | rfl
    · exact h.rise m hm
    · rw [he]; exact List.Pairwise.nil
  · intro m hm
    rcases new hm with hm | rfl
    · exact h.names m hm
    · intro x hx; rw [he] at hx; cases hx
  · intro m hm
    rcases new hm with hm | rfl
    · exact h.pos m hm
    · intro x hx; rw [he] at hx; cases hx
  · intro m hm
    rcases new hm with hm | rfl
    · exact h.on m hm
    · exact ⟨hh, hd⟩
  · obtain ⟨m, hm, e⟩ := h.first
    exact ⟨m, sub m hm, e⟩
  · intro m hm e
    rcases new hm with hm | rfl
    · exact h.one m hm e
    · obtain ⟨m, hm, e2⟩ := h.first
      have := hlt m hm
      omega
  · intro m hm hmk
    rcases new hm with hm | rfl
    · exact h.dlinks m hm hmk
    · exact (hk hmk).1
  · intro m hm hmk _
    rcases new hm with hm | rfl
    · rcases h.ups0 m hm hmk with u | ⟨u1, u2, q, hq, u3⟩
      · exact .inl u
      · exact .inr ⟨u1, u2, q, sub q hq, u3⟩
    · obtain ⟨_, k2, q, hq, k3⟩ := hk hmk
      exact .inr ⟨k2, by have := hupn hmk; omega, q, sub q hq, k3⟩
  · intro m hm
    rcases new hm with hm | rfl
    · exact h.bits m hm
    · exact hb
  · intro m hm x hx
    rcases new hm with hm1 | rfl
    · have hK := h.kin m hm1 x hx
      have hkk := hkin m hm1 x hx
      refine ⟨hK.1, hK.2.1, fun q hq e => ?_⟩
      rcases new hq with hq | e2
      · exact hK.2.2 q hq e
      · rw [e2] at e ⊢
        exact hkk e.symm
    · rw [he] at hx; cases hx
  · intro k hkk
    obtain ⟨m, hm, o⟩ := h.overs k hkk
    exact ⟨m, sub m hm, o⟩
  · intro k hkk
    obtain ⟨m, hm, o⟩ := h.rootsIn k hkk
    exact ⟨m, sub m hm, o⟩
  · obtain ⟨d, hdd⟩ := h.deep
    refine ⟨fun k => if k = n.no then d n.up + 1 else d k, fun m hm hmk hmu => ?_⟩
    rcases new hm with hm | rfl
    · have e1 : m.no ≠ n.no := by have := hlt m hm; omega
      have e2 : m.up ≠ n.no := by
        rcases h.ups0 m hm hmk with ⟨_, u⟩ | ⟨_, _, q, hq, u, _⟩
        · rw [u]; exact e1
        · have := hlt q hq; omega
      show (if m.up = n.no then _ else _) < (if m.no = n.no then _ else _)
      rw [if_neg e1, if_neg e2]
      exact hdd m hm hmk hmu
    · show (if m.up = m.no then _ else _) < (if m.no = m.no then _ else _)
      rw [if_pos rfl, if_neg hmu]
      omega
/-- A node comes under a name: the directory's entries get it. -/
theorem tre_come {c : Nat} {S : TreeD} (h : Tre c S) {d n : NodeD} {nm : List UInt8} (hi : isN S.nodes d.no = true) (hdk : (getN S.nodes d.no).kind = 1) (hk : d.kind = 1) (hv : d.dev = (getN S.nodes d.no).dev) (hu : d.up = (getN S.nodes d.no).up)
    (hl : d.links = 1) (hdat : d.data.length ≤ 1048576) (hen : d.ents = putF (getN S.nodes d.no).ents (nm, S.last + 1)) (hfree : findF (getN S.nodes d.no).ents nm = 0) (hnm : nm ≠ [] ∧ nm.length ≤ 255)
    (hne : n.ents = []) (hnd : n.data.length ≤ 1048576) (hdev : n.dev = d.dev) (hnk : n.kind = 1 → n.links = 1 ∧ n.up = d.no) (hdm : d.mode = (getN S.nodes d.no).mode) (hnb : 0 ≤ n.mode ∧ n.mode ≤ 1023 ∧ n.links = 1) (h0 : makeE S n = 0) : Tre (c + 1) (setT (makeT S n) d) := by
  have hm0 := (isN_true hi).2
  obtain ⟨m0, hm0e⟩ : ∃ m0, m0 = Proofs.YtjblimclakfhfaaGreat.getN S.nodes d.no := ⟨_, rfl⟩
  rw [← hm0e] at hv hu hen hm0 hdk hfree hdm
  have hhas : hasD S.devs n.dev = true := by rw [hdev, hv]; exact (h.on _ hm0.2).1
  have hfine : Fine (takeQ (devN S.devs n.dev).q (blocksF n.kind n.data.length) 1) := by
    rcases rootF_zero h.roots n.dev with ⟨_, e2⟩ | ⟨k, hk, _, _, e3, _, _, e6⟩
    · rw [e2] at hhas; cases hhas
    · rw [e3]; exact takeQ_fine e6
  have hA := tre_room h n.dev _ hfine (S.last + 1) (by omega)
  have hlast : ∀ m ∈ S.nodes, m.no < S.last + 1 := fun m hm => by have := (h.nos.2 m hm).2; omega
  have hdno : d.no ≠ S.last + 1 := by have := hlast _ hm0.2; omega
  have hput : ∀ x ∈ m0.ents, x.1 ≠ nm := by
    intro x hx e
    unfold findF at hfree
    cases hf : m0.ents.find? (fun x => x.1 == nm) with
    | none => have := List.find?_eq_none.1 hf x hx; simp at this; exact this e
    | some y =>
      rw [hf] at hfree
      have := (h.pos _ hm0.2 y (List.mem_of_find?_eq_some hf)).1
      simp only at hfree
      omega
  have hkeep : ∀ x ∈ m0.ents, x ∈ d.ents := by
    intro x hx
    rw [hen]
    unfold putF lessF moreF
    simp only [List.mem_append, List.mem_filter, List.mem_singleton]
    rcases bl_tri x.1 nm with g | g | g
    · exact .inl (.inl ⟨hx, g⟩)
    · exact absurd g (hput x hx)
    · exact .inr ⟨hx, g⟩
  have hnew : (nm, S.last + 1) ∈ d.ents := by rw [hen]; unfold putF; simp
  obtain ⟨S1, hS1⟩ : ∃ S1 : TreeD, S1 = ⟨S.nodes, setQ S.devs n.dev (takeQ (devN S.devs n.dev).q (blocksF n.kind n.data.length) 1), S.last + 1⟩ := ⟨_, rfl⟩
  rw [← hS1] at hA
  have hN1 : S1.nodes = S.nodes := by rw [hS1]
  have hD1 : ∀ i, rootF S1.devs i = rootF S.devs i := fun i => by rw [hS1]; exact rootQ _ _ _ _
  have hB : Tre (c + 1) (setT S1 d) := by
    refine tre_set hA (.inl rfl) (by rw [hN1]; exact hi) (by omega) (by rw [hN1, ← hm0e, hdk]; exact hk) (by rw [hN1, ← hm0e]; exact hv) (by rw [hN1, ← hm0e]; exact hu) (fun _ => hl) ?_ ?_ ?_ ?_ hdat (by have := h.bits _ hm0.2; rw [hdm, hl]; omega) ?_ ?_
    · rw [hen]; exact rise_putF _ (h.rise _ hm0.2)
    · intro x hx
      rw [hen] at hx
      rcases mem_putF hx with hx | rfl
      · exact h.names _ hm0.2 x hx
      · exact hnm
    · intro x hx
      rw [hen] at hx
      rw [hS1]
      have := h.last
      rcases mem_putF hx with hx | rfl
      · have := h.pos _ hm0.2 x hx
        exact ⟨this.1, by show x.2 ≤ S.last + 1; omega⟩
      · exact ⟨by show 1 ≤ S.last + 1; omega, Int.le_refl _⟩
    · rw [hen]
      have := putF_len m0.ents (nm, S.last + 1)
      have := h.small _ hm0.2
      omega
    · intro x hx
      rw [hen] at hx
      rw [← hm0.1, hv]
      rcases mem_putF hx with hx | rfl
      · have hK := hA.kin m0 (by rw [hN1]; exact hm0.2) x hx
        exact hK
      · have hlm := hlast _ hm0.2
        refine ⟨by show S.last + 1 ≠ m0.no; omega, fun q hq => ?_, fun q hq e => ?_⟩
        · obtain ⟨i, hi, rfl⟩ := List.getElem_of_mem hq
          obtain ⟨m, hm, o1, _⟩ := hA.rootsIn i hi
          rw [hN1] at hm
          have := hlast m hm
          show S.last + 1 ≠ _
          omega
        · rw [hN1] at hq
          have := hlast q hq
          have : q.no = S.last + 1 := e
          omega
    · intro q hq hqk _ hqu hqn
      rw [hN1] at hq
      rcases h.ups0 q hq hqk with ⟨_, u2⟩ | ⟨_, _, m, hm, u3, _, _, x, hx, u6⟩
      · exact absurd (u2.symm.trans hqu) hqn
      · have : m = m0 := by
          have := (mem_getN h.nos hm).1
          rw [u3, hqu] at this
          rw [hm0e, this]
        subst this
        exact ⟨x, hkeep x hx, u6⟩
  have hset : setT (makeT S n) d = ⟨(setT S1 d).nodes ++ [{ n with no := S.last + 1 }], (setT S1 d).devs, (setT S1 d).last⟩ := by
    unfold makeT setT setN
    rw [if_pos h0, hS1]
    simp only [List.map_append, List.map_cons, List.map_nil]
    rw [if_neg (by simpa using (Ne.symm hdno))]
  rw [hset]
  have hlS : (setT S1 d).last = S.last + 1 := by rw [hS1]; rfl
  have hdS : (setT S1 d).devs = S1.devs := rfl
  refine tre_app hB (by rw [hlS]) ?_ ?_ hne hnd ?_ (by show 0 ≤ n.mode ∧ n.mode ≤ 1023 ∧ 1 ≤ n.links ∧ n.links ≤ 1000; omega) ?_ ?_
  · intro m hm
    rw [hlS]
    rcases mem_setT hm with ⟨hm, _⟩ | rfl
    · rw [hN1] at hm; exact hlast m hm
    · have := hlast _ hm0.2; omega
  · show ((setN S1.nodes d).length : Int) + 1 ≤ _
    rw [setN_len, hN1, hlS]
    have := h.count
    omega
  · rw [hdS]
    show hasD S1.devs n.dev = true
    rw [hS1]
    exact (hasD_len (setQ_len _ _ _) _).trans hhas
  · intro m hm x hx e
    have e' : x.2 = S.last + 1 := e
    show n.dev = m.dev
    rcases mem_setT hm with ⟨hm, _⟩ | rfl
    · rw [hN1] at hm
      have := (h.pos m hm x hx).2
      omega
    · exact hdev
  · intro hkk
    obtain ⟨k1, k2⟩ := hnk hkk
    refine ⟨k1, ?_, d, ?_, k2.symm, hk, hdev.symm, _, hnew, rfl⟩
    · rw [hdS, hD1]
      show rootF S.devs n.dev ≠ S.last + 1
      rcases rootF_zero h.roots n.dev with ⟨e1, _⟩ | ⟨k, hkl, e1, _, e3, e4, e5, _⟩
      · have := h.last; omega
      · obtain ⟨m, hm, o1, _⟩ := h.rootsIn k hkl
        have := hlast m hm
        omega
    · exact mem_set_self (S := S1) (by rw [hN1]; exact hm0.2) hm0.1
theorem tre_first {b n : Int} (hl : limitsF b n = true) : Tre 0 (rootT emptyT 0 b n) := by
  have hg := grown_first hl
  have one : ∀ {m : NodeD}, m ∈ (rootT emptyT 0 b n).nodes → m = rootNode emptyT := fun hm => by simpa [rootT, emptyT] using hm
  refine ⟨hg.good.nos, hg.good.last, hg.good.devs, hg.good.eight, hg.good.roots, hg.good.count, ?_, hg.good.rise, hg.names, ?_, hg.on, hg.first, hg.one, hg.dev1, ?_, ?_, ?_, ?_, fun _ => rfl, ?_, ?_, ⟨fun _ => 0, ?_⟩⟩
  · intro m hm; rw [one hm]; exact Nat.le_refl _
  · intro m hm x hx; rw [one hm] at hx; simp [rootNode, nodeZ] at hx
  · intro m hm _; rw [one hm]; rfl
  · intro m hm _ _; rw [one hm]; exact .inl ⟨rfl, rfl⟩
  · intro m hm; rw [one hm]; exact ⟨by show (0 : Int) ≤ 493; decide, by show (493 : Int) ≤ 1023; decide, by show (1 : Int) ≤ 1; decide, by show (1 : Int) ≤ 1000; decide⟩
  · intro m hm x hx; rw [one hm] at hx; simp [rootNode, nodeZ] at hx
  · intro k hk
    have : k + 1 < 1 := hk
    omega
  · intro k hk
    have hk2 : k < 1 := hk
    have : k = 0 := by omega
    subst this
    exact ⟨rootNode emptyT, List.mem_append_right _ (List.mem_singleton.2 rfl), rfl, rfl, rfl⟩
  · intro m hm _ hu; rw [one hm] at hu; exact absurd rfl hu
theorem tre_mono {c c' : Nat} {k : Int} {S : TreeD} (h : TreB c k S) (hc : c ≤ c') : TreB c' k S :=
  { h with small := fun n hn => by have := h.small n hn; omega }
end Go.Proofs.YtjblimclakfhfaaGreat

namespace Go.Proofs.YtjblimclakfhfaaGreat
open Go.ChangeShapes Go.WideShapes Go.ChangeAt Go.RowKit

theorem dropN_at {ns : List NodeD} {last no : Int} (hu : NosUp ns last) {k : Nat} (hk : k < ns.length) (h : ns[k].no = no) : dropN ns no = ns.eraseIdx k := by
  subst h
  have hp := hu.1
  clear hu
  unfold dropN
  induction ns generalizing k with
  | nil => simp at hk
  | cons x l ih =>
    obtain ⟨h1, h2⟩ := List.pairwise_cons.1 hp
    match k, hk with
    | 0, hk =>
      rw [List.filter_cons, if_neg (by simp)]
      simp only [List.getElem_cons_zero, List.eraseIdx_zero, List.tail_cons]
      rw [List.filter_eq_self]
      intro m hm
      have := h1 m hm
      simp; omega
    | k + 1, hk =>
      have hk2 : k < l.length := by simpa using hk
      have := h1 _ (List.getElem_mem hk2)
      rw [List.filter_cons]
      simp only [List.getElem_cons_succ, List.eraseIdx_cons_succ]
      rw [if_pos (by simp; omega), ih hk2 h2]
theorem mapIs_del {w : World} {B : Nat} {es : Array MapEntry} {ns : List NodeD} (h : MapIs w B es.toList ns) {k : Nat} (hk : k < ns.length) :
    MapIs w B (es.eraseIdxIfInBounds k).toList (ns.eraseIdx k) := by
  have hl : es.size = ns.length := by simpa using h.1
  have e : (es.eraseIdxIfInBounds k).toList = es.toList.eraseIdx k := by
    unfold Array.eraseIdxIfInBounds
    rw [dif_pos (by omega), Array.toList_eraseIdx]
  rw [e]
  refine ⟨by rw [List.length_eraseIdx, List.length_eraseIdx, h.1], fun j hj => ?_⟩
  rw [List.length_eraseIdx, if_pos hk] at hj
  rw [List.getElem?_eraseIdx]
  by_cases hjk : j < k
  · obtain ⟨e', A', c', h1, h2, h3, h4⟩ := h.2 j (by omega)
    rw [if_pos hjk]
    have e2 : (ns.eraseIdx k)[j]'(by rw [List.length_eraseIdx, if_pos hk]; exact hj) = ns[j] := List.getElem_eraseIdx_of_lt _ hjk
    rw [e2]
    exact ⟨e', A', c', h1, h2, h3, h4⟩
  · obtain ⟨e', A', c', h1, h2, h3, h4⟩ := h.2 (j + 1) (by omega)
    rw [if_neg hjk]
    have e2 : (ns.eraseIdx k)[j]'(by rw [List.length_eraseIdx, if_pos hk]; exact hj) = ns[j + 1] := List.getElem_eraseIdx_of_ge _ (by omega)
    rw [e2]
    exact ⟨e', A', c', h1, h2, h3, h4⟩
/-- 'delete(m, no)'. -/
theorem run_del {w w0 : World} {B bM : Nat} {es : Array MapEntry} {clock : Nat} {ns : List NodeD} {last no : Int} (hm : Has w bM (.map es clock)) (h : MapIs w0 B es.toList ns) (hu : NosUp ns last) (hi : isN ns no = true) (ty : TypeId) :
    ∃ es', (Builtin.delete_ #[214, 3] ty #[.map (some bM), .int .i64 no]).run Tryz.prog w = .ok (.tuple #[]) (putB w bM (.map es' clock)) ∧ MapIs w0 B es'.toList (dropN ns no) := by
  have hk : ∀ r, Instr.findNow (.int .i64) (.int .i64 no) es.toList 0 = some r → (Instr.findKey 3 (.int .i64 no) es.toList).run Tryz.prog w = .ok r w := fun r hr => by
    unfold Instr.findKey
    rw [Sem.run_bind, run_underlying Tryz.underlying3]
    simp [hr]
  rcases findNow_nodes no es.toList ns 0 h.1 (fun k hk => by obtain ⟨e, A, c, h1, h2, _⟩ := h.2 k hk; exact ⟨e, h1, h2⟩) with ⟨g1, g2⟩ | ⟨k, e, g1, g2, g3, g4⟩
  · rw [hi] at g1; cases g1
  · have e0 : getO ns no = some ns[k] := by rw [g4, List.getElem?_eq_getElem g1]
    have hno : ns[k].no = no := (getO_some e0).1
    refine ⟨es.eraseIdxIfInBounds k, ?_, by rw [dropN_at hu g1 hno]; exact mapIs_del h g1⟩
    simp [Builtin.delete_, run_underlying Tryz.underlying214, MapKept.run_getObj_map hm, run_checkInt, hk _ g3, MapKept.run_setObj_map _ hm, Result.andThen, putB]
theorem dropN_not {ns : List NodeD} {no : Int} (h : isN ns no = false) : dropN ns no = ns := by
  unfold dropN
  rw [List.filter_eq_self]
  intro m hm
  have := (isN_false h).2 m hm
  simpa using this
set_option maxRecDepth 100000 in
set_option maxHeartbeats 2000000 in
theorem tdrop_any (B bT bM : Nat) (ns : List NodeD) (last no : Int) (w : World) (h : TAt w B bT bM ns last) (hu : NosUp ns last) :
    Calls Tryz.prog 229 #[.pointer (some ⟨bT, 0, none⟩), .int .i64 no] w (fun e w' => e = .returned (.bool (isN ns no)) ∧ TAt w' B bT bM (dropN ns no) last ∧ Only [bT, bM] w w') := by
  go_enter Tryz.func229, Tryz.ntmps229
  go_wp2_with fail
  refine (tget_any B bT bM ns last no _ h).mono ?_
  rintro e w1 ⟨A1, c1, rfl, ho1, hE1⟩
  generalize getN ns no = m at ho1 ⊢
  cases hi : isN ns no
  · have hset : Hid (dropN ns no = ns) := dropN_not hi
    have HI := Lib.hid hi
    clear hi
    go_wp2_with fail
    go_ret
    exact ⟨ret_bool HI.out.symm, by rw [hset.out]; exact (h.ext hE1).ext ((Ext.refl _).alloc _), Only.of_ext (hE1.alloc _)⟩
  · obtain ⟨W2, hW2⟩ : ∃ W2, W2 = w1.alloc (.cells #[.int .i64 m.no, .int .i64 m.dev, .int .i64 m.kind, .int .i64 m.mode, .int .i64 m.uid, .int .i64 m.gid, .int .i64 m.mtime, .int .i64 m.ctime, .int .i64 m.links, .int .i64 m.up, .string (bs m.data), .slice A1 m.ents.length c1] 87) := ⟨_, rfl⟩
    have E2 : Ext w W2 := by rw [hW2]; exact hE1.alloc _
    obtain ⟨h1, h2, h3, es, cl, h4, h5⟩ := h.ext E2
    have c0 : W2.cell? ⟨bT, 0, none⟩ = some (.map (some bM)) := h3.cell 0
    have hbT2 := h3.lt
    obtain ⟨es', hr, hor⟩ := run_del (w := W2) h4 h5 hu hi 0
    have HO := Lib.hid hor
    have HI := Lib.hid hi
    clear hor hi
    go_upto_region 3 with fail
    rw [← hW2]
    clear hW2
    go_wp2_with fail
    go_ret
    exact ⟨ret_bool HI.out.symm, TAt.putMap (ns := ns) ⟨h1, h2, h3, es, cl, h4, h5⟩ HO.out, (Only.of_ext E2).then ((Only.putB W2 bM _).mono (by simp))⟩
end Go.Proofs.YtjblimclakfhfaaGreat

namespace Go.Proofs.YtjblimclakfhfaaGreat
open Go

/-- Of what is listed, all that it waits for is listed. -/
def Shut (md : Region.Mode) (ops : Array Oper) (listed : Array Bool) : Prop := ∀ i oi, ops[i]? = some oi → listed.getD i false = true → ∀ e ∈ oi.after, Region.binds md e = true → listed.getD e.on false = true
theorem getD_up {listed : Array Bool} {k : Nat} (h : listed.getD k false = true) : listed.getD k true = true := by
  rcases Nat.lt_or_ge k listed.size with g | g
  · simp [g] at h ⊢; exact h
  · simp [Array.getElem?_eq_none g]
theorem Shut.step {md : Region.Mode} {ops : Array Oper} {listed : Array Bool} (h : Shut md ops listed) {i : Nat} (hi : i ∈ Region.ready md ops listed) : Shut md ops (listed.setIfInBounds i true) := by
  obtain ⟨hun, oi, hoi, hall⟩ := mem_ready.1 hi
  have up : ∀ k, listed.getD k false = true → (listed.setIfInBounds i true).getD k false = true := fun k hk => by
    by_cases e : i = k
    · subst e
      have := getD_up hk
      rw [hun] at this; cases this
    · rw [getD_set_ne false e]; exact hk
  intro k ok hok hk e he hb
  by_cases hik : i = k
  · subst hik
    rw [hoi] at hok; injection hok with hok; subst hok
    exact up _ (hall e he hb)
  · rw [getD_set_ne false hik] at hk
    exact up _ (h k ok hok hk e he hb)
theorem real_of_P2 {P : Program} {ops : Array Oper} {md : Region.Mode} {V : World} {s : Nat} {cs : List (Operand × Value)} {Q : Act → Prop} {Q' : Exit → Act → World → Prop} {os : Oper} {F : World → Prop}
    (hos : ops[s]? = some os) (hgs : os.guard = none) (hds : os.dst = none)
    (hstore : ∀ (a : Act) (w : World), Ext V w → condR cs a → ∃ w'', (execOp a.eval os).run P w = .ok .skip w'' ∧ F w'')
    (hpu : ∀ i oi, ops[i]? = some oi → i ≠ s → (∃ e ∈ os.after, Region.binds md e = true ∧ (e.on = i ∨ ∃ oj, ops[e.on]? = some oj ∧ ∃ e2 ∈ oj.after, Region.binds md e2 = true ∧ e2.on = i)) ∨ (oi.guard = none ∧ ∃ t ix, oi.op = .extract t ix))
    (hQ : ∀ a w, F w → Q a → Q' .normal a w) :
    ∀ (f : Nat) (listed : Array Bool) (a : Act) (w : World), Shut md ops listed → wpAnyR P md ops V ops.size s cs Q f listed a →
      (listed.getD s true = false → Ext V w → wpAny P md ops Q' f listed a w) ∧
      (listed.getD s true = true → F w → (∀ i oi, ops[i]? = some oi → listed.getD i true = false → oi.guard = none ∧ ∃ t ix, oi.op = .extract t ix) → wpAny P md ops Q' f listed a w)
  | 0, listed, a, w, _, h => by
    obtain ⟨h1, _, h3, h4⟩ := h
    exact ⟨fun h => (by rw [h3] at h; cases h), fun _ hF _ => ⟨h1, hQ a w hF h4⟩⟩
  | f + 1, listed, a, w, hsh, h => by
    have ih := fun listed a w => real_of_P2 hos hgs hds hstore hpu hQ f listed a w
    have shut := fun {i : Nat} (hi : i ∈ Region.ready md ops listed) => hsh.step hi
    obtain ⟨hne, hall⟩ := h
    refine ⟨fun hs hE => ⟨fun h0 => absurd h0 hne, fun i hi => ?_⟩, fun hs hF hun => ⟨fun h0 => absurd h0 hne, fun i hi => ?_⟩⟩
    · have hr := hall i hi
      obtain ⟨hunl, oi, hoi, hwait⟩ := mem_ready.1 hi
      have him : i ≠ ops.size := by have := (Array.getElem?_eq_some_iff.1 hoi).1; omega
      unfold rOp at hr
      rw [if_neg him] at hr
      by_cases e2 : i = s
      · subst e2
        obtain rfl : os = oi := Option.some.inj (hos.symm.trans hoi)
        rw [if_pos rfl] at hr
        obtain ⟨w'', hx1, hx2⟩ := hstore a w hE hr.1
        unfold wpOp
        rw [hos]
        dsimp only
        have hw : Region.wanted os (yielded ops a.tmps) = true := by unfold Region.wanted; rw [hgs]
        rw [if_pos hw]
        left
        unfold Oper.wp
        rw [hx1]
        simp only [Oper.upon]
        rw [hds]
        refine (ih _ a w'' (shut hi) hr.2).2 (getD_set_self listed i) hx2 fun j oj hoj hj => ?_
        have hji : j ≠ i := fun e => by rw [e, getD_set_self] at hj; cases hj
        rcases hpu j oj hoj hji with ⟨e, he1, he2, he3⟩ | hp
        · have hl : listed.getD j true = true := by
            rcases he3 with he3 | ⟨ok, hok, e2, g1, g2, g3⟩
            · rw [← he3]; exact getD_up (hwait e he1 he2)
            · rw [← g3]; exact getD_up (hsh _ ok hok (hwait e he1 he2) e2 g1 g2)
          rw [getD_set_ne true (Ne.symm hji)] at hj
          rw [hj] at hl; cases hl
        · exact hp
      · rw [if_neg e2, hoi] at hr
        unfold wpOp
        rw [hoi]
        dsimp only at hr ⊢
        split
        · rename_i hw
          rw [if_pos hw] at hr
          obtain ⟨v, h1, h2⟩ := hr
          left
          exact wp_of_at (h1 ⟨w, hE⟩) fun w'' hx => (ih _ _ w'' (shut hi) h2).1 (by rw [getD_set_ne true e2]; exact hs) (hE.trans hx)
        · rename_i hw
          rw [if_neg hw] at hr
          exact (ih _ _ w (shut hi) hr).1 (by rw [getD_set_ne true e2]; exact hs) hE
    · have hr := hall i hi
      obtain ⟨hunl, oi, hoi, hwait⟩ := mem_ready.1 hi
      have him : i ≠ ops.size := by have := (Array.getElem?_eq_some_iff.1 hoi).1; omega
      have e2 : i ≠ s := fun e => by rw [e, hs] at hunl; cases hunl
      obtain ⟨hg, t, ix, hx⟩ := hun i oi hoi hunl
      unfold rOp at hr
      rw [if_neg him, if_neg e2, hoi] at hr
      unfold wpOp
      rw [hoi]
      dsimp only at hr ⊢
      have hw : Region.wanted oi (yielded ops a.tmps) = true := by unfold Region.wanted; rw [hg]
      rw [if_pos hw] at hr ⊢
      obtain ⟨v, h1, h2⟩ := hr
      left
      unfold Oper.wp
      rw [extract_pure hx (h1 ⟨V, Ext.refl V⟩) w]
      simp only [Oper.upon]
      refine (ih _ _ w (shut hi) h2).2 (by rw [getD_set_ne true e2]; exact hs) hF fun j oj hoj hj => ?_
      by_cases e : i = j
      · subst e; rw [getD_set_self] at hj; cases hj
      · rw [getD_set_ne true e] at hj; exact hun j oj hoj hj
def lateAt (l : List Oper) (os : Oper) (i : Nat) : Bool := os.after.any (fun e => Region.binds .any e && (e.on == i || (match l[e.on]? with
  | some oj => oj.after.any (fun e2 => Region.binds .any e2 && e2.on == i)
  | none => false)))
def putOk2 (l : List Oper) (s : Nat) (x y : Tmp) (os : Oper) : Bool :=
  os.guard == none && os.dst == none && (os.looksAt l.toArray).contains x && (os.looksAt l.toArray).contains y &&
    (List.range l.length).all (fun i => (i == s || lateAt l os i) || pureAt l i)
def putB2 (l : List Oper) (s : Nat) (x y : Tmp) : Bool :=
  decide (s < l.length) && (match l[s]? with
    | some os => putOk2 l s x y os
    | none => false)
theorem lateAt_spec {l : List Oper} {os : Oper} {i : Nat} (h : lateAt l os i = true) : ∃ e ∈ os.after, Region.binds .any e = true ∧ (e.on = i ∨ ∃ oj, l.toArray[e.on]? = some oj ∧ ∃ e2 ∈ oj.after, Region.binds .any e2 = true ∧ e2.on = i) := by
  unfold lateAt at h
  simp only [Array.any_eq_true', Bool.and_eq_true, Bool.or_eq_true, beq_iff_eq] at h
  obtain ⟨e, he, hb, h⟩ := h
  refine ⟨e, he, hb, ?_⟩
  rcases h with h | h
  · exact .inl h
  · right
    cases ho : l[e.on]? with
    | none => rw [ho] at h; cases h
    | some oj =>
      rw [ho] at h
      simp only [Array.any_eq_true', Bool.and_eq_true, beq_iff_eq] at h
      obtain ⟨e2, h1, h2, h3⟩ := h
      exact ⟨oj, by simpa using ho, e2, h1, h2, h3⟩
theorem wp_region_put2 {P : Program} {id : Nat} {Q : Exit → Act → World → Prop} {a : Act} {w : World} {l : List Oper} (V : World) (s : Nat) (x y : Tmp) (vx vy : Value) (F : World → Prop) (os : Oper)
    (hmo : P.follows .mixedOrders = true) (hB : Region.lexB .any l.toArray = true) (hc : putB2 l s x y = true) (hos : l[s]? = some os)
    (hstore : ∀ (a : Act) (w : World), Ext V w → a.eval (.tmp x) = vx → a.eval (.tmp y) = vy → ∃ w'', (execOp a.eval os).run P w = .ok .skip w'' ∧ F w'')
    (hV : Ext V w.drew)
    (h : wpQuietR P l.toArray V (fun a2 => a2.eval (.tmp x) = vx ∧ a2.eval (.tmp y) = vy ∧ wpQuietR P l.toArray V (fun a3 => ∀ w', F w' → Q .normal a3 w') (l.drop (s + 1)) a2) (l.take s) a) :
    (Code.region id l.toArray true).wp P Q a w := by
  simp only [putB2, hos, putOk2, Bool.and_eq_true, decide_eq_true_eq, List.all_eq_true, Bool.or_eq_true, beq_iff_eq] at hc
  obtain ⟨c2, ⟨⟨⟨g3, g4⟩, g5⟩, g6⟩, c6⟩ := hc
  simp only [Region.lexB, Bool.and_eq_true] at hB
  have hosA : l.toArray[s]? = some os := by simpa using hos
  have hys : ∀ o, l.toArray[s]? = some o → ∀ p ∈ [(Operand.tmp x, vx), (Operand.tmp y, vy)], ∀ z, p.1 = .tmp z → z ∈ o.looksAt l.toArray := fun o ho p hp z hz => by
    rw [hosA] at ho; injection ho with ho
    simp only [List.mem_cons, List.not_mem_nil, or_false] at hp
    rcases hp with rfl | rfl
    · injection hz with hz; rw [← ho, ← hz]; simpa using g5
    · injection hz with hz; rw [← ho, ← hz]; simpa using g6
  refine wp_region_any hmo ?_
  have hm1 : (l.take s).length = s := by simp; omega
  have hlex : wpLexR P l.toArray V l.toArray.size s [(.tmp x, vx), (.tmp y, vy)] (fun a3 => ∀ w', F w' → Q .normal a3 w') l 0 a := by
    have e : l = l.take s ++ (os :: l.drop (s + 1)) := by
      have e2 : l.drop s = os :: l.drop (s + 1) := by rw [List.drop_eq_getElem_cons c2]; congr 1; rw [List.getElem?_eq_getElem c2] at hos; injection hos
      rw [← e2, List.take_append_drop]
    conv => arg 8; rw [e]
    refine lex_seg (l.take s) 0 a (fun j hj => by rw [hm1] at hj; simp; omega) (fun j hj => by rw [hm1] at hj; rw [Nat.zero_add]; simp [hj]) ?_
    rw [Nat.zero_add, hm1]
    have hmono : ∀ {Q1 Q2 : Act → Prop}, (∀ a, Q1 a → Q2 a) → ∀ (seg : List Oper) (a : Act), wpQuietR P l.toArray V Q1 seg a → wpQuietR P l.toArray V Q2 seg a := by
      intro Q1 Q2 hq seg
      induction seg with
      | nil => intro a h; exact hq a h
      | cons o seg ih =>
        intro a h
        unfold wpQuietR at h ⊢
        split
        · rename_i hw; rw [if_pos hw] at h; obtain ⟨v, h1, h2⟩ := h; exact ⟨v, h1, ih _ h2⟩
        · rename_i hw; rw [if_neg hw] at h; exact ih _ h
    refine hmono (fun a2 h2 => ?_) _ _ h
    show rOp P l.toArray V l.toArray.size s _ s _ a2
    unfold rOp
    rw [if_neg (by simp; omega), if_pos rfl]
    refine ⟨fun p hp => ?_, ?_⟩
    · simp only [List.mem_cons, List.not_mem_nil, or_false] at hp
      rcases hp with rfl | rfl
      · exact h2.1
      · exact h2.2.1
    have e5 : l.drop (s + 1) = l.drop (s + 1) ++ [] := by simp
    rw [e5]
    refine lex_seg (l.drop (s + 1)) (s + 1) a2 (fun j hj => by simp at hj ⊢; omega) (fun j hj => by simp) ?_
    exact h2.2.2
  have hR := wpAnyR_lex' (md := .any) (s := s) hB.1 hys l 0 (Array.replicate l.toArray.size false) a (by simp) (fun j hj => by omega) (by simp) (by simpa using c2) (by simpa using hB.2) hlex
  have := (real_of_P2 (V := V) (P := P) (ops := l.toArray) (md := .any) (s := s) (Q' := Q) (F := F) hosA g3 g4 (fun a w h1 h2 => hstore a w h1 (h2 (.tmp x, vx) (by simp)) (h2 (.tmp y, vy) (by simp))) ?_ (fun a w h1 h2 => h2 w h1) _ _ a w.drew (fun k ok hok hk => by have hk2 : k < l.length := (Array.getElem?_eq_some_iff.1 hok).1; simp [hk2] at hk) hR).1 (by simp [c2]) hV
  · simpa using this
  · intro i oi hi h1
    have hil : i < l.length := by
      rcases Nat.lt_or_ge i l.length with h' | h'
      · exact h'
      · rw [Array.getElem?_eq_none (by simpa using h')] at hi; cases hi
    have := c6 i (List.mem_range.2 hil)
    unfold pureAt at this
    rw [show l[i]? = some oi by simpa using hi] at this
    dsimp only at this
    rcases this with (this | this) | this
    · exact absurd this h1
    · exact .inl (lateAt_spec this)
    · right
      simp only [Bool.and_eq_true, beq_iff_eq] at this
      refine ⟨this.1, ?_⟩
      have h3 := this.2
      unfold isExtract at h3
      cases ho : oi.op <;> simp [ho] at h3
      exact ⟨_, _, rfl⟩
end Go.Proofs.YtjblimclakfhfaaGreat

namespace Go.Proofs.YtjblimclakfhfaaGreat
open Go.ChangeShapes Go.WideShapes Go.ChangeAt Go.RowKit

attribute [local irreducible] wpQuiet
def killB (S : TreeD) (no : Int) : Bool := isN S.nodes no && !(rootF S.devs (getN S.nodes no).dev == no)
def killQ (S : TreeD) (n : NodeD) : List DevD := setQ S.devs n.dev (takeQ (devN S.devs n.dev).q (-(blocksF n.kind n.data.length)) (-1))
def killT (S : TreeD) (no : Int) : TreeD := if killB S no = true then ⟨dropN S.nodes no, killQ S (getN S.nodes no), S.last⟩ else S
def KillR (w : World) (B : Nat) (g : GhW) (S : TreeD) (no : Int) (e : Ending) (w' : World) : Prop :=
  e = .returned (.bool (killB S no)) ∧ WAt w' B g (killT S no) ∧ Only g.list w w'
theorem killR_no {w w' : World} {B : Nat} {g : GhW} {S : TreeD} {no : Int} (h : WAt w B g S) (hE : Ext w w') (hk : killB S no = false) : KillR w B g S no (.returned (.bool false)) w' :=
  ⟨by rw [hk], by unfold killT; rw [hk]; exact h.ext hE, Only.of_ext hE⟩
/-- A drawn region with one late store of a Space into a mount's cells. -/
theorem wp_region_devq {id : Nat} {Q : Exit → Act → World → Prop} {a : Act} {w : World} {l : List Oper} (V : World) (s : Nat) (x y : Tmp) (B g cap : Nat) (ds : List DevD) (k : Nat) (hk : k < ds.length) (q : SpaceD) (hD : RowD V B 227 (.slice (some ⟨g, 0, none⟩) ds.length cap) ds) (os : Oper)
    (hB : Region.lexB .any l.toArray = true) (hc : putB2 l s x y = true) (hos : l[s]? = some os) (ho2 : os.op = .store 159 (.tmp x) (.tmp y)) (hV : Ext V w.drew) :
    wpQuietR Tryz.prog l.toArray V (fun a2 => a2.eval (.tmp x) = .pointer (some ⟨g, k * 6 + 2, none⟩) ∧ a2.eval (.tmp y) = .agg #[.int .i64 q.blocks, .int .i64 q.nodes, .int .i64 q.mostB, .int .i64 q.mostN] ∧ wpQuietR Tryz.prog l.toArray V (fun a3 => ∀ w', (∃ w0, Ext V w0 ∧ Only [g] w0 w' ∧ RowD w' B 227 (.slice (some ⟨g, 0, none⟩) ds.length cap) (setQ ds ((k : Int) + 1) q)) → Q .normal a3 w') (l.drop (s + 1)) a2) (l.take s) a →
    (Code.region id l.toArray true).wp Tryz.prog Q a w := by
  refine wp_region_put2 V s x y _ _ (fun w' => ∃ w0, Ext V w0 ∧ Only [g] w0 w' ∧ RowD w' B 227 (.slice (some ⟨g, 0, none⟩) ds.length cap) (setQ ds ((k : Int) + 1) q)) os (by kernel_rfl) hB hc hos ?_ hV
  intro a w hE h1 h2
  have hw : w.ownsRow B 227 6 (.slice (some ⟨g, 0, none⟩) ds.length cap) ds.length (devCells ds) := ownsRow_only hD (Only.of_ext (L := []) hE) (by simp)
  obtain ⟨_, _, d2, d3, d4, d5⟩ := RowD.at_ (show RowD w B _ _ ds from hw) k hk
  have f2 := hw.frozenAt (k * 6 + 2)
  have f3 := hw.frozenAt (k * 6 + 3)
  have f4 := hw.frozenAt (k * 6 + 4)
  have f5 := hw.frozenAt (k * 6 + 5)
  have ht : w.there g (k * 6 + 2) 4 := by
    intro j hj
    match j, hj with
    | 0, _ => exact ⟨by rw [Nat.add_zero, d2]; rfl, by rw [Nat.add_zero]; exact f2⟩
    | 1, _ => exact ⟨by rw [show k * 6 + 2 + 1 = k * 6 + 3 from rfl, d3]; rfl, f3⟩
    | 2, _ => exact ⟨by rw [show k * 6 + 2 + 2 = k * 6 + 4 from rfl, d4]; rfl, f4⟩
    | 3, _ => exact ⟨by rw [show k * 6 + 2 + 3 = k * 6 + 5 from rfl, d5]; rfl, f5⟩
  refine ⟨_, ?_, w, hE, only_setCells [.int .i64 q.blocks, .int .i64 q.nodes, .int .i64 q.mostB, .int .i64 q.mostN] (k * 6 + 2) w, ?_⟩
  · simp only [execOp, ho2, h1, h2, run_storeAt_mid w g (k * 6 + 2) 159 #[.int .i64 q.blocks, .int .i64 q.nodes, .int .i64 q.mostB, .int .i64 q.mostN] ht infoSpace4 (space_all q), Sem.run_bind, Sem.run_pure, Result.andThen_ok]
  · unfold RowD
    simp only [setQ_len]
    rw [← devCells_setQ ds k hk]
    exact (World.ownsRow.stored (World.ownsRow.stored (World.ownsRow.stored (World.ownsRow.stored hw (k * 6 + 2) _).1 (k * 6 + 3) _).1 (k * 6 + 4) _).1 (k * 6 + 5) _).1
set_option maxRecDepth 100000 in
set_option maxHeartbeats 8000000 in
theorem pkill_any (B : Nat) (g : GhW) (S : TreeD) (no : Int) (w : World) (h : WAt w B g S) (hd : 0 < S.devs.length) (hd2 : S.devs.length ≤ 8) (hr : RootsOk S.devs) (hu : NosUp S.nodes S.last) (hdv : OnDev S) :
    Calls Tryz.prog 217 #[.pointer (some ⟨g.bW, 0, none⟩), .int .i64 no] w (KillR w B g S no) := by
  have hm : Hid (killB S no = (isN S.nodes no && !(rootF S.devs (getN S.nodes no).dev == no))) := by show _ = _; rfl
  have R0 := Has.new w (.cells #[.int .i64 nodeZ.no, .int .i64 nodeZ.dev, .int .i64 nodeZ.kind, .int .i64 nodeZ.mode, .int .i64 nodeZ.uid, .int .i64 nodeZ.gid, .int .i64 nodeZ.mtime, .int .i64 nodeZ.ctime, .int .i64 nodeZ.links, .int .i64 nodeZ.up, .string (bs nodeZ.data), .slice none nodeZ.ents.length 0] 87)
  have E0 : Ext w (w.alloc (.cells #[.int .i64 0, .int .i64 0, .int .i64 0, .int .i64 0, .int .i64 0, .int .i64 0, .int .i64 0, .int .i64 0, .int .i64 0, .int .i64 0, .string ⟨#[]⟩, .slice none 0 0] 87)) := (Ext.refl _).alloc _
  go_enter Tryz.func217, Tryz.ntmps217
  go_wp2_with fail
  refine (pnone_any B g S _ (h.ext E0) hd).mono ?_
  rintro e w1 ⟨rfl, b1⟩
  have R1 := R0.ext b1
  have E1 := E0.trans b1
  obtain ⟨_, _, cd, hW, hD⟩ := id (h.ext E1)
  have v0 : w1.cell? ⟨g.bW, 0, none⟩ = some (.pointer (some ⟨g.bT, 0, none⟩)) := hW.cell 0
  have z1 := hW.lt
  clear hD
  go_wp2_with fail
  refine (tget_any B g.bT g.bM S.nodes S.last no _ (h.ext E1).2.1).mono ?_
  rintro e w2 ⟨A, c, rfl, ok2, b2⟩
  have R2 := R1.ext b2
  have E2 := E1.trans b2
  have hmem : isN S.nodes no = true → (getN S.nodes no).no = no ∧ hasD S.devs (getN S.nodes no).dev = true ∧ (getN S.nodes no).data.length ≤ 1048576 := fun hi => ⟨(isN_true hi).2.1, hdv _ (isN_true hi).2.2⟩
  obtain ⟨n, hn⟩ : ∃ n, n = getN S.nodes no := ⟨_, rfl⟩
  obtain ⟨i, hi⟩ : ∃ i, i = isN S.nodes no := ⟨_, rfl⟩
  rw [← hn] at ok2 hm hmem
  rw [← hi] at hm hmem
  rw [← hn, ← hi]
  have HN := Lib.hid hn
  have HI := Lib.hid hi
  have HM := Lib.hid hmem
  clear v0 hn hi hmem
  cases i
  · have hE : Hid (killB S no = false) := by show _ = _; rw [hm.out]; rfl
    clear hm
    go_wp2_with (refine wpList_store_node rfl _ _ rfl w.heap.size n A c rfl rfl R2 ?_; intro w3 R3 O3)
    go_ret
    exact killR_no h (O3.after E2 (by simp)) hE.out
  · obtain ⟨hno, hdev, hdata⟩ := HM.out rfl
    clear hno
    go_upto_region 4 with (refine wpList_store_node rfl _ _ rfl w.heap.size n A c rfl rfl R2 ?_; intro w3 R3 O3)
    have E3 : Ext w w3 := O3.after E2 (by simp)
    have x1 : w3.cell? ⟨w.heap.size, 1, none⟩ = some (.int .i64 n.dev) := R3.cell 1
    have xz := R3.lt
    go_wp2_with fail
    refine (proot_any B g S n.dev _ (h.ext E3) hd (by omega)).mono ?_
    rintro e w3' ⟨rfl, b3'⟩
    have R3' := R3.ext b3'
    have E3' := E3.trans b3'
    clear x1 xz
    by_cases hrt : rootF S.devs n.dev = no
    · have tr : (rootF S.devs n.dev == no) = true := by simpa using hrt
      have hE : Hid (killB S no = false) := by show _ = _; rw [hm.out, tr]; rfl
      clear hrt hm
      go_wp2_with fail
      go_ret
      exact killR_no h E3' hE.out
    have tr : (rootF S.devs n.dev == no) = false := by simpa using hrt
    have hE : Hid (killB S no = true) := by show _ = _; rw [hm.out, tr]; rfl
    have hroot := rootF_zero hr n.dev
    rcases hroot with ⟨_, e2⟩ | ⟨k, hk, e1, _, e3, _, _, e6⟩
    · rw [e2] at hdev; cases hdev
    obtain ⟨bl, hbl⟩ : ∃ bl, bl = blocksF n.kind n.data.length := ⟨_, rfl⟩
    have hb0 := blocks_bd (k := n.kind) (s := n.data.length) (by omega) (by omega)
    rw [← hbl] at hb0
    obtain ⟨q, hq⟩ : ∃ q, q = S.devs[k].q := ⟨_, rfl⟩
    rw [← hq] at e6
    have inr : inR (-bl) (-1) := ⟨by omega, by omega, by omega, by omega⟩
    have HB := Lib.hid hbl
    have HQ := Lib.hid hq
    have H3 := Lib.hid e3
    have HD := Lib.hid e1
    have hsz : ((bs n.data).size : Int) = n.data.length := by rw [bs_size]
    have y0 : (0 : Int) ≤ n.dev - 1 := by rw [e1]; omega
    have y1 : n.dev - 1 < (S.devs.length : Int) := by rw [e1]; omega
    have y2 : (n.dev - 1).toNat = k := by rw [e1]; omega
    have y3 : IntKind.i64.wrap (n.dev - 1) = n.dev - 1 := wrap_i64_in (by omega) (by omega)
    have y4 : 1 ≤ n.dev := by omega
    have y5 : n.dev.toNat - 1 = k := by omega
    clear hm hdev hbl hq e3 e1 hrt
    go_upto_region 6 with fail
    have x1 : w3'.cell? ⟨w.heap.size, 1, none⟩ = some (.int .i64 n.dev) := R3'.cell 1
    have xz := R3'.lt
    obtain ⟨hb, hT, cd3, hW3, hD3⟩ := id (h.ext E3')
    have v1 : w3'.cell? ⟨g.bW, 1, none⟩ = some (.slice (some ⟨g.bD, 0, none⟩) S.devs.length cd3) := hW3.cell 1
    have vz := hW3.lt
    go_cut [7] (fun p wc => p = .pointer (some ⟨g.bD, k * 6, none⟩) ∧ Ext w3' wc)
    case first =>
      go_quiet (fail)
      go_wp2_with fail
      go_meet
      exact ⟨rfl, (Ext.refl _).drewN nq⟩
    case rest =>
    obtain ⟨rfl, E4⟩ := hcut
    obtain ⟨W4, hW4⟩ : ∃ W4, W4 = wc := ⟨_, rfl⟩
    rw [← hW4] at E4 ⊢
    clear hW4 x1 v1 vz xz
    go_upto_region 7 with fail
    have R4 := R3'.ext E4
    have EW4 : Ext w W4 := E3'.trans E4
    have hl := h.lt
    obtain ⟨_, hT4, cd4, hW4, hD4⟩ := id (h.ext EW4)
    have K4 := h.ext EW4
    obtain ⟨_, _, d2, d3, d4, d5⟩ := RowD.at_ hD4 k hk
    rw [← HQ.out] at d2 d3 d4 d5
    have y6 : IntKind.i64.wrap (-bl) = -bl := wrap_i64_in (by omega) (by omega)
    have hbd : g.bD < W4.heap.size := by have := EW4.size; omega
    go_cut [] (fun wc => Only [g.bD] W4 wc ∧ RowD wc B 227 (.slice (some ⟨g.bD, 0, none⟩) S.devs.length cd4) (setQ S.devs ((k : Int) + 1) (takeQ q (-bl) (-1))))
    case first =>
      have K0 : Hid (∀ w : World, Calls Tryz.prog 218 #[.int .i64 n.kind, .int .i64 n.data.length] w (fun e w' => e = .returned (.int .i64 bl) ∧ w' = w)) := by
        show ∀ w : World, _
        intro w; rw [HB.out]; exact pblocks_same n.kind n.data.length (by omega) (by omega) w
      have KT : Hid (∀ w : World, Calls Tryz.prog 171 #[.agg #[.int .i64 q.blocks, .int .i64 q.nodes, .int .i64 q.mostB, .int .i64 q.mostN], .int .i64 (-bl), .int .i64 (-1)] w (Ret w (.tuple #[.agg #[.int .i64 (takeQ q (-bl) (-1)).blocks, .int .i64 (takeQ q (-bl) (-1)).nodes, .int .i64 (takeQ q (-bl) (-1)).mostB, .int .i64 (takeQ q (-bl) (-1)).mostN], .int .i64 (takeE q (-bl) (-1))]))) := ptake_any q (-bl) (-1) e6 inr
      have u2 : ∀ u : Gr W4, u.w.cell? ⟨w.heap.size, 2, none⟩ = some (.int .i64 n.kind) := Gr.cell R4.lt (R4.cell 2)
      have u10 : ∀ u : Gr W4, u.w.cell? ⟨w.heap.size, 10, none⟩ = some (.string (bs n.data)) := Gr.cell R4.lt (R4.cell 10)
      have t2 : ∀ u : Gr W4, u.w.cell? ⟨g.bD, k * 6 + 2, none⟩ = some (.int .i64 q.blocks) := Gr.cell hbd d2
      have t3 : ∀ u : Gr W4, u.w.cell? ⟨g.bD, k * 6 + 3, none⟩ = some (.int .i64 q.nodes) := Gr.cell hbd d3
      have t4 : ∀ u : Gr W4, u.w.cell? ⟨g.bD, k * 6 + 4, none⟩ = some (.int .i64 q.mostB) := Gr.cell hbd d4
      have t5 : ∀ u : Gr W4, u.w.cell? ⟨g.bD, k * 6 + 5, none⟩ = some (.int .i64 q.mostN) := Gr.cell hbd d5
      clear d2 d3 d4 d5 R4 EW4 E4 K4 hW4 hT4
      refine wp_region_devq W4 18 56 53 B g.bD cd4 S.devs k hk (takeQ q (-bl) (-1)) hD4 _ (by kernel_rfl) (by kernel_rfl) rfl rfl ((Ext.refl _).drew) ?_
      simp only [List.take_succ_cons, List.take_zero, List.drop_succ_cons, List.drop_nil]
      repeat (refine wpQuietR_step (fun K hK => ?_)
              go_simp
              first
                | (refine hK _ ?_; clear hK K)
                | (apply Exists.intro
                   refine ⟨fun u => ?_, hK _ ?_⟩
                   first
                     | ((with_reducible refine (K0.out _).mono ?_); rintro e w'' ⟨rfl, rfl⟩; exact ⟨rfl, Ext.refl _⟩)
                     | ((with_reducible refine (KT.out _).mono ?_); rintro e w'' ⟨rfl, hx⟩; exact ⟨rfl, hx⟩)
                   clear hK K))
      refine wpQuietR_nil ⟨rfl, rfl, ?_⟩
      refine wpQuietR_nil ?_
      rintro w' ⟨w0, hx, hO, hR⟩
      go_wp2_with fail
      go_meet
      exact ⟨Only.pre hx hO, hR⟩
    case rest =>
    obtain ⟨O5, D5⟩ := hcut
    obtain ⟨W5, hW5⟩ : ∃ W5, W5 = wc := ⟨_, rfl⟩
    rw [← hW5] at O5 D5 ⊢
    clear hW5 d2 d3 d4 d5
    have K4a := K4.apart
    obtain ⟨m1, m2, m3, m4, m5, m6⟩ := K4.ne
    have H5 := O5.has hW4 (by simpa using m3)
    have T5 : TAt W5 B g.bT g.bM S.nodes S.last := hT4.only O5 (K4a.sub (by simp)) (by simpa using m5) (by simpa using m6)
    have v0 : W5.cell? ⟨g.bW, 0, none⟩ = some (.pointer (some ⟨g.bT, 0, none⟩)) := H5.cell 0
    have vz := H5.lt
    go_wp2_with fail
    refine (tdrop_any B g.bT g.bM S.nodes S.last no _ T5 hu).mono ?_
    rintro e w6 ⟨rfl, T6, O6⟩
    go_wp2_with fail
    go_ret
    have e2 : killT S no = ⟨dropN S.nodes no, setQ S.devs ((k : Int) + 1) (takeQ q (-bl) (-1)), S.last⟩ := by
      unfold killT killQ
      rw [if_pos hE.out, ← HN.out, H3.out, ← HQ.out, ← HB.out, HD.out]
    refine ⟨by rw [hE.out]; exact ret_bool HI.out.symm, ?_, ?_⟩
    · rw [e2]
      refine ⟨h.1, T6, cd4, ?_, ?_⟩
      · have := O6.has H5 (by simp; exact ⟨m1, m2⟩)
        simpa [setQ_len] using this
      · have := ownsRow_only D5 O6 (fun b hb => by simp [Value.ownBlock] at hb; subst hb; simp; exact ⟨m5.symm, m6.symm⟩)
        unfold RowD
        simp only [setQ_len] at this ⊢
        exact this
    · exact (Only.pre EW4 (O5.mono (by simp))).then (O6.mono (by simp))
end Go.Proofs.YtjblimclakfhfaaGreat

namespace Go.Proofs.YtjblimclakfhfaaGreat

structure Live (S : TreeD) : Prop where
  nos : NosUp S.nodes S.last
  last : 1 ≤ S.last
  devs : 0 < S.devs.length
  eight : S.devs.length ≤ 8
  roots : RootsOk S.devs
  count : S.nodes.length ≤ S.last
  on : OnDev S
  first : ∃ m ∈ S.nodes, m.no = 1
  one : ∀ n ∈ S.nodes, n.no = 1 → n.dev = 1
  root1 : rootF S.devs 1 = 1
theorem Grown.live {S : TreeD} (h : Grown S) : Live S := ⟨h.good.nos, h.good.last, h.good.devs, h.good.eight, h.good.roots, h.good.count, h.on, h.first, fun n hn e => (h.one n hn e).2.1, h.dev1⟩
theorem Live.setQ {S : TreeD} (h : Live S) (d : Int) (q : SpaceD) (hq : Fine q) : Live ⟨S.nodes, setQ S.devs d q, S.last⟩ :=
  ⟨h.nos, h.last, by show 0 < (Proofs.YtjblimclakfhfaaGreat.setQ _ _ _).length; rw [setQ_len]; exact h.devs, by show (Proofs.YtjblimclakfhfaaGreat.setQ _ _ _).length ≤ 8; rw [setQ_len]; exact h.eight, roots_setQ h.roots _ _ hq, h.count,
    fun n hn => ⟨(hasD_len (setQ_len S.devs d q) _).trans (h.on n hn).1, (h.on n hn).2⟩, h.first, h.one, (rootQ S.devs d q 1).trans h.root1⟩
theorem Live.drop {S : TreeD} (h : Live S) (no : Int) (h1 : no ≠ 1) : Live ⟨dropN S.nodes no, S.devs, S.last⟩ :=
  ⟨h.nos.drop no, h.last, h.devs, h.eight, h.roots, by
    have h1 : (dropN S.nodes no).length ≤ S.nodes.length := List.length_filter_le ..
    have := h.count
    show ((dropN S.nodes no).length : Int) ≤ S.last
    omega, fun n hn => h.on n (List.mem_filter.1 hn).1, by
    obtain ⟨m, hm, e⟩ := h.first
    exact ⟨m, List.mem_filter.2 ⟨hm, by rw [e]; simpa using Ne.symm h1⟩, e⟩, fun n hn e => h.one n (List.mem_filter.1 hn).1 e, h.root1⟩
theorem Live.set {S : TreeD} (h : Live S) (n : NodeD) (hd : hasD S.devs n.dev = true) (hl : n.data.length ≤ 1048576) (h1 : n.no = 1 → n.dev = 1) : Live (setT S n) :=
  ⟨h.nos.set n, h.last, h.devs, h.eight, h.roots, by show ((setN S.nodes n).length : Int) ≤ S.last; rw [setN_len]; exact h.count, fun m hm => by
    rcases mem_setN hm with hm | rfl
    · exact h.on m hm
    · exact ⟨hd, hl⟩, by
    obtain ⟨m, hm, e⟩ := h.first
    refine ⟨_, set_has hm, ?_⟩
    split
    · rename_i e2; rw [← e2]; exact e
    · exact e, fun m hm e => by
    rcases mem_setN hm with hm | rfl
    · exact h.one m hm e
    · exact h1 e, h.root1⟩
theorem Live.fine {S : TreeD} (h : Live S) {d : Int} (hd : hasD S.devs d = true) (b n : Int) : Fine (takeQ (devN S.devs d).q b n) := by
  rcases rootF_zero h.roots d with ⟨_, e2⟩ | ⟨k, hk, _, _, e3, _, _, e6⟩
  · rw [e2] at hd; cases hd
  · rw [e3]; exact takeQ_fine e6
theorem Live.killed {S : TreeD} (h : Live S) {no : Int} (hk : killB S no = true) : isN S.nodes no = true ∧ no ≠ 1 := by
  unfold killB at hk
  rw [Bool.and_eq_true] at hk
  refine ⟨hk.1, fun e => ?_⟩
  have := h.one _ (isN_true hk.1).2.2 ((isN_true hk.1).2.1.trans e)
  have h2 := hk.2
  rw [this, h.root1, e] at h2
  simp at h2
theorem Live.kill {S : TreeD} (h : Live S) (no : Int) : Live (killT S no) := by
  unfold killT
  split
  · rename_i hk
    obtain ⟨hi, h1⟩ := h.killed hk
    have ho := h.on _ (isN_true hi).2.2
    exact (h.setQ (getN S.nodes no).dev _ (h.fine ho.1 _ _)).drop no h1
  · exact h
theorem Live.root {S : TreeD} (h : Live S) (over b n : Int) (h8 : S.devs.length < 8) (hl : limitsF b n = true) : Live (rootT S over b n) := by
  have hl1 := h.last
  have hlen : (rootT S over b n).devs.length = S.devs.length + 1 := by simp [rootT]
  refine ⟨h.nos.add (rootNode S) rfl (by omega), by show 1 ≤ S.last + 1; omega, by rw [hlen]; omega, by rw [hlen]; omega, ?_, ?_, ?_, ?_, ?_, ?_⟩
  · intro d hd
    rcases List.mem_append.1 hd with hd | hd
    · exact h.roots d hd
    · rw [List.mem_singleton] at hd
      subst hd
      refine ⟨by show 0 < S.last + 1; omega, ?_⟩
      rcases limits_cases b n with ⟨h1, h2, h3, h4, _⟩ | ⟨h0, _⟩
      · exact ⟨show (0 : Int) ≤ 1 by decide, show (0 : Int) ≤ 1 by decide, h1, h3, h2, h4⟩
      · rw [h0] at hl; cases hl
  · have := h.count; show ((S.nodes ++ [rootNode S]).length : Int) ≤ S.last + 1; simp; exact this
  · intro m hm
    rcases List.mem_append.1 hm with hm | hm
    · have := h.on m hm
      refine ⟨?_, this.2⟩
      have h2 := this.1
      unfold hasD at h2 ⊢
      rw [hlen]
      simp at h2 ⊢
      omega
    · rw [List.mem_singleton] at hm; subst hm
      refine ⟨?_, by simp [rootNode, nodeZ]⟩
      unfold hasD
      rw [hlen]
      show (decide ((1 : Int) ≤ (S.devs.length : Int) + 1) && decide ((S.devs.length : Int) + 1 ≤ ((S.devs.length + 1 : Nat) : Int))) = true
      rw [Bool.and_eq_true, decide_eq_true_eq, decide_eq_true_eq]
      omega
  · obtain ⟨m, hm, e⟩ := h.first
    exact ⟨m, List.mem_append_left _ hm, e⟩
  · intro m hm e
    rcases List.mem_append.1 hm with hm | hm
    · exact h.one m hm e
    · rw [List.mem_singleton] at hm; subst hm; simp [rootNode] at e; omega
  · have := h.root1
    unfold rootF hasD devN at this ⊢
    have hd := h.devs
    rw [if_pos (by simp; omega)] at this ⊢
    simp only [show ((1 : Int) - 1).toNat = 0 by decide] at this ⊢
    rw [List.getD_eq_getElem?_getD] at this ⊢
    show ((S.devs ++ _)[0]?.getD devZ).root = 1
    rw [List.getElem?_append_left hd]; exact this
theorem Live.mount {S : TreeD} (h : Live S) (a b n : Int) : Live (mountT S a b n) := by
  unfold mountT
  split
  · rename_i h0
    exact h.root _ _ _ (mountE_zero h0).1 (mountE_zero h0).2
  · exact h
theorem killT_last (S : TreeD) (no : Int) : (killT S no).last = S.last := by unfold killT; split <;> rfl
theorem fillT_last (S : TreeD) (no : Int) (d : List UInt8) : (fillT S no d).last = S.last := by unfold fillT; split <;> rfl
end Go.Proofs.YtjblimclakfhfaaGreat

namespace Go.Proofs.YtjblimclakfhfaaGreat

theorem mem_drop {ns : List NodeD} {no : Int} {m : NodeD} (h : m ∈ dropN ns no) : m ∈ ns ∧ m.no ≠ no := by
  unfold dropN at h
  rw [List.mem_filter] at h
  exact ⟨h.1, by simpa using h.2⟩
theorem drop_mem {ns : List NodeD} {no : Int} {m : NodeD} (h : m ∈ ns) (hne : m.no ≠ no) : m ∈ dropN ns no := List.mem_filter.2 ⟨h, by simpa using hne⟩
/-- A node goes, in which no directory lies. -/
theorem tre_drop {c : Nat} {k k' : Int} {S : TreeD} (h : TreB c k S) {no : Int} (h1 : no ≠ 1) (hroot : ∀ j, (hj : j < S.devs.length) → S.devs[j].root ≠ no) (hover : ∀ j, (hj : j + 1 < S.devs.length) → S.devs[j + 1].over ≠ no)
    (hup : ∀ q ∈ S.nodes, q.kind = 1 → q.no ≠ no → q.no ≠ k' → UpOk S q ∧ (rootF S.devs q.dev ≠ q.no → q.up ≠ no)) : TreB c k' ⟨dropN S.nodes no, S.devs, S.last⟩ := by
  have hlen : (dropN S.nodes no).length ≤ S.nodes.length := List.length_filter_le ..
  refine ⟨h.nos.drop no, h.last, h.devs, h.eight, h.roots, ?_, ?_, ?_, ?_, ?_, ?_, ?_, ?_, h.root1, ?_, ?_, ?_, ?_, h.over0, ?_, ?_, ?_⟩
  · have := h.count
    show ((dropN S.nodes no).length : Int) ≤ S.last
    omega
  · exact fun m hm => h.small m (mem_drop hm).1
  · exact fun m hm => h.rise m (mem_drop hm).1
  · exact fun m hm => h.names m (mem_drop hm).1
  · exact fun m hm => h.pos m (mem_drop hm).1
  · exact fun m hm => h.on m (mem_drop hm).1
  · obtain ⟨m, hm, e⟩ := h.first
    exact ⟨m, drop_mem hm (by rw [e]; exact Ne.symm h1), e⟩
  · exact fun m hm => h.one m (mem_drop hm).1
  · exact fun m hm => h.dlinks m (mem_drop hm).1
  · intro m hm hk hmk
    obtain ⟨hm, hne⟩ := mem_drop hm
    obtain ⟨u, v⟩ := hup m hm hk hne hmk
    rcases u with u | ⟨u1, u2, q, hq, u3, u4⟩
    · exact .inl u
    · exact .inr ⟨u1, u2, q, drop_mem hq (by rw [u3]; exact v u1), u3, u4⟩
  · exact fun m hm => h.bits m (mem_drop hm).1
  · intro m hm x hx
    have hK := h.kin m (mem_drop hm).1 x hx
    exact ⟨hK.1, hK.2.1, fun q hq e => hK.2.2 q (mem_drop hq).1 e⟩
  · intro j hj
    obtain ⟨m, hm, o1, o⟩ := h.overs j hj
    exact ⟨m, drop_mem hm (by rw [o1]; exact hover j hj), o1, o⟩
  · intro j hj
    obtain ⟨m, hm, o1, o⟩ := h.rootsIn j hj
    exact ⟨m, drop_mem hm (by rw [o1]; exact hroot j hj), o1, o⟩
  · obtain ⟨d, hd⟩ := h.deep
    exact ⟨d, fun m hm => hd m (mem_drop hm).1⟩
theorem node_eq {S : TreeD} (hu : NosUp S.nodes S.last) {m n : NodeD} (hm : m ∈ S.nodes) (hn : n ∈ S.nodes) (e : m.no = n.no) : m = n := by
  have h1 := (mem_getN hu hm).1
  have h2 := (mem_getN hu hn).1
  rw [e] at h1
  exact h1.symm.trans h2
theorem over_free {c : Nat} {k : Int} {S : TreeD} (h : TreB c k S) {no : Int} (h1 : 1 ≤ no) (ho : overF S.devs no = no) : ∀ j, (hj : j + 1 < S.devs.length) → S.devs[j + 1].over ≠ no := by
  intro j hj e
  unfold overF at ho
  rw [if_pos (by omega)] at ho
  cases hf : S.devs.find? (fun d => d.over == no) with
  | none =>
    have := List.find?_eq_none.1 hf _ (List.getElem_mem hj)
    simp at this
    exact this e
  | some x =>
    rw [hf] at ho
    have hx := List.find?_some hf
    have hxm := List.mem_of_find?_eq_some hf
    obtain ⟨i, hi, rfl⟩ := List.getElem_of_mem hxm
    simp only [beq_iff_eq] at hx
    cases i with
    | zero => rw [h.over0 hi] at hx; omega
    | succ i =>
      obtain ⟨m, hm, a1, _, a3⟩ := h.rootsIn (i + 1) hi
      obtain ⟨q, hq, b1, _, b3, _⟩ := h.overs i hi
      have : m = q := node_eq h.nos hm hq (by rw [a1, b1, hx]; exact ho)
      subst this
      omega
/-- A node is killed; a directory must have nothing in it. -/
theorem tre_kill {c : Nat} {k k' : Int} {S : TreeD} (h : TreB c k S) {no : Int} (hk : killB S no = true) (ho : overF S.devs no = no) (hkk : k = k' ∨ k = no ∨ k = 0) (hne : (getN S.nodes no).kind = 1 → (getN S.nodes no).ents = []) : TreB c k' (killT S no) := by
  unfold killT
  rw [if_pos hk]
  unfold killB at hk
  rw [Bool.and_eq_true] at hk
  obtain ⟨hi, hr⟩ := hk
  obtain ⟨_, hno, hm⟩ := isN_true hi
  obtain ⟨n, hn⟩ : ∃ n, n = Proofs.YtjblimclakfhfaaGreat.getN S.nodes no := ⟨_, rfl⟩
  rw [← hn] at hno hm hr hne ⊢
  have hr2 : rootF S.devs n.dev ≠ no := by simpa using hr
  have hon := h.on n hm
  have hfine : Fine (takeQ (devN S.devs n.dev).q (-(blocksF n.kind n.data.length)) (-1)) := by
    rcases rootF_zero h.roots n.dev with ⟨_, e2⟩ | ⟨j, hj, _, _, e3, _, _, e6⟩
    · rw [e2] at hon; cases hon.1
    · rw [e3]; exact takeQ_fine e6
  have hpos := (h.nos.2 n hm).1
  have hov := over_free h (by rw [← hno]; exact hpos) ho
  have hroots : ∀ j, (hj : j < S.devs.length) → S.devs[j].root ≠ no := by
    intro j hj e
    obtain ⟨m, hm2, a1, _, a3⟩ := h.rootsIn j hj
    have : m = n := node_eq h.nos hm2 hm (by rw [a1, e, hno])
    subst this
    rw [a3, rootAt hj] at hr2
    exact hr2 e
  have hA := tre_room h n.dev _ hfine S.last (Int.le_refl _)
  unfold killQ
  obtain ⟨Q, hQ⟩ : ∃ Q, Q = setQ S.devs n.dev (takeQ (devN S.devs n.dev).q (-(blocksF n.kind n.data.length)) (-1)) := ⟨_, rfl⟩
  rw [← hQ] at hA ⊢
  have hlen : Q.length = S.devs.length := by rw [hQ, setQ_len]
  have hat : ∀ j, (hj : j < Q.length) → (hj2 : j < S.devs.length) → Q[j].root = S.devs[j].root ∧ Q[j].over = S.devs[j].over := by
    intro j hj hj2; subst hQ; exact setQ_at hj hj2
  refine tre_drop hA (fun e => ?_) (fun j hj => ?_) (fun j hj => ?_) (fun q hq hqk hqn hqk' => ?_)
  · have := (h.one n hm (by rw [hno, e])).2.1
    rw [this, h.root1, e] at hr2
    exact hr2 rfl
  · have hj2 : j < S.devs.length := by rw [← hlen]; exact hj
    show Q[j].root ≠ no
    rw [(hat j hj hj2).1]
    exact hroots j hj2
  · have hj2 : j + 1 < S.devs.length := by rw [← hlen]; exact hj
    show Q[j + 1].over ≠ no
    rw [(hat (j + 1) hj hj2).2]
    exact hov j hj2
  · have hq0 : q.no ≠ k := by
      rcases hkk with e | e | e
      · rw [e]; exact hqk'
      · rw [e]; exact hqn
      · have := (h.nos.2 q hq).1; omega
    refine ⟨hA.ups q hq hqk hq0, fun hrq e => ?_⟩
    rcases h.ups q hq hqk hq0 with ⟨u1, _⟩ | ⟨_, _, m, hm2, u3, u4, _, x, hx, _⟩
    · apply hrq
      show rootF Q q.dev = q.no
      rw [hQ, rootQ]; exact u1
    · have : m = n := node_eq h.nos hm2 hm (by rw [u3, e, hno])
      subst this
      rw [hne u4] at hx
      cases hx
/-- The way up in one mount. -/
inductive UpTo (S : TreeD) (a : Int) : Int → Prop
  | here : UpTo S a a
  | up {q : NodeD} (hq : q ∈ S.nodes) (hk : q.kind = 1) (hu : q.up ≠ q.no) (h : UpTo S a q.up) : UpTo S a q.no
open Classical in
/-- A directory lies elsewhere: not in itself. -/
theorem tre_lies {c : Nat} {S : TreeD} {n m0 t : NodeD} (h : TreB c n.no S) (hm0 : m0 ∈ S.nodes) (hno : m0.no = n.no) (hk0 : m0.kind = 1) (hk : n.kind = 1) (hv : n.dev = m0.dev) (hen : n.ents = m0.ents) (hdat : n.data.length ≤ 1048576) (hl : n.links = 1) (hmo : n.mode = m0.mode)
    (ht : t ∈ S.nodes) (htk : t.kind = 1) (htv : t.dev = n.dev) (htx : ∃ x ∈ t.ents, x.2 = n.no) (hup : n.up = t.no) (hroot : rootF S.devs n.dev ≠ n.no) (hin : ¬ UpTo S n.no t.no) : Tre c (setT S n) := by
  have hi := (mem_getN h.nos hm0).2
  rw [hno] at hi
  have htn : t.no ≠ n.no := fun e => hin (by rw [e]; exact .here)
  have hg := (mem_getN h.nos hm0).1
  rw [hno] at hg
  have move : ∀ m ∈ S.nodes, ∃ m' ∈ (setT S n).nodes, m'.no = m.no ∧ m'.kind = m.kind ∧ m'.dev = m.dev ∧ m'.ents = m.ents := by
    intro m hm
    by_cases e : m.no = n.no
    · have : m = m0 := node_eq h.nos hm hm0 (e.trans hno.symm)
      subst this
      exact ⟨n, mem_set_self hm e, e.symm, hk.trans hk0.symm, hv, hen⟩
    · exact ⟨m, mem_set' hm e, rfl, rfl, rfl, rfl⟩
  have back : ∀ m ∈ (setT S n).nodes, ∃ m' ∈ S.nodes, m'.no = m.no ∧ m'.kind = m.kind ∧ m'.dev = m.dev ∧ m'.ents = m.ents ∧ m'.mode = m.mode := by
    intro m hm
    rcases mem_setT hm with ⟨hm, _⟩ | rfl
    · exact ⟨m, hm, rfl, rfl, rfl, rfl, rfl⟩
    · exact ⟨m0, hm0, hno, hk0.trans hk.symm, hv.symm, hen.symm, hmo.symm⟩
  refine ⟨h.nos.set n, h.last, h.devs, h.eight, h.roots, ?_, ?_, ?_, ?_, ?_, ?_, ?_, ?_, h.root1, ?_, ?_, ?_, ?_, h.over0, ?_, ?_, ?_⟩
  · show ((setN S.nodes n).length : Int) ≤ S.last; rw [setN_len]; exact h.count
  · intro m hm; obtain ⟨m', hm', _, _, _, e, _⟩ := back m hm; rw [← e]; exact h.small m' hm'
  · intro m hm; obtain ⟨m', hm', _, _, _, e, _⟩ := back m hm; rw [← e]; exact h.rise m' hm'
  · intro m hm; obtain ⟨m', hm', _, _, _, e, _⟩ := back m hm; rw [← e]; exact h.names m' hm'
  · intro m hm; obtain ⟨m', hm', _, _, _, e, _⟩ := back m hm; rw [← e]; exact h.pos m' hm'
  · intro m hm
    rcases mem_setT hm with ⟨hm, _⟩ | rfl
    · exact h.on m hm
    · exact ⟨by rw [hv]; exact (h.on _ hm0).1, hdat⟩
  · obtain ⟨m, hm, e⟩ := h.first
    obtain ⟨m', hm', e', _⟩ := move m hm
    exact ⟨m', hm', e'.trans e⟩
  · intro m hm e
    rcases mem_setT hm with ⟨hm, _⟩ | rfl
    · exact h.one m hm e
    · have h1 := (h.one _ hm0 (hno.trans e)).2.1
      rw [hv, h1, h.root1] at hroot
      exact absurd e.symm hroot
  · intro m hm hmk
    rcases mem_setT hm with ⟨hm, _⟩ | rfl
    · exact h.dlinks m hm hmk
    · exact hl
  · intro m hm hmk _
    rcases mem_setT hm with ⟨hm, hne⟩ | rfl
    · rcases h.ups m hm hmk hne with u | ⟨u1, u2, q, hq, u3, u4, u5, x, hx, u6⟩
      · exact .inl u
      · obtain ⟨q', hq', e1, e2, e3, e4⟩ := move q hq
        exact .inr ⟨u1, u2, q', hq', e1.trans u3, e2.trans u4, e3.trans u5, x, by rw [e4]; exact hx, u6⟩
    · obtain ⟨x, hx, hx2⟩ := htx
      exact .inr ⟨hroot, by rw [hup]; exact htn, t, mem_set' ht htn, hup.symm, htk, htv, x, hx, hx2⟩
  · intro m hm
    rcases mem_setT hm with ⟨hm, _⟩ | rfl
    · exact h.bits m hm
    · have := h.bits m0 hm0
      rw [hmo, hl]; omega
  · intro m hm x hx
    obtain ⟨m', hm', e1, e2, e3, e4, _⟩ := back m hm
    rw [← e4] at hx
    have hK := h.kin m' hm' x hx
    rw [e1, e3] at hK
    refine ⟨hK.1, hK.2.1, fun q hq e => ?_⟩
    obtain ⟨q', hq', f1, _, f3, _⟩ := back q hq
    rw [← f3]
    exact hK.2.2 q' hq' (f1.trans e)
  · intro j hj
    obtain ⟨m, hm, o1, o2, o3, o4⟩ := h.overs j hj
    obtain ⟨m', hm', e1, e2, e3, _⟩ := move m hm
    exact ⟨m', hm', e1.trans o1, e2.trans o2, by rw [e3]; exact o3, by rw [e3, e1]; exact o4⟩
  · intro j hj
    obtain ⟨m, hm, o1, o2, o3⟩ := h.rootsIn j hj
    obtain ⟨m', hm', e1, e2, e3, _⟩ := move m hm
    exact ⟨m', hm', e1.trans o1, e2.trans o2, e3.trans o3⟩
  · obtain ⟨d, hd⟩ := h.deep
    refine ⟨fun q => if UpTo S n.no q then d q + d t.no + 1 else d q, fun m hm hmk hmu => ?_⟩
    show (if UpTo S n.no m.up then _ else _) < (if UpTo S n.no m.no then _ else _)
    rcases mem_setT hm with ⟨hm, hne⟩ | rfl
    · have hdm := hd m hm hmk hmu
      by_cases hU : UpTo S n.no m.up
      · rw [if_pos hU, if_pos (.up hm hmk hmu hU)]
        omega
      · have hN : ¬ UpTo S n.no m.no := by
          intro hx
          have aux : ∀ a, UpTo S n.no a → a = m.no → False := by
            intro a ha
            cases ha with
            | here => exact fun e => hne e.symm
            | up hq hqk hqu hq2 =>
              intro e
              have : _ = m := node_eq h.nos hq hm e
              subst this
              exact hU hq2
          exact aux _ hx rfl
        rw [if_neg hU, if_neg hN]
        exact hdm
    · rw [hup, if_neg hin, if_pos .here]
      omega
theorem UpTo.mono {S T : TreeD} {a b : Int} (h : UpTo T a b) (hm : ∀ q ∈ T.nodes, q.kind = 1 → ∃ q' ∈ S.nodes, q'.no = q.no ∧ q'.kind = 1 ∧ q'.up = q.up) : UpTo S a b := by
  induction h with
  | here => exact .here
  | up hq hk hu _ ih =>
    obtain ⟨q', hq', e1, e2, e3⟩ := hm _ hq hk
    rw [← e1]
    exact .up hq' e2 (by rw [e1, e3]; exact hu) (by rw [e3]; exact ih)
/-- Whoever is on the way up is above. -/
theorem UpTo.within {c : Nat} {S : TreeD} (h : Tre c S) {a b : Int} (ha : a ≠ 0) (hU : UpTo S a b) : withinF S b a = true := by
  obtain ⟨r, R⟩ := h.rank
  induction hU with
  | here => exact within_base ha rfl
  | @up q hq hk hu _ ih =>
    by_cases e : q.no = a
    · exact within_base (by have := (h.nos.2 q hq).1; omega) e
    · have hg := (mem_getN h.nos hq).1
      have hab : aboveF S q.no = q.up := by
        unfold aboveF
        rw [hg, if_pos hk]
        rcases h.ups0 q hq hk with ⟨_, u2⟩ | ⟨u1, _⟩
        · exact absurd u2 hu
        · rw [if_neg (fun x => u1 x.1)]
      rw [within_step R (by have := (h.nos.2 q hq).1; omega) e (by rw [hab]; exact hu), hab]
      exact ih
end Go.Proofs.YtjblimclakfhfaaGreat
