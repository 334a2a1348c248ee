/- Layer 6 (info), plain: what a trashinfo text tells. -/
import Derived.Test.YtanaifobmkjpaaaDoorLinP
import Derived.Test.YtanaifobmkjpaaaDoorPctP
import Derived.Lib.SlTrimSet
namespace Go.Proofs.YtanaifobmkjpaaaDoor
open Go

abbrev Ln := List UInt8
def bl3 : Ln := [32, 9, 13]
def bl2 : Ln := [32, 9]
def headT : Ln := [91, 84, 114, 97, 115, 104, 32, 73, 110, 102, 111, 93]
def pathK : Ln := [80, 97, 116, 104]
def dayK : Ln := [68, 101, 108, 101, 116, 105, 111, 110, 68, 97, 116, 101]
/-- The lines of the group that has begun. -/
def grp : List Ln → List Ln
  | [] => []
  | l :: r => if Lib.trimS l bl3 = [] ∨ (Lib.trimS l bl3).head? = some 35 then grp r else if (Lib.trimS l bl3).head? = some 91 then [] else Lib.trimS l bl3 :: grp r
/-- The lines of the group; none: there is none. -/
def grpO : List Ln → Option (List Ln)
  | [] => none
  | l :: r => if Lib.trimS l bl3 = [] ∨ (Lib.trimS l bl3).head? = some 35 then grpO r else if Lib.trimS l bl3 = headT then some (grp r) else none
/-- What a line tells of a key. -/
def lineV (key t : Ln) : Option Ln := match cutB 61 t with
  | none => none
  | some (k, v) => if Lib.trimS k bl2 = key then some (Lib.trimS v bl2) else none
def valueF (key : Ln) : List Ln → Option Ln
  | [] => none
  | t :: r => match lineV key t with
    | some v => some v
    | none => valueF key r
structure InfS where
  path : Ln
  day : Ln
  inn : Bool
  paths : Nat
  days : Nat
def st0 : InfS := ⟨[], [], false, 0, 0⟩
/-- A line of the group goes into the reader. -/
def putL (st : InfS) (t : Ln) : InfS := match cutB 61 t with
  | none => st
  | some (k, v) =>
    if Lib.trimS k bl2 = pathK then { st with path := if st.paths = 0 then Lib.trimS v bl2 else st.path, paths := st.paths + 1 }
    else if Lib.trimS k bl2 = dayK then { st with day := if st.days = 0 then Lib.trimS v bl2 else st.day, days := st.days + 1 }
    else st
/-- info's line. -/
def lineF (st : InfS) (s : Ln) : InfS × Bool :=
  if Lib.trimS s bl3 = [] ∨ (Lib.trimS s bl3).head? = some 35 then (st, true)
  else if st.inn = false then ({ st with inn := decide (Lib.trimS s bl3 = headT) }, decide (Lib.trimS s bl3 = headT))
  else if (Lib.trimS s bl3).head? = some 91 then (st, false)
  else (putL st (Lib.trimS s bl3), true)
def runF : InfS → List Ln → InfS
  | st, [] => st
  | st, l :: r => if (lineF st l).2 = true then runF (lineF st l).1 r else (lineF st l).1
theorem keys_ne : pathK ≠ dayK := by decide
theorem putL_inn (st : InfS) (t : Ln) : (putL st t).inn = st.inn := by
  unfold putL
  split
  · rfl
  · split
    · rfl
    · split <;> rfl
theorem putL_paths (st : InfS) (t : Ln) : (putL st t).paths = (if (lineV pathK t).isSome then st.paths + 1 else st.paths) ∧ (putL st t).path = (if st.paths = 0 then (lineV pathK t).getD st.path else st.path) := by
  unfold putL lineV
  cases cutB 61 t with
  | none => simp
  | some p =>
    obtain ⟨k, v⟩ := p
    dsimp only
    by_cases h1 : Lib.trimS k bl2 = pathK
    · simp [h1]
    · by_cases h2 : Lib.trimS k bl2 = dayK
      · have h3 : Lib.trimS k bl2 ≠ pathK := h1
        simp [h2, keys_ne.symm]
      · simp [h1, h2]
theorem putL_days (st : InfS) (t : Ln) : (putL st t).days = (if (lineV dayK t).isSome then st.days + 1 else st.days) ∧ (putL st t).day = (if st.days = 0 then (lineV dayK t).getD st.day else st.day) := by
  unfold putL lineV
  cases cutB 61 t with
  | none => simp
  | some p =>
    obtain ⟨k, v⟩ := p
    dsimp only
    by_cases h1 : Lib.trimS k bl2 = pathK
    · simp [h1, keys_ne]
    · by_cases h2 : Lib.trimS k bl2 = dayK
      · simp [h2, keys_ne.symm]
      · simp [h1, h2]
theorem putL_le (st : InfS) (t : Ln) : (putL st t).paths ≤ st.paths + 1 ∧ (putL st t).days ≤ st.days + 1 := by
  have h1 := (putL_paths st t).1
  have h2 := (putL_days st t).1
  rw [h1, h2]
  constructor <;> split <;> omega
theorem lineF_le (st : InfS) (s : Ln) : (lineF st s).1.paths ≤ st.paths + 1 ∧ (lineF st s).1.days ≤ st.days + 1 := by
  unfold lineF
  split
  · dsimp only; omega
  · split
    · dsimp only; omega
    · split
      · dsimp only; omega
      · exact putL_le _ _
theorem valueF_cons (key t : Ln) (r : List Ln) : valueF key (t :: r) = (lineV key t).or (valueF key r) := by
  rw [valueF]
  cases lineV key t <;> rfl
/-- Behind the head: what the reader holds is the first values. -/
theorem runF_in : ∀ (ls : List Ln) (st : InfS), st.inn = true →
    ((runF st ls).paths = 0 ↔ st.paths = 0 ∧ valueF pathK (grp ls) = none) ∧ (runF st ls).path = (if st.paths = 0 then (valueF pathK (grp ls)).getD st.path else st.path) ∧
    (runF st ls).day = (if st.days = 0 then (valueF dayK (grp ls)).getD st.day else st.day)
  | [], st, _ => by simp [runF, grp, valueF]
  | l :: r, st, h => by
    rw [runF, grp]
    by_cases c1 : Lib.trimS l bl3 = [] ∨ (Lib.trimS l bl3).head? = some 35
    · have e : lineF st l = (st, true) := by unfold lineF; rw [if_pos c1]
      rw [e, if_pos rfl, if_pos c1]
      exact runF_in r st h
    · by_cases c2 : (Lib.trimS l bl3).head? = some 91
      · have e : lineF st l = (st, false) := by unfold lineF; rw [if_neg c1, if_neg (by rw [h]; simp), if_pos c2]
        rw [e, if_neg (by simp), if_neg c1, if_pos c2]
        simp [valueF]
      · have e : lineF st l = (putL st (Lib.trimS l bl3), true) := by unfold lineF; rw [if_neg c1, if_neg (by rw [h]; simp), if_neg c2]
        rw [e, if_pos rfl, if_neg c1, if_neg c2]
        obtain ⟨i1, i2, i3⟩ := runF_in r (putL st (Lib.trimS l bl3)) ((putL_inn _ _).trans h)
        obtain ⟨p1, p2⟩ := putL_paths st (Lib.trimS l bl3)
        obtain ⟨d1, d2⟩ := putL_days st (Lib.trimS l bl3)
        rw [i1, i2, i3, p1, p2, d1, d2, valueF_cons, valueF_cons]
        cases lineV pathK (Lib.trimS l bl3) <;> cases lineV dayK (Lib.trimS l bl3) <;> by_cases z1 : st.paths = 0 <;> by_cases z2 : st.days = 0 <;> simp [z1, z2]
theorem runF_top : ∀ (ls : List Ln) (st : InfS), st.inn = false → st.paths = 0 → st.days = 0 → st.path = [] → st.day = [] →
    ((runF st ls).paths = 0 ↔ (grpO ls).bind (valueF pathK) = none) ∧ (runF st ls).path = ((grpO ls).bind (valueF pathK)).getD [] ∧ (runF st ls).day = ((grpO ls).bind (valueF dayK)).getD []
  | [], st, _, h1, _, h3, h4 => by simp [runF, grpO, h1, h3, h4]
  | l :: r, st, h, h1, h2, h3, h4 => by
    rw [runF, grpO]
    by_cases c1 : Lib.trimS l bl3 = [] ∨ (Lib.trimS l bl3).head? = some 35
    · have e : lineF st l = (st, true) := by unfold lineF; rw [if_pos c1]
      rw [e, if_pos rfl, if_pos c1]
      exact runF_top r st h h1 h2 h3 h4
    · by_cases c2 : Lib.trimS l bl3 = headT
      · have e : lineF st l = ({ st with inn := true }, true) := by unfold lineF; rw [if_neg c1, if_pos h]; simp [c2]
        rw [e, if_pos rfl, if_neg c1, if_pos c2]
        obtain ⟨i1, i2, i3⟩ := runF_in r { st with inn := true } rfl
        rw [i1, i2, i3]
        simp [h1, h2, h3, h4]
      · have e : lineF st l = ({ st with inn := false }, false) := by unfold lineF; rw [if_neg c1, if_pos h]; simp [c2]
        rw [e, if_neg (by simp), if_neg c1, if_neg c2]
        simp [h1, h3, h4]
/-- What a text tells: the path, if one. -/
def pathO (l : Ln) : Option Ln := (((grpO (pcB 10 [] l)).bind (valueF pathK)).bind decL).bind fun p => if p = [] ∨ 0 ∈ p then none else some p
def dayO (l : Ln) : Ln := ((grpO (pcB 10 [] l)).bind (valueF dayK)).getD []

/-- Bytes from 33 to 126 alone. -/
def Vis (l : Ln) : Prop := ∀ c ∈ l, 33 ≤ c.toNat ∧ c.toNat ≤ 126
theorem Vis.append {a b : Ln} (ha : Vis a) (hb : Vis b) : Vis (a ++ b) := fun c hc => by
  rcases List.mem_append.1 hc with h | h
  · exact ha c h
  · exact hb c h
theorem dropWhile_no {p : UInt8 → Bool} {l : Ln} (h : ∀ c ∈ l, p c = false) : l.dropWhile p = l := by
  cases l with
  | nil => rfl
  | cons a r => rw [List.dropWhile_cons, if_neg (by rw [h a (by simp)]; simp)]
theorem trimS_no {l cs : Ln} (h : ∀ c ∈ l, cs.contains c = false) : Lib.trimS l cs = l := by
  unfold Lib.trimS Lib.trimLeftS Lib.trimRightS
  have h1 : l.reverse.dropWhile (cs.contains ·) = l.reverse := dropWhile_no (fun c hc => h c (List.mem_reverse.1 hc))
  rw [h1, List.reverse_reverse]
  exact dropWhile_no h
theorem vis_bl3 {c : UInt8} (h : 33 ≤ c.toNat ∧ c.toNat ≤ 126) : bl3.contains c = false := by
  have : ∀ n : Fin 256, 33 ≤ n.val → bl3.contains (UInt8.ofNat n.val) = false := by decide +kernel
  have h1 := this ⟨c.toNat, c.toNat_lt⟩ h.1
  simpa using h1
theorem vis_bl2 {c : UInt8} (h : 33 ≤ c.toNat ∧ c.toNat ≤ 126) : bl2.contains c = false := by
  have : ∀ n : Fin 256, 33 ≤ n.val → bl2.contains (UInt8.ofNat n.val) = false := by decide +kernel
  have h1 := this ⟨c.toNat, c.toNat_lt⟩ h.1
  simpa using h1
theorem Vis.trim3 {l : Ln} (h : Vis l) : Lib.trimS l bl3 = l := trimS_no fun c hc => vis_bl3 (h c hc)
theorem Vis.trim2 {l : Ln} (h : Vis l) : Lib.trimS l bl2 = l := trimS_no fun c hc => vis_bl2 (h c hc)
theorem Vis.no10 {l : Ln} (h : Vis l) : (10 : UInt8) ∉ l := fun hc => by have := (h 10 hc).1; simp at this
theorem vis_encC (c : UInt8) : Vis (encC c) := by
  have : ∀ n : Fin 256, ∀ x ∈ encC (UInt8.ofNat n.val), 33 ≤ x.toNat ∧ x.toNat ≤ 126 := by decide +kernel
  have h1 := this ⟨c.toNat, c.toNat_lt⟩
  intro x hx
  exact h1 x (by simpa using hx)
theorem vis_enc (l : Ln) : Vis (encL l) := fun c hc => by
  obtain ⟨a, _, ha⟩ := List.mem_flatMap.1 hc
  exact vis_encC a c ha
theorem head_trim {c : UInt8} {x cs : Ln} (h : cs.contains c = false) : (Lib.trimS (c :: x) cs).head? = some c := by
  have h1 : ∃ y, Lib.trimRightS (c :: x) cs = c :: y := by
    unfold Lib.trimRightS
    rw [List.reverse_cons]
    have key : ∀ z : Ln, ∃ y, ((z ++ [c]).dropWhile (cs.contains ·)) = y ++ [c] := by
      intro z
      induction z with
      | nil => exact ⟨[], by rw [List.nil_append, List.dropWhile_cons, if_neg (by rw [h]; simp)]⟩
      | cons a r ih =>
        rw [List.cons_append, List.dropWhile_cons]
        split
        · exact ih
        · exact ⟨a :: r, rfl⟩
    obtain ⟨y, hy⟩ := key x.reverse
    exact ⟨y.reverse, by rw [hy]; simp⟩
  obtain ⟨y, hy⟩ := h1
  unfold Lib.trimS Lib.trimLeftS
  rw [hy, List.dropWhile_cons, if_neg (by rw [h]; simp)]
  rfl
theorem head_trim3 : Lib.trimS headT bl3 = headT := by decide
theorem head_no10 : (10 : UInt8) ∉ headT := by decide
theorem path_vis : Vis pathK := by unfold Vis pathK; decide
theorem day_vis : Vis dayK := by unfold Vis dayK; decide
theorem eq_vis : Vis [61] := by unfold Vis; decide
/-- A trashinfo file's text. -/
def writeF (p d : Ln) : Ln := headT ++ 10 :: ((pathK ++ 61 :: encL p) ++ 10 :: ((dayK ++ 61 :: d) ++ [10]))
theorem pcB_line {A R : Ln} (h : (10 : UInt8) ∉ A) : pcB 10 [] (A ++ 10 :: R) = A :: pcB 10 [] R := by rw [pcB_at R A [] h]; rfl
theorem pcB_write {p d : Ln} (hd : Vis d) (rest : Ln) : pcB 10 [] (writeF p d ++ rest) = headT :: (pathK ++ 61 :: encL p) :: (dayK ++ 61 :: d) :: pcB 10 [] rest := by
  have h1 : Vis (pathK ++ 61 :: encL p) := path_vis.append (eq_vis.append (vis_enc p))
  have h2 : Vis (dayK ++ 61 :: d) := day_vis.append (eq_vis.append hd)
  have e : writeF p d ++ rest = headT ++ 10 :: ((pathK ++ 61 :: encL p) ++ 10 :: ((dayK ++ 61 :: d) ++ 10 :: rest)) := by unfold writeF; simp
  rw [e, pcB_line head_no10, pcB_line h1.no10, pcB_line h2.no10]
theorem grp_vis {t : Ln} {r : List Ln} (h : Vis t) {c : UInt8} (hc : t.head? = some c) (h1 : c ≠ 35) (h2 : c ≠ 91) : grp (t :: r) = t :: grp r := by
  rw [grp, h.trim3, hc, if_neg (by
    rintro (h3 | h3)
    · rw [h3] at hc; simp at hc
    · exact h1 (Option.some.inj h3)), if_neg (fun h3 => h2 (Option.some.inj h3))]
theorem grpO_write {p d : Ln} (hd : Vis d) (R : List Ln) : grpO (headT :: (pathK ++ 61 :: encL p) :: (dayK ++ 61 :: d) :: R) = some ((pathK ++ 61 :: encL p) :: (dayK ++ 61 :: d) :: grp R) := by
  have h1 : Vis (pathK ++ 61 :: encL p) := path_vis.append (eq_vis.append (vis_enc p))
  have h2 : Vis (dayK ++ 61 :: d) := day_vis.append (eq_vis.append hd)
  rw [grpO, head_trim3, if_neg (by decide), if_pos rfl, grp_vis h1 (c := 80) rfl (by decide) (by decide), grp_vis h2 (c := 68) rfl (by decide) (by decide)]
theorem lineV_at {key k v : Ln} (hk : (61 : UInt8) ∉ k) (h1 : Vis k) (h2 : Vis v) : lineV key (k ++ 61 :: v) = if k = key then some v else none := by
  unfold lineV
  rw [cutB_at k v hk]
  dsimp only
  rw [h1.trim2, h2.trim2]
/-- What is written, read. -/
theorem read_write {p d : Ln} (hd : Vis d) (rest : Ln) (hp : p ≠ []) (h0 : (0 : UInt8) ∉ p) : pathO (writeF p d ++ rest) = some p ∧ dayO (writeF p d ++ rest) = d := by
  unfold pathO dayO
  rw [pcB_write hd, grpO_write hd]
  have a1 := lineV_at (key := pathK) (k := pathK) (v := encL p) (by decide) path_vis (vis_enc p)
  have a2 := lineV_at (key := dayK) (k := pathK) (v := encL p) (by decide) path_vis (vis_enc p)
  have a3 := lineV_at (key := dayK) (k := dayK) (v := d) (by decide) day_vis hd
  rw [if_pos rfl] at a1 a3
  rw [if_neg keys_ne] at a2
  constructor
  · show ((valueF pathK _).bind decL).bind _ = _
    rw [valueF_cons, a1]
    show (decL (encL p)).bind _ = _
    rw [decL_encL]
    show (if p = [] ∨ 0 ∈ p then none else some p) = some p
    rw [if_neg (by rintro (h | h); exact hp h; exact h0 h)]
  · show (valueF dayK _).getD [] = d
    rw [valueF_cons, a2, valueF_cons, a3]
    rfl
/-- An empty line and a comment ahead of it tell nothing. -/
theorem skip2 (m u : Ln) (hm : (10 : UInt8) ∉ m) : pathO (10 :: 35 :: 32 :: (m ++ 10 :: u)) = pathO u ∧ dayO (10 :: 35 :: 32 :: (m ++ 10 :: u)) = dayO u := by
  have e : pcB 10 [] (10 :: 35 :: 32 :: (m ++ 10 :: u)) = [] :: (35 :: 32 :: m) :: pcB 10 [] u := by
    have h1 := pcB_line (A := []) (R := 35 :: 32 :: (m ++ 10 :: u)) (by simp)
    have h2 := pcB_line (A := 35 :: 32 :: m) (R := u) (by simp [hm])
    rw [List.nil_append] at h1
    rw [h1]
    rw [List.cons_append, List.cons_append] at h2
    rw [h2]
  have g : grpO ([] :: (35 :: 32 :: m) :: pcB 10 [] u) = grpO (pcB 10 [] u) := by
    rw [grpO, if_pos (.inl rfl), grpO, if_pos (.inr (head_trim (by decide)))]
  unfold pathO dayO
  rw [e, g]
  exact ⟨rfl, rfl⟩
theorem writeF_drop (p d : Ln) : (writeF p d).drop 13 = (pathK ++ 61 :: encL p) ++ 10 :: ((dayK ++ 61 :: d) ++ [10]) := rfl
theorem writeF_len (p d : Ln) : (writeF p d).length = 33 + (encL p).length + d.length := by
  unfold writeF headT pathK dayK
  simp only [List.length_append, List.length_cons, List.length_nil]
  omega

theorem dw_nil {p : UInt8 → Bool} : ∀ {y : Ln}, y.dropWhile p = [] ↔ ∀ x ∈ y, p x = true
  | [] => by simp
  | a :: q => by
    rw [List.dropWhile_cons]
    split
    · rename_i ha
      rw [dw_nil]
      simp [ha]
    · rename_i ha
      simp [ha]
theorem dw_len (p : UInt8 → Bool) : ∀ y : Ln, (y.dropWhile p).length ≤ y.length
  | [] => Nat.le_refl _
  | a :: q => by
    rw [List.dropWhile_cons]
    split
    · exact Nat.le_succ_of_le (dw_len p q)
    · exact Nat.le_refl _
def setB (cr : Bool) : Ln := if cr then bl3 else bl2
/-- From the front, then from the back. -/
def bareF (s cs : Ln) : Ln := Lib.trimRightS (Lib.trimLeftS s cs) cs
theorem trimL_cons {c : UInt8} {r cs : Ln} (h : cs.contains c = true) : Lib.trimLeftS (c :: r) cs = Lib.trimLeftS r cs := by
  unfold Lib.trimLeftS
  rw [List.dropWhile_cons, if_pos h]
theorem trimL_stop {c : UInt8} {r cs : Ln} (h : cs.contains c = false) : Lib.trimLeftS (c :: r) cs = c :: r := by
  unfold Lib.trimLeftS
  rw [List.dropWhile_cons, if_neg (by rw [h]; simp)]
theorem trimR_snoc {c : UInt8} {r cs : Ln} (h : cs.contains c = true) : Lib.trimRightS (r ++ [c]) cs = Lib.trimRightS r cs := by
  unfold Lib.trimRightS
  rw [List.reverse_append, List.reverse_singleton, List.singleton_append, List.dropWhile_cons, if_pos h]
theorem trimR_stop {c : UInt8} {r cs : Ln} (h : cs.contains c = false) : Lib.trimRightS (r ++ [c]) cs = r ++ [c] := by
  unfold Lib.trimRightS
  rw [List.reverse_append, List.reverse_singleton, List.singleton_append, List.dropWhile_cons, if_neg (by rw [h]; simp)]
  simp
theorem trimR_cons {c : UInt8} {cs : Ln} (h : cs.contains c = false) : ∀ (z : Ln), Lib.trimRightS (c :: z) cs = c :: Lib.trimRightS z cs := by
  intro z
  unfold Lib.trimRightS
  rw [List.reverse_cons]
  have key : ∀ y : Ln, ((y ++ [c]).dropWhile (cs.contains ·)) = y.dropWhile (cs.contains ·) ++ [c] := by
    intro y
    induction y with
    | nil => rw [List.nil_append, List.dropWhile_cons, if_neg (by rw [h]; simp)]; rfl
    | cons a r ih =>
      rw [List.cons_append, List.dropWhile_cons, List.dropWhile_cons]
      split
      · exact ih
      · rfl
  rw [key]
  simp
theorem bareF_eq (cs : Ln) : ∀ s : Ln, bareF s cs = Lib.trimS s cs
  | [] => rfl
  | c :: r => by
    cases h : cs.contains c with
    | true =>
      have ih := bareF_eq cs r
      unfold bareF at ih ⊢
      rw [trimL_cons h, ih]
      unfold Lib.trimS
      -- the byte c goes from the front
      by_cases hz : Lib.trimRightS r cs = []
      · have h1 : Lib.trimRightS (c :: r) cs = [] := by
          unfold Lib.trimRightS at hz ⊢
          rw [List.reverse_eq_nil_iff] at hz ⊢
          rw [List.reverse_cons]
          rw [dw_nil] at hz ⊢
          intro x hx
          rcases List.mem_append.1 hx with hx | hx
          · exact hz x hx
          · rw [List.mem_singleton.1 hx]; exact h
        rw [hz, h1]
      · have h1 : Lib.trimRightS (c :: r) cs = c :: Lib.trimRightS r cs := by
          unfold Lib.trimRightS at hz ⊢
          rw [List.reverse_cons]
          have key : ∀ y : Ln, y.dropWhile (cs.contains ·) ≠ [] → ((y ++ [c]).dropWhile (cs.contains ·)) = y.dropWhile (cs.contains ·) ++ [c] := by
            intro y
            induction y with
            | nil => intro hy; exact absurd rfl hy
            | cons a q ih2 =>
              intro hy
              rw [List.cons_append, List.dropWhile_cons, List.dropWhile_cons]
              rw [List.dropWhile_cons] at hy
              split
              · rename_i ha
                rw [if_pos ha] at hy
                exact ih2 hy
              · rfl
          rw [key _ (fun e => hz (by rw [e]; rfl))]
          simp
        rw [h1, trimL_cons h]
    | false =>
      unfold bareF Lib.trimS
      rw [trimL_stop h, trimR_cons h, trimL_stop h]
theorem contains3 (c : UInt8) : bl3.contains c = (c == 32 || c == 9 || c == 13) := by
  have : ∀ n : Fin 256, bl3.contains (UInt8.ofNat n.val) = (UInt8.ofNat n.val == 32 || UInt8.ofNat n.val == 9 || UInt8.ofNat n.val == 13) := by decide +kernel
  have h1 := this ⟨c.toNat, c.toNat_lt⟩
  simpa using h1
theorem contains2 (c : UInt8) : bl2.contains c = (c == 32 || c == 9) := by
  have : ∀ n : Fin 256, bl2.contains (UInt8.ofNat n.val) = (UInt8.ofNat n.val == 32 || UInt8.ofNat n.val == 9) := by decide +kernel
  have h1 := this ⟨c.toNat, c.toNat_lt⟩
  simpa using h1
theorem trimS_len (s cs : Ln) : (Lib.trimS s cs).length ≤ s.length := by
  unfold Lib.trimS Lib.trimLeftS Lib.trimRightS
  have h1 := dw_len (cs.contains ·) (s.reverse.dropWhile (cs.contains ·)).reverse
  have h2 := dw_len (cs.contains ·) s.reverse
  simp only [List.length_reverse] at h1 h2
  omega
end Go.Proofs.YtanaifobmkjpaaaDoor
