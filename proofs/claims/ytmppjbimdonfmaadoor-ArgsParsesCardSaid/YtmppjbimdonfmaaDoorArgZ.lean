/- Layer 46 (args): commands in memory; option, enough. -/
import Derived.Test.YtmppjbimdonfmaaDoorArgY
namespace Go.Proofs.YtmppjbimdonfmaaDoor
open Go.ChangeShapes Go.WideShapes Go.ChangeAt Go.RowKit

theorem res_cell_tmp {P : Program} {fn : Func} {p t : Tmp} {ty : TypeId} (h : fn.results = #[.cell p ty, .tmp t]) (tmps : Array Value) (w : World) (g : Nat) (tt : TypeId) (cs : Array Value) (d : TypeDesc) (v : Value)
    (hp : tmps.getD p undef = .pointer (some ⟨g, 0, none⟩)) (hv : tmps.getD t undef = v) (hg : Has w g (.cells cs tt))
    (hu : P.underlying ty = some d) (hd : (match d with | .struct _ | .array _ _ => true | _ => false) = true) (hi : (P.info? ty).map (·.size) = some cs.size) :
    (results fn tmps).run P w = .ok (.tuple #[.agg cs, v]) w := by
  have hp' : tmps[p]?.getD undef = .pointer (some ⟨g, 0, none⟩) := by simpa using hp
  have hv' : tmps[t]?.getD undef = v := by simpa using hv
  have hl := run_loadVar_row (P := P) w g tt ty cs (0, 0) d hg hu hd hi
  simp [results, h, hp', hv', asAddr, hl]
theorem Has.set {w : World} {b : Nat} {C : Array Value} {t : TypeId} {fr : Nat × Nat} (h : Has w b (.cells C t fr)) (i : Nat) (v : Value) : Has (w.setCell ⟨b, i, none⟩ v) b (.cells (C.setIfInBounds i v) t fr) := by
  unfold Has at h ⊢
  unfold World.setCell
  rw [Array.getElem?_modify, if_pos rfl, h]; rfl
theorem setCell_block (w : World) (a : Addr) (v : Value) (k : Nat) (h : k ≠ a.block) : (w.setCell a v).heap[k]? = w.heap[k]? := by
  unfold World.setCell
  rw [Array.getElem?_modify, if_neg (fun e => h e.symm)]
theorem grown_set (w : World) (a : Addr) (v : Value) : w.grownBy (w.setCell a v) (some a.block) :=
  ⟨rfl, rfl, rfl, by simp, fun k _ h => setCell_block w a v k (fun e => h (by rw [e]))⟩
/-- A row of texts lies in no block of another type. -/
theorem row_ne {w : World} {base B : Nat} {v : Value} {n : Nat} {xs : List Value} {C : Array Value} {t : TypeId} {fr : Nat × Nat} (h : w.ownsRow base 9 1 v n xs) (hb : Has w B (.cells C t fr)) (ht : t ≠ 9) : v.ownBlock ≠ some B := by
  rcases h.2 with ⟨rfl, _⟩ | ⟨g, cap, cur, rfl, _, hg, _⟩
  · intro e; cases e
  · intro e
    injection e with e
    subst e
    unfold Has at hb
    rw [hb] at hg
    injection hg with hg
    injection hg with _ hg _
    exact ht hg
theorem OwnT.set {w : World} {base B i : Nat} {v : Value} {l : List Txt} {C : Array Value} {t : TypeId} {fr : Nat × Nat} (h : OwnT w base v l) (hb : Has w B (.cells C t fr)) (ht : t ≠ 9) (u : Value) : OwnT (w.setCell ⟨B, i, none⟩ u) base v l :=
  World.ownsRow.kept h (grown_set w ⟨B, i, none⟩ u) (.inr (row_ne h hb ht))
theorem Has.grown {w w' : World} {B : Nat} {o : Obj} {row : Option Nat} (h : Has w B o) (hg : w.grownBy w' row) (hr : row ≠ some B) : Has w' B o :=
  (hg.block B h.lt (fun e => hr e.symm)).trans h
theorem OwnT.ext {w w' : World} {b : Nat} {v : Value} {l : List Txt} (h : OwnT w b v l) (hE : Ext w w') : OwnT w' b v l :=
  World.ownsRow.kept h hE.grownBy (by cases v.ownBlock <;> simp)
/-- A command's six cells. -/
def cmdC (k : Int) (v : Value) (b d : Bool) (a q : Int) : Array Value := #[.int .i64 k, v, .bool b, .bool d, .int .i64 a, .int .i64 q]
def CmdAt (w : World) (B : Nat) (k : Int) (v : Value) (b d : Bool) (a q : Int) : Prop := Has w B (.cells (cmdC k v b d a q) 62)
theorem CmdAt.cells {w : World} {B : Nat} {k : Int} {v : Value} {b d : Bool} {a q : Int} (h : CmdAt w B k v b d a q) :
    w.cell? ⟨B, 0, none⟩ = some (.int .i64 k) ∧ w.cell? ⟨B, 1, none⟩ = some v ∧ w.cell? ⟨B, 2, none⟩ = some (.bool b) ∧ w.cell? ⟨B, 3, none⟩ = some (.bool d) ∧ w.cell? ⟨B, 4, none⟩ = some (.int .i64 a) ∧ w.cell? ⟨B, 5, none⟩ = some (.int .i64 q) :=
  ⟨Has.cell h 0, Has.cell h 1, Has.cell h 2, Has.cell h 3, Has.cell h 4, Has.cell h 5⟩
theorem CmdAt.frz {w : World} {B : Nat} {k : Int} {v : Value} {b d : Bool} {a q : Int} (h : CmdAt w B k v b d a q) (i : Nat) : w.frozen? ⟨B, i, none⟩ = false := (Has.free h i).trans (by simp)
theorem CmdAt.set1 {w : World} {B : Nat} {k : Int} {v : Value} {b d : Bool} {a q : Int} (h : CmdAt w B k v b d a q) (u : Value) : CmdAt (w.setCell ⟨B, 1, none⟩ u) B k u b d a q := Has.set h 1 u
theorem CmdAt.set2 {w : World} {B : Nat} {k : Int} {v : Value} {b d : Bool} {a q : Int} (h : CmdAt w B k v b d a q) (u : Bool) : CmdAt (w.setCell ⟨B, 2, none⟩ (.bool u)) B k v u d a q := Has.set h 2 _
theorem CmdAt.set3 {w : World} {B : Nat} {k : Int} {v : Value} {b d : Bool} {a q : Int} (h : CmdAt w B k v b d a q) (u : Bool) : CmdAt (w.setCell ⟨B, 3, none⟩ (.bool u)) B k v b u a q := Has.set h 3 _
def fileB (k : Nat) : Bool := decide (k = 6 ∨ k = 7 ∨ k = 8)
def OptR (w : World) (B : Nat) (k : Nat) (s : Txt) (e : Ending) (w' : World) : Prop :=
  if s = wB ∨ s = wL then e = .returned (.bool (fileB k)) ∧ w' = w.setCell ⟨B, 2, none⟩ (.bool true)
  else if s = wR then e = .returned (.bool (decide (k = 8))) ∧ w' = w.setCell ⟨B, 3, none⟩ (.bool true)
  else e = .returned (.bool false) ∧ w' = w
theorem optF (k : Nat) : fileB k = (if k = 6 then true else if k = 7 then true else decide (k = 8)) := by
  unfold fileB
  split
  · rename_i h; simp [h]
  · split
    · rename_i h; simp [h]
    · rename_i h1 h2; simp [h1, h2]
theorem kbeq (k m : Nat) : ((k : Int) == (m : Int)) = decide (k = m) := by
  by_cases h : k = m
  · subst h; simp
  · rw [decide_eq_false h, beq_eq_false_iff_ne]; omega
theorem ksplit (k : Nat) : (((k : Int) == 6) = true ∧ fileB k = true) ∨ (((k : Int) == 6) = false ∧ ((k : Int) == 7) = true ∧ fileB k = true) ∨ (((k : Int) == 6) = false ∧ ((k : Int) == 7) = false ∧ fileB k = decide (k = 8)) := by
  have e6 : ((k : Int) == 6) = decide (k = 6) := kbeq k 6
  have e7 : ((k : Int) == 7) = decide (k = 7) := kbeq k 7
  rw [e6, e7, optF]
  by_cases h6 : k = 6
  · exact .inl ⟨decide_eq_true h6, if_pos h6⟩
  · by_cases h7 : k = 7
    · exact .inr (.inl ⟨decide_eq_false h6, decide_eq_true h7, by rw [if_neg h6, if_pos h7]⟩)
    · exact .inr (.inr ⟨decide_eq_false h6, decide_eq_false h7, by rw [if_neg h6, if_neg h7]⟩)
set_option maxRecDepth 100000 in
set_option maxHeartbeats 4000000 in
theorem option_any (B k : Nat) (v : Value) (b d : Bool) (a q : Int) (s : List UInt8) (w : World) (h : CmdAt w B k v b d a q) : Calls Tryd.prog 100 #[.pointer (some ⟨B, 0, none⟩), .string (bs s)] w (OptR w B k s) := by
  obtain ⟨c0, c1, c2, c3, c4, c5⟩ := h.cells
  have hF := h.frz
  have hlt := Has.lt h
  have e8 : ((k : Int) == 8) = decide (k = 8) := kbeq k 8
  have c2a : w.frozen? ⟨B, 2, none⟩ = false := hF 2
  have c3a : w.frozen? ⟨B, 3, none⟩ = false := hF 3
  have h0a : ∀ u, (w.setCell ⟨B, 3, none⟩ u).cell? ⟨B, 0, none⟩ = some (.int .i64 k) := fun u => Has.cell (Has.set h 3 u) 0
  have tB : ((bs s).toList == wB) = (s == wB) := by rw [bs_toList]
  have tL : ((bs s).toList == wL) = (s == wL) := by rw [bs_toList]
  have tR : ((bs s).toList == wR) = (s == wR) := by rw [bs_toList]
  have hs := ksplit k
  obtain ⟨x8, hx8⟩ : ∃ x, x = decide (k = 8) := ⟨_, rfl⟩
  have h8 := Lib.hid hx8
  rw [← hx8] at e8 hs
  clear hx8 c1 c4 c5 h hF
  by_cases hb : s = wB
  · have hR : Hid (∀ e w', (e = .returned (.bool (fileB k)) ∧ w' = w.setCell ⟨B, 2, none⟩ (.bool true)) → OptR w B k s e w') := fun e w' h => by unfold OptR; rw [if_pos (.inl hb)]; exact h
    rw [show (s == wB) = true from by rw [hb]; rfl] at tB
    unfold wB at tB
    clear tL tR hb
    rcases hs with ⟨e6, hf⟩ | ⟨e6, e7, hf⟩ | ⟨e6, e7, hf⟩
    all_goals
      have HF := Lib.hid hf
      clear hf
      go_enter Tryd.func100, Tryd.ntmps100
      go_wp2_with fail
      go_ret
      exact hR.out _ _ ⟨by rw [HF.out]; rfl, rfl⟩
  · rw [show (s == wB) = false from beq_eq_false_iff_ne.2 hb] at tB
    by_cases hl : s = wL
    · have hR : Hid (∀ e w', (e = .returned (.bool (fileB k)) ∧ w' = w.setCell ⟨B, 2, none⟩ (.bool true)) → OptR w B k s e w') := fun e w' h => by unfold OptR; rw [if_pos (.inr hl)]; exact h
      rw [show (s == wL) = true from by rw [hl]; rfl] at tL
      unfold wB at tB
      unfold wL at tL
      clear tR hb hl
      rcases hs with ⟨e6, hf⟩ | ⟨e6, e7, hf⟩ | ⟨e6, e7, hf⟩
      all_goals
        have HF := Lib.hid hf
        clear hf
        go_enter Tryd.func100, Tryd.ntmps100
        go_wp2_with fail
        go_ret
        exact hR.out _ _ ⟨by rw [HF.out]; rfl, rfl⟩
    · rw [show (s == wL) = false from beq_eq_false_iff_ne.2 hl] at tL
      by_cases hr : s = wR
      · have hR : Hid (∀ e w', (e = .returned (.bool (decide (k = 8))) ∧ w' = w.setCell ⟨B, 3, none⟩ (.bool true)) → OptR w B k s e w') := fun e w' h => by unfold OptR; rw [if_neg (by rintro (h | h); exact hb h; exact hl h), if_pos hr]; exact h
        rw [show (s == wR) = true from by rw [hr]; rfl] at tR
        unfold wB at tB
        unfold wL at tL
        unfold wR at tR
        clear hb hl hr
        rcases hs with ⟨e6, hf⟩ | ⟨e6, e7, hf⟩ | ⟨e6, e7, hf⟩
        all_goals
          have HF := Lib.hid hf
          clear hf
          go_enter Tryd.func100, Tryd.ntmps100
          go_wp2_with fail
          go_ret
          exact hR.out _ _ ⟨by rw [← h8.out]; rfl, rfl⟩
      · have hR : Hid (∀ e w', (e = .returned (.bool false) ∧ w' = w) → OptR w B k s e w') := fun e w' h => by unfold OptR; rw [if_neg (by rintro (h | h); exact hb h; exact hl h), if_neg hr]; exact h
        rw [show (s == wR) = false from beq_eq_false_iff_ne.2 hr] at tR
        unfold wB at tB
        unfold wL at tL
        unfold wR at tR
        clear hb hl hr
        rcases hs with ⟨e6, hf⟩ | ⟨e6, e7, hf⟩ | ⟨e6, e7, hf⟩
        all_goals
          have HF := Lib.hid hf
          clear hf
          go_enter Tryd.func100, Tryd.ntmps100
          go_wp2_with fail
          go_ret
          exact hR.out _ _ ⟨rfl, rfl⟩
/-! ### enough -/
theorem kdec (k m : Nat) (x : Bool) (h : decide (k = m) = x) : ((k : Int) == (m : Int)) = x := (kbeq k m).trans h
set_option maxRecDepth 100000 in
set_option maxHeartbeats 4000000 in
theorem enough_any (k n cap : Nat) (A : Option Addr) (b d : Bool) (a q : Int) (w : World) (hk : k ≤ 9) (hk0 : k ≠ 0) : Calls Tryd.prog 101 #[.agg (cmdC k (.slice A n cap) b d a q)] w (Ret w (.bool (enoughB k n b))) := by
  have E1 := (Ext.refl w).alloc (.cells (cmdC k (.slice A n cap) b d a q) 62)
  unfold cmdC at E1 ⊢
  rcases ten (k := k) (by omega) with h | h | h | h | h | h | h | h | h | h
  · exact absurd h hk0
  · subst h
    have hf : Hid (enoughB 1 n b = decide (1 ≤ n)) := by show _ = _; unfold enoughB; simp
    clear hk hk0
    go_enter Tryd.func101, Tryd.ntmps101
    go_wp2_with fail
    go_ret
    refine Ret.mk ?_ E1
    rw [hf.out]
    exact congrArg (fun x => Ending.returned (.bool x)) (decide_eq_decide.2 (by omega))
  · subst h
    have hf : Hid (enoughB 2 n b = decide (n = 0)) := by show _ = _; unfold enoughB; simp
    clear hk hk0
    go_enter Tryd.func101, Tryd.ntmps101
    go_wp2_with fail
    go_ret
    refine Ret.mk ?_ E1
    rw [hf.out]
    exact congrArg (fun x => Ending.returned (.bool x)) (kbeq n 0)
  · subst h
    have hf : Hid (enoughB 3 n b = decide (1 ≤ n)) := by show _ = _; unfold enoughB; simp
    clear hk hk0
    go_enter Tryd.func101, Tryd.ntmps101
    go_wp2_with fail
    go_ret
    refine Ret.mk ?_ E1
    rw [hf.out]
    exact congrArg (fun x => Ending.returned (.bool x)) (decide_eq_decide.2 (by omega))
  · subst h
    have hf : Hid (enoughB 4 n b = decide (n = 0)) := by show _ = _; unfold enoughB; simp
    clear hk hk0
    go_enter Tryd.func101, Tryd.ntmps101
    go_wp2_with fail
    go_ret
    refine Ret.mk ?_ E1
    rw [hf.out]
    exact congrArg (fun x => Ending.returned (.bool x)) (kbeq n 0)
  · subst h
    have hf : Hid (enoughB 5 n b = decide (n = 2)) := by show _ = _; unfold enoughB; simp
    clear hk hk0
    go_enter Tryd.func101, Tryd.ntmps101
    go_wp2_with fail
    go_ret
    refine Ret.mk ?_ E1
    rw [hf.out]
    exact congrArg (fun x => Ending.returned (.bool x)) (kbeq n 2)
  · subst h
    by_cases h1 : 1 ≤ n
    · have hf : Hid (enoughB 6 n b = b) := by show _ = _; unfold enoughB; rw [if_neg (by decide), if_pos rfl, decide_eq_true h1]; rfl
      have h2 : (1 : Int) ≤ n := by omega
      clear h1 hk hk0
      go_enter Tryd.func101, Tryd.ntmps101
      go_wp2_with fail
      go_ret
      exact Ret.mk (by rw [hf.out]; rfl) E1
    · have hf : Hid (enoughB 6 n b = false) := by show _ = _; unfold enoughB; rw [if_neg (by decide), if_pos rfl, decide_eq_false h1]; rfl
      have h2 : (n : Int) < 1 := by omega
      clear h1 hk hk0
      go_enter Tryd.func101, Tryd.ntmps101
      go_wp2_with fail
      go_ret
      exact Ret.mk (by rw [hf.out]; rfl) E1
  · subst h
    have hf : Hid (enoughB 7 n b = decide (2 ≤ n)) := by show _ = _; unfold enoughB; simp
    clear hk hk0
    go_enter Tryd.func101, Tryd.ntmps101
    go_wp2_with fail
    go_ret
    refine Ret.mk ?_ E1
    rw [hf.out]
    exact congrArg (fun x => Ending.returned (.bool x)) (decide_eq_decide.2 (by omega))
  · subst h
    have hf : Hid (enoughB 8 n b = decide (2 ≤ n)) := by show _ = _; unfold enoughB; simp
    clear hk hk0
    go_enter Tryd.func101, Tryd.ntmps101
    go_wp2_with fail
    go_ret
    refine Ret.mk ?_ E1
    rw [hf.out]
    exact congrArg (fun x => Ending.returned (.bool x)) (decide_eq_decide.2 (by omega))
  · subst h
    have hf : Hid (enoughB 9 n b = decide (n = 0)) := by show _ = _; unfold enoughB; simp
    clear hk hk0
    go_enter Tryd.func101, Tryd.ntmps101
    go_wp2_with fail
    go_ret
    refine Ret.mk ?_ E1
    rw [hf.out]
    exact congrArg (fun x => Ending.returned (.bool x)) (kbeq n 0)
/-- What Parse answers. -/
def PR (w : World) (p : Option CmdN) (e : Ending) (w' : World) : Prop := match p with
  | none => e = .returned (.tuple #[.agg (cmdC 0 (.slice none 0 0) false false 0 0), .int .i64 1]) ∧ Ext w w'
  | some c => ∃ v, e = .returned (.tuple #[.agg (cmdC c.k v c.b c.d c.a c.q), .int .i64 0]) ∧ OwnT w' w.heap.size v c.ps ∧ Ext w w'
theorem PR.bad {w w' : World} {L : List Txt} {e : Ending} (h : Hid (parseC L = none)) (he : e = .returned (.tuple #[.agg (cmdC 0 (.slice none 0 0) false false 0 0), .int .i64 1])) (hE : Ext w w') : PR w (parseC L) e w' := by
  rw [h.out]; exact ⟨he, hE⟩
theorem PR.good {w w' : World} {L : List Txt} {e : Ending} {c : CmdN} {v : Value} (h : Hid (parseC L = some c)) (he : e = .returned (.tuple #[.agg (cmdC c.k v c.b c.d c.a c.q), .int .i64 0])) (hv : OwnT w' w.heap.size v c.ps) (hE : Ext w w') : PR w (parseC L) e w' := by
  rw [h.out]; exact ⟨v, he, hv, hE⟩
end Go.Proofs.YtmppjbimdonfmaaDoor
