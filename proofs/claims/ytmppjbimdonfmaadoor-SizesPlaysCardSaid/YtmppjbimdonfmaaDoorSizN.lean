/- Layer 7 (sizes), plain: the line that a text says. -/
import Derived.Test.YtmppjbimdonfmaaDoorSizM
import Derived.Test.YtmppjbimdonfmaaDoorCutB
import Derived.Test.YtmppjbimdonfmaaDoorNumS
import Derived.Test.YtmppjbimdonfmaaDoorPctG
namespace Go.Proofs.YtmppjbimdonfmaaDoor
open Go.RowKit

theorem pv_cases (x : List UInt8) : ∃ n p, parseV x = .tuple #[.int .i64 n, .bool p] ∧ ((p = true ∧ I64 n ∧ decI n = x) ∨ (p = false ∧ ∀ n, I64 n → decI n ≠ x)) := by
  by_cases h : ∃ n, I64 n ∧ decI n = x
  · obtain ⟨n, h1, h2⟩ := h
    exact ⟨n, true, parseV_yes h1 h2, .inl ⟨rfl, h1, h2⟩⟩
  · have h2 : ∀ n, I64 n → decI n ≠ x := fun n h1 h2 => h ⟨n, h1, h2⟩
    exact ⟨0, false, parseV_no h2, .inr ⟨rfl, h2⟩⟩
theorem decL_len : ∀ (k : Nat) (l r : List UInt8), l.length = k → decL l = some r → r.length ≤ l.length := by
  intro k
  induction k using Nat.strongRecOn with
  | _ k ih =>
    intro l r hk h
    match l, hk with
    | [], _ => rw [show decL [] = some [] from rfl] at h; injection h with h; subst h; simp
    | c :: l, hk =>
      have hk' : l.length + 1 = k := by simpa using hk
      by_cases hc : c = 37
      · subst hc
        match l, hk' with
        | [], _ => rw [decL_short (by simp)] at h; cases h
        | [a], _ => rw [decL_short (by simp)] at h; cases h
        | a :: b :: l, hk' =>
          have hk2 : l.length + 2 + 1 = k := by simpa using hk'
          by_cases hd : digC a < 16 ∧ digC b < 16
          · rw [decL_good _ hd] at h
            obtain ⟨t, ht, rfl⟩ := Option.map_eq_some_iff.1 h
            have := ih l.length (by omega) l t rfl ht
            simp; omega
          · rw [decL_bad _ hd] at h; cases h
      · rw [decL_cons_plain _ hc] at h
        obtain ⟨t, ht, rfl⟩ := Option.map_eq_some_iff.1 h
        have := ih l.length (by omega) l t rfl ht
        simp; omega
theorem dv_cases (c : List UInt8) : ∃ nm er, decV c = .tuple #[.string (bs nm), .int .i64 er] ∧ nm.length ≤ c.length ∧ ((er = 0 ∧ decL c = some nm) ∨ (er = 2 ∧ decL c = none)) := by
  cases h : decL c with
  | none => exact ⟨[], 2, decV_none h, by simp, .inr ⟨rfl, rfl⟩⟩
  | some r => exact ⟨r, 0, decV_some h, decL_len _ _ _ rfl h, .inl ⟨rfl, rfl⟩⟩
theorem cv_cases (d : UInt8) (s : List UInt8) : ∃ A R one, cutV d s = .tuple #[.string (bs A), .string (bs R), .bool one] ∧ A.length ≤ s.length ∧ R.length ≤ s.length ∧ ((one = true ∧ cutB d s = some (A, R)) ∨ (one = false ∧ cutB d s = none)) := by
  unfold cutV
  cases h : cutB d s with
  | none => exact ⟨s, [], false, rfl, Nat.le_refl _, by simp, .inr ⟨rfl, rfl⟩⟩
  | some p =>
    have hp := (cutB_len (d := d) (s := s) (a := p.1) (r := p.2) h).1
    refine ⟨p.1, p.2, true, rfl, ?_, ?_, .inl ⟨rfl, rfl⟩⟩ <;> (have := congrArg List.length hp; rw [List.length_append, List.length_cons] at this; omega)
/-- The text is a line's. -/
def IsLine (s : List UInt8) (x : EntD) : Prop := ∃ a b c, cutB 32 s = some (a, b ++ 32 :: c) ∧ 32 ∉ b ∧ I64 x.2.1 ∧ decI x.2.1 = a ∧ I64 x.2.2 ∧ decI x.2.2 = b ∧ decL c = some x.1 ∧ mayL x = true
theorem isLine_one {s : List UInt8} {x y : EntD} (hx : IsLine s x) (hy : IsLine s y) : x = y := by
  obtain ⟨a, b, c, h1, h2, h3, h4, h5, h6, h7, _⟩ := hx
  obtain ⟨a', b', c', g1, g2, g3, g4, g5, g6, g7, _⟩ := hy
  rw [h1] at g1
  injection g1 with g1
  injection g1 with e1 e2
  have e3 := cutB_at b c h2
  rw [e2, cutB_at b' c' g2] at e3
  injection e3 with e3
  injection e3 with e3 e4
  subst e1; subst e3; subst e4
  have q1 := decI_inj h3 g3 (h4.trans g4.symm)
  have q2 := decI_inj h5 g5 (h6.trans g6.symm)
  rw [h7] at g7
  injection g7 with q3
  exact Prod.ext q3 (Prod.ext q1 q2)
open Classical in
noncomputable def lineO (s : List UInt8) : Option EntD := if h : ∃ x, IsLine s x then some h.choose else none
theorem lineO_some {s : List UInt8} {x : EntD} (h : IsLine s x) : lineO s = some x := by
  have he : ∃ x, IsLine s x := ⟨x, h⟩
  unfold lineO
  rw [dif_pos he, isLine_one he.choose_spec h]
theorem lineO_none {s : List UInt8} (h : ∀ x, ¬ IsLine s x) : lineO s = none := by
  unfold lineO
  rw [dif_neg (fun ⟨x, hx⟩ => h x hx)]
theorem lineO_is {s : List UInt8} {x : EntD} (h : lineO s = some x) : IsLine s x := by
  by_cases he : ∃ x, IsLine s x
  · obtain ⟨y, hy⟩ := he
    rw [lineO_some hy] at h
    injection h with h
    rw [← h]; exact hy
  · rw [lineO_none (fun y hy => he ⟨y, hy⟩)] at h; cases h
/-- What the program, and the reference, reckon. -/
theorem line_reckon {s A R B C nm : List UInt8} {one two p1 p2 : Bool} {n1 n2 er : Int} (k1 : (one = true ∧ cutB 32 s = some (A, R)) ∨ (one = false ∧ cutB 32 s = none)) (k2 : one = true → (two = true ∧ cutB 32 R = some (B, C)) ∨ (two = false ∧ cutB 32 R = none))
    (k3 : one = true → two = true → (p1 = true ∧ I64 n1 ∧ decI n1 = A) ∨ (p1 = false ∧ ∀ n, I64 n → decI n ≠ A)) (k4 : one = true → two = true → (p2 = true ∧ I64 n2 ∧ decI n2 = B) ∨ (p2 = false ∧ ∀ n, I64 n → decI n ≠ B)) (k5 : one = true → two = true → (er = 0 ∧ decL C = some nm) ∨ (er = 2 ∧ decL C = none)) :
    ((one && (two && (p1 && (p2 && ((er == 0) && mayL (nm, n1, n2)))))) = true → lineO s = some (nm, n1, n2)) ∧ ((one && (two && (p1 && (p2 && ((er == 0) && mayL (nm, n1, n2)))))) = false → lineO s = none) := by
  constructor
  · intro h
    simp only [Bool.and_eq_true] at h
    obtain ⟨h1, h2, h3, h4, h5, h6⟩ := h
    subst h1; subst h2; subst h3; subst h4
    rcases k1 with ⟨_, c1⟩ | ⟨h, _⟩
    · rcases k2 rfl with ⟨_, c2⟩ | ⟨h, _⟩
      · rcases k3 rfl rfl with ⟨_, i1, e1⟩ | ⟨h, _⟩
        · rcases k4 rfl rfl with ⟨_, i2, e2⟩ | ⟨h, _⟩
          · rcases k5 rfl rfl with ⟨_, e3⟩ | ⟨h, _⟩
            · obtain ⟨q1, q2⟩ := cutB_len c2
              exact lineO_some ⟨A, B, C, by rw [c1, q1], q2, i1, e1, i2, e2, e3, h6⟩
            · subst h; cases h5
          · cases h
        · cases h
      · cases h
    · cases h
  · intro h
    refine lineO_none fun y hy => ?_
    obtain ⟨a, b, c, h1, h2, h3, h4, h5, h6, h7, h8⟩ := hy
    rcases k1 with ⟨rfl, c1⟩ | ⟨_, c1⟩
    · rw [c1] at h1
      injection h1 with h1
      injection h1 with e1 e2
      subst e1
      have c3 := cutB_at b c h2
      rcases k2 rfl with ⟨rfl, c2⟩ | ⟨_, c2⟩
      · rw [e2, c3] at c2
        injection c2 with c2
        injection c2 with e3 e4
        subst e3; subst e4
        rcases k3 rfl rfl with ⟨rfl, i1, f1⟩ | ⟨_, f1⟩
        · rcases k4 rfl rfl with ⟨rfl, i2, f2⟩ | ⟨_, f2⟩
          · rcases k5 rfl rfl with ⟨rfl, f3⟩ | ⟨_, f3⟩
            · rw [h7] at f3
              injection f3 with f3
              have q1 := decI_inj h3 i1 (h4.trans f1.symm)
              have q2 := decI_inj h5 i2 (h6.trans f2.symm)
              have : y = (nm, n1, n2) := Prod.ext f3 (Prod.ext q1 q2)
              rw [← this, h8] at h
              cases h
            · rw [h7] at f3; cases f3
          · exact f2 _ h5 h6
        · exact f1 _ h3 h4
      · rw [e2, c3] at c2; cases c2
    · rw [c1] at h1; cases h1
/-- What a call that reads a line answers. -/
def LineR (w : World) (s : List UInt8) (e : Ending) (w' : World) : Prop := ∃ x b, e = .returned (.tuple #[lineA x, .bool b]) ∧ (b = true → lineO s = some x) ∧ (b = false → lineO s = none) ∧ Ext w w'
end Go.Proofs.YtmppjbimdonfmaaDoor
