/- Layer 7 (sizes): Clone. -/
import Derived.Test.YtmppjbimdonfmaaDoorSizJ
import Derived.WalkSpells
namespace Go.Proofs.YtmppjbimdonfmaaDoor
open Go.ChangeShapes Go.WideShapes Go.ChangeAt Go.RowKit

set_option maxRecDepth 100000 in
set_option maxHeartbeats 1000000 in
theorem clone_any (A : Option Addr) (l : List EntD) (cap : Nat) (w : World) (h : EntsAt w A l) (hnone : A = none → cap = 0) (hlen : l.length ≤ 1000000) : Calls Tryd.prog 96 #[.slice A l.length cap] w (OwnR w l) := by
  obtain ⟨n, hn⟩ : ∃ n, n = l.length := ⟨_, rfl⟩
  have HN := Lib.hid hn
  cases A with
  | none =>
    have hl0 : l = [] := by
      rcases h with h | ⟨b', o', h, _⟩
      · exact h
      · cases h
    subst hl0
    obtain rfl : cap = 0 := hnone rfl
    clear hnone hn HN
    have e0 : ∀ w, (binOp .eql 40 (.slice none 0 0) (.slice none 0 0)).run Tryd.prog w = .ok (.bool true) w := fun w => Lib.run_eql_slice_nil w _ _ none 0 0 0 0 Tryd.underlying40
    show Calls _ _ #[.slice none 0 0] _ _
    go_enter Tryd.func96, Tryd.ntmps96
    go_wp2_with fail
    go_ret
    exact ⟨_, rfl, ⟨rfl, .inl ⟨rfl, rfl⟩⟩, Ext.refl _⟩
  | some ad =>
    rw [← hn] at hlen ⊢
    clear hnone hn
    obtain ⟨i0, hi, hz0, hz1, hz2⟩ := info_parts infoEnt
    have e0 : ∀ w, (binOp .eql 40 (.slice (some ad) n cap) (.slice none 0 0)).run Tryd.prog w = .ok (.bool false) w := fun w => Lib.run_eql_slice_nil w _ _ (some ad) n cap 0 0 Tryd.underlying40
    go_enter Tryd.func96, Tryd.ntmps96
    have hown : (w.alloc (.cells #[] 48)).ownsRow w.heap.size 48 3 (.slice (some ⟨w.heap.size, 0, none⟩) 0 0) 0 [] := ⟨rfl, .inr ⟨w.heap.size, 0, #[], rfl, Nat.le_refl _, Has.new w _, Nat.le_refl _, by decide, rfl, rfl⟩⟩
    have hne2 : ∀ j u, (entCells l)[j]? = some u → (w.alloc (.cells #[] 48)).cell? (ad.add j) = some u := by
      intro j u hu
      rcases h.ext ((Ext.refl w).alloc (.cells #[] 48)) with h | ⟨b', o', h, hb, h2⟩
      · subst h; simp [entCells] at hu
      · injection h with h
        subst h
        rw [Addr.add_lit]
        exact EntsAt.cells (.inr ⟨b', o', rfl, hb, h2⟩) j u hu
    have HO := Lib.hid hown
    have HE := Lib.hid hne2
    clear hown hne2
    go_wp2_with (at_builtin; refine wpList_append_own _ rfl _ _ 40 rfl w.heap.size 48 i0 (.agg #[.int .i64 0, .int .i64 0, .string ⟨#[]⟩]) 3 32 Tryd.underlying40 hi hz0 hz1 hz2 rfl (by decide) _ _ _ rfl HO.out ad n cap (entCells l) rfl (by rw [entCells_len, HN.out]) HE.out (entCells_one l) (by unfold maxLen; omega) (by omega) (by simp) ?_)
    intro v' w2 hown2 hgrow _
    have ho2 : Hid (OwnE w2 w.heap.size v' l) := by
      show OwnE _ _ _ _
      unfold OwnE
      have h3 : w2.ownsRow w.heap.size 48 3 v' n (entCells l) := hown2
      rw [HN.out] at h3
      exact h3
    have hE2 : Ext w w2 := ((Ext.refl w).alloc _).grown hgrow (fun g hg => (HO.out.lt g hg).1)
    clear hown2 hgrow
    go_wp2_with fail
    go_ret
    exact ⟨_, rfl, ho2.out, hE2⟩
end Go.Proofs.YtmppjbimdonfmaaDoor
