/- Layer 7 (sizes): the reference's Drop and Put. -/
import Derived.Test.YtmppjbimdonfmaaDoorSizQ
import Derived.Deep.QuietTactic
namespace Go.Proofs.YtmppjbimdonfmaaDoor
open Go.ChangeShapes Go.WideShapes Go.ChangeAt Go.RowKit

theorem OwnE.keep {w w' : World} {b : Nat} {v : Value} {l : List EntD} (h : OwnE w b v l) (hE : Ext w w') : OwnE w' b v l :=
  World.ownsRow.kept (row := none) h ⟨hE.os, hE.tape, hE.output, hE.size, fun j hj _ => Below.block hE j hj⟩ (by cases v.ownBlock <;> simp)
def dropF (l : List EntD) (nm : List UInt8) : List EntD := l.filter fun x => !(x.1 == nm)
def lessF (l : List EntD) (nm : List UInt8) : List EntD := l.filter fun x => bl x.1 nm
def moreF (l : List EntD) (nm : List UInt8) : List EntD := l.filter fun x => bl nm x.1
def putF (l : List EntD) (x : EntD) : List EntD := lessF l x.1 ++ [x] ++ moreF l x.1
theorem filter_snoc {l : List EntD} {k : Nat} (hk : k < l.length) (f : EntD → Bool) : (l.take (k + 1)).filter f = (l.take k).filter f ++ (if f l[k] = true then [l[k]] else []) := by
  rw [List.take_succ_eq_append_getElem hk, List.filter_append]
  congr 1
  by_cases h : f l[k] = true <;> simp [h]
theorem filter_len (l : List EntD) (k : Nat) (f : EntD → Bool) : ((l.take k).filter f).length ≤ k := by
  have h1 := List.length_filter_le f (l.take k)
  have h2 : (l.take k).length ≤ k := List.length_take_le _ _
  omega
theorem news_one (wr : World) (x : EntD) : ∀ j u, (entCells [x])[j]? = some u → (wr.alloc (.cells #[.int .i64 x.2.1, .int .i64 x.2.2, .string (bs x.1)] 48)).cell? ((⟨wr.heap.size, 0, none⟩ : Addr).add j) = some u := by
  intro j u hu
  rw [Addr.add_lit]
  exact EntsAt.cells (ents_one (Has.new wr _)) j u hu
/-- Behind 'out = append(out, x)'. -/
theorem app_one {w wr w2 : World} {v v' : Value} {P : List EntD} {x : EntD} {o : Obj} (h : wr.ownsRow w.heap.size 48 3 v P.length (entCells P)) (hE : Ext w wr) (h2 : w2.ownsRow w.heap.size 48 3 v' (P.length + 1) (entCells P ++ entCells [x])) (hg : (wr.alloc o).grownBy w2 v.ownBlock) : OwnE w2 w.heap.size v' (P ++ [x]) ∧ Ext w w2 := by
  refine ⟨?_, (hE.alloc o).grown hg (fun g hv => (h.lt g hv).1)⟩
  unfold OwnE
  rw [entCells_append, List.length_append]
  exact h2
set_option maxRecDepth 100000 in
set_option maxHeartbeats 1000000 in
theorem ldrop_any (A : Option Addr) (l : List EntD) (cap : Nat) (nm : List UInt8) (w : World) (h : EntsAt w A l) (hlen : l.length ≤ 1000000) : Calls Tryd.prog 52 #[.slice A l.length cap, .string (bs nm)] w (OwnR w (dropF l nm)) := by
  obtain ⟨n, hn⟩ : ∃ n, n = l.length := ⟨_, rfl⟩
  rw [← hn] at hlen ⊢
  have HN := Lib.hid hn
  clear hn
  obtain ⟨i0, hi, hz0, hz1, hz2⟩ := info_parts infoEnt
  go_enter Tryd.func52, Tryd.ntmps52
  go_wp2_with fail
  go_loopw [5, 6] (fun u i wr => ∃ k : Nat, k ≤ n ∧ i = .int .i64 k ∧ OwnE wr w.heap.size u ((l.take k).filter fun x => !(x.1 == nm)) ∧ Ext w wr) (fun _ i _ => n - (intOf i).toNat)
  case atStart => exact ⟨0, Nat.zero_le _, rfl, ⟨rfl, .inl ⟨rfl, rfl⟩⟩, Ext.refl _⟩
  case round =>
    obtain ⟨k, hk, rfl, hown, hE⟩ := hrel
    by_cases hlt : (k : Int) < n
    · have hkl : k < l.length := by have := HN.out; omega
      have hs := filter_snoc hkl fun x => !(x.1 == nm)
      have hfl := filter_len l k fun x => !(x.1 == nm)
      obtain ⟨b, o, rfl, hbw, ca, cb, cc⟩ := h.at_ hE k hkl
      generalize l[k] = x at ca cb cc hs
      have e1 : ((bs x.1).toList == (bs nm).toList) = (x.1 == nm) := by rw [bs_toList, bs_toList]
      obtain ⟨P, hP⟩ : ∃ P, P = (l.take k).filter fun x => !(x.1 == nm) := ⟨_, rfl⟩
      rw [← hP] at hown hs hfl
      cases hq : (x.1 == nm)
      · rw [hq] at e1
        have hs2 : Hid ((l.take (k + 1)).filter (fun x => !(x.1 == nm)) = P ++ [x]) := by show _ = _; rw [hs, hq]; rfl
        clear hs hq hP
        unfold OwnE at hown
        go_wp2_with (at_builtin; refine wpList_append_own _ rfl _ _ 40 rfl w.heap.size 48 i0 (.agg #[.int .i64 0, .int .i64 0, .string ⟨#[]⟩]) 3 32 Tryd.underlying40 hi hz0 hz1 hz2 rfl (by decide) _ _ _ rfl (hown.alloc _) ⟨wr.heap.size, 0, none⟩ 1 1 (entCells [x]) rfl rfl (news_one wr x) (entCells_one [x]) (by unfold maxLen; omega) (by omega) (by have := hE.size; simp; omega) ?_)
        intro v' w2 hown2 hgrow _
        obtain ⟨ho2, hE2⟩ := app_one hown hE hown2 hgrow
        clear hown2 hgrow
        have HO2 := Lib.hid ho2
        clear ho2
        go_wp2_with fail
        go_roundw
        case rel => exact ⟨k + 1, by omega, by go_num, by rw [hs2.out]; exact HO2.out, hE2⟩
        case measure => simp [intOf]; omega
      · rw [hq] at e1
        have hs2 : Hid ((l.take (k + 1)).filter (fun x => !(x.1 == nm)) = P) := by show _ = _; rw [hs, hq]; simp
        clear hs hq hP
        go_wp2_with fail
        go_roundw
        case rel => exact ⟨k + 1, by omega, by go_num, by rw [hs2.out]; exact hown, hE⟩
        case measure => simp [intOf]; omega
    · have hkn : k = n := by omega
      have hf : Hid ((l.take k).filter (fun x => !(x.1 == nm)) = dropF l nm) := by show _ = _; rw [hkn, HN.out, List.take_length]; rfl
      clear hkn
      go_wp2_with fail
      go_ret
      exact ⟨_, rfl, by rw [← hf.out]; exact hown, hE⟩
set_option maxRecDepth 100000 in
set_option maxHeartbeats 1000000 in
theorem lput_any (A : Option Addr) (l : List EntD) (cap : Nat) (x : EntD) (w : World) (h : EntsAt w A l) (hlen : l.length ≤ 1000000) : Calls Tryd.prog 50 #[.slice A l.length cap, .agg #[.int .i64 x.2.1, .int .i64 x.2.2, .string (bs x.1)]] w (OwnR w (putF l x)) := by
  obtain ⟨n, hn⟩ : ∃ n, n = l.length := ⟨_, rfl⟩
  rw [← hn] at hlen ⊢
  have HN := Lib.hid hn
  clear hn
  obtain ⟨i0, hi, hz0, hz1, hz2⟩ := info_parts infoEnt
  obtain ⟨W0, hW0⟩ : ∃ W0, W0 = w.alloc (.cells #[.int .i64 x.2.1, .int .i64 x.2.2, .string (bs x.1)] 48) := ⟨_, rfl⟩
  have hb0 : Has W0 w.heap.size (.cells #[.int .i64 x.2.1, .int .i64 x.2.2, .string (bs x.1)] 48) := by rw [hW0]; exact Has.new _ _
  have E0 : Ext w W0 := by rw [hW0]; exact (Ext.refl _).alloc _
  have HW := Lib.hid hW0
  clear hW0
  go_enter Tryd.func50, Tryd.ntmps50
  go_wp2_with fail
  rw [← HW.out]
  clear HW
  go_loopw [5, 6] (fun u i wr => ∃ k : Nat, k ≤ n ∧ i = .int .i64 k ∧ OwnE wr W0.heap.size u ((l.take k).filter fun y => bl y.1 x.1) ∧ Ext W0 wr) (fun _ i _ => n - (intOf i).toNat)
  case atStart => exact ⟨0, Nat.zero_le _, rfl, ⟨rfl, .inl ⟨rfl, rfl⟩⟩, Ext.refl _⟩
  case round =>
    obtain ⟨k, hk, rfl, hown, hE⟩ := hrel
    have HB := hb0.ext hE
    have cx : wr.cell? ⟨w.heap.size, 2, none⟩ = some (.string (bs x.1)) := HB.cell 2
    have cx2 : wr.cell? ⟨w.heap.size, 1, none⟩ = some (.int .i64 x.2.2) := HB.cell 1
    have cx3 : wr.cell? ⟨w.heap.size, 0, none⟩ = some (.int .i64 x.2.1) := HB.cell 0
    by_cases hlt : (k : Int) < n
    · have hkl : k < l.length := by have := HN.out; omega
      have hs := filter_snoc hkl fun y => bl y.1 x.1
      have hfl := filter_len l k fun y => bl y.1 x.1
      obtain ⟨b, o, rfl, hbw, ca, cb, cc⟩ := h.at_ (E0.trans hE) k hkl
      generalize l[k] = z at ca cb cc hs
      have e1 : Go.Op.bytesLess (bs z.1).toList (bs x.1).toList = bl z.1 x.1 := by rw [bs_toList, bs_toList]
      obtain ⟨P, hP⟩ : ∃ P, P = (l.take k).filter fun y => bl y.1 x.1 := ⟨_, rfl⟩
      rw [← hP] at hown hs hfl
      have g2 : (0 : Int) ≤ (k : Int) := by omega
      cases hq : bl z.1 x.1
      · rw [hq] at e1
        have hs2 : Hid ((l.take (k + 1)).filter (fun y => bl y.1 x.1) = P) := by show _ = _; rw [hs, hq]; simp
        clear hs hq hP
        go_wp2_with fail
        go_quiet (fail)
        go_wp2_with fail
        go_roundw
        case rel => exact ⟨k + 1, by omega, by go_num, by rw [hs2.out]; exact OwnE.keep hown ((Ext.refl _).drewN _), hE.drewN _⟩
        case measure => simp [intOf]; omega
      · rw [hq] at e1
        have hs2 : Hid ((l.take (k + 1)).filter (fun y => bl y.1 x.1) = P ++ [z]) := by show _ = _; rw [hs, hq]; rfl
        clear hs hq hP
        go_wp2_with fail
        go_quiet (fail)
        have hown3 := OwnE.keep hown ((Ext.refl wr).drewN nq)
        have hE3 := hE.drewN nq
        unfold OwnE at hown3
        go_wp2_with (at_builtin; refine wpList_append_own _ rfl _ _ 40 rfl W0.heap.size 48 i0 (.agg #[.int .i64 0, .int .i64 0, .string ⟨#[]⟩]) 3 32 Tryd.underlying40 hi hz0 hz1 hz2 rfl (by decide) _ _ _ rfl (hown3.alloc _) ⟨wr.heap.size, 0, none⟩ 1 1 (entCells [z]) rfl rfl (news_one (wr.drewN nq) z) (entCells_one [z]) (by unfold maxLen; omega) (by omega) (by have := hE.size; simp; omega) ?_)
        intro v' w2 hown2 hgrow _
        obtain ⟨ho2, hE2⟩ := app_one hown3 hE3 hown2 hgrow
        clear hown2 hgrow hown3
        have HO2 := Lib.hid ho2
        clear ho2
        go_wp2_with fail
        go_roundw
        case rel => exact ⟨k + 1, by omega, by go_num, by rw [hs2.out]; exact HO2.out, hE2⟩
        case measure => simp [intOf]; omega
    · have hkn : k = n := by omega
      have hf : Hid ((l.take k).filter (fun y => bl y.1 x.1) = lessF l x.1) := by show _ = _; rw [hkn, HN.out, List.take_length]; rfl
      have hfl := filter_len l k fun y => bl y.1 x.1
      obtain ⟨P, hP⟩ : ∃ P, P = (l.take k).filter fun y => bl y.1 x.1 := ⟨_, rfl⟩
      rw [← hP] at hown hfl hf
      clear hP hlt
      unfold OwnE at hown
      go_wp2_with (at_builtin; refine wpList_append_own _ rfl _ _ 40 rfl W0.heap.size 48 i0 (.agg #[.int .i64 0, .int .i64 0, .string ⟨#[]⟩]) 3 32 Tryd.underlying40 hi hz0 hz1 hz2 rfl (by decide) _ _ _ rfl (hown.alloc _) ⟨wr.heap.size, 0, none⟩ 1 1 (entCells [x]) rfl rfl (news_one wr x) (entCells_one [x]) (by unfold maxLen; omega) (by omega) (by have := hE.size; simp; omega) ?_)
      intro v1 wa hown1 hgrow1 _
      obtain ⟨hoa, hEa⟩ := app_one hown hE hown1 hgrow1
      clear hown1 hgrow1 hown HB cx cx2 cx3 hkn
      have HOA := Lib.hid hoa
      have HEA := Lib.hid hEa
      clear hoa hEa
      go_wp2_with fail
      go_loopw [5, 7] (fun u i wr => ∃ k : Nat, k ≤ n ∧ i = .int .i64 k ∧ OwnE wr W0.heap.size u ((P ++ [x]) ++ (l.take k).filter fun y => bl x.1 y.1) ∧ Ext W0 wr) (fun _ i _ => n - (intOf i).toNat)
      case atStart => exact ⟨0, Nat.zero_le _, rfl, by simpa using HOA.out, HEA.out⟩
      case round =>
        obtain ⟨q, hq, rfl, hown, hE2⟩ := hrel
        have HB := hb0.ext hE2
        have cx : wr.cell? ⟨w.heap.size, 2, none⟩ = some (.string (bs x.1)) := HB.cell 2
        have cx2 : wr.cell? ⟨w.heap.size, 1, none⟩ = some (.int .i64 x.2.2) := HB.cell 1
        have cx3 : wr.cell? ⟨w.heap.size, 0, none⟩ = some (.int .i64 x.2.1) := HB.cell 0
        by_cases hlt : (q : Int) < n
        · have hql : q < l.length := by have := HN.out; omega
          have hs := filter_snoc hql fun y => bl x.1 y.1
          have hfl2 := filter_len l q fun y => bl x.1 y.1
          obtain ⟨b, o, rfl, hbw, ca, cb, cc⟩ := h.at_ (E0.trans hE2) q hql
          generalize l[q] = z at ca cb cc hs
          obtain ⟨R, hR⟩ : ∃ R, R = P ++ [x] ++ (l.take q).filter fun y => bl x.1 y.1 := ⟨_, rfl⟩
          have hRl : R.length ≤ 2000001 := by rw [hR, List.length_append, List.length_append]; simp; omega
          rw [← hR] at hown
          have g2 : (0 : Int) ≤ (q : Int) := by omega
          obtain ⟨t1, t2, t3, ht1, ht2, ht3, hcase⟩ : ∃ t1 t2 t3 : Bool, bl z.1 x.1 = t1 ∧ (z.1 == x.1) = t2 ∧ bl x.1 z.1 = t3 ∧ ((t1 = true ∧ t2 = false ∧ t3 = false) ∨ (t1 = false ∧ t2 = true ∧ t3 = false) ∨ (t1 = false ∧ t2 = false ∧ t3 = true)) := by
            refine ⟨_, _, _, rfl, rfl, rfl, ?_⟩
            rcases bl_tri z.1 x.1 with h | h | h
            · refine .inl ⟨h, ?_, bl_asymm h⟩
              rw [beq_eq_false_iff_ne]; intro e; rw [e, bl_irrefl] at h; cases h
            · rw [h]; exact .inr (.inl ⟨bl_irrefl _, beq_self_eq_true _, bl_irrefl _⟩)
            · refine .inr (.inr ⟨bl_asymm h, ?_, h⟩)
              rw [beq_eq_false_iff_ne]; intro e; rw [e, bl_irrefl] at h; cases h
          have e1 : Go.Op.bytesLess (bs z.1).toList (bs x.1).toList = t1 := by rw [bs_toList, bs_toList]; exact ht1
          have e2 : ((bs z.1).toList == (bs x.1).toList) = t2 := by rw [bs_toList, bs_toList]; exact ht2
          have hs2 : Hid (P ++ [x] ++ (l.take (q + 1)).filter (fun y => bl x.1 y.1) = R ++ if t3 = true then [z] else []) := by
            show _ = _
            rw [hs, ht3, hR, ← List.append_assoc]
          clear ht1 ht2 ht3 hs hR
          have hq1 := hq
          rcases hcase with ⟨rfl, rfl, rfl⟩ | ⟨rfl, rfl, rfl⟩ | ⟨rfl, rfl, rfl⟩
          · go_wp2_with fail
            go_quiet (fail)
            go_wp2_with fail
            go_roundw
            case rel => exact ⟨q + 1, by omega, by go_num, by rw [hs2.out]; simpa using OwnE.keep hown ((Ext.refl _).drewN _), hE2.drewN _⟩
            case measure => simp [intOf]; omega
          · go_wp2_with fail
            go_quiet (fail)
            go_wp2_with fail
            go_roundw
            case rel => exact ⟨q + 1, by omega, by go_num, by rw [hs2.out]; simpa using OwnE.keep hown ((Ext.refl _).drewN _), hE2.drewN _⟩
            case measure => simp [intOf]; omega
          · go_wp2_with fail
            go_quiet (fail)
            have hown3 := OwnE.keep hown ((Ext.refl wr).drewN nq)
            have hE3 := hE2.drewN nq
            unfold OwnE at hown3
            go_wp2_with (at_builtin; refine wpList_append_own _ rfl _ _ 40 rfl W0.heap.size 48 i0 (.agg #[.int .i64 0, .int .i64 0, .string ⟨#[]⟩]) 3 32 Tryd.underlying40 hi hz0 hz1 hz2 rfl (by decide) _ _ _ rfl (hown3.alloc _) ⟨wr.heap.size, 0, none⟩ 1 1 (entCells [z]) rfl rfl (news_one (wr.drewN nq) z) (entCells_one [z]) (by unfold maxLen; omega) (by omega) (by have := hE2.size; simp; omega) ?_)
            intro v' w2 hown2 hgrow _
            obtain ⟨ho2, hE4⟩ := app_one hown3 hE3 hown2 hgrow
            clear hown2 hgrow hown3
            have HO2 := Lib.hid ho2
            clear ho2
            go_wp2_with fail
            go_roundw
            case rel => exact ⟨q + 1, by omega, by go_num, by rw [hs2.out]; simpa using HO2.out, hE4⟩
            case measure => simp [intOf]; omega
        · have hqn : q = n := by omega
          have hfin : Hid (P ++ [x] ++ (l.take q).filter (fun y => bl x.1 y.1) = putF l x) := by
            show _ = _
            rw [hf.out, hqn, HN.out, List.take_length]; rfl
          clear hqn
          go_wp2_with fail
          go_ret
          exact ⟨_, rfl, by rw [← hfin.out]; exact hown.base E0.size, E0.trans hE2⟩
end Go.Proofs.YtmppjbimdonfmaaDoor
