/- Layer 21: the file system that is there: none, read, change. | Layer 21: change (the count, the plan of faults). | Layer 21: Plan, Wake, New, Stat, Mkdir of a file system that is there. | Layer 21: Plan, Wake, Stat of a file system that is there. | Layer 21: the changes of a file system that is there. (Printed by gen_sysm.py.) -/
import Derived.Test.YtjblimclakfhfaaGreatBunI
import Derived.Test.YtjblimclakfhfaaGreatBunJ
namespace Go.Proofs.YtjblimclakfhfaaGreat
open Go.ChangeShapes Go.WideShapes Go.ChangeAt Go.RowKit

/-- A file system in memory. -/
def SAt (w : World) (b : Nat) (g : GhW) (now count : Int) (A : Option Addr) (len cap : Nat) (dead : Bool) : Prop :=
  Has w b (.cells #[.pointer (some ⟨g.bW, 0, none⟩), .int .i64 now, .int .i64 count, .slice A len cap, .bool dead] 47)
theorem SAt.ext {w w' : World} {b : Nat} {g : GhW} {now count : Int} {A : Option Addr} {len cap : Nat} {dead : Bool} (h : SAt w b g now count A len cap dead) (hE : Ext w w') : SAt w' b g now count A len cap dead := Has.ext h hE
set_option maxRecDepth 100000 in
theorem noneS {b : Nat} {g : GhW} {now count : Int} {A : Option Addr} {len cap : Nat} {dead : Bool} (w : World) (h : SAt w b g now count A len cap dead) : Calls Tryz.prog 75 #[.pointer (some ⟨b, 0, none⟩)] w (Ret w (.bool false)) := by
  have c0 := Has.cell h 0
  have z := Has.lt h
  go_enter Tryz.func75, Tryz.ntmps75
  go_wp2_with fail
  go_ret
  exact Ret.mk rfl (Ext.refl _)
set_option maxRecDepth 100000 in
theorem readS {b : Nat} {g : GhW} {now count : Int} {A : Option Addr} {len cap : Nat} {dead : Bool} (w : World) (h : SAt w b g now count A len cap dead) : Calls Tryz.prog 91 #[.pointer (some ⟨b, 0, none⟩)] w (Ret w (.int .i64 (if dead = true then 20 else 0))) := by
  cases dead
  · show Calls _ _ _ _ (Ret w (.int .i64 0))
    go_enter Tryz.func91, Tryz.ntmps91
    go_wp2_with fail
    refine (noneS _ h).mono ?_
    rintro e w1 ⟨rfl, b1⟩
    have h1 := h.ext b1
    have c4 := Has.cell h1 4
    have z := Has.lt h1
    go_wp2_with fail
    go_ret
    exact Ret.mk rfl b1
  · show Calls _ _ _ _ (Ret w (.int .i64 20))
    go_enter Tryz.func91, Tryz.ntmps91
    go_wp2_with fail
    refine (noneS _ h).mono ?_
    rintro e w1 ⟨rfl, b1⟩
    have h1 := h.ext b1
    have c4 := Has.cell h1 4
    have z := Has.lt h1
    go_wp2_with fail
    go_ret
    exact Ret.mk rfl b1
set_option maxRecDepth 100000 in
theorem nowS {b : Nat} {g : GhW} {now count : Int} {A : Option Addr} {len cap : Nat} {dead : Bool} (w : World) (h : SAt w b g now count A len cap dead) : Calls Tryz.prog 50 #[.pointer (some ⟨b, 0, none⟩)] w (Ret w (.int .i64 now)) := by
  go_enter Tryz.func50, Tryz.ntmps50
  go_wp2_with fail
  refine (noneS _ h).mono ?_
  rintro e w1 ⟨rfl, b1⟩
  have h1 := h.ext b1
  have c1 := Has.cell h1 1
  have z := Has.lt h1
  go_wp2_with fail
  go_ret
  exact Ret.mk rfl b1
set_option maxRecDepth 100000 in
theorem deadS {b : Nat} {g : GhW} {now count : Int} {A : Option Addr} {len cap : Nat} {dead : Bool} (w : World) (h : SAt w b g now count A len cap dead) : Calls Tryz.prog 47 #[.pointer (some ⟨b, 0, none⟩)] w (Ret w (.bool dead)) := by
  go_enter Tryz.func47, Tryz.ntmps47
  go_wp2_with fail
  refine (noneS _ h).mono ?_
  rintro e w1 ⟨rfl, b1⟩
  have h1 := h.ext b1
  have c4 := Has.cell h1 4
  have z := Has.lt h1
  go_wp2_with fail
  go_ret
  exact Ret.mk rfl b1
set_option maxRecDepth 100000 in
theorem tickS {b : Nat} {g : GhW} {now count : Int} {A : Option Addr} {len cap : Nat} {dead : Bool} (n : Int) (w : World) (h : SAt w b g now count A len cap dead) (h0 : 0 ≤ n) (hn : 0 ≤ now) (hm : n + now ≤ 253402300799) : Calls Tryz.prog 49 #[.pointer (some ⟨b, 0, none⟩), .int .i64 n] w (fun e w' => e = .returned (.int .i64 0) ∧ SAt w' b g (now + n) count A len cap dead ∧ Only [b] w w') := by
  go_enter Tryz.func49, Tryz.ntmps49
  go_wp2_with fail
  refine (noneS _ h).mono ?_
  rintro e w1 ⟨rfl, b1⟩
  have h1 := h.ext b1
  have c1 := Has.cell h1 1
  have f1 := Has.free h1 1
  have z := Has.lt h1
  have t0 : ¬ n < 0 := by omega
  have t1 : IntKind.i64.wrap (253402300799 - now) = 253402300799 - now := IntWalk.i64_in _ (by omega)
  have t2 : ¬ (253402300799 - now < n) := by omega
  have t3 : IntKind.i64.wrap (now + n) = now + n := IntWalk.i64_in _ (by omega)
  go_wp2_with fail
  go_ret
  exact ⟨rfl, Has.setCell h1 1 (.int .i64 (now + n)), Only.pre b1 (Only.setCell _ _ _ _)⟩
set_option maxRecDepth 100000 in
theorem tickN {b : Nat} {g : GhW} {now count : Int} {A : Option Addr} {len cap : Nat} {dead : Bool} (n : Int) (w : World) (h : SAt w b g now count A len cap dead) (h0 : n < 0) : Calls Tryz.prog 49 #[.pointer (some ⟨b, 0, none⟩), .int .i64 n] w (Ret w (.int .i64 3)) := by
  go_enter Tryz.func49, Tryz.ntmps49
  go_wp2_with fail
  refine (noneS _ h).mono ?_
  rintro e w1 ⟨rfl, b1⟩
  go_wp2_with fail
  go_ret
  exact Ret.mk rfl b1
end Go.Proofs.YtjblimclakfhfaaGreat

namespace Go.Proofs.YtjblimclakfhfaaGreat
open Go.ChangeShapes Go.WideShapes Go.ChangeAt Go.RowKit

/-- A plan in memory: pairs of a count and an error. -/
def PlanAt (w : World) (A : Option Addr) (l : List (Int × Int)) : Prop :=
  l = [] ∨ ∃ b o, A = some ⟨b, o, none⟩ ∧ b < w.heap.size ∧ ∀ k, (h : k < l.length) → w.cell? ⟨b, o + k * 2, none⟩ = some (.int .i64 l[k].1) ∧ w.cell? ⟨b, o + k * 2 + 1, none⟩ = some (.int .i64 l[k].2)
theorem PlanAt.ext {w w' : World} {A : Option Addr} {l : List (Int × Int)} (h : PlanAt w A l) (k : Ext w w') : PlanAt w' A l := by
  rcases h with h | ⟨b, o, hA, hb, hc⟩
  · exact .inl h
  · exact .inr ⟨b, o, hA, by have := k.size; omega, fun i hi => ⟨(k.cell hb).trans (hc i hi).1, (k.cell hb).trans (hc i hi).2⟩⟩
/-- Not the file system's own block. -/
def PlanOff (A : Option Addr) (b : Nat) : Prop := ∀ x, A = some x → x.block ≠ b
theorem PlanAt.only {w w' : World} {A : Option Addr} {l : List (Int × Int)} {L : List Nat} (h : PlanAt w A l) (o : Only L w w') (hL : ∀ b ∈ L, PlanOff A b) : PlanAt w' A l := by
  rcases h with h | ⟨b, o', hA, hb, hc⟩
  · exact .inl h
  · have hn : b ∉ L := fun hb' => hL b hb' _ hA rfl
    have e : w'.heap[b]? = w.heap[b]? := o.block b hb hn
    have ec : ∀ j, w'.cell? ⟨b, j, none⟩ = w.cell? ⟨b, j, none⟩ := fun j => by simp [World.cell?, e]
    exact .inr ⟨b, o', hA, by have := o.size; omega, fun i hi => ⟨(ec _).trans (hc i hi).1, (ec _).trans (hc i hi).2⟩⟩
def hitO (l : List (Int × Int)) (c : Int) : Option (Int × Int) := l.find? fun x => x.1 == c
def hitE (l : List (Int × Int)) (c : Int) : Int := match hitO l c with | some x => x.2 | none => 0
def hitD (l : List (Int × Int)) (c : Int) : Bool := match hitO l c with | some x => x.2 == 20 | none => false
theorem hit_at {l : List (Int × Int)} {c : Int} {k : Nat} (hk : k < l.length) (h0 : hitO (l.take k) c = none) (h1 : l[k].1 = c) : hitE l c = l[k].2 ∧ hitD l c = (l[k].2 == 20) := by
  have : hitO l c = some l[k] := by
    unfold hitO at h0 ⊢
    have e : l.find? (fun x => x.1 == c) = (l.take k ++ l.drop k).find? (fun x => x.1 == c) := by rw [List.take_append_drop]
    rw [e, List.find?_append, h0, List.drop_eq_getElem_cons hk, List.find?_cons]
    simp [h1]
  unfold hitE hitD
  rw [this]
  exact ⟨rfl, rfl⟩
theorem hit_next {l : List (Int × Int)} {c : Int} {k : Nat} (hk : k < l.length) (h0 : hitO (l.take k) c = none) (h1 : l[k].1 ≠ c) : hitO (l.take (k + 1)) c = none := by
  unfold hitO at h0 ⊢
  rw [List.take_succ_eq_append_getElem hk, List.find?_append, h0]
  simp [h1]
set_option maxRecDepth 100000 in
set_option maxHeartbeats 4000000 in
theorem changeS {b : Nat} {g : GhW} {now count : Int} {A : Option Addr} {cap : Nat} (l : List (Int × Int)) (w : World) (h : SAt w b g now count A l.length cap false) (hp : PlanAt w A l) (ho : PlanOff A b) (hl : l.length ≤ 1000000) (hc0 : 0 ≤ count) (hc1 : count ≤ 1000000) :
    Calls Tryz.prog 102 #[.pointer (some ⟨b, 0, none⟩)] w (fun e w' => e = .returned (.int .i64 (hitE l (count + 1))) ∧ SAt w' b g now (count + 1) A l.length cap (hitD l (count + 1)) ∧ Only [b] w w') := by
  obtain ⟨n, hn⟩ : ∃ n, n = l.length := ⟨_, rfl⟩
  rw [← hn] at h hl ⊢
  have HN := Lib.hid hn
  obtain ⟨c, hc⟩ : ∃ c, c = count + 1 := ⟨_, rfl⟩
  have w1w : IntKind.i64.wrap (count + 1) = c := by rw [hc]; exact IntWalk.i64_in _ (by omega)
  rw [← hc]
  clear hn hc
  go_enter Tryz.func102, Tryz.ntmps102
  go_wp2_with fail
  refine (readS _ h).mono ?_
  rintro e w1 ⟨rfl, b1⟩
  have h1 := h.ext b1
  have c2 := Has.cell h1 2
  have f2 := Has.free h1 2
  have z := Has.lt h1
  obtain ⟨W2, hW2⟩ : ∃ W2, W2 = w1.setCell ⟨b, 2, none⟩ (.int .i64 c) := ⟨_, rfl⟩
  have h2 : SAt W2 b g now c A n cap false := by rw [hW2]; exact Has.setCell h1 2 (.int .i64 c)
  have O2 : Only [b] w W2 := by rw [hW2]; exact Only.pre b1 (Only.setCell _ _ _ _)
  have hp2 : PlanAt W2 A l := hp.only O2 (fun x hx => by simp at hx; subst hx; exact ho)
  have HW2 := Lib.hid hW2
  clear hW2 h1 h hp
  go_upto_region 5 with fail
  rw [← HW2.out]
  have c3 := Has.cell h2 3
  have z2 := Has.lt h2
  clear c2 f2 z b1 HW2
  go_wp2_with fail
  go_loopw [23] (fun i wr => ∃ k : Nat, i = .int .i64 k ∧ k ≤ n ∧ hitO (l.take k) c = none ∧ SAt wr b g now c A n cap false ∧ PlanAt wr A l ∧ Only [b] w wr) (fun i _ => n - (intOf i).toNat)
  case atStart => exact ⟨0, rfl, Nat.zero_le _, rfl, h2, hp2, O2⟩
  case round =>
    obtain ⟨k, rfl, hk, h0, hS, hP, hO⟩ := hrel
    by_cases hlt : (k : Int) < n
    · have hkl : k < l.length := by have := HN.out; omega
      have hP' := hP
      obtain ⟨bl, o, rfl, hbl, hcs⟩ := hP'.resolve_left (by rintro rfl; simp at hkl)
      obtain ⟨e0, e1⟩ := hcs k hkl
      have y1 : (0 : Int) ≤ (k : Int) := Int.natCast_nonneg _
      have w3w : IntKind.i64.wrap ((k : Int) + 1) = (k : Int) + 1 := IntWalk.i64_in _ (by omega)
      have hat := hit_at (c := c) hkl h0
      have hnx := hit_next (c := c) hkl h0
      obtain ⟨x, hx⟩ : ∃ x, x = l[k] := ⟨_, rfl⟩
      rw [← hx] at e0 e1 hat hnx
      obtain ⟨x1, x2⟩ := x
      obtain ⟨W5, hW5⟩ : ∃ W5, W5 = wr.alloc (.cells #[.int .i64 x1, .int .i64 x2] 38) := ⟨_, rfl⟩
      obtain ⟨b5, hb5⟩ : ∃ b5, b5 = wr.heap.size := ⟨_, rfl⟩
      have E5 : Ext wr W5 := by rw [hW5]; exact (Ext.refl _).alloc _
      have N5 : Has W5 b5 (.cells #[.int .i64 x1, .int .i64 x2] 38) := by rw [hW5, hb5]; exact Has.new _ _
      have S5 := hS.ext E5
      have P5 := hP.ext E5
      have O5 := hO.ext E5
      have hbb : b5 ≠ b := by have := Has.lt hS; omega
      clear hcs hx
      go_upto_region 8 with fail
      rw [← hW5, ← hb5]
      clear hW5 hb5 e0 e1
      have d2 := Has.cell S5 2
      have d4 := Has.cell S5 4
      have f4 := Has.free S5 4
      have dz := Has.lt S5
      have n0 := N5.cell 0
      have n1 := N5.cell 1
      have nz := N5.lt
      by_cases hq : x1 = c
      · have t1 : (x1 == c) = true := by simpa using hq
        have HAT := Lib.hid (hat hq)
        clear hq hat hnx
        go_quiet (fail)
        go_wp2_with fail
        go_ret
        rw [HAT.out.1, HAT.out.2]
        refine ⟨rfl, ?_, (O5.ext ((Ext.refl _).drewN _)).then (Only.setCell _ _ _ _)⟩
        exact Has.setCell (S5.ext ((Ext.refl _).drewN _)) 4 (.bool (x2 == 20))
      · have t1 : (x1 == c) = false := by simpa using hq
        have HNX := Lib.hid (hnx hq)
        clear hq hat hnx
        go_quiet (fail)
        go_wp2_with fail
        go_roundw
        case rel => exact ⟨k + 1, by go_num, by omega, HNX.out, S5.ext ((Ext.refl _).drewN _), P5.ext ((Ext.refl _).drewN _), O5.ext ((Ext.refl _).drewN _)⟩
        case measure => simp [intOf]; omega
    · have hkn : k = n := by omega
      have hf : hitO l c = none := by rw [hkn, HN.out, List.take_length] at h0; exact h0
      have he : hitE l c = 0 ∧ hitD l c = false := by unfold hitE hitD; rw [hf]; exact ⟨rfl, rfl⟩
      have HE := Lib.hid he
      clear hf he h0 hkn
      go_wp2_with fail
      go_ret
      exact ⟨by rw [HE.out.1]; rfl, by rw [HE.out.2]; exact hS, hO⟩
end Go.Proofs.YtjblimclakfhfaaGreat

namespace Go.Proofs.YtjblimclakfhfaaGreat
open Go.ChangeShapes Go.WideShapes Go.ChangeAt Go.RowKit

set_option maxRecDepth 100000 in
set_option maxHeartbeats 4000000 in
theorem newS (b n : Int) (w : World) (hl : limitsF b n = true) : Calls Tryz.prog 11 #[.int .i64 b, .int .i64 n] w (fun e w' => ∃ (g : GhW) (B s : Nat), w.heap.size ≤ B ∧ B ≤ s ∧ e = .returned (.tuple #[.pointer (some ⟨s, 0, none⟩), .int .i64 0]) ∧ WAt w' B g (rootT emptyT 0 b n) ∧ SAt w' s g 0 0 none 0 0 false ∧ s ∉ g.list ∧ Ext w w') := by
  go_enter Tryz.func11, Tryz.ntmps11
  go_wp2_with fail
  refine (pnew_any w.heap.size b n w (Nat.le_refl _) hl).mono ?_
  rintro e w1 ⟨g, rfl, K, E1⟩
  go_wp2_with fail
  go_ret2
  refine ⟨g, w.heap.size, w1.heap.size, Nat.le_refl _, E1.size, rfl, K.ext ((Ext.refl _).alloc _), Has.new _ _, ?_, E1.alloc _⟩
  have h1 := K.lt
  simp only [GhW.list, List.mem_cons, List.not_mem_nil, or_false]
  omega
set_option maxRecDepth 100000 in
set_option maxHeartbeats 4000000 in
theorem mkdirS {b : Nat} {g : GhW} {now count : Int} {A : Option Addr} {cap : Nat} (l : List (Int × Int)) (w : World) (B : Nat) (S : TreeD) (cu cg dir : Int) (nm : List UInt8) (mode : Int) (h : SAt w b g now count A l.length cap false) (hp : PlanAt w A l) (ho : PlanOff A b) (hl : l.length ≤ 1000000) (hc0 : 0 ≤ count) (hc1 : count ≤ 1000000)
    (_K : WAt w B g S) (_hb : b ∉ g.list) (_hbB : B ≤ b) (_O : Ok S) (_hl1 : S.last ≤ 100000) {x : Int} (hx : hitE l (count + 1) = x) (hx0 : x ≠ 0) :
    Calls Tryz.prog 45 #[.pointer (some ⟨b, 0, none⟩), .agg #[.int .i64 cu, .int .i64 cg], .int .i64 dir, .string (bs nm), .int .i64 mode] w
      (fun e w' => e = .returned (.tuple #[.int .i64 0, .int .i64 x]) ∧ SAt w' b g now (count + 1) A l.length cap (hitD l (count + 1)) ∧ Only [b] w w') := by
  obtain ⟨n, hn⟩ : ∃ n, n = l.length := ⟨_, rfl⟩
  have KC : Hid (∀ u, Ext w u → Calls Tryz.prog 102 #[.pointer (some ⟨b, 0, none⟩)] u (fun e w' => e = .returned (.int .i64 x) ∧ SAt w' b g now (count + 1) A n cap (hitD l (count + 1)) ∧ Only [b] u w')) := by
    show ∀ u, _
    intro u hu
    rw [← hx, hn]
    exact changeS l u (h.ext hu) (hp.ext hu) ho hl hc0 hc1
  rw [← hn]
  clear hn hx
  have t1 : (x != 0) = true := by simpa using hx0
  clear hx0 h hp ho hl hc0 hc1
  go_enter Tryz.func45, Tryz.ntmps45
  go_wp2_with fail
  refine (KC.out _ ((Ext.refl _).alloc _)).mono ?_
  rintro e w1 ⟨rfl, S1, O1⟩
  go_wp2_with fail
  go_ret2
  exact ⟨rfl, S1, Only.pre ((Ext.refl _).alloc _) O1⟩
theorem SAt.apart {w : World} {B b : Nat} {g : GhW} {now count : Int} {A : Option Addr} {len cap : Nat} {dead : Bool} (h : SAt w b g now count A len cap dead) (hB : B ≤ b) : Apart w B [b] := Apart.cons (fun x hx => by cases hx) hB (Has.noTag h (by decide))
theorem WAt.offS {w w' : World} {B b : Nat} {g : GhW} {S : TreeD} {now count : Int} {A : Option Addr} {len cap : Nat} {dead : Bool} (K : WAt w B g S) (h : SAt w b g now count A len cap dead) (hB : B ≤ b) (hb : b ∉ g.list) (o : Only [b] w w') : WAt w' B g S :=
  K.only o (h.apart hB) fun x hx hx' => by simp at hx'; subst hx'; exact hb hx
theorem SAt.only {w w' : World} {b : Nat} {g : GhW} {now count : Int} {A : Option Addr} {len cap : Nat} {dead : Bool} {L : List Nat} (h : SAt w b g now count A len cap dead) (o : Only L w w') (hb : b ∉ L) : SAt w' b g now count A len cap dead := o.has h hb
set_option maxRecDepth 100000 in
set_option maxHeartbeats 8000000 in
theorem mkdirY {b : Nat} {g : GhW} {now count : Int} {A : Option Addr} {cap : Nat} (l : List (Int × Int)) (w : World) (B : Nat) (S : TreeD) (cu cg dir : Int) (nm : List UInt8) (mode : Int) (h : SAt w b g now count A l.length cap false) (hp : PlanAt w A l) (ho : PlanOff A b) (hl : l.length ≤ 1000000) (hc0 : 0 ≤ count) (hc1 : count ≤ 1000000)
    (K : WAt w B g S) (hb : b ∉ g.list) (hbB : B ≤ b) (O : Ok S) (hl1 : S.last ≤ 100000) (hx : hitO l (count + 1) = none) :
    Calls Tryz.prog 45 #[.pointer (some ⟨b, 0, none⟩), .agg #[.int .i64 cu, .int .i64 cg], .int .i64 dir, .string (bs nm), .int .i64 mode] w
      (fun e w' => e = .returned (.tuple #[.int .i64 (preN (dirP mode) (comeN S cu cg now dir nm (dirZ mode dir))), .int .i64 (preE (dirP mode) (comeE S cu cg now dir nm (dirZ mode dir)))]) ∧ WAt w' B g (preT (dirP mode) S (comeT S cu cg now dir nm (dirZ mode dir))) ∧ SAt w' b g now (count + 1) A l.length cap false ∧ Only (b :: g.list) w w') := by
  obtain ⟨n, hn⟩ : ∃ n, n = l.length := ⟨_, rfl⟩
  have hE : hitE l (count + 1) = 0 ∧ hitD l (count + 1) = false := by unfold hitE hitD; rw [hx]; exact ⟨rfl, rfl⟩
  obtain ⟨W0, hW0⟩ : ∃ W, W = w.alloc (.cells #[.int .i64 cu, .int .i64 cg] 24) := ⟨_, rfl⟩
  obtain ⟨b0, hb0⟩ : ∃ b, b = w.heap.size := ⟨_, rfl⟩
  have E0 : Ext w W0 := by rw [hW0]; exact (Ext.refl _).alloc _
  have N0 : Has W0 b0 (.cells #[.int .i64 cu, .int .i64 cg] 24) := by rw [hW0, hb0]; exact Has.new _ _
  have hbb : b0 ≠ b := by have := Has.lt h; omega
  have KC : Hid (Calls Tryz.prog 102 #[.pointer (some ⟨b, 0, none⟩)] W0 (fun e w' => e = .returned (.int .i64 0) ∧ SAt w' b g now (count + 1) A n cap false ∧ Only [b] W0 w')) := by
    show Calls _ _ _ _ _
    have := changeS l W0 (h.ext E0) (hp.ext E0) ho hl hc0 hc1
    rw [hE.1, hE.2, ← hn] at this
    exact this
  have S0 := h.ext E0
  have K0 := K.ext E0
  obtain ⟨y, hy⟩ : ∃ y, y = preN (dirP mode) (comeN S cu cg now dir nm (dirZ mode dir)) := ⟨_, rfl⟩
  obtain ⟨z, hz⟩ : ∃ z, z = preE (dirP mode) (comeE S cu cg now dir nm (dirZ mode dir)) := ⟨_, rfl⟩
  obtain ⟨T, hT⟩ : ∃ T, T = preT (dirP mode) S (comeT S cu cg now dir nm (dirZ mode dir)) := ⟨_, rfl⟩
  have KD : Hid (∀ u, WAt u B g S → Calls Tryz.prog 103 #[.pointer (some ⟨g.bW, 0, none⟩), .agg #[.int .i64 cu, .int .i64 cg], .int .i64 now, .int .i64 dir, .string (bs nm), .int .i64 mode] u (NoR u B g T y z)) := by
    show ∀ u, _
    intro u hu
    rw [hy, hz, hT]
    exact pdir_any B g S cu cg now dir nm mode u hu O hl1
  rw [← hn, ← hy, ← hz, ← hT]
  clear hn hx hE hy hz hT h hp ho hl hc0 hc1 O hl1 K
  go_enter Tryz.func45, Tryz.ntmps45
  go_upto_region 1 with fail
  rw [← hW0, ← hb0]
  clear hW0 hb0
  go_wp2_with fail
  refine KC.out.mono ?_
  rintro e w1 ⟨rfl, S1, O1⟩
  have K1 := K0.offS S0 hbB hb O1
  have N1 := O1.has N0 (by simpa using hbb)
  have c0 := Has.cell S1 0
  have c1 := Has.cell S1 1
  have cz := Has.lt S1
  have d0 := N1.cell 0
  have d1 := N1.cell 1
  have dz := N1.lt
  go_wp2_with fail
  go_region_with (go_at_call 103; refine (KD.out _ (K1.ext (Ext.refl _).drew)).mono ?_; rintro e w2 ⟨rfl, K2, O2⟩)
  all_goals
    go_wp2_with fail
    go_ret2
    refine ⟨rfl, K2, SAt.only (SAt.ext S1 (Ext.refl _).drew) O2 hb, ?_⟩
    exact (Only.pre E0 (O1.mono (fun x hx => by simp at hx; subst hx; simp))).then ((Only.of_ext (Ext.refl _).drew).then (O2.mono (fun x hx => by simp [hx])))
end Go.Proofs.YtjblimclakfhfaaGreat

namespace Go.Proofs.YtjblimclakfhfaaGreat
open Go.ChangeShapes Go.WideShapes Go.ChangeAt Go.RowKit

theorem infoFault : (Tryz.prog.info? 38).map (fun i => (i.zero, i.size, i.bytes)) = some (some (.agg #[.int .i64 0, .int .i64 0]), 2, 16) := by kernel_rfl
set_option maxRecDepth 100000 in
set_option maxHeartbeats 4000000 in
theorem plan2 {b bl : Nat} {g : GhW} {now count : Int} {A : Option Addr} {len cap : Nat} {dead : Bool} (x1 y1 x2 y2 : Int) (w : World) (h : SAt w b g now count A len cap dead) (hl : Has w bl (.cells #[.int .i64 x1, .int .i64 y1, .int .i64 x2, .int .i64 y2] 38)) :
    Calls Tryz.prog 16 #[.pointer (some ⟨b, 0, none⟩), .slice (some ⟨bl, 0, none⟩) 2 2] w (fun e w' => (∃ v, e = .returned v) ∧ ∃ A' cap', SAt w' b g now 0 A' 2 cap' dead ∧ PlanAt w' A' [(x1, y1), (x2, y2)] ∧ PlanOff A' b ∧ (∀ x, A' = some x → w.heap.size ≤ x.block) ∧ Only [b] w w') := by
  obtain ⟨i0, hi, hz0, hz1, hz2⟩ := info_parts infoFault
  have HI := Lib.hid hi
  have HZ0 := Lib.hid hz0
  have HZ1 := Lib.hid hz1
  have HZ2 := Lib.hid hz2
  clear hi hz0 hz1 hz2
  go_enter Tryz.func16, Tryz.ntmps16
  go_wp2_with fail
  refine (noneS _ h).mono ?_
  rintro e w1 ⟨rfl, b1⟩
  have h1 := h.ext b1
  have c2 := Has.cell h1 2
  have f2 := Has.free h1 2
  have z := Has.lt h1
  have hbl : bl ≠ b := by
    intro e
    subst e
    have a1 := (Has.ext hl b1)
    have := a1.symm.trans (show w1.heap[bl]? = _ from h1)
    simp at this
  obtain ⟨W2, hW2⟩ : ∃ W2, W2 = w1.setCell ⟨b, 2, none⟩ (.int .i64 0) := ⟨_, rfl⟩
  have h2 : SAt W2 b g now 0 A len cap dead := by rw [hW2]; exact Has.setCell h1 2 (.int .i64 0)
  have O2 : Only [b] w1 W2 := by rw [hW2]; exact Only.setCell _ _ _ _
  have l2 := O2.has (Has.ext hl b1) (by simpa using hbl)
  have c3 := Has.cell h2 3
  have f3 := Has.free h2 3
  have z2 := Has.lt h2
  clear h h1 hl
  go_upto_region 2 with fail
  rw [← hW2]
  clear hW2 c2 f2 z
  go_wp2_with (at_builtin; refine wpList_append_own _ rfl _ _ 39 rfl W2.heap.size 38 i0 (.agg #[.int .i64 0, .int .i64 0]) 2 16 Tryz.underlying39 HI.out HZ0.out HZ1.out HZ2.out rfl (by decide) _ 0 [] rfl (World.ownsRow_nil _ _ _ _) ⟨bl, 0, none⟩ 2 2 [.int .i64 x1, .int .i64 y1, .int .i64 x2, .int .i64 y2] rfl rfl (World.news_of_block (cs := #[.int .i64 x1, .int .i64 y1, .int .i64 x2, .int .i64 y2]) (t := 38) (fr := (0, 0)) l2) (by intro u hu; simp only [List.mem_cons, List.not_mem_nil, or_false] at hu; rcases hu with rfl | rfl | rfl | rfl <;> rfl) (by unfold maxLen; omega) (by omega) (Nat.le_refl _) ?_; intro v' w3 hown hgrow _; obtain ⟨g', cap', rfl⟩ := ownsRow_succ (k := 1) hown; have E3 : Ext W2 w3 := (Ext.refl W2).grown hgrow (fun g hv => by cases hv); have h3 := h2.ext E3; have c3' := Has.cell h3 3; have f3' := Has.free h3 3; have z3 := Has.lt h3)
  go_end0
  obtain ⟨W5, hW5⟩ : ∃ W5, W5 = w3.setCell ⟨b, 3, none⟩ (.slice (some ⟨g', 0, none⟩) (1 + 1) cap') := ⟨_, rfl⟩
  have h5 : SAt W5 b g now 0 (some ⟨g', 0, none⟩) 2 cap' dead := by rw [hW5]; exact Has.setCell h3 3 _
  have O5 : Only [b] w3 W5 := by rw [hW5]; exact Only.setCell _ _ _ _
  have hg' : g' ≠ b := by have := (World.ownsRow.lt hown g' rfl).1; omega
  refine ⟨⟨_, rfl⟩, some ⟨g', 0, none⟩, cap', ?_, ?_, ?_, ?_, (Only.pre b1 O2).then ((Only.of_ext E3).then ?_)⟩
  · rw [← hW5]; exact h5
  · have hc := World.ownsRow.cells hown (g := g') rfl
    have hlt := (World.ownsRow.lt hown g' rfl).2
    have e : W5.heap[g']? = w3.heap[g']? := O5.block g' hlt (by simpa using hg')
    have ec : ∀ j, W5.cell? ⟨g', j, none⟩ = w3.cell? ⟨g', j, none⟩ := fun j => by simp [World.cell?, e]
    rw [← hW5]
    refine .inr ⟨g', 0, rfl, by have := O5.size; omega, fun k hk => ?_⟩
    have hk2 : k = 0 ∨ k = 1 := by simp at hk; omega
    rw [ec, ec]
    rcases hk2 with rfl | rfl
    · exact ⟨hc 0 _ rfl, hc 1 _ rfl⟩
    · exact ⟨hc 2 _ rfl, hc 3 _ rfl⟩
  · intro x hx
    injection hx with hx
    subst hx
    exact hg'
  · intro x hx
    injection hx with hx
    subst hx
    have := (World.ownsRow.lt hown g' rfl).1
    have := (Only.pre b1 O2).size
    show w.heap.size ≤ g'
    omega
  · rw [← hW5]; exact O5
set_option maxRecDepth 100000 in
set_option maxHeartbeats 4000000 in
theorem planNil {b : Nat} {g : GhW} {now count : Int} {A : Option Addr} {len cap : Nat} {dead : Bool} (w : World) (h : SAt w b g now count A len cap dead) :
    Calls Tryz.prog 16 #[.pointer (some ⟨b, 0, none⟩), .slice none 0 0] w (fun e w' => (∃ v, e = .returned v) ∧ SAt w' b g now 0 none 0 0 dead ∧ Only [b] w w') := by
  go_enter Tryz.func16, Tryz.ntmps16
  go_wp2_with fail
  refine (noneS _ h).mono ?_
  rintro e w1 ⟨rfl, b1⟩
  have h1 := h.ext b1
  have c2 := Has.cell h1 2
  have f2 := Has.free h1 2
  have z := Has.lt h1
  obtain ⟨W2, hW2⟩ : ∃ W2, W2 = w1.setCell ⟨b, 2, none⟩ (.int .i64 0) := ⟨_, rfl⟩
  have h2 : SAt W2 b g now 0 A len cap dead := by rw [hW2]; exact Has.setCell h1 2 (.int .i64 0)
  have O2 : Only [b] w1 W2 := by rw [hW2]; exact Only.setCell _ _ _ _
  have c3 := Has.cell h2 3
  have f3 := Has.free h2 3
  have z2 := Has.lt h2
  clear h h1
  go_upto_region 2 with fail
  rw [← hW2]
  clear hW2 c2 f2 z
  go_wp2_with fail
  go_end0
  exact ⟨⟨_, rfl⟩, Has.setCell h2 3 (.slice none 0 0), (Only.pre b1 O2).then (Only.setCell _ _ _ _)⟩
set_option maxRecDepth 100000 in
set_option maxHeartbeats 4000000 in
theorem wakeS {b : Nat} {g : GhW} {now count : Int} {A : Option Addr} {len cap : Nat} {dead : Bool} (w : World) (h : SAt w b g now count A len cap dead) :
    Calls Tryz.prog 48 #[.pointer (some ⟨b, 0, none⟩)] w (fun e w' => (∃ v, e = .returned v) ∧ SAt w' b g now 0 none 0 0 false ∧ Only [b] w w') := by
  go_enter Tryz.func48, Tryz.ntmps48
  go_wp2_with fail
  refine (noneS _ h).mono ?_
  rintro e w1 ⟨rfl, b1⟩
  have h1 := h.ext b1
  have c4 := Has.cell h1 4
  have f4 := Has.free h1 4
  have z := Has.lt h1
  obtain ⟨W2, hW2⟩ : ∃ W2, W2 = w1.setCell ⟨b, 4, none⟩ (.bool false) := ⟨_, rfl⟩
  have h2 : SAt W2 b g now count A len cap false := by rw [hW2]; exact Has.setCell h1 4 (.bool false)
  have O2 : Only [b] w1 W2 := by rw [hW2]; exact Only.setCell _ _ _ _
  clear h h1
  go_upto_region 2 with fail
  rw [← hW2]
  clear hW2 c4 f4 z
  go_wp2_with fail
  refine (planNil _ h2).mono ?_
  rintro e w3 ⟨⟨v, rfl⟩, S3, O3⟩
  go_wp2_with fail
  go_end0
  exact ⟨⟨_, rfl⟩, S3, ((Only.pre b1 O2).then O3)⟩
set_option maxRecDepth 100000 in
set_option maxHeartbeats 4000000 in
theorem statDead {b : Nat} {g : GhW} {now count : Int} {A : Option Addr} {len cap : Nat} {no : Int} (w : World) (h : SAt w b g now count A len cap true) : Calls Tryz.prog 46 #[.pointer (some ⟨b, 0, none⟩), .int .i64 no] w (Ret w (.tuple #[statV nodeZ, .int .i64 20])) := by
  obtain ⟨W0, hW0⟩ : ∃ W, W = w.alloc (.cells #[.int .i64 0, .int .i64 0, .int .i64 0, .int .i64 0, .int .i64 0, .int .i64 0, .int .i64 0, .int .i64 0, .int .i64 0, .int .i64 0] 94) := ⟨_, rfl⟩
  obtain ⟨b0, hb0⟩ : ∃ b, b = w.heap.size := ⟨_, rfl⟩
  have E0 : Ext w W0 := by rw [hW0]; exact (Ext.refl _).alloc _
  have R0 : Has W0 b0 (.cells #[.int .i64 nodeZ.no, .int .i64 nodeZ.dev, .int .i64 nodeZ.kind, .int .i64 nodeZ.mode, .int .i64 nodeZ.uid, .int .i64 nodeZ.gid, .int .i64 nodeZ.links, .int .i64 nodeZ.data.length, .int .i64 nodeZ.mtime, .int .i64 nodeZ.ctime] 94) := by rw [hW0, hb0]; exact Has.new _ _
  have hbw : w.heap.size ≤ b0 := by omega
  have h0 := h.ext E0
  go_enter Tryz.func46, Tryz.ntmps46
  go_upto_region 1 with fail
  rw [show w.alloc _ = W0 from hW0.symm, ← hb0]
  clear hW0 hb0
  go_wp2_with fail
  refine (readS _ h0).mono ?_
  rintro e w1 ⟨rfl, b1⟩
  have R1 := R0.ext b1
  have E1 := E0.trans b1
  go_wp2_with (refine wpList_store_stat rfl _ _ rfl b0 nodeZ rfl rfl R1 ?_; intro w9 R9 O9)
  refine bodyPost_ret (v := .tuple #[.agg #[.int .i64 nodeZ.no, .int .i64 nodeZ.dev, .int .i64 nodeZ.kind, .int .i64 nodeZ.mode, .int .i64 nodeZ.uid, .int .i64 nodeZ.gid, .int .i64 nodeZ.links, .int .i64 nodeZ.data.length, .int .i64 nodeZ.mtime, .int .i64 nodeZ.ctime], .int .i64 20]) (res_stat Tryz.results46 _ _ b0 nodeZ _ rfl rfl R9) rfl ?_
  exact ⟨rfl, O9.after E1 (by simpa using hbw)⟩
set_option maxRecDepth 100000 in
set_option maxHeartbeats 4000000 in
theorem statLive {b B : Nat} {g : GhW} {S : TreeD} {now count : Int} {A : Option Addr} {len cap : Nat} {no : Int} (w : World) (h : SAt w b g now count A len cap false) (K : WAt w B g S) (hd : 0 < S.devs.length) : Calls Tryz.prog 46 #[.pointer (some ⟨b, 0, none⟩), .int .i64 no] w (Ret w (.tuple #[statV (getN S.nodes no), .int .i64 (statE S no)])) := by
  obtain ⟨W0, hW0⟩ : ∃ W, W = w.alloc (.cells #[.int .i64 0, .int .i64 0, .int .i64 0, .int .i64 0, .int .i64 0, .int .i64 0, .int .i64 0, .int .i64 0, .int .i64 0, .int .i64 0] 94) := ⟨_, rfl⟩
  obtain ⟨b0, hb0⟩ : ∃ b, b = w.heap.size := ⟨_, rfl⟩
  have E0 : Ext w W0 := by rw [hW0]; exact (Ext.refl _).alloc _
  have R0 : Has W0 b0 (.cells #[.int .i64 nodeZ.no, .int .i64 nodeZ.dev, .int .i64 nodeZ.kind, .int .i64 nodeZ.mode, .int .i64 nodeZ.uid, .int .i64 nodeZ.gid, .int .i64 nodeZ.links, .int .i64 nodeZ.data.length, .int .i64 nodeZ.mtime, .int .i64 nodeZ.ctime] 94) := by rw [hW0, hb0]; exact Has.new _ _
  have hbw : w.heap.size ≤ b0 := by omega
  have h0 := h.ext E0
  have K0 := K.ext E0
  go_enter Tryz.func46, Tryz.ntmps46
  go_upto_region 1 with fail
  rw [show w.alloc _ = W0 from hW0.symm, ← hb0]
  clear hW0 hb0
  go_wp2_with fail
  refine (readS _ h0).mono ?_
  rintro e w1 ⟨rfl, b1⟩
  have R1 := R0.ext b1
  have E1 := E0.trans b1
  have h1 := h0.ext b1
  have K1 := K0.ext b1
  have c0 := Has.cell h1 0
  have cz := Has.lt h1
  go_wp2_with fail
  refine (pstat_any B g S no _ K1 hd).mono ?_
  rintro e w2 ⟨rfl, b2⟩
  have R2 := R1.ext b2
  have E2 := E1.trans b2
  obtain ⟨m, hm⟩ : ∃ m, m = getN S.nodes no := ⟨_, rfl⟩
  obtain ⟨x, hx⟩ : ∃ x, x = statE S no := ⟨_, rfl⟩
  rw [← hm, ← hx]
  have HMM := Lib.hid hm
  have HXX := Lib.hid hx
  clear hm hx
  unfold statV
  go_wp2_with (refine wpList_store_stat rfl _ _ rfl b0 m rfl rfl R2 ?_; intro w9 R9 O9)
  refine bodyPost_ret (v := .tuple #[.agg #[.int .i64 m.no, .int .i64 m.dev, .int .i64 m.kind, .int .i64 m.mode, .int .i64 m.uid, .int .i64 m.gid, .int .i64 m.links, .int .i64 m.data.length, .int .i64 m.mtime, .int .i64 m.ctime], .int .i64 x]) (res_stat Tryz.results46 _ _ b0 m _ rfl rfl R9) rfl ?_
  exact ⟨by (try rw [← HMM.out]); (try rw [← HXX.out]); rfl, O9.after E2 (by simpa using hbw)⟩
end Go.Proofs.YtjblimclakfhfaaGreat

namespace Go.Proofs.YtjblimclakfhfaaGreat
open Go.ChangeShapes Go.WideShapes Go.ChangeAt Go.RowKit

set_option maxRecDepth 100000 in
set_option maxHeartbeats 4000000 in
theorem mkdirF {b : Nat} {g : GhW} {now count : Int} {A : Option Addr} {cap : Nat} (l : List (Int × Int)) (w : World) (cu cg : Int) (dir : Int) (nm : ByteArray) (mode : Int) (h : SAt w b g now count A l.length cap false) (hp : PlanAt w A l) (ho : PlanOff A b) (hl : l.length ≤ 1000000) (hc0 : 0 ≤ count) (hc1 : count ≤ 1000000) {x : Int} (hx : hitE l (count + 1) = x) (hx0 : x ≠ 0) :
    Calls Tryz.prog 45 #[.pointer (some ⟨b, 0, none⟩), .agg #[.int .i64 cu, .int .i64 cg], .int .i64 dir, .string nm, .int .i64 mode] w
      (fun e w' => e = .returned (.tuple #[.int .i64 0, .int .i64 x]) ∧ SAt w' b g now (count + 1) A l.length cap (hitD l (count + 1)) ∧ Only [b] w w') := by
  obtain ⟨n, hn⟩ : ∃ n, n = l.length := ⟨_, rfl⟩
  have KC : Hid (∀ u, Ext w u → Calls Tryz.prog 102 #[.pointer (some ⟨b, 0, none⟩)] u (fun e w' => e = .returned (.int .i64 x) ∧ SAt w' b g now (count + 1) A n cap (hitD l (count + 1)) ∧ Only [b] u w')) := by
    show ∀ u, _
    intro u hu
    rw [← hx, hn]
    exact changeS l u (h.ext hu) (hp.ext hu) ho hl hc0 hc1
  rw [← hn]
  clear hn hx
  have t1 : (x != 0) = true := by simpa using hx0
  clear hx0 h hp ho hl hc0 hc1
  go_enter Tryz.func45, Tryz.ntmps45
  go_wp2_with fail
  refine (KC.out _ ((Ext.refl _).alloc _)).mono ?_
  rintro e w1 ⟨rfl, S1, O1⟩
  go_wp2_with fail
  go_ret2
  exact ⟨rfl, S1, Only.pre ((Ext.refl _).alloc _) O1⟩
set_option maxRecDepth 100000 in
set_option maxHeartbeats 8000000 in
theorem mkdirG {b : Nat} {g : GhW} {now count : Int} {A : Option Addr} {cap : Nat} (l : List (Int × Int)) (w : World) (cu cg : Int) (dir : Int) (nm : ByteArray) (mode : Int) (h : SAt w b g now count A l.length cap false) (hp : PlanAt w A l) (ho : PlanOff A b) (hl : l.length ≤ 1000000) (hc0 : 0 ≤ count) (hc1 : count ≤ 1000000) (B : Nat) (S : TreeD)
    (K : WAt w B g S) (hb : b ∉ g.list) (hbB : B ≤ b) (hx : hitE l (count + 1) = 0 ∧ hitD l (count + 1) = false) {T : TreeD} {y z : Int}
    (KD : ∀ u, WAt u B g S → Calls Tryz.prog 103 #[.pointer (some ⟨g.bW, 0, none⟩), .agg #[.int .i64 cu, .int .i64 cg], .int .i64 now, .int .i64 dir, .string nm, .int .i64 mode] u (NoR u B g T y z)) :
    Calls Tryz.prog 45 #[.pointer (some ⟨b, 0, none⟩), .agg #[.int .i64 cu, .int .i64 cg], .int .i64 dir, .string nm, .int .i64 mode] w
      (fun e w' => e = .returned (.tuple #[.int .i64 y, .int .i64 z]) ∧ WAt w' B g T ∧ SAt w' b g now (count + 1) A l.length cap false ∧ Only (b :: g.list) w w') := by
  obtain ⟨n, hn⟩ : ∃ n, n = l.length := ⟨_, rfl⟩
  obtain ⟨W0, hW0⟩ : ∃ W, W = w.alloc (.cells #[.int .i64 cu, .int .i64 cg] 24) := ⟨_, rfl⟩
  obtain ⟨b0, hb0⟩ : ∃ b, b = w.heap.size := ⟨_, rfl⟩
  have E0 : Ext w W0 := by rw [hW0]; exact (Ext.refl _).alloc _
  have N0 : Has W0 b0 (.cells #[.int .i64 cu, .int .i64 cg] 24) := by rw [hW0, hb0]; exact Has.new _ _
  have hbb : b0 ≠ b := by have := Has.lt h; omega
  have KC : Hid (Calls Tryz.prog 102 #[.pointer (some ⟨b, 0, none⟩)] W0 (fun e w' => e = .returned (.int .i64 0) ∧ SAt w' b g now (count + 1) A n cap false ∧ Only [b] W0 w')) := by
    show Calls _ _ _ _ _
    have := changeS l W0 (h.ext E0) (hp.ext E0) ho hl hc0 hc1
    rw [hx.1, hx.2, ← hn] at this
    exact this
  have S0 := h.ext E0
  have K0 := K.ext E0
  have HKD := Lib.hid KD
  rw [← hn]
  clear hn hx h hp ho hl hc0 hc1 K KD
  go_enter Tryz.func45, Tryz.ntmps45
  go_upto_region 1 with fail
  rw [← hW0, ← hb0]
  clear hW0 hb0
  go_wp2_with fail
  refine KC.out.mono ?_
  rintro e w1 ⟨rfl, S1, O1⟩
  have K1 := K0.offS S0 hbB hb O1
  have N1 := O1.has N0 (by simpa using hbb)
  have c0 := Has.cell S1 0
  have c1 := Has.cell S1 1
  have cz := Has.lt S1
  have d0 := N1.cell 0
  have d1 := N1.cell 1
  have dz := N1.lt
  go_wp2_with fail
  go_region_with (go_at_call 103; refine (HKD.out _ (K1.ext (Ext.refl _).drew)).mono ?_; rintro e w2 ⟨rfl, K2, O2⟩)
  all_goals
    go_wp2_with fail
    go_ret2
    refine ⟨rfl, K2, SAt.only (SAt.ext S1 (Ext.refl _).drew) O2 hb, ?_⟩
    exact (Only.pre E0 (O1.mono (fun x hx => by simp at hx; subst hx; simp))).then ((Only.of_ext (Ext.refl _).drew).then (O2.mono (fun x hx => by simp [hx])))
set_option maxRecDepth 100000 in
set_option maxHeartbeats 4000000 in
theorem createF {b : Nat} {g : GhW} {now count : Int} {A : Option Addr} {cap : Nat} (l : List (Int × Int)) (w : World) (cu cg : Int) (dir : Int) (nm : ByteArray) (mode : Int) (data : ByteArray) (h : SAt w b g now count A l.length cap false) (hp : PlanAt w A l) (ho : PlanOff A b) (hl : l.length ≤ 1000000) (hc0 : 0 ≤ count) (hc1 : count ≤ 1000000) {x : Int} (hx : hitE l (count + 1) = x) (hx0 : x ≠ 0) :
    Calls Tryz.prog 56 #[.pointer (some ⟨b, 0, none⟩), .agg #[.int .i64 cu, .int .i64 cg], .int .i64 dir, .string nm, .int .i64 mode, .string data] w
      (fun e w' => e = .returned (.tuple #[.int .i64 0, .int .i64 x]) ∧ SAt w' b g now (count + 1) A l.length cap (hitD l (count + 1)) ∧ Only [b] w w') := by
  obtain ⟨n, hn⟩ : ∃ n, n = l.length := ⟨_, rfl⟩
  have KC : Hid (∀ u, Ext w u → Calls Tryz.prog 102 #[.pointer (some ⟨b, 0, none⟩)] u (fun e w' => e = .returned (.int .i64 x) ∧ SAt w' b g now (count + 1) A n cap (hitD l (count + 1)) ∧ Only [b] u w')) := by
    show ∀ u, _
    intro u hu
    rw [← hx, hn]
    exact changeS l u (h.ext hu) (hp.ext hu) ho hl hc0 hc1
  rw [← hn]
  clear hn hx
  have t1 : (x != 0) = true := by simpa using hx0
  clear hx0 h hp ho hl hc0 hc1
  go_enter Tryz.func56, Tryz.ntmps56
  go_wp2_with fail
  refine (KC.out _ ((Ext.refl _).alloc _)).mono ?_
  rintro e w1 ⟨rfl, S1, O1⟩
  go_wp2_with fail
  go_ret2
  exact ⟨rfl, S1, Only.pre ((Ext.refl _).alloc _) O1⟩
set_option maxRecDepth 100000 in
set_option maxHeartbeats 8000000 in
theorem createG {b : Nat} {g : GhW} {now count : Int} {A : Option Addr} {cap : Nat} (l : List (Int × Int)) (w : World) (cu cg : Int) (dir : Int) (nm : ByteArray) (mode : Int) (data : ByteArray) (h : SAt w b g now count A l.length cap false) (hp : PlanAt w A l) (ho : PlanOff A b) (hl : l.length ≤ 1000000) (hc0 : 0 ≤ count) (hc1 : count ≤ 1000000) (B : Nat) (S : TreeD)
    (K : WAt w B g S) (hb : b ∉ g.list) (hbB : B ≤ b) (hx : hitE l (count + 1) = 0 ∧ hitD l (count + 1) = false) {T : TreeD} {y z : Int}
    (KD : ∀ u, WAt u B g S → Calls Tryz.prog 108 #[.pointer (some ⟨g.bW, 0, none⟩), .agg #[.int .i64 cu, .int .i64 cg], .int .i64 now, .int .i64 dir, .string nm, .int .i64 mode, .string data] u (NoR u B g T y z)) :
    Calls Tryz.prog 56 #[.pointer (some ⟨b, 0, none⟩), .agg #[.int .i64 cu, .int .i64 cg], .int .i64 dir, .string nm, .int .i64 mode, .string data] w
      (fun e w' => e = .returned (.tuple #[.int .i64 y, .int .i64 z]) ∧ WAt w' B g T ∧ SAt w' b g now (count + 1) A l.length cap false ∧ Only (b :: g.list) w w') := by
  obtain ⟨n, hn⟩ : ∃ n, n = l.length := ⟨_, rfl⟩
  obtain ⟨W0, hW0⟩ : ∃ W, W = w.alloc (.cells #[.int .i64 cu, .int .i64 cg] 24) := ⟨_, rfl⟩
  obtain ⟨b0, hb0⟩ : ∃ b, b = w.heap.size := ⟨_, rfl⟩
  have E0 : Ext w W0 := by rw [hW0]; exact (Ext.refl _).alloc _
  have N0 : Has W0 b0 (.cells #[.int .i64 cu, .int .i64 cg] 24) := by rw [hW0, hb0]; exact Has.new _ _
  have hbb : b0 ≠ b := by have := Has.lt h; omega
  have KC : Hid (Calls Tryz.prog 102 #[.pointer (some ⟨b, 0, none⟩)] W0 (fun e w' => e = .returned (.int .i64 0) ∧ SAt w' b g now (count + 1) A n cap false ∧ Only [b] W0 w')) := by
    show Calls _ _ _ _ _
    have := changeS l W0 (h.ext E0) (hp.ext E0) ho hl hc0 hc1
    rw [hx.1, hx.2, ← hn] at this
    exact this
  have S0 := h.ext E0
  have K0 := K.ext E0
  have HKD := Lib.hid KD
  rw [← hn]
  clear hn hx h hp ho hl hc0 hc1 K KD
  go_enter Tryz.func56, Tryz.ntmps56
  go_upto_region 1 with fail
  rw [← hW0, ← hb0]
  clear hW0 hb0
  go_wp2_with fail
  refine KC.out.mono ?_
  rintro e w1 ⟨rfl, S1, O1⟩
  have K1 := K0.offS S0 hbB hb O1
  have N1 := O1.has N0 (by simpa using hbb)
  have c0 := Has.cell S1 0
  have c1 := Has.cell S1 1
  have cz := Has.lt S1
  have d0 := N1.cell 0
  have d1 := N1.cell 1
  have dz := N1.lt
  go_wp2_with fail
  go_region_with (go_at_call 108; refine (HKD.out _ (K1.ext (Ext.refl _).drew)).mono ?_; rintro e w2 ⟨rfl, K2, O2⟩)
  all_goals
    go_wp2_with fail
    go_ret2
    refine ⟨rfl, K2, SAt.only (SAt.ext S1 (Ext.refl _).drew) O2 hb, ?_⟩
    exact (Only.pre E0 (O1.mono (fun x hx => by simp at hx; subst hx; simp))).then ((Only.of_ext (Ext.refl _).drew).then (O2.mono (fun x hx => by simp [hx])))
set_option maxRecDepth 100000 in
set_option maxHeartbeats 4000000 in
theorem symlinkF {b : Nat} {g : GhW} {now count : Int} {A : Option Addr} {cap : Nat} (l : List (Int × Int)) (w : World) (cu cg : Int) (dir : Int) (nm : ByteArray) (text : ByteArray) (h : SAt w b g now count A l.length cap false) (hp : PlanAt w A l) (ho : PlanOff A b) (hl : l.length ≤ 1000000) (hc0 : 0 ≤ count) (hc1 : count ≤ 1000000) {x : Int} (hx : hitE l (count + 1) = x) (hx0 : x ≠ 0) :
    Calls Tryz.prog 58 #[.pointer (some ⟨b, 0, none⟩), .agg #[.int .i64 cu, .int .i64 cg], .int .i64 dir, .string nm, .string text] w
      (fun e w' => e = .returned (.tuple #[.int .i64 0, .int .i64 x]) ∧ SAt w' b g now (count + 1) A l.length cap (hitD l (count + 1)) ∧ Only [b] w w') := by
  obtain ⟨n, hn⟩ : ∃ n, n = l.length := ⟨_, rfl⟩
  have KC : Hid (∀ u, Ext w u → Calls Tryz.prog 102 #[.pointer (some ⟨b, 0, none⟩)] u (fun e w' => e = .returned (.int .i64 x) ∧ SAt w' b g now (count + 1) A n cap (hitD l (count + 1)) ∧ Only [b] u w')) := by
    show ∀ u, _
    intro u hu
    rw [← hx, hn]
    exact changeS l u (h.ext hu) (hp.ext hu) ho hl hc0 hc1
  rw [← hn]
  clear hn hx
  have t1 : (x != 0) = true := by simpa using hx0
  clear hx0 h hp ho hl hc0 hc1
  go_enter Tryz.func58, Tryz.ntmps58
  go_wp2_with fail
  refine (KC.out _ ((Ext.refl _).alloc _)).mono ?_
  rintro e w1 ⟨rfl, S1, O1⟩
  go_wp2_with fail
  go_ret2
  exact ⟨rfl, S1, Only.pre ((Ext.refl _).alloc _) O1⟩
set_option maxRecDepth 100000 in
set_option maxHeartbeats 8000000 in
theorem symlinkG {b : Nat} {g : GhW} {now count : Int} {A : Option Addr} {cap : Nat} (l : List (Int × Int)) (w : World) (cu cg : Int) (dir : Int) (nm : ByteArray) (text : ByteArray) (h : SAt w b g now count A l.length cap false) (hp : PlanAt w A l) (ho : PlanOff A b) (hl : l.length ≤ 1000000) (hc0 : 0 ≤ count) (hc1 : count ≤ 1000000) (B : Nat) (S : TreeD)
    (K : WAt w B g S) (hb : b ∉ g.list) (hbB : B ≤ b) (hx : hitE l (count + 1) = 0 ∧ hitD l (count + 1) = false) {T : TreeD} {y z : Int}
    (KD : ∀ u, WAt u B g S → Calls Tryz.prog 109 #[.pointer (some ⟨g.bW, 0, none⟩), .agg #[.int .i64 cu, .int .i64 cg], .int .i64 now, .int .i64 dir, .string nm, .string text] u (NoR u B g T y z)) :
    Calls Tryz.prog 58 #[.pointer (some ⟨b, 0, none⟩), .agg #[.int .i64 cu, .int .i64 cg], .int .i64 dir, .string nm, .string text] w
      (fun e w' => e = .returned (.tuple #[.int .i64 y, .int .i64 z]) ∧ WAt w' B g T ∧ SAt w' b g now (count + 1) A l.length cap false ∧ Only (b :: g.list) w w') := by
  obtain ⟨n, hn⟩ : ∃ n, n = l.length := ⟨_, rfl⟩
  obtain ⟨W0, hW0⟩ : ∃ W, W = w.alloc (.cells #[.int .i64 cu, .int .i64 cg] 24) := ⟨_, rfl⟩
  obtain ⟨b0, hb0⟩ : ∃ b, b = w.heap.size := ⟨_, rfl⟩
  have E0 : Ext w W0 := by rw [hW0]; exact (Ext.refl _).alloc _
  have N0 : Has W0 b0 (.cells #[.int .i64 cu, .int .i64 cg] 24) := by rw [hW0, hb0]; exact Has.new _ _
  have hbb : b0 ≠ b := by have := Has.lt h; omega
  have KC : Hid (Calls Tryz.prog 102 #[.pointer (some ⟨b, 0, none⟩)] W0 (fun e w' => e = .returned (.int .i64 0) ∧ SAt w' b g now (count + 1) A n cap false ∧ Only [b] W0 w')) := by
    show Calls _ _ _ _ _
    have := changeS l W0 (h.ext E0) (hp.ext E0) ho hl hc0 hc1
    rw [hx.1, hx.2, ← hn] at this
    exact this
  have S0 := h.ext E0
  have K0 := K.ext E0
  have HKD := Lib.hid KD
  rw [← hn]
  clear hn hx h hp ho hl hc0 hc1 K KD
  go_enter Tryz.func58, Tryz.ntmps58
  go_upto_region 1 with fail
  rw [← hW0, ← hb0]
  clear hW0 hb0
  go_wp2_with fail
  refine KC.out.mono ?_
  rintro e w1 ⟨rfl, S1, O1⟩
  have K1 := K0.offS S0 hbB hb O1
  have N1 := O1.has N0 (by simpa using hbb)
  have c0 := Has.cell S1 0
  have c1 := Has.cell S1 1
  have cz := Has.lt S1
  have d0 := N1.cell 0
  have d1 := N1.cell 1
  have dz := N1.lt
  go_wp2_with fail
  go_region_with (go_at_call 109; refine (HKD.out _ (K1.ext (Ext.refl _).drew)).mono ?_; rintro e w2 ⟨rfl, K2, O2⟩)
  all_goals
    go_wp2_with fail
    go_ret2
    refine ⟨rfl, K2, SAt.only (SAt.ext S1 (Ext.refl _).drew) O2 hb, ?_⟩
    exact (Only.pre E0 (O1.mono (fun x hx => by simp at hx; subst hx; simp))).then ((Only.of_ext (Ext.refl _).drew).then (O2.mono (fun x hx => by simp [hx])))
set_option maxRecDepth 100000 in
set_option maxHeartbeats 4000000 in
theorem linkF {b : Nat} {g : GhW} {now count : Int} {A : Option Addr} {cap : Nat} (l : List (Int × Int)) (w : World) (cu cg : Int) (no : Int) (dir : Int) (nm : ByteArray) (h : SAt w b g now count A l.length cap false) (hp : PlanAt w A l) (ho : PlanOff A b) (hl : l.length ≤ 1000000) (hc0 : 0 ≤ count) (hc1 : count ≤ 1000000) {x : Int} (hx : hitE l (count + 1) = x) (hx0 : x ≠ 0) :
    Calls Tryz.prog 60 #[.pointer (some ⟨b, 0, none⟩), .agg #[.int .i64 cu, .int .i64 cg], .int .i64 no, .int .i64 dir, .string nm] w
      (fun e w' => e = .returned (.int .i64 x) ∧ SAt w' b g now (count + 1) A l.length cap (hitD l (count + 1)) ∧ Only [b] w w') := by
  obtain ⟨n, hn⟩ : ∃ n, n = l.length := ⟨_, rfl⟩
  have KC : Hid (∀ u, Ext w u → Calls Tryz.prog 102 #[.pointer (some ⟨b, 0, none⟩)] u (fun e w' => e = .returned (.int .i64 x) ∧ SAt w' b g now (count + 1) A n cap (hitD l (count + 1)) ∧ Only [b] u w')) := by
    show ∀ u, _
    intro u hu
    rw [← hx, hn]
    exact changeS l u (h.ext hu) (hp.ext hu) ho hl hc0 hc1
  rw [← hn]
  clear hn hx
  have t1 : (x != 0) = true := by simpa using hx0
  clear hx0 h hp ho hl hc0 hc1
  go_enter Tryz.func60, Tryz.ntmps60
  go_wp2_with fail
  refine (KC.out _ ((Ext.refl _).alloc _)).mono ?_
  rintro e w1 ⟨rfl, S1, O1⟩
  go_wp2_with fail
  go_ret
  exact ⟨rfl, S1, Only.pre ((Ext.refl _).alloc _) O1⟩
set_option maxRecDepth 100000 in
set_option maxHeartbeats 8000000 in
theorem linkG {b : Nat} {g : GhW} {now count : Int} {A : Option Addr} {cap : Nat} (l : List (Int × Int)) (w : World) (cu cg : Int) (no : Int) (dir : Int) (nm : ByteArray) (h : SAt w b g now count A l.length cap false) (hp : PlanAt w A l) (ho : PlanOff A b) (hl : l.length ≤ 1000000) (hc0 : 0 ≤ count) (hc1 : count ≤ 1000000) (B : Nat) (S : TreeD)
    (K : WAt w B g S) (hb : b ∉ g.list) (hbB : B ≤ b) (hx : hitE l (count + 1) = 0 ∧ hitD l (count + 1) = false) {T : TreeD} {z : Int}
    (KD : ∀ u, WAt u B g S → Calls Tryz.prog 111 #[.pointer (some ⟨g.bW, 0, none⟩), .agg #[.int .i64 cu, .int .i64 cg], .int .i64 now, .int .i64 no, .int .i64 dir, .string nm] u (ErrR u B g T z)) :
    Calls Tryz.prog 60 #[.pointer (some ⟨b, 0, none⟩), .agg #[.int .i64 cu, .int .i64 cg], .int .i64 no, .int .i64 dir, .string nm] w
      (fun e w' => e = .returned (.int .i64 z) ∧ WAt w' B g T ∧ SAt w' b g now (count + 1) A l.length cap false ∧ Only (b :: g.list) w w') := by
  obtain ⟨n, hn⟩ : ∃ n, n = l.length := ⟨_, rfl⟩
  obtain ⟨W0, hW0⟩ : ∃ W, W = w.alloc (.cells #[.int .i64 cu, .int .i64 cg] 24) := ⟨_, rfl⟩
  obtain ⟨b0, hb0⟩ : ∃ b, b = w.heap.size := ⟨_, rfl⟩
  have E0 : Ext w W0 := by rw [hW0]; exact (Ext.refl _).alloc _
  have N0 : Has W0 b0 (.cells #[.int .i64 cu, .int .i64 cg] 24) := by rw [hW0, hb0]; exact Has.new _ _
  have hbb : b0 ≠ b := by have := Has.lt h; omega
  have KC : Hid (Calls Tryz.prog 102 #[.pointer (some ⟨b, 0, none⟩)] W0 (fun e w' => e = .returned (.int .i64 0) ∧ SAt w' b g now (count + 1) A n cap false ∧ Only [b] W0 w')) := by
    show Calls _ _ _ _ _
    have := changeS l W0 (h.ext E0) (hp.ext E0) ho hl hc0 hc1
    rw [hx.1, hx.2, ← hn] at this
    exact this
  have S0 := h.ext E0
  have K0 := K.ext E0
  have HKD := Lib.hid KD
  rw [← hn]
  clear hn hx h hp ho hl hc0 hc1 K KD
  go_enter Tryz.func60, Tryz.ntmps60
  go_upto_region 1 with fail
  rw [← hW0, ← hb0]
  clear hW0 hb0
  go_wp2_with fail
  refine KC.out.mono ?_
  rintro e w1 ⟨rfl, S1, O1⟩
  have K1 := K0.offS S0 hbB hb O1
  have N1 := O1.has N0 (by simpa using hbb)
  have c0 := Has.cell S1 0
  have c1 := Has.cell S1 1
  have cz := Has.lt S1
  have d0 := N1.cell 0
  have d1 := N1.cell 1
  have dz := N1.lt
  go_wp2_with fail
  go_region_with (go_at_call 111; refine (HKD.out _ (K1.ext (Ext.refl _).drew)).mono ?_; rintro e w2 ⟨rfl, K2, O2⟩)
  all_goals
    go_wp2_with fail
    go_ret
    refine ⟨rfl, K2, SAt.only (SAt.ext S1 (Ext.refl _).drew) O2 hb, ?_⟩
    exact (Only.pre E0 (O1.mono (fun x hx => by simp at hx; subst hx; simp))).then ((Only.of_ext (Ext.refl _).drew).then (O2.mono (fun x hx => by simp [hx])))
set_option maxRecDepth 100000 in
set_option maxHeartbeats 4000000 in
theorem unlinkF {b : Nat} {g : GhW} {now count : Int} {A : Option Addr} {cap : Nat} (l : List (Int × Int)) (w : World) (cu cg : Int) (dir : Int) (nm : ByteArray) (h : SAt w b g now count A l.length cap false) (hp : PlanAt w A l) (ho : PlanOff A b) (hl : l.length ≤ 1000000) (hc0 : 0 ≤ count) (hc1 : count ≤ 1000000) {x : Int} (hx : hitE l (count + 1) = x) (hx0 : x ≠ 0) :
    Calls Tryz.prog 62 #[.pointer (some ⟨b, 0, none⟩), .agg #[.int .i64 cu, .int .i64 cg], .int .i64 dir, .string nm] w
      (fun e w' => e = .returned (.int .i64 x) ∧ SAt w' b g now (count + 1) A l.length cap (hitD l (count + 1)) ∧ Only [b] w w') := by
  obtain ⟨n, hn⟩ : ∃ n, n = l.length := ⟨_, rfl⟩
  have KC : Hid (∀ u, Ext w u → Calls Tryz.prog 102 #[.pointer (some ⟨b, 0, none⟩)] u (fun e w' => e = .returned (.int .i64 x) ∧ SAt w' b g now (count + 1) A n cap (hitD l (count + 1)) ∧ Only [b] u w')) := by
    show ∀ u, _
    intro u hu
    rw [← hx, hn]
    exact changeS l u (h.ext hu) (hp.ext hu) ho hl hc0 hc1
  rw [← hn]
  clear hn hx
  have t1 : (x != 0) = true := by simpa using hx0
  clear hx0 h hp ho hl hc0 hc1
  go_enter Tryz.func62, Tryz.ntmps62
  go_wp2_with fail
  refine (KC.out _ ((Ext.refl _).alloc _)).mono ?_
  rintro e w1 ⟨rfl, S1, O1⟩
  go_wp2_with fail
  go_ret
  exact ⟨rfl, S1, Only.pre ((Ext.refl _).alloc _) O1⟩
set_option maxRecDepth 100000 in
set_option maxHeartbeats 8000000 in
theorem unlinkG {b : Nat} {g : GhW} {now count : Int} {A : Option Addr} {cap : Nat} (l : List (Int × Int)) (w : World) (cu cg : Int) (dir : Int) (nm : ByteArray) (h : SAt w b g now count A l.length cap false) (hp : PlanAt w A l) (ho : PlanOff A b) (hl : l.length ≤ 1000000) (hc0 : 0 ≤ count) (hc1 : count ≤ 1000000) (B : Nat) (S : TreeD)
    (K : WAt w B g S) (hb : b ∉ g.list) (hbB : B ≤ b) (hx : hitE l (count + 1) = 0 ∧ hitD l (count + 1) = false) {T : TreeD} {z : Int}
    (KD : ∀ u, WAt u B g S → Calls Tryz.prog 116 #[.pointer (some ⟨g.bW, 0, none⟩), .agg #[.int .i64 cu, .int .i64 cg], .int .i64 now, .int .i64 dir, .string nm] u (ErrR u B g T z)) :
    Calls Tryz.prog 62 #[.pointer (some ⟨b, 0, none⟩), .agg #[.int .i64 cu, .int .i64 cg], .int .i64 dir, .string nm] w
      (fun e w' => e = .returned (.int .i64 z) ∧ WAt w' B g T ∧ SAt w' b g now (count + 1) A l.length cap false ∧ Only (b :: g.list) w w') := by
  obtain ⟨n, hn⟩ : ∃ n, n = l.length := ⟨_, rfl⟩
  obtain ⟨W0, hW0⟩ : ∃ W, W = w.alloc (.cells #[.int .i64 cu, .int .i64 cg] 24) := ⟨_, rfl⟩
  obtain ⟨b0, hb0⟩ : ∃ b, b = w.heap.size := ⟨_, rfl⟩
  have E0 : Ext w W0 := by rw [hW0]; exact (Ext.refl _).alloc _
  have N0 : Has W0 b0 (.cells #[.int .i64 cu, .int .i64 cg] 24) := by rw [hW0, hb0]; exact Has.new _ _
  have hbb : b0 ≠ b := by have := Has.lt h; omega
  have KC : Hid (Calls Tryz.prog 102 #[.pointer (some ⟨b, 0, none⟩)] W0 (fun e w' => e = .returned (.int .i64 0) ∧ SAt w' b g now (count + 1) A n cap false ∧ Only [b] W0 w')) := by
    show Calls _ _ _ _ _
    have := changeS l W0 (h.ext E0) (hp.ext E0) ho hl hc0 hc1
    rw [hx.1, hx.2, ← hn] at this
    exact this
  have S0 := h.ext E0
  have K0 := K.ext E0
  have HKD := Lib.hid KD
  rw [← hn]
  clear hn hx h hp ho hl hc0 hc1 K KD
  go_enter Tryz.func62, Tryz.ntmps62
  go_upto_region 1 with fail
  rw [← hW0, ← hb0]
  clear hW0 hb0
  go_wp2_with fail
  refine KC.out.mono ?_
  rintro e w1 ⟨rfl, S1, O1⟩
  have K1 := K0.offS S0 hbB hb O1
  have N1 := O1.has N0 (by simpa using hbb)
  have c0 := Has.cell S1 0
  have c1 := Has.cell S1 1
  have cz := Has.lt S1
  have d0 := N1.cell 0
  have d1 := N1.cell 1
  have dz := N1.lt
  go_wp2_with fail
  go_region_with (go_at_call 116; refine (HKD.out _ (K1.ext (Ext.refl _).drew)).mono ?_; rintro e w2 ⟨rfl, K2, O2⟩)
  all_goals
    go_wp2_with fail
    go_ret
    refine ⟨rfl, K2, SAt.only (SAt.ext S1 (Ext.refl _).drew) O2 hb, ?_⟩
    exact (Only.pre E0 (O1.mono (fun x hx => by simp at hx; subst hx; simp))).then ((Only.of_ext (Ext.refl _).drew).then (O2.mono (fun x hx => by simp [hx])))
set_option maxRecDepth 100000 in
set_option maxHeartbeats 4000000 in
theorem rmdirF {b : Nat} {g : GhW} {now count : Int} {A : Option Addr} {cap : Nat} (l : List (Int × Int)) (w : World) (cu cg : Int) (dir : Int) (nm : ByteArray) (h : SAt w b g now count A l.length cap false) (hp : PlanAt w A l) (ho : PlanOff A b) (hl : l.length ≤ 1000000) (hc0 : 0 ≤ count) (hc1 : count ≤ 1000000) {x : Int} (hx : hitE l (count + 1) = x) (hx0 : x ≠ 0) :
    Calls Tryz.prog 64 #[.pointer (some ⟨b, 0, none⟩), .agg #[.int .i64 cu, .int .i64 cg], .int .i64 dir, .string nm] w
      (fun e w' => e = .returned (.int .i64 x) ∧ SAt w' b g now (count + 1) A l.length cap (hitD l (count + 1)) ∧ Only [b] w w') := by
  obtain ⟨n, hn⟩ : ∃ n, n = l.length := ⟨_, rfl⟩
  have KC : Hid (∀ u, Ext w u → Calls Tryz.prog 102 #[.pointer (some ⟨b, 0, none⟩)] u (fun e w' => e = .returned (.int .i64 x) ∧ SAt w' b g now (count + 1) A n cap (hitD l (count + 1)) ∧ Only [b] u w')) := by
    show ∀ u, _
    intro u hu
    rw [← hx, hn]
    exact changeS l u (h.ext hu) (hp.ext hu) ho hl hc0 hc1
  rw [← hn]
  clear hn hx
  have t1 : (x != 0) = true := by simpa using hx0
  clear hx0 h hp ho hl hc0 hc1
  go_enter Tryz.func64, Tryz.ntmps64
  go_wp2_with fail
  refine (KC.out _ ((Ext.refl _).alloc _)).mono ?_
  rintro e w1 ⟨rfl, S1, O1⟩
  go_wp2_with fail
  go_ret
  exact ⟨rfl, S1, Only.pre ((Ext.refl _).alloc _) O1⟩
set_option maxRecDepth 100000 in
set_option maxHeartbeats 8000000 in
theorem rmdirG {b : Nat} {g : GhW} {now count : Int} {A : Option Addr} {cap : Nat} (l : List (Int × Int)) (w : World) (cu cg : Int) (dir : Int) (nm : ByteArray) (h : SAt w b g now count A l.length cap false) (hp : PlanAt w A l) (ho : PlanOff A b) (hl : l.length ≤ 1000000) (hc0 : 0 ≤ count) (hc1 : count ≤ 1000000) (B : Nat) (S : TreeD)
    (K : WAt w B g S) (hb : b ∉ g.list) (hbB : B ≤ b) (hx : hitE l (count + 1) = 0 ∧ hitD l (count + 1) = false) {T : TreeD} {z : Int}
    (KD : ∀ u, WAt u B g S → Calls Tryz.prog 120 #[.pointer (some ⟨g.bW, 0, none⟩), .agg #[.int .i64 cu, .int .i64 cg], .int .i64 now, .int .i64 dir, .string nm] u (ErrR u B g T z)) :
    Calls Tryz.prog 64 #[.pointer (some ⟨b, 0, none⟩), .agg #[.int .i64 cu, .int .i64 cg], .int .i64 dir, .string nm] w
      (fun e w' => e = .returned (.int .i64 z) ∧ WAt w' B g T ∧ SAt w' b g now (count + 1) A l.length cap false ∧ Only (b :: g.list) w w') := by
  obtain ⟨n, hn⟩ : ∃ n, n = l.length := ⟨_, rfl⟩
  obtain ⟨W0, hW0⟩ : ∃ W, W = w.alloc (.cells #[.int .i64 cu, .int .i64 cg] 24) := ⟨_, rfl⟩
  obtain ⟨b0, hb0⟩ : ∃ b, b = w.heap.size := ⟨_, rfl⟩
  have E0 : Ext w W0 := by rw [hW0]; exact (Ext.refl _).alloc _
  have N0 : Has W0 b0 (.cells #[.int .i64 cu, .int .i64 cg] 24) := by rw [hW0, hb0]; exact Has.new _ _
  have hbb : b0 ≠ b := by have := Has.lt h; omega
  have KC : Hid (Calls Tryz.prog 102 #[.pointer (some ⟨b, 0, none⟩)] W0 (fun e w' => e = .returned (.int .i64 0) ∧ SAt w' b g now (count + 1) A n cap false ∧ Only [b] W0 w')) := by
    show Calls _ _ _ _ _
    have := changeS l W0 (h.ext E0) (hp.ext E0) ho hl hc0 hc1
    rw [hx.1, hx.2, ← hn] at this
    exact this
  have S0 := h.ext E0
  have K0 := K.ext E0
  have HKD := Lib.hid KD
  rw [← hn]
  clear hn hx h hp ho hl hc0 hc1 K KD
  go_enter Tryz.func64, Tryz.ntmps64
  go_upto_region 1 with fail
  rw [← hW0, ← hb0]
  clear hW0 hb0
  go_wp2_with fail
  refine KC.out.mono ?_
  rintro e w1 ⟨rfl, S1, O1⟩
  have K1 := K0.offS S0 hbB hb O1
  have N1 := O1.has N0 (by simpa using hbb)
  have c0 := Has.cell S1 0
  have c1 := Has.cell S1 1
  have cz := Has.lt S1
  have d0 := N1.cell 0
  have d1 := N1.cell 1
  have dz := N1.lt
  go_wp2_with fail
  go_region_with (go_at_call 120; refine (HKD.out _ (K1.ext (Ext.refl _).drew)).mono ?_; rintro e w2 ⟨rfl, K2, O2⟩)
  all_goals
    go_wp2_with fail
    go_ret
    refine ⟨rfl, K2, SAt.only (SAt.ext S1 (Ext.refl _).drew) O2 hb, ?_⟩
    exact (Only.pre E0 (O1.mono (fun x hx => by simp at hx; subst hx; simp))).then ((Only.of_ext (Ext.refl _).drew).then (O2.mono (fun x hx => by simp [hx])))
set_option maxRecDepth 100000 in
set_option maxHeartbeats 4000000 in
theorem renameF {b : Nat} {g : GhW} {now count : Int} {A : Option Addr} {cap : Nat} (l : List (Int × Int)) (w : World) (cu cg : Int) (fr : Int) (a : ByteArray) (to_ : Int) (b2 : ByteArray) (h : SAt w b g now count A l.length cap false) (hp : PlanAt w A l) (ho : PlanOff A b) (hl : l.length ≤ 1000000) (hc0 : 0 ≤ count) (hc1 : count ≤ 1000000) {x : Int} (hx : hitE l (count + 1) = x) (hx0 : x ≠ 0) :
    Calls Tryz.prog 65 #[.pointer (some ⟨b, 0, none⟩), .agg #[.int .i64 cu, .int .i64 cg], .int .i64 fr, .string a, .int .i64 to_, .string b2] w
      (fun e w' => e = .returned (.int .i64 x) ∧ SAt w' b g now (count + 1) A l.length cap (hitD l (count + 1)) ∧ Only [b] w w') := by
  obtain ⟨n, hn⟩ : ∃ n, n = l.length := ⟨_, rfl⟩
  have KC : Hid (∀ u, Ext w u → Calls Tryz.prog 102 #[.pointer (some ⟨b, 0, none⟩)] u (fun e w' => e = .returned (.int .i64 x) ∧ SAt w' b g now (count + 1) A n cap (hitD l (count + 1)) ∧ Only [b] u w')) := by
    show ∀ u, _
    intro u hu
    rw [← hx, hn]
    exact changeS l u (h.ext hu) (hp.ext hu) ho hl hc0 hc1
  rw [← hn]
  clear hn hx
  have t1 : (x != 0) = true := by simpa using hx0
  clear hx0 h hp ho hl hc0 hc1
  go_enter Tryz.func65, Tryz.ntmps65
  go_wp2_with fail
  refine (KC.out _ ((Ext.refl _).alloc _)).mono ?_
  rintro e w1 ⟨rfl, S1, O1⟩
  go_wp2_with fail
  go_ret
  exact ⟨rfl, S1, Only.pre ((Ext.refl _).alloc _) O1⟩
set_option maxRecDepth 100000 in
set_option maxHeartbeats 8000000 in
theorem renameG {b : Nat} {g : GhW} {now count : Int} {A : Option Addr} {cap : Nat} (l : List (Int × Int)) (w : World) (cu cg : Int) (fr : Int) (a : ByteArray) (to_ : Int) (b2 : ByteArray) (h : SAt w b g now count A l.length cap false) (hp : PlanAt w A l) (ho : PlanOff A b) (hl : l.length ≤ 1000000) (hc0 : 0 ≤ count) (hc1 : count ≤ 1000000) (B : Nat) (S : TreeD)
    (K : WAt w B g S) (hb : b ∉ g.list) (hbB : B ≤ b) (hx : hitE l (count + 1) = 0 ∧ hitD l (count + 1) = false) {T : TreeD} {z : Int}
    (KD : ∀ u, WAt u B g S → Calls Tryz.prog 121 #[.pointer (some ⟨g.bW, 0, none⟩), .agg #[.int .i64 cu, .int .i64 cg], .int .i64 now, .int .i64 fr, .string a, .int .i64 to_, .string b2] u (ErrR u B g T z)) :
    Calls Tryz.prog 65 #[.pointer (some ⟨b, 0, none⟩), .agg #[.int .i64 cu, .int .i64 cg], .int .i64 fr, .string a, .int .i64 to_, .string b2] w
      (fun e w' => e = .returned (.int .i64 z) ∧ WAt w' B g T ∧ SAt w' b g now (count + 1) A l.length cap false ∧ Only (b :: g.list) w w') := by
  obtain ⟨n, hn⟩ : ∃ n, n = l.length := ⟨_, rfl⟩
  obtain ⟨W0, hW0⟩ : ∃ W, W = w.alloc (.cells #[.int .i64 cu, .int .i64 cg] 24) := ⟨_, rfl⟩
  obtain ⟨b0, hb0⟩ : ∃ b, b = w.heap.size := ⟨_, rfl⟩
  have E0 : Ext w W0 := by rw [hW0]; exact (Ext.refl _).alloc _
  have N0 : Has W0 b0 (.cells #[.int .i64 cu, .int .i64 cg] 24) := by rw [hW0, hb0]; exact Has.new _ _
  have hbb : b0 ≠ b := by have := Has.lt h; omega
  have KC : Hid (Calls Tryz.prog 102 #[.pointer (some ⟨b, 0, none⟩)] W0 (fun e w' => e = .returned (.int .i64 0) ∧ SAt w' b g now (count + 1) A n cap false ∧ Only [b] W0 w')) := by
    show Calls _ _ _ _ _
    have := changeS l W0 (h.ext E0) (hp.ext E0) ho hl hc0 hc1
    rw [hx.1, hx.2, ← hn] at this
    exact this
  have S0 := h.ext E0
  have K0 := K.ext E0
  have HKD := Lib.hid KD
  rw [← hn]
  clear hn hx h hp ho hl hc0 hc1 K KD
  go_enter Tryz.func65, Tryz.ntmps65
  go_upto_region 1 with fail
  rw [← hW0, ← hb0]
  clear hW0 hb0
  go_wp2_with fail
  refine KC.out.mono ?_
  rintro e w1 ⟨rfl, S1, O1⟩
  have K1 := K0.offS S0 hbB hb O1
  have N1 := O1.has N0 (by simpa using hbb)
  have c0 := Has.cell S1 0
  have c1 := Has.cell S1 1
  have cz := Has.lt S1
  have d0 := N1.cell 0
  have d1 := N1.cell 1
  have dz := N1.lt
  go_wp2_with fail
  go_region_with (go_at_call 121; refine (HKD.out _ (K1.ext (Ext.refl _).drew)).mono ?_; rintro e w2 ⟨rfl, K2, O2⟩)
  all_goals
    go_wp2_with fail
    go_ret
    refine ⟨rfl, K2, SAt.only (SAt.ext S1 (Ext.refl _).drew) O2 hb, ?_⟩
    exact (Only.pre E0 (O1.mono (fun x hx => by simp at hx; subst hx; simp))).then ((Only.of_ext (Ext.refl _).drew).then (O2.mono (fun x hx => by simp [hx])))
set_option maxRecDepth 100000 in
set_option maxHeartbeats 4000000 in
theorem chmodF {b : Nat} {g : GhW} {now count : Int} {A : Option Addr} {cap : Nat} (l : List (Int × Int)) (w : World) (cu cg : Int) (no : Int) (mode : Int) (h : SAt w b g now count A l.length cap false) (hp : PlanAt w A l) (ho : PlanOff A b) (hl : l.length ≤ 1000000) (hc0 : 0 ≤ count) (hc1 : count ≤ 1000000) {x : Int} (hx : hitE l (count + 1) = x) (hx0 : x ≠ 0) :
    Calls Tryz.prog 67 #[.pointer (some ⟨b, 0, none⟩), .agg #[.int .i64 cu, .int .i64 cg], .int .i64 no, .int .i64 mode] w
      (fun e w' => e = .returned (.int .i64 x) ∧ SAt w' b g now (count + 1) A l.length cap (hitD l (count + 1)) ∧ Only [b] w w') := by
  obtain ⟨n, hn⟩ : ∃ n, n = l.length := ⟨_, rfl⟩
  have KC : Hid (∀ u, Ext w u → Calls Tryz.prog 102 #[.pointer (some ⟨b, 0, none⟩)] u (fun e w' => e = .returned (.int .i64 x) ∧ SAt w' b g now (count + 1) A n cap (hitD l (count + 1)) ∧ Only [b] u w')) := by
    show ∀ u, _
    intro u hu
    rw [← hx, hn]
    exact changeS l u (h.ext hu) (hp.ext hu) ho hl hc0 hc1
  rw [← hn]
  clear hn hx
  have t1 : (x != 0) = true := by simpa using hx0
  clear hx0 h hp ho hl hc0 hc1
  go_enter Tryz.func67, Tryz.ntmps67
  go_wp2_with fail
  refine (KC.out _ ((Ext.refl _).alloc _)).mono ?_
  rintro e w1 ⟨rfl, S1, O1⟩
  go_wp2_with fail
  go_ret
  exact ⟨rfl, S1, Only.pre ((Ext.refl _).alloc _) O1⟩
set_option maxRecDepth 100000 in
set_option maxHeartbeats 8000000 in
theorem chmodG {b : Nat} {g : GhW} {now count : Int} {A : Option Addr} {cap : Nat} (l : List (Int × Int)) (w : World) (cu cg : Int) (no : Int) (mode : Int) (h : SAt w b g now count A l.length cap false) (hp : PlanAt w A l) (ho : PlanOff A b) (hl : l.length ≤ 1000000) (hc0 : 0 ≤ count) (hc1 : count ≤ 1000000) (B : Nat) (S : TreeD)
    (K : WAt w B g S) (hb : b ∉ g.list) (hbB : B ≤ b) (hx : hitE l (count + 1) = 0 ∧ hitD l (count + 1) = false) {T : TreeD} {z : Int}
    (KD : ∀ u, WAt u B g S → Calls Tryz.prog 124 #[.pointer (some ⟨g.bW, 0, none⟩), .agg #[.int .i64 cu, .int .i64 cg], .int .i64 now, .int .i64 no, .int .i64 mode] u (ErrR u B g T z)) :
    Calls Tryz.prog 67 #[.pointer (some ⟨b, 0, none⟩), .agg #[.int .i64 cu, .int .i64 cg], .int .i64 no, .int .i64 mode] w
      (fun e w' => e = .returned (.int .i64 z) ∧ WAt w' B g T ∧ SAt w' b g now (count + 1) A l.length cap false ∧ Only (b :: g.list) w w') := by
  obtain ⟨n, hn⟩ : ∃ n, n = l.length := ⟨_, rfl⟩
  obtain ⟨W0, hW0⟩ : ∃ W, W = w.alloc (.cells #[.int .i64 cu, .int .i64 cg] 24) := ⟨_, rfl⟩
  obtain ⟨b0, hb0⟩ : ∃ b, b = w.heap.size := ⟨_, rfl⟩
  have E0 : Ext w W0 := by rw [hW0]; exact (Ext.refl _).alloc _
  have N0 : Has W0 b0 (.cells #[.int .i64 cu, .int .i64 cg] 24) := by rw [hW0, hb0]; exact Has.new _ _
  have hbb : b0 ≠ b := by have := Has.lt h; omega
  have KC : Hid (Calls Tryz.prog 102 #[.pointer (some ⟨b, 0, none⟩)] W0 (fun e w' => e = .returned (.int .i64 0) ∧ SAt w' b g now (count + 1) A n cap false ∧ Only [b] W0 w')) := by
    show Calls _ _ _ _ _
    have := changeS l W0 (h.ext E0) (hp.ext E0) ho hl hc0 hc1
    rw [hx.1, hx.2, ← hn] at this
    exact this
  have S0 := h.ext E0
  have K0 := K.ext E0
  have HKD := Lib.hid KD
  rw [← hn]
  clear hn hx h hp ho hl hc0 hc1 K KD
  go_enter Tryz.func67, Tryz.ntmps67
  go_upto_region 1 with fail
  rw [← hW0, ← hb0]
  clear hW0 hb0
  go_wp2_with fail
  refine KC.out.mono ?_
  rintro e w1 ⟨rfl, S1, O1⟩
  have K1 := K0.offS S0 hbB hb O1
  have N1 := O1.has N0 (by simpa using hbb)
  have c0 := Has.cell S1 0
  have c1 := Has.cell S1 1
  have cz := Has.lt S1
  have d0 := N1.cell 0
  have d1 := N1.cell 1
  have dz := N1.lt
  go_wp2_with fail
  go_region_with (go_at_call 124; refine (HKD.out _ (K1.ext (Ext.refl _).drew)).mono ?_; rintro e w2 ⟨rfl, K2, O2⟩)
  all_goals
    go_wp2_with fail
    go_ret
    refine ⟨rfl, K2, SAt.only (SAt.ext S1 (Ext.refl _).drew) O2 hb, ?_⟩
    exact (Only.pre E0 (O1.mono (fun x hx => by simp at hx; subst hx; simp))).then ((Only.of_ext (Ext.refl _).drew).then (O2.mono (fun x hx => by simp [hx])))
set_option maxRecDepth 100000 in
set_option maxHeartbeats 4000000 in
theorem chownF {b : Nat} {g : GhW} {now count : Int} {A : Option Addr} {cap : Nat} (l : List (Int × Int)) (w : World) (cu cg : Int) (no : Int) (uid : Int) (gid : Int) (h : SAt w b g now count A l.length cap false) (hp : PlanAt w A l) (ho : PlanOff A b) (hl : l.length ≤ 1000000) (hc0 : 0 ≤ count) (hc1 : count ≤ 1000000) {x : Int} (hx : hitE l (count + 1) = x) (hx0 : x ≠ 0) :
    Calls Tryz.prog 69 #[.pointer (some ⟨b, 0, none⟩), .agg #[.int .i64 cu, .int .i64 cg], .int .i64 no, .int .i64 uid, .int .i64 gid] w
      (fun e w' => e = .returned (.int .i64 x) ∧ SAt w' b g now (count + 1) A l.length cap (hitD l (count + 1)) ∧ Only [b] w w') := by
  obtain ⟨n, hn⟩ : ∃ n, n = l.length := ⟨_, rfl⟩
  have KC : Hid (∀ u, Ext w u → Calls Tryz.prog 102 #[.pointer (some ⟨b, 0, none⟩)] u (fun e w' => e = .returned (.int .i64 x) ∧ SAt w' b g now (count + 1) A n cap (hitD l (count + 1)) ∧ Only [b] u w')) := by
    show ∀ u, _
    intro u hu
    rw [← hx, hn]
    exact changeS l u (h.ext hu) (hp.ext hu) ho hl hc0 hc1
  rw [← hn]
  clear hn hx
  have t1 : (x != 0) = true := by simpa using hx0
  clear hx0 h hp ho hl hc0 hc1
  go_enter Tryz.func69, Tryz.ntmps69
  go_wp2_with fail
  refine (KC.out _ ((Ext.refl _).alloc _)).mono ?_
  rintro e w1 ⟨rfl, S1, O1⟩
  go_wp2_with fail
  go_ret
  exact ⟨rfl, S1, Only.pre ((Ext.refl _).alloc _) O1⟩
set_option maxRecDepth 100000 in
set_option maxHeartbeats 8000000 in
theorem chownG {b : Nat} {g : GhW} {now count : Int} {A : Option Addr} {cap : Nat} (l : List (Int × Int)) (w : World) (cu cg : Int) (no : Int) (uid : Int) (gid : Int) (h : SAt w b g now count A l.length cap false) (hp : PlanAt w A l) (ho : PlanOff A b) (hl : l.length ≤ 1000000) (hc0 : 0 ≤ count) (hc1 : count ≤ 1000000) (B : Nat) (S : TreeD)
    (K : WAt w B g S) (hb : b ∉ g.list) (hbB : B ≤ b) (hx : hitE l (count + 1) = 0 ∧ hitD l (count + 1) = false) {T : TreeD} {z : Int}
    (KD : ∀ u, WAt u B g S → Calls Tryz.prog 126 #[.pointer (some ⟨g.bW, 0, none⟩), .agg #[.int .i64 cu, .int .i64 cg], .int .i64 now, .int .i64 no, .int .i64 uid, .int .i64 gid] u (ErrR u B g T z)) :
    Calls Tryz.prog 69 #[.pointer (some ⟨b, 0, none⟩), .agg #[.int .i64 cu, .int .i64 cg], .int .i64 no, .int .i64 uid, .int .i64 gid] w
      (fun e w' => e = .returned (.int .i64 z) ∧ WAt w' B g T ∧ SAt w' b g now (count + 1) A l.length cap false ∧ Only (b :: g.list) w w') := by
  obtain ⟨n, hn⟩ : ∃ n, n = l.length := ⟨_, rfl⟩
  obtain ⟨W0, hW0⟩ : ∃ W, W = w.alloc (.cells #[.int .i64 cu, .int .i64 cg] 24) := ⟨_, rfl⟩
  obtain ⟨b0, hb0⟩ : ∃ b, b = w.heap.size := ⟨_, rfl⟩
  have E0 : Ext w W0 := by rw [hW0]; exact (Ext.refl _).alloc _
  have N0 : Has W0 b0 (.cells #[.int .i64 cu, .int .i64 cg] 24) := by rw [hW0, hb0]; exact Has.new _ _
  have hbb : b0 ≠ b := by have := Has.lt h; omega
  have KC : Hid (Calls Tryz.prog 102 #[.pointer (some ⟨b, 0, none⟩)] W0 (fun e w' => e = .returned (.int .i64 0) ∧ SAt w' b g now (count + 1) A n cap false ∧ Only [b] W0 w')) := by
    show Calls _ _ _ _ _
    have := changeS l W0 (h.ext E0) (hp.ext E0) ho hl hc0 hc1
    rw [hx.1, hx.2, ← hn] at this
    exact this
  have S0 := h.ext E0
  have K0 := K.ext E0
  have HKD := Lib.hid KD
  rw [← hn]
  clear hn hx h hp ho hl hc0 hc1 K KD
  go_enter Tryz.func69, Tryz.ntmps69
  go_upto_region 1 with fail
  rw [← hW0, ← hb0]
  clear hW0 hb0
  go_wp2_with fail
  refine KC.out.mono ?_
  rintro e w1 ⟨rfl, S1, O1⟩
  have K1 := K0.offS S0 hbB hb O1
  have N1 := O1.has N0 (by simpa using hbb)
  have c0 := Has.cell S1 0
  have c1 := Has.cell S1 1
  have cz := Has.lt S1
  have d0 := N1.cell 0
  have d1 := N1.cell 1
  have dz := N1.lt
  go_wp2_with fail
  go_region_with (go_at_call 126; refine (HKD.out _ (K1.ext (Ext.refl _).drew)).mono ?_; rintro e w2 ⟨rfl, K2, O2⟩)
  all_goals
    go_wp2_with fail
    go_ret
    refine ⟨rfl, K2, SAt.only (SAt.ext S1 (Ext.refl _).drew) O2 hb, ?_⟩
    exact (Only.pre E0 (O1.mono (fun x hx => by simp at hx; subst hx; simp))).then ((Only.of_ext (Ext.refl _).drew).then (O2.mono (fun x hx => by simp [hx])))
set_option maxRecDepth 100000 in
set_option maxHeartbeats 4000000 in
theorem utimeF {b : Nat} {g : GhW} {now count : Int} {A : Option Addr} {cap : Nat} (l : List (Int × Int)) (w : World) (cu cg : Int) (no : Int) (mtime : Int) (h : SAt w b g now count A l.length cap false) (hp : PlanAt w A l) (ho : PlanOff A b) (hl : l.length ≤ 1000000) (hc0 : 0 ≤ count) (hc1 : count ≤ 1000000) {x : Int} (hx : hitE l (count + 1) = x) (hx0 : x ≠ 0) :
    Calls Tryz.prog 71 #[.pointer (some ⟨b, 0, none⟩), .agg #[.int .i64 cu, .int .i64 cg], .int .i64 no, .int .i64 mtime] w
      (fun e w' => e = .returned (.int .i64 x) ∧ SAt w' b g now (count + 1) A l.length cap (hitD l (count + 1)) ∧ Only [b] w w') := by
  obtain ⟨n, hn⟩ : ∃ n, n = l.length := ⟨_, rfl⟩
  have KC : Hid (∀ u, Ext w u → Calls Tryz.prog 102 #[.pointer (some ⟨b, 0, none⟩)] u (fun e w' => e = .returned (.int .i64 x) ∧ SAt w' b g now (count + 1) A n cap (hitD l (count + 1)) ∧ Only [b] u w')) := by
    show ∀ u, _
    intro u hu
    rw [← hx, hn]
    exact changeS l u (h.ext hu) (hp.ext hu) ho hl hc0 hc1
  rw [← hn]
  clear hn hx
  have t1 : (x != 0) = true := by simpa using hx0
  clear hx0 h hp ho hl hc0 hc1
  go_enter Tryz.func71, Tryz.ntmps71
  go_wp2_with fail
  refine (KC.out _ ((Ext.refl _).alloc _)).mono ?_
  rintro e w1 ⟨rfl, S1, O1⟩
  go_wp2_with fail
  go_ret
  exact ⟨rfl, S1, Only.pre ((Ext.refl _).alloc _) O1⟩
set_option maxRecDepth 100000 in
set_option maxHeartbeats 8000000 in
theorem utimeG {b : Nat} {g : GhW} {now count : Int} {A : Option Addr} {cap : Nat} (l : List (Int × Int)) (w : World) (cu cg : Int) (no : Int) (mtime : Int) (h : SAt w b g now count A l.length cap false) (hp : PlanAt w A l) (ho : PlanOff A b) (hl : l.length ≤ 1000000) (hc0 : 0 ≤ count) (hc1 : count ≤ 1000000) (B : Nat) (S : TreeD)
    (K : WAt w B g S) (hb : b ∉ g.list) (hbB : B ≤ b) (hx : hitE l (count + 1) = 0 ∧ hitD l (count + 1) = false) {T : TreeD} {z : Int}
    (KD : ∀ u, WAt u B g S → Calls Tryz.prog 128 #[.pointer (some ⟨g.bW, 0, none⟩), .agg #[.int .i64 cu, .int .i64 cg], .int .i64 now, .int .i64 no, .int .i64 mtime] u (ErrR u B g T z)) :
    Calls Tryz.prog 71 #[.pointer (some ⟨b, 0, none⟩), .agg #[.int .i64 cu, .int .i64 cg], .int .i64 no, .int .i64 mtime] w
      (fun e w' => e = .returned (.int .i64 z) ∧ WAt w' B g T ∧ SAt w' b g now (count + 1) A l.length cap false ∧ Only (b :: g.list) w w') := by
  obtain ⟨n, hn⟩ : ∃ n, n = l.length := ⟨_, rfl⟩
  obtain ⟨W0, hW0⟩ : ∃ W, W = w.alloc (.cells #[.int .i64 cu, .int .i64 cg] 24) := ⟨_, rfl⟩
  obtain ⟨b0, hb0⟩ : ∃ b, b = w.heap.size := ⟨_, rfl⟩
  have E0 : Ext w W0 := by rw [hW0]; exact (Ext.refl _).alloc _
  have N0 : Has W0 b0 (.cells #[.int .i64 cu, .int .i64 cg] 24) := by rw [hW0, hb0]; exact Has.new _ _
  have hbb : b0 ≠ b := by have := Has.lt h; omega
  have KC : Hid (Calls Tryz.prog 102 #[.pointer (some ⟨b, 0, none⟩)] W0 (fun e w' => e = .returned (.int .i64 0) ∧ SAt w' b g now (count + 1) A n cap false ∧ Only [b] W0 w')) := by
    show Calls _ _ _ _ _
    have := changeS l W0 (h.ext E0) (hp.ext E0) ho hl hc0 hc1
    rw [hx.1, hx.2, ← hn] at this
    exact this
  have S0 := h.ext E0
  have K0 := K.ext E0
  have HKD := Lib.hid KD
  rw [← hn]
  clear hn hx h hp ho hl hc0 hc1 K KD
  go_enter Tryz.func71, Tryz.ntmps71
  go_upto_region 1 with fail
  rw [← hW0, ← hb0]
  clear hW0 hb0
  go_wp2_with fail
  refine KC.out.mono ?_
  rintro e w1 ⟨rfl, S1, O1⟩
  have K1 := K0.offS S0 hbB hb O1
  have N1 := O1.has N0 (by simpa using hbb)
  have c0 := Has.cell S1 0
  have c1 := Has.cell S1 1
  have cz := Has.lt S1
  have d0 := N1.cell 0
  have d1 := N1.cell 1
  have dz := N1.lt
  go_wp2_with fail
  go_region_with (go_at_call 128; refine (HKD.out _ (K1.ext (Ext.refl _).drew)).mono ?_; rintro e w2 ⟨rfl, K2, O2⟩)
  all_goals
    go_wp2_with fail
    go_ret
    refine ⟨rfl, K2, SAt.only (SAt.ext S1 (Ext.refl _).drew) O2 hb, ?_⟩
    exact (Only.pre E0 (O1.mono (fun x hx => by simp at hx; subst hx; simp))).then ((Only.of_ext (Ext.refl _).drew).then (O2.mono (fun x hx => by simp [hx])))
set_option maxRecDepth 100000 in
set_option maxHeartbeats 4000000 in
theorem writeF {b : Nat} {g : GhW} {now count : Int} {A : Option Addr} {cap : Nat} (l : List (Int × Int)) (w : World) (cu cg : Int) (no : Int) (data : ByteArray) (h : SAt w b g now count A l.length cap false) (hp : PlanAt w A l) (ho : PlanOff A b) (hl : l.length ≤ 1000000) (hc0 : 0 ≤ count) (hc1 : count ≤ 1000000) {x : Int} (hx : hitE l (count + 1) = x) (hx0 : x ≠ 0) :
    Calls Tryz.prog 73 #[.pointer (some ⟨b, 0, none⟩), .agg #[.int .i64 cu, .int .i64 cg], .int .i64 no, .string data] w
      (fun e w' => e = .returned (.int .i64 x) ∧ SAt w' b g now (count + 1) A l.length cap (hitD l (count + 1)) ∧ Only [b] w w') := by
  obtain ⟨n, hn⟩ : ∃ n, n = l.length := ⟨_, rfl⟩
  have KC : Hid (∀ u, Ext w u → Calls Tryz.prog 102 #[.pointer (some ⟨b, 0, none⟩)] u (fun e w' => e = .returned (.int .i64 x) ∧ SAt w' b g now (count + 1) A n cap (hitD l (count + 1)) ∧ Only [b] u w')) := by
    show ∀ u, _
    intro u hu
    rw [← hx, hn]
    exact changeS l u (h.ext hu) (hp.ext hu) ho hl hc0 hc1
  rw [← hn]
  clear hn hx
  have t1 : (x != 0) = true := by simpa using hx0
  clear hx0 h hp ho hl hc0 hc1
  go_enter Tryz.func73, Tryz.ntmps73
  go_wp2_with fail
  refine (KC.out _ ((Ext.refl _).alloc _)).mono ?_
  rintro e w1 ⟨rfl, S1, O1⟩
  go_wp2_with fail
  go_ret
  exact ⟨rfl, S1, Only.pre ((Ext.refl _).alloc _) O1⟩
set_option maxRecDepth 100000 in
set_option maxHeartbeats 8000000 in
theorem writeG {b : Nat} {g : GhW} {now count : Int} {A : Option Addr} {cap : Nat} (l : List (Int × Int)) (w : World) (cu cg : Int) (no : Int) (data : ByteArray) (h : SAt w b g now count A l.length cap false) (hp : PlanAt w A l) (ho : PlanOff A b) (hl : l.length ≤ 1000000) (hc0 : 0 ≤ count) (hc1 : count ≤ 1000000) (B : Nat) (S : TreeD)
    (K : WAt w B g S) (hb : b ∉ g.list) (hbB : B ≤ b) (hx : hitE l (count + 1) = 0 ∧ hitD l (count + 1) = false) {T : TreeD} {z : Int}
    (KD : ∀ u, WAt u B g S → Calls Tryz.prog 129 #[.pointer (some ⟨g.bW, 0, none⟩), .agg #[.int .i64 cu, .int .i64 cg], .int .i64 now, .int .i64 no, .string data] u (ErrR u B g T z)) :
    Calls Tryz.prog 73 #[.pointer (some ⟨b, 0, none⟩), .agg #[.int .i64 cu, .int .i64 cg], .int .i64 no, .string data] w
      (fun e w' => e = .returned (.int .i64 z) ∧ WAt w' B g T ∧ SAt w' b g now (count + 1) A l.length cap false ∧ Only (b :: g.list) w w') := by
  obtain ⟨n, hn⟩ : ∃ n, n = l.length := ⟨_, rfl⟩
  obtain ⟨W0, hW0⟩ : ∃ W, W = w.alloc (.cells #[.int .i64 cu, .int .i64 cg] 24) := ⟨_, rfl⟩
  obtain ⟨b0, hb0⟩ : ∃ b, b = w.heap.size := ⟨_, rfl⟩
  have E0 : Ext w W0 := by rw [hW0]; exact (Ext.refl _).alloc _
  have N0 : Has W0 b0 (.cells #[.int .i64 cu, .int .i64 cg] 24) := by rw [hW0, hb0]; exact Has.new _ _
  have hbb : b0 ≠ b := by have := Has.lt h; omega
  have KC : Hid (Calls Tryz.prog 102 #[.pointer (some ⟨b, 0, none⟩)] W0 (fun e w' => e = .returned (.int .i64 0) ∧ SAt w' b g now (count + 1) A n cap false ∧ Only [b] W0 w')) := by
    show Calls _ _ _ _ _
    have := changeS l W0 (h.ext E0) (hp.ext E0) ho hl hc0 hc1
    rw [hx.1, hx.2, ← hn] at this
    exact this
  have S0 := h.ext E0
  have K0 := K.ext E0
  have HKD := Lib.hid KD
  rw [← hn]
  clear hn hx h hp ho hl hc0 hc1 K KD
  go_enter Tryz.func73, Tryz.ntmps73
  go_upto_region 1 with fail
  rw [← hW0, ← hb0]
  clear hW0 hb0
  go_wp2_with fail
  refine KC.out.mono ?_
  rintro e w1 ⟨rfl, S1, O1⟩
  have K1 := K0.offS S0 hbB hb O1
  have N1 := O1.has N0 (by simpa using hbb)
  have c0 := Has.cell S1 0
  have c1 := Has.cell S1 1
  have cz := Has.lt S1
  have d0 := N1.cell 0
  have d1 := N1.cell 1
  have dz := N1.lt
  go_wp2_with fail
  go_region_with (go_at_call 129; refine (HKD.out _ (K1.ext (Ext.refl _).drew)).mono ?_; rintro e w2 ⟨rfl, K2, O2⟩)
  all_goals
    go_wp2_with fail
    go_ret
    refine ⟨rfl, K2, SAt.only (SAt.ext S1 (Ext.refl _).drew) O2 hb, ?_⟩
    exact (Only.pre E0 (O1.mono (fun x hx => by simp at hx; subst hx; simp))).then ((Only.of_ext (Ext.refl _).drew).then (O2.mono (fun x hx => by simp [hx])))
end Go.Proofs.YtjblimclakfhfaaGreat
