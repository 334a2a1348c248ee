/- Layer 2 (name): the program's Check. | The law's grow: one item comes, in both trees. | The law's Grow: both trees, with all items. | Results of which the first lies in a block: a struct, and a number beside it. | Layer 10 (perm), for trees: May, Node, Owns, Free, Fine, Bit, the program's and the reference's. (Printed by gen_pert.py out of the texts of layer 10.) | The law's Same of two nodes: true of equal ones. | The reference's Get, with one value in all worlds that have grown from one; plain laws of Get behind Set. | The law's acts in memory; Few of them. | How the arguments of the laws on trees read: items, acts, somebody who asks. (Printed by gen_opn.py.) -/
import Derived.Test.YtebghednhjaniaaBunC
import Derived.Test.YtebghednhjaniaaShelf
import Derived.Test.YtebghednhjaniaaBunA
import Derived.Test.YtebghednhjaniaaBunB
import Derived.Lib.IndexAny
import Derived.Deep.Cut
import Derived.Deep.DeepCutAuto
namespace Go.Proofs.Ytebghednhjaniaa
open Go.ChangeShapes Go.WideShapes Go.ChangeAt Go.RowKit

theorem hasB_index (l : List UInt8) (c : UInt8) : decide (0 ≤ Lib.indexByte l c) = hasB l c := by
  rw [← Lib.contains_iff_indexByte, Bool.eq_iff_iff]
  simp [hasB]
set_option maxRecDepth 100000 in
set_option maxHeartbeats 2000000 in
theorem pcheck_any (s : ByteArray) (w : World) : Calls Try.prog 177 #[.string s] w (Ret w (.int .i64 (checkN s.data.toList))) := by
  by_cases h0 : s.data.toList = []
  · have hf : Hid (checkN s.data.toList = 1) := by show _ = _; unfold checkN; rw [if_pos (.inl h0)]
    have e : s.toList = [] := by rw [ByteArray.toList_eq]; exact h0
    clear h0
    go_enter Try.func177, Try.ntmps177
    go_wp2_with fail
    go_ret
    exact Ret.mk (ret_int (by rw [hf.out])) (Ext.refl _)
  · by_cases h1 : s.data.toList = [46]
    · have hf : Hid (checkN s.data.toList = 1) := by show _ = _; unfold checkN; rw [if_pos (.inr (.inl h1))]
      have e : s.toList = [46] := by rw [ByteArray.toList_eq]; exact h1
      clear h0 h1
      go_enter Try.func177, Try.ntmps177
      go_wp2_with fail
      go_ret
      exact Ret.mk (ret_int (by rw [hf.out])) (Ext.refl _)
    · by_cases h2 : s.data.toList = [46, 46]
      · have hf : Hid (checkN s.data.toList = 1) := by show _ = _; unfold checkN; rw [if_pos (.inr (.inr (.inl h2)))]
        have e : s.toList = [46, 46] := by rw [ByteArray.toList_eq]; exact h2
        clear h0 h1 h2
        go_enter Try.func177, Try.ntmps177
        go_wp2_with fail
        go_ret
        exact Ret.mk (ret_int (by rw [hf.out])) (Ext.refl _)
      · have hk := checkN_no h0 h1 h2
        have e0 : s.toList.isEmpty = false := by rw [ByteArray.toList_eq, List.isEmpty_eq_false_iff]; exact h0
        have e1 : (s.toList == [46]) = false := by rw [ByteArray.toList_eq]; exact beq_eq_false_iff_ne.2 h1
        have e2 : (s.toList == [46, 46]) = false := by rw [ByteArray.toList_eq]; exact beq_eq_false_iff_ne.2 h2
        clear h0 h1 h2
        have hsz : s.data.toList.length = s.size := by simp
        rw [hsz] at hk
        have hx : ∀ c, Hid (decide (0 ≤ Lib.indexByte s.data.toList c) = hasB s.data.toList c) := fun c => hasB_index _ c
        cases hb : hasB s.data.toList 47 with
        | true =>
          have hf : Hid (checkN s.data.toList = 1) := by show _ = _; rw [hk, if_pos (.inl hb)]
          have HB := Lib.hid hb
          clear hk hb hsz
          go_enter Try.func177, Try.ntmps177
          go_wp2_with fail
          refine (Try.strings_Contains_one _ 47 _).mono ?_
          rintro e w1 ⟨rfl, rfl⟩
          rw [(hx 47).out, HB.out]
          go_wp2_with fail
          go_ret
          exact Ret.mk (ret_int (by rw [hf.out])) (Ext.refl _)
        | false =>
          cases hc : hasB s.data.toList 0 with
          | true =>
            have hf : Hid (checkN s.data.toList = 1) := by show _ = _; rw [hk, if_pos (.inr hc)]
            have HB := Lib.hid hb
            have HC := Lib.hid hc
            clear hk hb hc hsz
            go_enter Try.func177, Try.ntmps177
            go_wp2_with fail
            refine (Try.strings_Contains_one _ 47 _).mono ?_
            rintro e w1 ⟨rfl, rfl⟩
            rw [(hx 47).out, HB.out]
            go_wp2_with fail
            refine (Try.strings_Contains_one _ 0 _).mono ?_
            rintro e w1 ⟨rfl, rfl⟩
            rw [(hx 0).out, HC.out]
            go_wp2_with fail
            go_ret
            exact Ret.mk (ret_int (by rw [hf.out])) (Ext.refl _)
          | false =>
            have hf : Hid (checkN s.data.toList = if 255 < s.size then 13 else 0) := by show _ = _; rw [hk, if_neg (by rw [hb, hc]; simp)]
            have HB := Lib.hid hb
            have HC := Lib.hid hc
            clear hk hb hc hsz
            by_cases h : 255 < s.size
            · rw [if_pos h] at hf
              go_enter Try.func177, Try.ntmps177
              go_wp2_with fail
              refine (Try.strings_Contains_one _ 47 _).mono ?_
              rintro e w1 ⟨rfl, rfl⟩
              rw [(hx 47).out, HB.out]
              go_wp2_with fail
              refine (Try.strings_Contains_one _ 0 _).mono ?_
              rintro e w1 ⟨rfl, rfl⟩
              rw [(hx 0).out, HC.out]
              go_wp2_with fail
              go_ret
              exact Ret.mk (ret_int (by rw [hf.out])) (Ext.refl _)
            · rw [if_neg h] at hf
              go_enter Try.func177, Try.ntmps177
              go_wp2_with fail
              refine (Try.strings_Contains_one _ 47 _).mono ?_
              rintro e w1 ⟨rfl, rfl⟩
              rw [(hx 47).out, HB.out]
              go_wp2_with fail
              refine (Try.strings_Contains_one _ 0 _).mono ?_
              rintro e w1 ⟨rfl, rfl⟩
              rw [(hx 0).out, HC.out]
              go_wp2_with fail
              go_ret
              exact Ret.mk (ret_int (by rw [hf.out])) (Ext.refl _)
end Go.Proofs.Ytebghednhjaniaa

namespace Go.Proofs.Ytebghednhjaniaa
open Go.ChangeShapes Go.WideShapes Go.ChangeAt Go.RowKit

/-- Both trees, in one memory. -/
def Two (w : World) (B : Nat) (g : GhW) (f : GhF) (S : TreeD) (X : Xtra) : Prop := WAt w B g S ∧ FAt w B f S X
/-- Where the reference's blocks may lie behind a call. -/
def GhF.on (f' f : GhF) (w : World) : Prop := f'.bF = f.bF ∧ ∀ b ∈ f'.list, b ∈ f.list ∨ w.heap.size ≤ b
theorem GhF.on_refl (f : GhF) (w : World) : f.on f w := ⟨rfl, fun _ h => .inl h⟩
theorem GhF.on_trans {f1 f2 f3 : GhF} {w1 w2 : World} (h : f2.on f1 w1) (k : f3.on f2 w2) (hw : w1.heap.size ≤ w2.heap.size) : f3.on f1 w1 :=
  ⟨k.1.trans h.1, fun b hb => by rcases k.2 b hb with g | g; exact h.2 b g; exact .inr (by omega)⟩
def GhW.on (g' g : GhW) (w : World) : Prop := g'.bW = g.bW ∧ ∀ b ∈ g'.list, b ∈ g.list ∨ w.heap.size ≤ b
theorem GhW.on_refl (g : GhW) (w : World) : g.on g w := ⟨rfl, fun _ h => .inl h⟩
theorem GhW.on_trans {g1 g2 g3 : GhW} {w1 w2 : World} (h : g2.on g1 w1) (k : g3.on g2 w2) (hw : w1.heap.size ≤ w2.heap.size) : g3.on g1 w1 :=
  ⟨k.1.trans h.1, fun b hb => by rcases k.2 b hb with g | g; exact h.2 b g; exact .inr (by omega)⟩
def GrowR (w : World) (B : Nat) (g : GhW) (f : GhF) (S : TreeD) (X : Xtra) (it : ItemD) (e : Ending) (w' : World) : Prop :=
  e = .returned (.bool true) ∧ ∃ g' f', Two w' B g' f' (growT S it) X ∧ Only (g.list ++ f.list) w w' ∧ GhW.on g' g w ∧ GhF.on f' f w
theorem grow_same {w w' : World} {B : Nat} {g : GhW} {f : GhF} {S : TreeD} {X : Xtra} {it : ItemD} (h : Two w B g f S X) (hE : Ext w w') (hg : growT S it = S) : GrowR w B g f S X it (.returned (.bool true)) w' :=
  ⟨rfl, g, f, by rw [hg]; exact ⟨h.1.ext hE, h.2.ext hE⟩, Only.of_ext hE, GhW.on_refl g w, GhF.on_refl f w⟩
theorem isN_append {ns : List NodeD} {no : Int} (h : isN ns no = true) (x : NodeD) : isN (ns ++ [x]) no = true := by
  obtain ⟨k, hk, e⟩ := isN_iff.1 h
  exact isN_iff.2 ⟨k, by simp; omega, by rw [List.getElem_append_left hk]; exact e⟩
theorem isN_kind {ns : List NodeD} {no : Int} (h : (getN ns no).kind = 1) : isN ns no = true := by
  cases hi : isN ns no
  · rw [(isN_false hi).1] at h; cases h
  · rfl
set_option maxRecDepth 100000 in
set_option maxHeartbeats 8000000 in
theorem grow_any (B : Nat) (g : GhW) (f : GhF) (S : TreeD) (X : Xtra) (it : ItemD) (w : World) (h : Two w B g f S X) (hG : Good S) (hl : S.last ≤ 1000) (hn : it.name.length ≤ 300) (hd : it.data.length ≤ 2000) :
    Calls Try.prog 92 #[.pointer (some ⟨g.bW, 0, none⟩), .pointer (some ⟨f.bF, 0, none⟩), .agg #[.int .i64 it.dir, .string (bs it.name), .int .i64 it.kind, .int .i64 it.mode, .int .i64 it.uid, .int .i64 it.gid, .string (bs it.data), .int .i64 it.n]] w (GrowR w B g f S X it) := by
  obtain ⟨W1, hW1⟩ : ∃ W1, W1 = w.alloc (.cells #[.int .i64 it.dir, .string (bs it.name), .int .i64 it.kind, .int .i64 it.mode, .int .i64 it.uid, .int .i64 it.gid, .string (bs it.data), .int .i64 it.n] 138) := ⟨_, rfl⟩
  have E1 : Ext w W1 := by rw [hW1]; exact (Ext.refl _).alloc _
  have B1 : Has W1 w.heap.size (.cells #[.int .i64 it.dir, .string (bs it.name), .int .i64 it.kind, .int .i64 it.mode, .int .i64 it.uid, .int .i64 it.gid, .string (bs it.data), .int .i64 it.n] 138) := by rw [hW1]; exact Has.new _ _
  have hl1 := hG.last
  have hnz : S.last ≠ 0 := by omega
  have hnv := near_val it.dir S.last (by omega) (by omega)
  have hat : atI S it = 1 + it.dir % 18446744073709551616 % S.last := rfl
  go_enter Try.func92, Try.ntmps92
  go_upto_region 1 with fail
  rw [← hW1]
  go_cut [7] (fun v wc => v = .int .i64 (atI S it) ∧ Ext W1 wc)
  case first =>
    have x0 : W1.cell? ⟨w.heap.size, 0, none⟩ = some (.int .i64 it.dir) := B1.cell 0
    have z0 := B1.lt
    have c2 : W1.cell? ⟨f.bF, 2, none⟩ = some (.int .i64 S.last) := by obtain ⟨_, cn, ce, k, _⟩ := h.2.ext E1; exact k.cell 2
    have zF := (h.2.ext E1).lt.1
    have HV := Lib.hid hnv
    have HA := Lib.hid hat
    clear hnv hat hW1
    go_quiet (fail)
    go_wp2_with fail
    go_meet
    exact ⟨by rw [HA.out, ← HV.out], ((Ext.refl _).drewN nq)⟩
  case rest =>
  obtain ⟨rfl, E2⟩ := hcut
  obtain ⟨W2, hW2⟩ : ∃ W2, W2 = wc := ⟨_, rfl⟩
  rw [← hW2] at E2 ⊢
  obtain ⟨a, ha⟩ : ∃ a, a = atI S it := ⟨_, rfl⟩
  rw [← ha]
  have EW : Ext w W2 := E1.trans E2
  have B2 := B1.ext E2
  have x2 : W2.cell? ⟨w.heap.size, 2, none⟩ = some (.int .i64 it.kind) := B2.cell 2
  have x7 : W2.cell? ⟨w.heap.size, 7, none⟩ = some (.int .i64 it.n) := B2.cell 7
  have xz := B2.lt
  have HA := Lib.hid ha
  clear hW2 hW1 hnv hat ha hnz
  have hd0 := hG.devs
  have hd8 := hG.eight
  have hcount := hG.count
  by_cases hk : it.kind = 4
  · have hkb : (it.kind == 4) = true := by simpa using hk
    have hgr : Hid (growT S it = mountT S a it.n it.n) := by show _ = _; unfold growT; rw [if_pos hk, HA.out]
    clear hk
    go_wp2_with fail
    refine (pmount_any B g S a it.n it.n _ (h.1.ext EW) hd0 hd8 hG.nos (by omega) (by omega)).mono ?_
    rintro e w3 ⟨rfl, bD, K3, O3, f3⟩
    have F3 := FAt.byW (h.2.ext EW) (h.1.ext EW) O3
    have hlt := (h.1).lt
    have B3 := O3.has B2 (by simp; omega)
    have y7 : w3.cell? ⟨w.heap.size, 7, none⟩ = some (.int .i64 it.n) := B3.cell 7
    have yz := B3.lt
    obtain ⟨m, hm⟩ : ∃ m, m = mountN S a it.n it.n := ⟨_, rfl⟩
    obtain ⟨me, hme⟩ : ∃ me, me = mountE S a it.n it.n := ⟨_, rfl⟩
    rw [← hm, ← hme]
    have HM := Lib.hid hm
    have HE := Lib.hid hme
    clear hm hme x2 x7
    go_wp2_with fail
    refine (rmount_any B f S X a it.n it.n _ F3 hd8 hG.nos (by omega) (by omega) (by omega)).mono ?_
    rintro e w4 ⟨he, bN, bE, F4, O4, f4, f5⟩
    rw [← HM.out, ← HE.out] at he
    subst he
    have K4 := WAt.byF K3 F3 O4
    go_wp2_with fail
    go_ret
    refine ⟨rfl, ⟨g.bW, g.bT, g.bM, bD⟩, ⟨f.bF, bN, bE⟩, ⟨by rw [hgr.out]; exact K4, by rw [hgr.out]; exact F4⟩, ?_, ⟨rfl, ?_⟩, ⟨rfl, ?_⟩⟩
    · exact (Only.pre EW (O3.mono (by simp))).then (O4.mono (by simp))
    · intro b hb
      simp only [GhW.list, List.mem_cons, List.not_mem_nil, or_false] at hb ⊢
      have := EW.size
      rcases hb with rfl | rfl | rfl | rfl
      · simp
      · simp
      · simp
      · rcases f3 with f3 | f3
        · simp [f3]
        · right; omega
    · intro b hb
      simp only [GhF.list, List.mem_cons, List.not_mem_nil, or_false] at hb ⊢
      have := EW.size
      have := O3.size
      rcases hb with rfl | rfl | rfl
      · simp
      · rcases f4 with f4 | f4
        · simp [f4]
        · right; omega
      · rcases f5 with f5 | f5
        · simp [f5]
        · right; omega
  · have hkb : (it.kind == 4) = false := by simpa using hk
    have hgr : Hid (growT S it = if comesI S it = true then (if makeE S (nodeI S it) = 0 then setT (makeT S (nodeI S it)) { getN S.nodes (atI S it) with ents := putF (getN S.nodes (atI S it)).ents (it.name, S.last + 1) } else S) else S) := by show _ = _; unfold growT; rw [if_neg hk]
    clear hk x7
    go_wp2_with fail
    refine (rget_any B f S X a _ (h.2.ext EW) (by omega) hG.nos).mono ?_
    rintro e w3 ⟨A, c, rfl, ok3, E3⟩
    have hcm : Hid (comesI S it = (decide ((getN S.nodes a).kind = 1) && decide (1 ≤ it.kind) && decide (it.kind ≤ 3) && decide (checkN it.name = 0) && decide (findF (getN S.nodes a).ents it.name = 0))) := by show _ = _; rw [HA.out]; rfl
    have hgm := good_getN hG a
    obtain ⟨m, hm⟩ : ∃ m, m = getN S.nodes a := ⟨_, rfl⟩
    rw [← hm] at ok3 hcm hgm ⊢
    have HM := Lib.hid hm
    clear hm x2
    obtain ⟨W4, hW4⟩ : ∃ W4, W4 = w3.alloc (.cells #[.int .i64 m.no, .int .i64 m.dev, .int .i64 m.kind, .int .i64 m.mode, .int .i64 m.uid, .int .i64 m.gid, .int .i64 m.mtime, .int .i64 m.ctime, .int .i64 m.links, .int .i64 m.up, .string (bs m.data), .slice A m.ents.length c] 100) := ⟨_, rfl⟩
    have D4 : Has W4 w3.heap.size (.cells #[.int .i64 m.no, .int .i64 m.dev, .int .i64 m.kind, .int .i64 m.mode, .int .i64 m.uid, .int .i64 m.gid, .int .i64 m.mtime, .int .i64 m.ctime, .int .i64 m.links, .int .i64 m.up, .string (bs m.data), .slice A m.ents.length c] 100) := by rw [hW4]; exact Has.new _ _
    obtain ⟨b12, hb12⟩ : ∃ b12, b12 = w3.heap.size := ⟨_, rfl⟩
    have hbD : w.heap.size < b12 := by have := E3.size; omega
    have E34 : Ext w3 W4 := by rw [hW4]; exact (Ext.refl _).alloc _
    go_upto_region 7 with fail
    rw [← hW4]
    rw [← hb12] at D4 ⊢
    have E4 : Ext W2 W4 := E3.trans E34
    have B4 := B2.ext E4
    have ok4 := ok3.ext E34
    go_cut [89] (fun v wc => v = .bool (!comesI S it) ∧ Ext W4 wc)
    case first =>
      have k2 : W4.cell? ⟨b12, 2, none⟩ = some (.int .i64 m.kind) := D4.cell 2
      have k11 : W4.cell? ⟨b12, 11, none⟩ = some (.slice A m.ents.length c) := D4.cell 11
      have i1 : W4.cell? ⟨w.heap.size, 1, none⟩ = some (.string (bs it.name)) := B4.cell 1
      have i2 : W4.cell? ⟨w.heap.size, 2, none⟩ = some (.int .i64 it.kind) := B4.cell 2
      have zb := B4.lt
      have zd := D4.lt
      have hml : m.ents.length ≤ 2000000 := by have := hgm.2; omega
      have HG := Lib.hid hgm
      have HW4 := Lib.hid hW4
      clear hgm hW4 hb12
      by_cases c1 : m.kind = 1
      · have t1 : (m.kind == 1) = true := by simpa using c1
        have t1b : (m.kind != 1) = false := by simpa using c1
        by_cases c2 : 1 ≤ it.kind
        · have t2 : decide (it.kind < 1) = false := decide_eq_false (by omega)
          by_cases c3 : it.kind ≤ 3
          · have t3 : decide (3 < it.kind) = false := decide_eq_false (by omega)
            obtain ⟨ck, hck⟩ : ∃ ck, ck = checkN it.name := ⟨_, rfl⟩
            rw [← hck] at hcm
            have HK := Lib.hid hck
            by_cases c4 : ck = 0
            · have t4 : (ck == 0) = true := by simpa using c4
              have t4b : (ck != 0) = false := by simpa using c4
              obtain ⟨fk, hfk⟩ : ∃ fk, fk = findF m.ents it.name := ⟨_, rfl⟩
              rw [← hfk] at hcm
              have HF := Lib.hid hfk
              have hcv : Hid (comesI S it = (fk == 0)) := by
                show _ = _
                rw [hcm.out, decide_eq_true c1, decide_eq_true c2, decide_eq_true c3, decide_eq_true c4]
                simp; rfl
              clear hck hfk c1 c2 c3 c4 hcm
              go_wp2_with fail
              refine (rcheck_any (bs it.name) (by rw [bs_size]; omega) _).mono ?_
              rw [bs_list, ← HK.out]
              rintro e w5 ⟨rfl, b5⟩
              obtain ⟨hc5, hf5⟩ := b5.cells
              go_wp2_with fail
              refine (rfind_any A m.ents c it.name _ (ok4.ext b5).ents.ents hml).mono ?_
              rw [← HF.out]
              rintro e w6 ⟨rfl, b6⟩
              cases t5 : (fk == 0)
              · have t5b : (fk != 0) = true := by simpa using t5
                rw [t5] at hcv
                go_wp2_with fail
                go_meet
                exact ⟨by rw [hcv.out]; rfl, b5.trans b6⟩
              · have t5b : (fk != 0) = false := by simpa using t5
                rw [t5] at hcv
                go_wp2_with fail
                go_meet
                exact ⟨by rw [hcv.out]; rfl, b5.trans b6⟩
            · have t4 : (ck == 0) = false := by simpa using c4
              have t4b : (ck != 0) = true := by simpa using c4
              have hcv : Hid (comesI S it = false) := by
                show _ = _
                rw [hcm.out, decide_eq_false c4]
                simp
              clear hck c1 c2 c3 c4 hcm
              go_wp2_with fail
              refine (rcheck_any (bs it.name) (by rw [bs_size]; omega) _).mono ?_
              rw [bs_list, ← HK.out]
              rintro e w5 ⟨rfl, b5⟩
              go_wp2_with fail
              go_meet
              exact ⟨by rw [hcv.out]; rfl, b5⟩
          · have t3 : decide (3 < it.kind) = true := decide_eq_true (by omega)
            have hcv : Hid (comesI S it = false) := by
              show _ = _
              rw [hcm.out, decide_eq_false c3]
              simp
            clear c1 c2 c3 hcm
            go_wp2_with fail
            go_meet
            exact ⟨by rw [hcv.out]; rfl, Ext.refl _⟩
        · have t2 : decide (it.kind < 1) = true := decide_eq_true (by omega)
          have hcv : Hid (comesI S it = false) := by
            show _ = _
            rw [hcm.out, decide_eq_false c2]
            simp
          clear c1 c2 hcm
          go_wp2_with fail
          go_meet
          exact ⟨by rw [hcv.out]; rfl, Ext.refl _⟩
      · have t1 : (m.kind == 1) = false := by simpa using c1
        have t1b : (m.kind != 1) = true := by simpa using c1
        have hcv : Hid (comesI S it = false) := by
          show _ = _
          rw [hcm.out, decide_eq_false c1]
          simp
        clear c1 hcm
        go_wp2_with fail
        go_meet
        exact ⟨by rw [hcv.out]; rfl, Ext.refl _⟩
    case rest =>
    obtain ⟨rfl, E5⟩ := hcut
    cases hc : comesI S it
    · rw [hc] at hgr
      go_wp2_with fail
      go_ret
      exact grow_same h (EW.trans (E4.trans E5)) (by rw [hgr.out]; rfl)
    · rw [hc] at hgr
      obtain ⟨n, hn'⟩ : ∃ n, n = nodeI S it := ⟨_, rfl⟩
      rw [← hn'] at hgr
      have hgr2 : Hid (growT S it = if makeE S n = 0 then setT (makeT S n) { m with ents := putF m.ents (it.name, S.last + 1) } else S) := by
        show _ = _; rw [hgr.out, if_pos rfl, ← HA.out, ← HM.out]
      have hmk : m.kind = 1 := by
        have := hcm.out; rw [hc] at this; symm at this
        simp only [Bool.and_eq_true, decide_eq_true_eq] at this
        exact this.1.1.1.1
      have hin : isN S.nodes a = true := isN_kind (by rw [← HM.out]; exact hmk)
      have hno : m.no = a := by rw [HM.out]; exact (isN_true hin).2.1
      have hnn : n = { nodeZ with dev := m.dev, kind := it.kind, mode := it.mode % 1024, uid := it.uid, gid := it.gid, links := 1, up := if it.kind = 1 then a else 0, data := if it.kind = 1 then [] else it.data } := by rw [hn', HM.out, HA.out]; rfl
      have B5 := B4.ext E5
      have D5 := D4.ext E5
      have ok5 := ok4.ext E5
      obtain ⟨W5, hW5⟩ : ∃ W5, W5 = wc := ⟨_, rfl⟩
      rw [← hW5] at E5 B5 D5 ok5 ⊢
      have hml : m.ents.length ≤ 1000 := by have := hgm.2; omega
      have HIN := Lib.hid hin
      have HNO := Lib.hid hno
      have HR := Lib.hid hgm.1
      clear hW5 hc hgr hcm hn' hmk hin hno hgm hW4 hb12
      have k1 : W5.cell? ⟨b12, 1, none⟩ = some (.int .i64 m.dev) := D5.cell 1
      have i2 : W5.cell? ⟨w.heap.size, 2, none⟩ = some (.int .i64 it.kind) := B5.cell 2
      have i3 : W5.cell? ⟨w.heap.size, 3, none⟩ = some (.int .i64 it.mode) := B5.cell 3
      have i4 : W5.cell? ⟨w.heap.size, 4, none⟩ = some (.int .i64 it.uid) := B5.cell 4
      have i5 : W5.cell? ⟨w.heap.size, 5, none⟩ = some (.int .i64 it.gid) := B5.cell 5
      have i6 : W5.cell? ⟨w.heap.size, 6, none⟩ = some (.string (bs it.data)) := B5.cell 6
      have zb := B5.lt
      have zd := D5.lt
      have HN := Lib.hid hnn
      clear hnn
      go_upto_if 104 with fail
      go_cut [] (fun wx => Ext W5 wx ∧ Has wx W5.heap.size (.cells #[.int .i64 n.no, .int .i64 n.dev, .int .i64 n.kind, .int .i64 n.mode, .int .i64 n.uid, .int .i64 n.gid, .int .i64 n.mtime, .int .i64 n.ctime, .int .i64 n.links, .int .i64 n.up, .string (bs n.data), .slice none n.ents.length 0] 100))
      case first =>
        by_cases hk1 : it.kind = 1
        · have hk1b : (it.kind == 1) = true := by simpa using hk1
          have hnv : Hid (n = { nodeZ with dev := m.dev, kind := it.kind, mode := bits .and .i64 it.mode 1023, uid := it.uid, gid := it.gid, links := 1, up := a }) := by show _ = _; rw [HN.out, if_pos hk1, if_pos hk1, and_1023]; rfl
          clear hk1
          go_wp2_with fail
          go_meet
          rw [hnv.out]
          exact ⟨(Ext.refl _).alloc _, Has.new _ _⟩
        · have hk1b : (it.kind == 1) = false := by simpa using hk1
          have hnv : Hid (n = { nodeZ with dev := m.dev, kind := it.kind, mode := bits .and .i64 it.mode 1023, uid := it.uid, gid := it.gid, links := 1, data := it.data }) := by show _ = _; rw [HN.out, if_neg hk1, if_neg hk1, and_1023]; rfl
          clear hk1
          go_wp2_with fail
          go_meet
          rw [hnv.out]
          exact ⟨(Ext.refl _).alloc _, Has.new _ _⟩
      case rest =>
      obtain ⟨E6, N6⟩ := hcut
      obtain ⟨W6, hW6⟩ : ∃ W6, W6 = wc := ⟨_, rfl⟩
      obtain ⟨b13, hb13⟩ : ∃ b13, b13 = W5.heap.size := ⟨_, rfl⟩
      rw [← hW6, ← hb13] at N6
      rw [← hW6] at E6 ⊢
      rw [← hb13]
      have hne : n.ents = [] := by rw [HN.out]; rfl
      have hnd : n.data.length ≤ 2000 := by rw [HN.out]; show (if it.kind = 1 then [] else it.data).length ≤ 2000; split; simp; exact hd
      have EW6 : Ext w W6 := EW.trans ((E4.trans E5).trans E6)
      have hnok : NodeOk W6 B n none 0 := (NodeOk.zero W6 B).same hne
      have s45 := E4.size
      have s56 := E5.size
      have s01 := EW.size
      have s67 := E6.size
      have hb13w : w.heap.size ≤ b13 := by omega
      have B6 := B5.ext E6
      have D6 := D5.ext E6
      have hlg := h.1.lt
      have hlf := h.2.lt
      have HNE := Lib.hid hne
      clear hW6 k1 i2 i3 i4 i5 i6 hb13 zb zd hne
      obtain ⟨x0, x1, x2, x3, x4, x5, x6, x7, x8, x9, x10, x11⟩ := N6.node12
      have xz6 := N6.lt
      go_wp2_with fail
      refine (pmake_any B g S n none 0 _ (h.1.ext EW6) hnok hG.roots hd0 hd8 hG.nos (by omega) (by omega) (by omega)).mono ?_
      rintro e w7 ⟨rfl, K7, O7⟩
      have F7 := FAt.byW (h.2.ext EW6) (h.1.ext EW6) O7
      have N7 := O7.has N6 (by simp; omega)
      have B7 := O7.has B6 (by simp; omega)
      have D7 := O7.has D6 (by simp; omega)
      have ok7 : NodeOk w7 B m A c := (ok5.ext E6).only O7 (h.1.ext EW6).apart
      have hnok7 : NodeOk w7 B n none 0 := (NodeOk.zero w7 B).same HNE.out
      clear x0 x1 x2 x3 x4 x5 x6 x7 x8 x9 x10 x11
      obtain ⟨x0, x1, x2, x3, x4, x5, x6, x7, x8, x9, x10, x11⟩ := N7.node12
      have xz7 := N7.lt
      obtain ⟨p, hp⟩ : ∃ p, p = makeN S n := ⟨_, rfl⟩
      obtain ⟨q, hq⟩ : ∃ q, q = makeE S n := ⟨_, rfl⟩
      rw [← hp, ← hq]
      have HP := Lib.hid hp
      have HQ := Lib.hid hq
      clear hp hq
      go_wp2_with fail
      refine (rmake_any B f S X n none 0 _ F7 (by omega) hnok7 hG.roots hd8 hG.nos (by omega) (by omega) (by omega)).mono ?_
      rintro e w8 ⟨he, bN, F8, O8, f8⟩
      rw [← HP.out, ← HQ.out] at he
      subst he
      have K8 := WAt.byF K7 F7 O8
      have s78 := O7.size
      have s88 := O8.size
      have B8 := O8.has B7 (by simp; omega)
      have D8 := O8.has D7 (by simp; omega)
      have ok8 := ok7.only O8 F7.apart
      have O68 : Only (g.list ++ f.list) w w8 := (Only.pre EW6 (O7.mono (by simp))).then (O8.mono (by simp))
      have hon8 : GhF.on ⟨f.bF, bN, f.bE⟩ f w := by
        refine ⟨rfl, fun b hb => ?_⟩
        simp only [GhF.list, List.mem_cons, List.not_mem_nil, or_false] at hb ⊢
        rcases hb with rfl | rfl | rfl
        · simp
        · rcases f8 with f8 | f8
          · simp [f8]
          · right; omega
        · simp
      clear x0 x1 x2 x3 x4 x5 x6 x7 x8 x9 x10 x11
      by_cases hz : q = 0
      · have hzb : (q == 0) = true := by simpa using hz
        have hE0 : makeE S n = 0 := by rw [← HQ.out]; exact hz
        have hgr3 : Hid (growT S it = setT (makeT S n) { m with ents := putF m.ents (it.name, S.last + 1) }) := by show _ = _; rw [hgr2.out, if_pos hE0]
        have hG2 : Good (makeT S n) := good_make hG HNE.out
        have hlast2 := makeT_last hE0
        have hp1 : p = S.last + 1 := by rw [HP.out]; unfold makeN; rw [if_pos hE0]
        have hin2 : isN (makeT S n).nodes a = true := by
          unfold makeT; rw [if_pos hE0]; exact isN_append HIN.out _
        have HIN2 := Lib.hid hin2
        have HE0 := Lib.hid hE0
        have HL2 := Lib.hid hlast2
        have hlen2 : (makeT S n).nodes.length ≤ 1001 := by have := hG2.count; omega
        have hl20 : (0 : Int) ≤ (makeT S n).last := by omega
        have hl21 : (makeT S n).last ≤ 1000000 := by omega
        have k11 : w8.cell? ⟨b12, 11, none⟩ = some (.slice A m.ents.length c) := D8.cell 11
        have i1 : w8.cell? ⟨w.heap.size, 1, none⟩ = some (.string (bs it.name)) := B8.cell 1
        have zb8 := B8.lt
        have zd8 := D8.lt
        subst hp1
        clear hz hE0 hin2 hlast2
        go_wp2_with fail
        refine (rput_any A m.ents c (it.name, S.last + 1) _ ok8.ents.ents (by omega)).mono ?_
        rintro e w9 ⟨v, rfl, ho9, E9⟩
        obtain ⟨A9, c9, rfl, hle9, hmx9, ht9, hn9⟩ := OwnE.entsT (B := B) ho9
        have D9 := D8.ext E9
        obtain ⟨L, hL⟩ : ∃ L, L = putF m.ents (it.name, S.last + 1) := ⟨_, rfl⟩
        rw [← hL] at hle9 ht9 hgr3 ⊢
        have HLL := Lib.hid hL
        clear hL ho9 k11 i1
        obtain ⟨d', hd'⟩ : ∃ d' : NodeD, d' = { m with ents := L } := ⟨_, rfl⟩
        obtain ⟨V, hV⟩ : ∃ V, V = w9.setCell ⟨b12, 11, none⟩ (.slice A9 L.length c9) := ⟨_, rfl⟩
        have DV : Has V b12 (.cells #[.int .i64 (d').no, .int .i64 (d').dev, .int .i64 (d').kind, .int .i64 (d').mode, .int .i64 (d').uid, .int .i64 (d').gid, .int .i64 (d').mtime, .int .i64 (d').ctime, .int .i64 (d').links, .int .i64 (d').up, .string (bs (d').data), .slice A9 (d').ents.length c9] 100) := by
          rw [hV, hd']
          have := D9.setCell 11 (.slice A9 L.length c9)
          exact this
        have OV : Only [b12] w9 V := by rw [hV]; exact Only.setCell w9 b12 11 _
        have s9 := E9.size
        have zd7 := D7.lt
        have hbB : B ≤ w.heap.size := by have := h.1.1; omega
        have haV : Apart w9 B [b12] := by
          intro b hb
          rw [List.mem_singleton] at hb
          subst hb
          exact ⟨by omega, D9.noTag (by decide)⟩
        have okV : NodeOk V B d' A9 c9 := (show NodeOk w9 B d' A9 c9 from ⟨by rw [hd']; exact ht9, by rw [hd']; exact hle9, hmx9, hn9⟩).only OV haV
        have FV : FAt V B ⟨f.bF, bN, f.bE⟩ (makeT S n) X := (F8.ext E9).only OV haV (by
          intro b hb
          simp only [GhF.list, List.mem_cons, List.not_mem_nil, or_false] at hb
          rw [List.mem_singleton]
          rcases hb with rfl | rfl | rfl
          · omega
          · rcases f8 with f8 | f8 <;> omega
          · omega)
        have KV : WAt V B g (makeT S n) := (K8.ext E9).only OV haV (by
          intro b hb
          simp only [GhW.list, List.mem_cons, List.not_mem_nil, or_false] at hb
          rw [List.mem_singleton]
          rcases hb with rfl | rfl | rfl | rfl <;> omega)
        have OwV : Only (g.list ++ f.list) w V := (O68.ext E9).trans OV (by intro b hb; rw [List.mem_singleton] at hb; right; omega)
        have HV := Lib.hid hV
        have HD' := Lib.hid hd'
        have hdno : d'.no = a := by rw [hd']; exact HNO.out
        have HDN := Lib.hid hdno
        obtain ⟨x0, x1, x2, x3, x4, x5, x6, x7, x8, x9, x10, x11⟩ := DV.node12
        have zV := DV.lt
        have k11' : w9.cell? ⟨b12, 11, none⟩ = some (.slice A m.ents.length c) := D9.cell 11
        have f11 : w9.frozen? ⟨b12, 11, none⟩ = false := D9.free 11
        have zd9 := D9.lt
        clear hV hd' hdno
        go_upto_region 19 with fail
        rw [← HV.out]
        clear k11' f11 zd9
        go_wp2_with fail
        refine (rset_any B ⟨f.bF, bN, f.bE⟩ (makeT S n) X d' A9 c9 _ FV (by omega) hG2.nos okV).mono ?_
        rintro e w10 ⟨rfl, F10, O10⟩
        have K10 := WAt.byF KV FV O10
        have DVn : b12 ∉ ([f.bF, bN, f.bE] : List Nat) := by
          simp only [List.mem_cons, List.not_mem_nil, or_false, not_or]
          refine ⟨by omega, ?_, by omega⟩
          rcases f8 with f8 | f8 <;> omega
        have D10 := O10.has DV DVn
        have ok10 : NodeOk w10 B d' A9 c9 := okV.only O10 FV.apart
        clear x0 x1 x2 x3 x4 x5 x6 x7 x8 x9 x10 x11 zV
        obtain ⟨hb1, hT, cd, hW10, hR10⟩ := K10
        have v0 : w10.cell? ⟨g.bW, 0, none⟩ = some (.pointer (some ⟨g.bT, 0, none⟩)) := hW10.cell 0
        have vz := hW10.lt
        obtain ⟨x0, x1, x2, x3, x4, x5, x6, x7, x8, x9, x10, x11⟩ := D10.node12
        have zD := D10.lt
        have K10 : WAt w10 B g (makeT S n) := ⟨hb1, hT, cd, hW10, hR10⟩
        go_upto_region 20 with fail
        go_still_tail 5, (by kernel_rfl)
        change wpList _ _ _ _ _ w10.drew
        go_wp2_with fail
        have E10 : Ext w10 w10.drew := (Ext.refl _).drew
        refine (tset_any B g.bT g.bM (makeT S n).nodes (makeT S n).last d' A9 c9 _ (hT.ext E10) hG2.nos (ok10.ext E10)).mono ?_
        rintro e w11 ⟨he, T11, O11⟩
        rw [HDN.out, HIN2.out] at he
        subst he
        have F11 : FAt w11 B ⟨f.bF, bN, f.bE⟩ (setT (makeT S n) d') X := FAt.byW (F10.ext E10) (K10.ext E10) (O11.mono (by simp))
        have K11 : WAt w11 B g (setT (makeT S n) d') := WAt.table (K10.ext E10) O11 T11
        go_wp2_with fail
        go_ret
        have eg : growT S it = setT (makeT S n) d' := by rw [hgr3.out, HD'.out]
        refine ⟨rfl, g, ⟨f.bF, bN, f.bE⟩, ⟨by rw [eg]; exact K11, by rw [eg]; exact F11⟩, ?_, GhW.on_refl g w, hon8⟩
        refine ((OwV.trans O10 ?_).ext E10).then (O11.mono (by simp))
        intro b hb
        simp only [GhF.list, List.mem_cons, List.not_mem_nil, or_false] at hb
        rcases hb with rfl | rfl | rfl
        · left; simp
        · rcases f8 with f8 | f8
          · left; simp [f8]
          · right; omega
        · left; simp
      · have hzb : (q == 0) = false := by simpa using hz
        have hE0 : ¬ makeE S n = 0 := by rw [← HQ.out]; exact hz
        have hgr3 : Hid (growT S it = S) := by show _ = _; rw [hgr2.out, if_neg hE0]
        have hmt : Hid (makeT S n = S) := by show _ = _; unfold makeT; rw [if_neg hE0]
        clear hz hE0
        go_wp2_with fail
        go_ret
        rw [hmt.out] at K8 F8
        exact ⟨rfl, g, ⟨f.bF, bN, f.bE⟩, ⟨by rw [hgr3.out]; exact K8, by rw [hgr3.out]; exact F8⟩, O68, GhW.on_refl g w, hon8⟩
end Go.Proofs.Ytebghednhjaniaa

namespace Go.Proofs.Ytebghednhjaniaa
open Go.ChangeShapes Go.WideShapes Go.ChangeAt Go.RowKit

abbrev firstT (b n : Int) : TreeD := rootT emptyT 0 b n
def GrowAllR (w : World) (b n : Int) (l : List ItemD) (e : Ending) (w' : World) : Prop :=
  ∃ g f, e = .returned (.tuple #[.pointer (some ⟨g.bW, 0, none⟩), .pointer (some ⟨f.bF, 0, none⟩), .bool true]) ∧ Two w' w.heap.size g f (growAll (firstT b n) l) x0 ∧ Ext w w'
theorem two_after {w0 w w' : World} {g : GhW} {f : GhF} {S : TreeD} {X : Xtra} (h : Two w w0.heap.size g f S X) (o : Only (g.list ++ f.list) w w') (hE : Ext w0 w) : Ext w0 w' := by
  refine o.after hE fun b hb => ?_
  rcases List.mem_append.1 hb with hb | hb
  · exact (h.1.apart b hb).1
  · exact (h.2.apart b hb).1
set_option maxRecDepth 100000 in
set_option maxHeartbeats 8000000 in
theorem growAll_any (b n : Int) (A : Option Addr) (l : List ItemD) (cap : Nat) (w : World) (hlim : limitsF b n = true) (hf : FewI l) (hA : ItemsAt w A l) :
    Calls Try.prog 19 #[.int .i64 b, .int .i64 n, .slice A l.length cap] w (GrowAllR w b n l) := by
  have hg1 := good_first hlim
  have hl40 := hf.2
  obtain ⟨S0, hS0⟩ : ∃ S0, S0 = firstT b n := ⟨_, rfl⟩
  have hlast : S0.last = 1 := by rw [hS0]; rfl
  have HS := Lib.hid hS0
  go_enter Try.func19, Try.ntmps19
  go_wp2_with fail
  refine (pnew_any w.heap.size b n w (Nat.le_refl _) hlim).mono ?_
  rintro e w1 ⟨g1, rfl, K1, b1⟩
  go_wp2_with fail
  refine (rnew_any w.heap.size b n w1 b1.size hlim).mono ?_
  rintro e w2 ⟨f1, rfl, F2, b2⟩
  have K2 := K1.ext b2
  have E2 := b1.trans b2
  rw [show rootT emptyT 0 b n = S0 from hS0.symm] at F2 K2
  rw [show rootT emptyT 0 b n = S0 from hS0.symm] at hg1
  have c2 : w2.cell? ⟨f1.bF, 2, none⟩ = some (.int .i64 1) := by obtain ⟨_, cn, ce, k, _⟩ := F2; rw [← hlast]; exact k.cell 2
  have zF := F2.lt.1
  obtain ⟨m, hm⟩ : ∃ m, m = l.length := ⟨_, rfl⟩
  rw [← hm]
  have HN := Lib.hid hm
  have HL := Lib.hid hlast
  clear hS0 hm hlast
  go_wp2_with fail
  go_loopw [12] (fun i wr => ∃ k : Nat, k ≤ m ∧ i = .int .i64 k ∧ ∃ g f, g.bW = g1.bW ∧ f.bF = f1.bF ∧ Two wr w.heap.size g f (growAll S0 (l.take k)) x0 ∧ Ext w wr) (fun i _ => m - (intOf i).toNat)
  case atStart => exact ⟨0, Nat.zero_le _, rfl, g1, f1, rfl, rfl, ⟨K2, F2⟩, E2⟩
  case round =>
    obtain ⟨k, hk, rfl, g, f, hgW, hfF, hTwo, hE⟩ := hrel
    by_cases hlt : (k : Int) < m
    · have hkl : k < l.length := by have := HN.out; omega
      obtain ⟨bI, o, rfl, hbw, i0, i1, i2, i3, i4, i5, i6, i7⟩ := hA.at_ hE k hkl
      have hsn : Hid (growAll S0 (l.take (k + 1)) = growT (growAll S0 (l.take k)) l[k]) := growAll_snoc hkl
      have hsh := hf.1 _ (List.getElem_mem hkl)
      obtain ⟨it, hit⟩ : ∃ it, it = l[k] := ⟨_, rfl⟩
      rw [← hit] at i0 i1 i2 i3 i4 i5 i6 i7 hsn hsh
      have hga := good_all hg1 (l.take k)
      obtain ⟨T, hT⟩ : ∃ T, T = growAll S0 (l.take k) := ⟨_, rfl⟩
      rw [← hT] at hTwo hsn hga
      have hTl : T.last ≤ 1000 := by have h1 := hga.2; have h2 := HL.out; simp only [List.length_take] at h1; omega
      have HGA := Lib.hid hga.1
      have HSH := Lib.hid hsh
      clear hit hT hga hsh c2
      go_wp2_with fail
      rw [← hgW, ← hfF]
      refine (grow_any w.heap.size g f T x0 it _ hTwo HGA.out hTl HSH.out.1 HSH.out.2).mono ?_
      rintro e w3 ⟨rfl, g', f', T3, O3, on1, on2⟩
      have hE3 := two_after hTwo O3 hE
      have hW3 : g'.bW = g1.bW := on1.1.trans hgW
      have hF3 : f'.bF = f1.bF := on2.1.trans hfF
      have HW3 := Lib.hid hW3
      have HF3 := Lib.hid hF3
      clear hW3 hF3
      rw [hgW, hfF]
      clear hgW hfF
      go_wp2_with fail
      go_roundw
      case rel => exact ⟨k + 1, by omega, by go_num, g', f', HW3.out, HF3.out, by rw [hsn.out]; exact T3, hE3⟩
      case measure => simp [intOf]; omega
    · have hkn : k = m := by omega
      have htk : Hid (l.take k = l) := by show _ = _; rw [hkn, HN.out, List.take_length]
      have HGW := Lib.hid hgW
      have HFF := Lib.hid hfF
      clear hgW hfF hkn c2
      go_wp2_with fail
      refine bodyPost_ret (v := .tuple #[.pointer (some ⟨g1.bW, 0, none⟩), .pointer (some ⟨f1.bF, 0, none⟩), .bool true]) (by simp [results, Try.results19, go_sem]) rfl ?_
      refine ⟨g, f, by rw [HGW.out, HFF.out], ?_, hE⟩
      rw [htk.out, HS.out] at hTwo
      exact hTwo
end Go.Proofs.Ytebghednhjaniaa

namespace Go.Proofs.Ytebghednhjaniaa
open Go.ChangeShapes Go.WideShapes Go.ChangeAt Go.RowKit

theorem res_cell_tmp {P : Program} {fn : Func} {p t : Tmp} {ty : TypeId} (h : fn.results = #[.cell p ty, .tmp t]) (tmps : Array Value) (w : World) (g : Nat) (tt : TypeId) (cs : Array Value) (d : TypeDesc) (v : Value)
    (hp : tmps.getD p undef = .pointer (some ⟨g, 0, none⟩)) (hv : tmps.getD t undef = v) (hg : Has w g (.cells cs tt))
    (hu : P.underlying ty = some d) (hd : (match d with | .struct _ | .array _ _ => true | _ => false) = true) (hi : (P.info? ty).map (·.size) = some cs.size) :
    (results fn tmps).run P w = .ok (.tuple #[.agg cs, v]) w := by
  have hp' : tmps[p]?.getD undef = .pointer (some ⟨g, 0, none⟩) := by simpa using hp
  have hv' : tmps[t]?.getD undef = v := by simpa using hv
  have hl := run_loadVar_row (P := P) w g tt ty cs (0, 0) d hg hu hd hi
  simp [results, h, hp', hv', asAddr, hl]
/-- A whole block, as a range that may be written. -/
theorem Has.there {w : World} {b : Nat} {C : Array Value} {t : TypeId} (h : Has w b (.cells C t)) : w.there b 0 C.size := fun j hj => by
  rw [Nat.zero_add, h.cell j, h.free j]
  refine ⟨?_, by simp⟩
  rw [Array.getElem?_eq_getElem hj]; rfl
theorem Has.range {w : World} {b : Nat} {C : Array Value} {t : TypeId} (h : Has w b (.cells C t)) : w.rangeAt b 0 C.toList := fun j v hv => by
  rw [Nat.zero_add, h.cell j]
  simpa using hv
/-- Twelve stores into a node's box. -/
theorem Has.setNode {w : World} {b : Nat} {a0 a1 a2 a3 a4 a5 a6 a7 a8 a9 a10 a11 : Value} {t : TypeId} (h : Has w b (.cells #[a0, a1, a2, a3, a4, a5, a6, a7, a8, a9, a10, a11] t)) (n : NodeD) (A : Option Addr) (c : Nat) : Has (w.setCells b 0 (nodeL n A c)) b (.cells #[.int .i64 n.no, .int .i64 n.dev, .int .i64 n.kind, .int .i64 n.mode, .int .i64 n.uid, .int .i64 n.gid, .int .i64 n.mtime, .int .i64 n.ctime, .int .i64 n.links, .int .i64 n.up, .string (bs n.data), .slice A n.ents.length c] t) := by
  have h0 : Has (w.setCell ⟨b, 0, none⟩ (.int .i64 n.no)) b (.cells #[.int .i64 n.no, a1, a2, a3, a4, a5, a6, a7, a8, a9, a10, a11] t) := by have := Has.setCell h 0 (.int .i64 n.no); simpa using this
  have h1 : Has ((w.setCell ⟨b, 0, none⟩ (.int .i64 n.no)).setCell ⟨b, 1, none⟩ (.int .i64 n.dev)) b (.cells #[.int .i64 n.no, .int .i64 n.dev, a2, a3, a4, a5, a6, a7, a8, a9, a10, a11] t) := by have := Has.setCell h0 1 (.int .i64 n.dev); simpa using this
  have h2 : Has (((w.setCell ⟨b, 0, none⟩ (.int .i64 n.no)).setCell ⟨b, 1, none⟩ (.int .i64 n.dev)).setCell ⟨b, 2, none⟩ (.int .i64 n.kind)) b (.cells #[.int .i64 n.no, .int .i64 n.dev, .int .i64 n.kind, a3, a4, a5, a6, a7, a8, a9, a10, a11] t) := by have := Has.setCell h1 2 (.int .i64 n.kind); simpa using this
  have h3 : Has ((((w.setCell ⟨b, 0, none⟩ (.int .i64 n.no)).setCell ⟨b, 1, none⟩ (.int .i64 n.dev)).setCell ⟨b, 2, none⟩ (.int .i64 n.kind)).setCell ⟨b, 3, none⟩ (.int .i64 n.mode)) b (.cells #[.int .i64 n.no, .int .i64 n.dev, .int .i64 n.kind, .int .i64 n.mode, a4, a5, a6, a7, a8, a9, a10, a11] t) := by have := Has.setCell h2 3 (.int .i64 n.mode); simpa using this
  have h4 : Has (((((w.setCell ⟨b, 0, none⟩ (.int .i64 n.no)).setCell ⟨b, 1, none⟩ (.int .i64 n.dev)).setCell ⟨b, 2, none⟩ (.int .i64 n.kind)).setCell ⟨b, 3, none⟩ (.int .i64 n.mode)).setCell ⟨b, 4, none⟩ (.int .i64 n.uid)) b (.cells #[.int .i64 n.no, .int .i64 n.dev, .int .i64 n.kind, .int .i64 n.mode, .int .i64 n.uid, a5, a6, a7, a8, a9, a10, a11] t) := by have := Has.setCell h3 4 (.int .i64 n.uid); simpa using this
  have h5 : Has ((((((w.setCell ⟨b, 0, none⟩ (.int .i64 n.no)).setCell ⟨b, 1, none⟩ (.int .i64 n.dev)).setCell ⟨b, 2, none⟩ (.int .i64 n.kind)).setCell ⟨b, 3, none⟩ (.int .i64 n.mode)).setCell ⟨b, 4, none⟩ (.int .i64 n.uid)).setCell ⟨b, 5, none⟩ (.int .i64 n.gid)) b (.cells #[.int .i64 n.no, .int .i64 n.dev, .int .i64 n.kind, .int .i64 n.mode, .int .i64 n.uid, .int .i64 n.gid, a6, a7, a8, a9, a10, a11] t) := by have := Has.setCell h4 5 (.int .i64 n.gid); simpa using this
  have h6 : Has (((((((w.setCell ⟨b, 0, none⟩ (.int .i64 n.no)).setCell ⟨b, 1, none⟩ (.int .i64 n.dev)).setCell ⟨b, 2, none⟩ (.int .i64 n.kind)).setCell ⟨b, 3, none⟩ (.int .i64 n.mode)).setCell ⟨b, 4, none⟩ (.int .i64 n.uid)).setCell ⟨b, 5, none⟩ (.int .i64 n.gid)).setCell ⟨b, 6, none⟩ (.int .i64 n.mtime)) b (.cells #[.int .i64 n.no, .int .i64 n.dev, .int .i64 n.kind, .int .i64 n.mode, .int .i64 n.uid, .int .i64 n.gid, .int .i64 n.mtime, a7, a8, a9, a10, a11] t) := by have := Has.setCell h5 6 (.int .i64 n.mtime); simpa using this
  have h7 : Has ((((((((w.setCell ⟨b, 0, none⟩ (.int .i64 n.no)).setCell ⟨b, 1, none⟩ (.int .i64 n.dev)).setCell ⟨b, 2, none⟩ (.int .i64 n.kind)).setCell ⟨b, 3, none⟩ (.int .i64 n.mode)).setCell ⟨b, 4, none⟩ (.int .i64 n.uid)).setCell ⟨b, 5, none⟩ (.int .i64 n.gid)).setCell ⟨b, 6, none⟩ (.int .i64 n.mtime)).setCell ⟨b, 7, none⟩ (.int .i64 n.ctime)) b (.cells #[.int .i64 n.no, .int .i64 n.dev, .int .i64 n.kind, .int .i64 n.mode, .int .i64 n.uid, .int .i64 n.gid, .int .i64 n.mtime, .int .i64 n.ctime, a8, a9, a10, a11] t) := by have := Has.setCell h6 7 (.int .i64 n.ctime); simpa using this
  have h8 : Has (((((((((w.setCell ⟨b, 0, none⟩ (.int .i64 n.no)).setCell ⟨b, 1, none⟩ (.int .i64 n.dev)).setCell ⟨b, 2, none⟩ (.int .i64 n.kind)).setCell ⟨b, 3, none⟩ (.int .i64 n.mode)).setCell ⟨b, 4, none⟩ (.int .i64 n.uid)).setCell ⟨b, 5, none⟩ (.int .i64 n.gid)).setCell ⟨b, 6, none⟩ (.int .i64 n.mtime)).setCell ⟨b, 7, none⟩ (.int .i64 n.ctime)).setCell ⟨b, 8, none⟩ (.int .i64 n.links)) b (.cells #[.int .i64 n.no, .int .i64 n.dev, .int .i64 n.kind, .int .i64 n.mode, .int .i64 n.uid, .int .i64 n.gid, .int .i64 n.mtime, .int .i64 n.ctime, .int .i64 n.links, a9, a10, a11] t) := by have := Has.setCell h7 8 (.int .i64 n.links); simpa using this
  have h9 : Has ((((((((((w.setCell ⟨b, 0, none⟩ (.int .i64 n.no)).setCell ⟨b, 1, none⟩ (.int .i64 n.dev)).setCell ⟨b, 2, none⟩ (.int .i64 n.kind)).setCell ⟨b, 3, none⟩ (.int .i64 n.mode)).setCell ⟨b, 4, none⟩ (.int .i64 n.uid)).setCell ⟨b, 5, none⟩ (.int .i64 n.gid)).setCell ⟨b, 6, none⟩ (.int .i64 n.mtime)).setCell ⟨b, 7, none⟩ (.int .i64 n.ctime)).setCell ⟨b, 8, none⟩ (.int .i64 n.links)).setCell ⟨b, 9, none⟩ (.int .i64 n.up)) b (.cells #[.int .i64 n.no, .int .i64 n.dev, .int .i64 n.kind, .int .i64 n.mode, .int .i64 n.uid, .int .i64 n.gid, .int .i64 n.mtime, .int .i64 n.ctime, .int .i64 n.links, .int .i64 n.up, a10, a11] t) := by have := Has.setCell h8 9 (.int .i64 n.up); simpa using this
  have h10 : Has (((((((((((w.setCell ⟨b, 0, none⟩ (.int .i64 n.no)).setCell ⟨b, 1, none⟩ (.int .i64 n.dev)).setCell ⟨b, 2, none⟩ (.int .i64 n.kind)).setCell ⟨b, 3, none⟩ (.int .i64 n.mode)).setCell ⟨b, 4, none⟩ (.int .i64 n.uid)).setCell ⟨b, 5, none⟩ (.int .i64 n.gid)).setCell ⟨b, 6, none⟩ (.int .i64 n.mtime)).setCell ⟨b, 7, none⟩ (.int .i64 n.ctime)).setCell ⟨b, 8, none⟩ (.int .i64 n.links)).setCell ⟨b, 9, none⟩ (.int .i64 n.up)).setCell ⟨b, 10, none⟩ (.string (bs n.data))) b (.cells #[.int .i64 n.no, .int .i64 n.dev, .int .i64 n.kind, .int .i64 n.mode, .int .i64 n.uid, .int .i64 n.gid, .int .i64 n.mtime, .int .i64 n.ctime, .int .i64 n.links, .int .i64 n.up, .string (bs n.data), a11] t) := by have := Has.setCell h9 10 (.string (bs n.data)); simpa using this
  have h11 : Has ((((((((((((w.setCell ⟨b, 0, none⟩ (.int .i64 n.no)).setCell ⟨b, 1, none⟩ (.int .i64 n.dev)).setCell ⟨b, 2, none⟩ (.int .i64 n.kind)).setCell ⟨b, 3, none⟩ (.int .i64 n.mode)).setCell ⟨b, 4, none⟩ (.int .i64 n.uid)).setCell ⟨b, 5, none⟩ (.int .i64 n.gid)).setCell ⟨b, 6, none⟩ (.int .i64 n.mtime)).setCell ⟨b, 7, none⟩ (.int .i64 n.ctime)).setCell ⟨b, 8, none⟩ (.int .i64 n.links)).setCell ⟨b, 9, none⟩ (.int .i64 n.up)).setCell ⟨b, 10, none⟩ (.string (bs n.data))).setCell ⟨b, 11, none⟩ (.slice A n.ents.length c)) b (.cells #[.int .i64 n.no, .int .i64 n.dev, .int .i64 n.kind, .int .i64 n.mode, .int .i64 n.uid, .int .i64 n.gid, .int .i64 n.mtime, .int .i64 n.ctime, .int .i64 n.links, .int .i64 n.up, .string (bs n.data), .slice A n.ents.length c] t) := by have := Has.setCell h10 11 (.slice A n.ents.length c); simpa using this
  exact h11
/-- A node's box, into which another node is put. -/
theorem Has.putNode {w : World} {b : Nat} {n : NodeD} {A : Option Addr} {c : Nat} {t : TypeId} (h : Has w b (.cells #[.int .i64 n.no, .int .i64 n.dev, .int .i64 n.kind, .int .i64 n.mode, .int .i64 n.uid, .int .i64 n.gid, .int .i64 n.mtime, .int .i64 n.ctime, .int .i64 n.links, .int .i64 n.up, .string (bs n.data), .slice A n.ents.length c] t)) (m : NodeD) (A' : Option Addr) (c' : Nat) : Has (w.setCells b 0 (nodeL m A' c')) b (.cells #[.int .i64 m.no, .int .i64 m.dev, .int .i64 m.kind, .int .i64 m.mode, .int .i64 m.uid, .int .i64 m.gid, .int .i64 m.mtime, .int .i64 m.ctime, .int .i64 m.links, .int .i64 m.up, .string (bs m.data), .slice A' m.ents.length c'] t) := h.setNode m A' c'
theorem Ext.setCells {a w : World} (h : Ext a w) {b o : Nat} (hb : a.heap.size ≤ b) (vs : List Value) : Ext a (w.setCells b o vs) :=
  (only_setCells (g := b) vs o w).after h (by intro x hx; rw [List.mem_singleton] at hx; omega)
theorem node_all (n : NodeD) (A : Option Addr) (c : Nat) : (#[.int .i64 n.no, .int .i64 n.dev, .int .i64 n.kind, .int .i64 n.mode, .int .i64 n.uid, .int .i64 n.gid, .int .i64 n.mtime, .int .i64 n.ctime, .int .i64 n.links, .int .i64 n.up, .string (bs n.data), .slice A n.ents.length c] : Array Value).all (·.oneCell') = true := all_oneCell_toArray (nodeL_one n A c)
theorem infoNode12 : (Try.prog.info? 100).map (·.size) = some 12 := by kernel_rfl
/-- A whole node goes into a node's box: the box holds it behind, and nothing else has changed. -/
theorem wpList_store_node {ops : Array Oper} {rest : List Oper} {op : Oper} {a : Act} {w : World} {Q : Exit → Act → World → Prop} (hgd : op.guard = none) (x y : Operand) (ho : op.op = .store 100 x y)
    (b : Nat) (n : NodeD) (A : Option Addr) (c : Nat) (hx : a.eval x = .pointer (some ⟨b, 0, none⟩)) (hy : a.eval y = .agg #[.int .i64 n.no, .int .i64 n.dev, .int .i64 n.kind, .int .i64 n.mode, .int .i64 n.uid, .int .i64 n.gid, .int .i64 n.mtime, .int .i64 n.ctime, .int .i64 n.links, .int .i64 n.up, .string (bs n.data), .slice A n.ents.length c]) {m : NodeD} {A' : Option Addr} {c' : Nat} (hb : Has w b (.cells #[.int .i64 m.no, .int .i64 m.dev, .int .i64 m.kind, .int .i64 m.mode, .int .i64 m.uid, .int .i64 m.gid, .int .i64 m.mtime, .int .i64 m.ctime, .int .i64 m.links, .int .i64 m.up, .string (bs m.data), .slice A' m.ents.length c'] 100))
    (h : ∀ w', Has w' b (.cells #[.int .i64 n.no, .int .i64 n.dev, .int .i64 n.kind, .int .i64 n.mode, .int .i64 n.uid, .int .i64 n.gid, .int .i64 n.mtime, .int .i64 n.ctime, .int .i64 n.links, .int .i64 n.up, .string (bs n.data), .slice A n.ents.length c] 100) → Only [b] w w' → wpList Try.prog ops Q rest (a.put op.dst undef) w') : wpList Try.prog ops Q (op :: rest) a w := by
  refine wpList_store_mid hgd 100 x y ho b 0 #[.int .i64 n.no, .int .i64 n.dev, .int .i64 n.kind, .int .i64 n.mode, .int .i64 n.uid, .int .i64 n.gid, .int .i64 n.mtime, .int .i64 n.ctime, .int .i64 n.links, .int .i64 n.up, .string (bs n.data), .slice A n.ents.length c] hx hy hb.there infoNode12 (node_all n A c) ?_
  exact h _ (hb.putNode n A c) (only_setCells (nodeL n A c) 0 w)
/-- A node is read out of its box. -/
theorem wpList_load_node {ops : Array Oper} {rest : List Oper} {op : Oper} {a : Act} {w : World} {Q : Exit → Act → World → Prop} (hgd : op.guard = none) (x : Operand) (ho : op.op = .load 100 x)
    (b : Nat) (n : NodeD) (A : Option Addr) (c : Nat) (hx : a.eval x = .pointer (some ⟨b, 0, none⟩)) (hb : Has w b (.cells #[.int .i64 n.no, .int .i64 n.dev, .int .i64 n.kind, .int .i64 n.mode, .int .i64 n.uid, .int .i64 n.gid, .int .i64 n.mtime, .int .i64 n.ctime, .int .i64 n.links, .int .i64 n.up, .string (bs n.data), .slice A n.ents.length c] 100))
    (h : wpList Try.prog ops Q rest (a.put op.dst (.agg #[.int .i64 n.no, .int .i64 n.dev, .int .i64 n.kind, .int .i64 n.mode, .int .i64 n.uid, .int .i64 n.gid, .int .i64 n.mtime, .int .i64 n.ctime, .int .i64 n.links, .int .i64 n.up, .string (bs n.data), .slice A n.ents.length c])) w) : wpList Try.prog ops Q (op :: rest) a w :=
  wpList_load_mid hgd 100 x ho b 0 hx [.int .i64 n.no, .int .i64 n.dev, .int .i64 n.kind, .int .i64 n.mode, .int .i64 n.uid, .int .i64 n.gid, .int .i64 n.mtime, .int .i64 n.ctime, .int .i64 n.links, .int .i64 n.up, .string (bs n.data), .slice A n.ents.length c] _ hb.range Try.underlying100 rfl infoNode12 h
/-- The result: a node in a box, a number beside it. -/
theorem res_node {fn : Func} {p t : Tmp} (h : fn.results = #[.cell p 100, .tmp t]) (tmps : Array Value) (w : World) (g : Nat) (n : NodeD) (A : Option Addr) (c : Nat) (v : Value)
    (hp : tmps.getD p undef = .pointer (some ⟨g, 0, none⟩)) (hv : tmps.getD t undef = v) (hg : Has w g (.cells #[.int .i64 n.no, .int .i64 n.dev, .int .i64 n.kind, .int .i64 n.mode, .int .i64 n.uid, .int .i64 n.gid, .int .i64 n.mtime, .int .i64 n.ctime, .int .i64 n.links, .int .i64 n.up, .string (bs n.data), .slice A n.ents.length c] 100)) :
    (results fn tmps).run Try.prog w = .ok (.tuple #[.agg #[.int .i64 n.no, .int .i64 n.dev, .int .i64 n.kind, .int .i64 n.mode, .int .i64 n.uid, .int .i64 n.gid, .int .i64 n.mtime, .int .i64 n.ctime, .int .i64 n.links, .int .i64 n.up, .string (bs n.data), .slice A n.ents.length c], v]) w :=
  res_cell_tmp h tmps w g 100 _ _ v hp hv hg Try.underlying100 rfl infoNode12
end Go.Proofs.Ytebghednhjaniaa

namespace Go.Proofs.Ytebghednhjaniaa
open Go.ChangeShapes Go.WideShapes Go.ChangeAt Go.RowKit

def bitOn (m : Int) (i : Nat) : Bool := m / 2 ^ i % 2 == 1
theorem bit_and (mode : Int) (i : Nat) : (bits BinOp.and IntKind.i64 (mode / 2 ^ i) 1 == 1) = bitOn mode i := by rw [and_1]; rfl
theorem sticky_and (mode : Int) : (bits BinOp.and IntKind.i64 mode 512 != 0) = bitOn mode 9 := by
  rw [and_512]; unfold bitOn
  have h : mode / 512 % 2 = 0 ∨ mode / 512 % 2 = 1 := by omega
  rcases h with h | h <;> simp [h]

/-- All wanted bits of three are there. -/
def hasW (m want : Int) : Bool := bits .and .i64 (bits .and .i64 m want) 7 == bits .and .i64 want 7
def part (u g uid gid mode : Int) : Int := if u = uid then mode / 64 else if g = gid then mode / 8 else mode
def mayB (u g uid gid mode want : Int) : Bool := if u = 0 then true else hasW (part u g uid gid mode) want
theorem mayB_0 (g uid gid mode want : Int) {u : Int} (h : u = 0) : mayB u g uid gid mode want = true := by unfold mayB; rw [if_pos h]
theorem mayB_1 (g gid mode want : Int) {u uid : Int} (h : ¬ u = 0) (h1 : u = uid) : mayB u g uid gid mode want = hasW (mode / 64) want := by unfold mayB part; rw [if_neg h, if_pos h1]
theorem mayB_2 (mode want : Int) {u g uid gid : Int} (h : ¬ u = 0) (h1 : ¬ u = uid) (h2 : g = gid) : mayB u g uid gid mode want = hasW (mode / 8) want := by unfold mayB part; rw [if_neg h, if_neg h1, if_pos h2]
theorem mayB_3 (mode want : Int) {u g uid gid : Int} (h : ¬ u = 0) (h1 : ¬ u = uid) (h2 : ¬ g = gid) : mayB u g uid gid mode want = hasW mode want := by unfold mayB part; rw [if_neg h, if_neg h1, if_neg h2]

set_option maxHeartbeats 400000 in
theorem may_any (u g uid gid mode want : Int) (w : World) :
    Calls Try.prog 178 #[.agg #[.int .i64 u, .int .i64 g], .int .i64 uid, .int .i64 gid, .int .i64 mode, .int .i64 want] w (Ret w (.bool (mayB u g uid gid mode want))) := by
  by_cases h0 : u = 0
  · have hfin := Lib.hid (mayB_0 g uid gid mode want h0)
    have b0 : (u == 0) = true := beq_iff_eq.2 h0
    clear h0
    go_enter Try.func178, Try.ntmps178
    go_wp2_with fail
    go_ret
    exact Ret.mk (by rw [hfin.out]; rfl) ((Ext.refl _).alloc _)
  · have b0 : (u == 0) = false := beq_eq_false_iff_ne.2 h0
    by_cases h1 : u = uid
    · have hfin := Lib.hid (mayB_1 g gid mode want h0 h1)
      have b1 : (u == uid) = true := beq_iff_eq.2 h1
      clear h0 h1
      go_enter Try.func178, Try.ntmps178
      go_wp2_with fail
      go_ret
      exact Ret.mk (by rw [hfin.out]; rfl) ((Ext.refl _).alloc _)
    · have b1 : (u == uid) = false := beq_eq_false_iff_ne.2 h1
      by_cases h2 : g = gid
      · have hfin := Lib.hid (mayB_2 mode want h0 h1 h2)
        have b2 : (g == gid) = true := beq_iff_eq.2 h2
        clear h0 h1 h2
        go_enter Try.func178, Try.ntmps178
        go_wp2_with fail
        go_ret
        exact Ret.mk (by rw [hfin.out]; rfl) ((Ext.refl _).alloc _)
      · have hfin := Lib.hid (mayB_3 mode want h0 h1 h2)
        have b2 : (g == gid) = false := beq_eq_false_iff_ne.2 h2
        clear h0 h1 h2
        go_enter Try.func178, Try.ntmps178
        go_wp2_with fail
        go_ret
        exact Ret.mk (by rw [hfin.out]; rfl) ((Ext.refl _).alloc _)


/-! ### Bits, plain. -/
theorem bitOn_nat (x : Int) (i : Nat) (hi : i ≤ 2) : bitOn x i = ((x % 18446744073709551616).toNat).testBit i := by
  have : i = 0 ∨ i = 1 ∨ i = 2 := by omega
  rw [Nat.testBit_eq_decide_div_mod_eq]
  unfold bitOn
  rcases this with rfl | rfl | rfl <;> rw [Bool.eq_iff_iff, beq_iff_eq, decide_eq_true_iff] <;> omega
theorem mod8_bits (x : Int) : x % 8 = (if bitOn x 0 = true then 1 else 0) + (if bitOn x 1 = true then 2 else 0) + (if bitOn x 2 = true then 4 else 0) := by
  unfold bitOn
  simp only [beq_iff_eq]
  split <;> split <;> split <;> omega
theorem wrap_mod (n : Nat) (h : n < 2 ^ 64) : ((((n : Int) + 9223372036854775808) % 18446744073709551616 - 9223372036854775808) % 18446744073709551616).toNat = n := by omega
theorem bitOn_and (x y : Int) (i : Nat) (hi : i ≤ 2) : bitOn (bits .and .i64 x y) i = (bitOn x i && bitOn y i) := by
  have h : bits .and .i64 x y = IntKind.i64.wrap ((BitVec.ofInt 64 x &&& BitVec.ofInt 64 y).toNat : Int) := rfl
  rw [h, IntKind.wrap_i64, bitOn_nat _ i hi, bitOn_nat x i hi, bitOn_nat y i hi, ← Nat.testBit_and, ← ofInt_toNat, ← ofInt_toNat x, ← ofInt_toNat y, ← BitVec.toNat_and]
  rw [ofInt_toNat, wrap_mod _ (BitVec.ofInt 64 x &&& BitVec.ofInt 64 y).isLt]
theorem bitOn_or (x y : Int) (i : Nat) (hi : i ≤ 2) : bitOn (bits .or .i64 x y) i = (bitOn x i || bitOn y i) := by
  have h : bits .or .i64 x y = IntKind.i64.wrap ((BitVec.ofInt 64 x ||| BitVec.ofInt 64 y).toNat : Int) := rfl
  rw [h, IntKind.wrap_i64, bitOn_nat _ i hi, bitOn_nat x i hi, bitOn_nat y i hi, ← Nat.testBit_or, ← ofInt_toNat, ← ofInt_toNat x, ← ofInt_toNat y, ← BitVec.toNat_or]
  rw [ofInt_toNat, wrap_mod _ (BitVec.ofInt 64 x ||| BitVec.ofInt 64 y).isLt]
/-- 'hasW', bit by bit. -/
theorem has_bits (m want : Int) : hasW m want = ((!bitOn want 0 || bitOn m 0) && ((!bitOn want 1 || bitOn m 1) && (!bitOn want 2 || bitOn m 2))) := by
  unfold hasW
  rw [and_7, and_7, mod8_bits, mod8_bits want, bitOn_and _ _ 0 (by omega), bitOn_and _ _ 1 (by omega), bitOn_and _ _ 2 (by omega)]
  cases bitOn want 0 <;> cases bitOn want 1 <;> cases bitOn want 2 <;> cases bitOn m 0 <;> cases bitOn m 1 <;> cases bitOn m 2 <;> rfl
theorem bitOn_div (m : Int) (k i : Nat) : bitOn (m / 2 ^ k) i = bitOn m (k + i) := by
  unfold bitOn
  rw [Int.pow_add, Int.ediv_ediv_of_nonneg (Int.le_of_lt (Int.pow_pos (by decide)))]
theorem div_half (m : Int) (k : Nat) : m / 2 ^ k / 2 = m / 2 ^ (k + 1) := by
  rw [Int.ediv_ediv_of_nonneg (Int.le_of_lt (Int.pow_pos (by decide))), Int.pow_succ]

/-! ### The reference's Bit. -/
set_option maxHeartbeats 400000 in
theorem rbit_nat (mode : Int) (n : Nat) (w : World) (hn : n ≤ 1000) : Calls Try.prog 187 #[.int .i64 mode, .int .i64 n] w (Ret w (.bool (bitOn mode n))) := by
  go_enter Try.func187, Try.ntmps187
  go_wp2_with fail
  go_loop [0, 5] (fun m i => ∃ k : Nat, k ≤ n ∧ i = .int .i64 k ∧ m = .int .i64 (mode / 2 ^ k)) (fun _ i => n - (intOf i).toNat)
  case atStart => exact ⟨0, by omega, rfl, by simp⟩
  case round =>
    obtain ⟨k, hk, rfl, rfl⟩ := hrel
    by_cases hlt : k < n
    · have hd := Lib.hid (div_half mode k)
      go_wp2_with fail
      go_round
      case rel => exact ⟨k + 1, by omega, by go_num, by rw [← hd.out]⟩
      case measure => simp [intOf]; omega
    · obtain rfl : k = n := by omega
      have hfin := Lib.hid (bit_and mode k)
      go_wp2_with fail
      go_ret
      exact Ret.mk (by rw [hfin.out]; rfl) (Ext.refl _)
theorem rbit_any (mode at_ : Int) (w : World) (h0 : 0 ≤ at_) (h1 : at_ ≤ 1000) : Calls Try.prog 187 #[.int .i64 mode, .int .i64 at_] w (Ret w (.bool (bitOn mode at_.toNat))) := by
  obtain ⟨n, rfl⟩ := Int.eq_ofNat_of_zero_le h0
  exact rbit_nat mode n w (by omega)

/-! ### The reference's May. -/
def rhas (m want : Int) (f : Nat) (k : Nat) : Bool := (List.range k).all fun j => !bitOn want j || bitOn m (f + j)
theorem rhas_succ (m want : Int) (f k : Nat) : rhas m want f (k + 1) = (rhas m want f k && (!bitOn want k || bitOn m (f + k))) := by
  simp [rhas, List.range_succ]
theorem rhas_3 (m want : Int) (f : Nat) : rhas m want f 3 = hasW (m / 2 ^ f) want := by
  rw [has_bits, bitOn_div, bitOn_div, bitOn_div]; simp [rhas, List.range, List.range.loop]
theorem rhas_mono (m want : Int) (f : Nat) : ∀ k j, rhas m want f (k + j) = true → rhas m want f k = true
  | _, 0, h => h
  | k, j + 1, h => rhas_mono m want f k j (by rw [← Nat.add_assoc, rhas_succ] at h; simp at h; exact h.1)
def fromOf (u g uid gid : Int) : Nat := if u = uid then 6 else if g = gid then 3 else 0
theorem mayB_has (u g uid gid mode want : Int) : mayB u g uid gid mode want = (u == 0 || rhas mode want (fromOf u g uid gid) 3) := by
  rw [rhas_3]; unfold mayB part fromOf
  by_cases h0 : u = 0
  · rw [if_pos h0]; simp [h0]
  · rw [if_neg h0, beq_eq_false_iff_ne.2 h0, Bool.false_or]
    split
    · rfl
    · split <;> simp
theorem mayB_true {u g uid gid mode want : Int} (h : rhas mode want (fromOf u g uid gid) 3 = true) : mayB u g uid gid mode want = true := by rw [mayB_has, h]; simp
theorem mayB_zero {u g uid gid mode want : Int} {k : Nat} (hk : k < 3) (h : (bitOn want k && !bitOn mode (fromOf u g uid gid + k)) = true) : mayB u g uid gid mode want = (u == 0) := by
  have : rhas mode want (fromOf u g uid gid) 3 = false := by
    cases hh : rhas mode want (fromOf u g uid gid) 3 with
    | false => rfl
    | true =>
      have h1 := rhas_mono mode want (fromOf u g uid gid) (k + 1) (3 - (k + 1)) (by rw [show k + 1 + (3 - (k + 1)) = 3 from by omega]; exact hh)
      rw [rhas_succ] at h1
      simp at h1 h
      rcases h1.2 with h2 | h2
      · rw [h.1] at h2; cases h2
      · rw [h.2] at h2; cases h2
  rw [mayB_has, this]; simp

set_option maxRecDepth 100000 in
set_option maxHeartbeats 2000000 in
theorem rmay_any (u g uid gid mode want : Int) (w : World) :
    Calls Try.prog 173 #[.agg #[.int .i64 u, .int .i64 g], .int .i64 uid, .int .i64 gid, .int .i64 mode, .int .i64 want] w (Ret w (.bool (mayB u g uid gid mode want))) := by
  have A0 : Has (w.alloc (.cells #[.int .i64 u, .int .i64 g] 62)) w.heap.size (.cells #[.int .i64 u, .int .i64 g] 62) := Has.new _ _
  by_cases h1 : u = uid
  · have hfr : Hid (fromOf u g uid gid = 6) := by show _ = _; unfold fromOf; rw [if_pos h1]
    have b1 : (u == uid) = true := beq_iff_eq.2 h1
    clear h1
    go_enter Try.func173, Try.ntmps173
    go_wp2_with fail
    go_loopw [12] (fun i wr => ∃ k : Nat, k ≤ 3 ∧ i = .int .i64 k ∧ Hid (rhas mode want 6 k = true) ∧ Ext (w.alloc (.cells #[.int .i64 u, .int .i64 g] 62)) wr) (fun i _ => 3 - (intOf i).toNat)
    case atStart => exact ⟨0, by omega, rfl, rfl, Ext.refl _⟩
    case round =>
      obtain ⟨k, hk, rfl, hr, hx⟩ := hrel
      by_cases hlt : k < 3
      · go_wp2_with fail
        refine (rbit_any _ _ _ (by omega) (by omega)).mono ?_
        rintro e w1 ⟨rfl, b1⟩
        rw [Int.toNat_natCast]
        cases hw : bitOn want k with
        | false =>
          have hs : Hid (rhas mode want 6 (k + 1) = true) := by show _ = _; rw [rhas_succ, hr.out, hw]; rfl
          clear hw
          go_wp2_with fail
          go_roundw
          case rel => exact ⟨k + 1, by omega, by go_num, hs, hx.trans b1⟩
          case measure => simp [intOf]; omega
        | true =>
          have hW : Hid (bitOn want k = true) := hw
          clear hw
          go_wp2_with fail
          refine (rbit_any _ _ _ (by omega) (by omega)).mono ?_
          rintro e w2 ⟨rfl, b2⟩
          rw [show (6 + (k : Int)).toNat = 6 + k from by omega]
          cases hm : bitOn mode (6 + k) with
          | true =>
            have hs : Hid (rhas mode want 6 (k + 1) = true) := by show _ = _; rw [rhas_succ, hr.out, hm]; simp
            clear hm
            go_wp2_with fail
            go_roundw
            case rel => exact ⟨k + 1, by omega, by go_num, hs, (hx.trans b1).trans b2⟩
            case measure => simp [intOf]; omega
          | false =>
            have hs : Hid (mayB u g uid gid mode want = (u == 0)) := by show _ = _; refine mayB_zero (k := k) hlt ?_; rw [hfr.out, hW.out, hm]; rfl
            clear hm
            have A1 := ((A0.ext hx).ext b1).ext b2
            have hc : ∀ i, w2.cell? ⟨w.heap.size, i, none⟩ = _ := fun i => A1.cell i
            go_wp2_with fail
            go_ret
            exact Ret.mk (by rw [hs.out]; rfl) ((((Ext.refl _).alloc _).trans hx).trans (b1.trans b2))
      · obtain rfl : k = 3 := by omega
        have hs : Hid (mayB u g uid gid mode want = true) := by show _ = _; refine mayB_true ?_; rw [hfr.out]; exact hr.out
        go_wp2_with fail
        go_ret
        exact Ret.mk (by rw [hs.out]; rfl) (((Ext.refl _).alloc _).trans hx)
  · have b1 : (u == uid) = false := beq_eq_false_iff_ne.2 h1
    by_cases h2 : g = gid
    · have hfr : Hid (fromOf u g uid gid = 3) := by show _ = _; unfold fromOf; rw [if_neg h1, if_pos h2]
      have b2 : (g == gid) = true := beq_iff_eq.2 h2
      clear h1 h2
      go_enter Try.func173, Try.ntmps173
      go_wp2_with fail
      go_loopw [12] (fun i wr => ∃ k : Nat, k ≤ 3 ∧ i = .int .i64 k ∧ Hid (rhas mode want 3 k = true) ∧ Ext (w.alloc (.cells #[.int .i64 u, .int .i64 g] 62)) wr) (fun i _ => 3 - (intOf i).toNat)
      case atStart => exact ⟨0, by omega, rfl, rfl, Ext.refl _⟩
      case round =>
        obtain ⟨k, hk, rfl, hr, hx⟩ := hrel
        by_cases hlt : k < 3
        · go_wp2_with fail
          refine (rbit_any _ _ _ (by omega) (by omega)).mono ?_
          rintro e w1 ⟨rfl, b1⟩
          rw [Int.toNat_natCast]
          cases hw : bitOn want k with
          | false =>
            have hs : Hid (rhas mode want 3 (k + 1) = true) := by show _ = _; rw [rhas_succ, hr.out, hw]; rfl
            clear hw
            go_wp2_with fail
            go_roundw
            case rel => exact ⟨k + 1, by omega, by go_num, hs, hx.trans b1⟩
            case measure => simp [intOf]; omega
          | true =>
            have hW : Hid (bitOn want k = true) := hw
            clear hw
            go_wp2_with fail
            refine (rbit_any _ _ _ (by omega) (by omega)).mono ?_
            rintro e w2 ⟨rfl, b2⟩
            rw [show (3 + (k : Int)).toNat = 3 + k from by omega]
            cases hm : bitOn mode (3 + k) with
            | true =>
              have hs : Hid (rhas mode want 3 (k + 1) = true) := by show _ = _; rw [rhas_succ, hr.out, hm]; simp
              clear hm
              go_wp2_with fail
              go_roundw
              case rel => exact ⟨k + 1, by omega, by go_num, hs, (hx.trans b1).trans b2⟩
              case measure => simp [intOf]; omega
            | false =>
              have hs : Hid (mayB u g uid gid mode want = (u == 0)) := by show _ = _; refine mayB_zero (k := k) hlt ?_; rw [hfr.out, hW.out, hm]; rfl
              clear hm
              have A1 := ((A0.ext hx).ext b1).ext b2
              have hc : ∀ i, w2.cell? ⟨w.heap.size, i, none⟩ = _ := fun i => A1.cell i
              go_wp2_with fail
              go_ret
              exact Ret.mk (by rw [hs.out]; rfl) ((((Ext.refl _).alloc _).trans hx).trans (b1.trans b2))
        · obtain rfl : k = 3 := by omega
          have hs : Hid (mayB u g uid gid mode want = true) := by show _ = _; refine mayB_true ?_; rw [hfr.out]; exact hr.out
          go_wp2_with fail
          go_ret
          exact Ret.mk (by rw [hs.out]; rfl) (((Ext.refl _).alloc _).trans hx)
    · have hfr : Hid (fromOf u g uid gid = 0) := by show _ = _; unfold fromOf; rw [if_neg h1, if_neg h2]
      have b2 : (g == gid) = false := beq_eq_false_iff_ne.2 h2
      clear h1 h2
      go_enter Try.func173, Try.ntmps173
      go_wp2_with fail
      go_loopw [12] (fun i wr => ∃ k : Nat, k ≤ 3 ∧ i = .int .i64 k ∧ Hid (rhas mode want 0 k = true) ∧ Ext (w.alloc (.cells #[.int .i64 u, .int .i64 g] 62)) wr) (fun i _ => 3 - (intOf i).toNat)
      case atStart => exact ⟨0, by omega, rfl, rfl, Ext.refl _⟩
      case round =>
        obtain ⟨k, hk, rfl, hr, hx⟩ := hrel
        by_cases hlt : k < 3
        · go_wp2_with fail
          refine (rbit_any _ _ _ (by omega) (by omega)).mono ?_
          rintro e w1 ⟨rfl, b1⟩
          rw [Int.toNat_natCast]
          cases hw : bitOn want k with
          | false =>
            have hs : Hid (rhas mode want 0 (k + 1) = true) := by show _ = _; rw [rhas_succ, hr.out, hw]; rfl
            clear hw
            go_wp2_with fail
            go_roundw
            case rel => exact ⟨k + 1, by omega, by go_num, hs, hx.trans b1⟩
            case measure => simp [intOf]; omega
          | true =>
            have hW : Hid (bitOn want k = true) := hw
            clear hw
            go_wp2_with fail
            refine (rbit_any _ _ _ (by omega) (by omega)).mono ?_
            rintro e w2 ⟨rfl, b2⟩
            rw [show ((k : Int)).toNat = 0 + k from by omega]
            cases hm : bitOn mode (0 + k) with
            | true =>
              have hs : Hid (rhas mode want 0 (k + 1) = true) := by show _ = _; rw [rhas_succ, hr.out, hm]; simp
              clear hm
              go_wp2_with fail
              go_roundw
              case rel => exact ⟨k + 1, by omega, by go_num, hs, (hx.trans b1).trans b2⟩
              case measure => simp [intOf]; omega
            | false =>
              have hs : Hid (mayB u g uid gid mode want = (u == 0)) := by show _ = _; refine mayB_zero (k := k) hlt ?_; rw [hfr.out, hW.out, hm]; rfl
              clear hm
              have A1 := ((A0.ext hx).ext b1).ext b2
              have hc : ∀ i, w2.cell? ⟨w.heap.size, i, none⟩ = _ := fun i => A1.cell i
              go_wp2_with fail
              go_ret
              exact Ret.mk (by rw [hs.out]; rfl) ((((Ext.refl _).alloc _).trans hx).trans (b1.trans b2))
        · obtain rfl : k = 3 := by omega
          have hs : Hid (mayB u g uid gid mode want = true) := by show _ = _; refine mayB_true ?_; rw [hfr.out]; exact hr.out
          go_wp2_with fail
          go_ret
          exact Ret.mk (by rw [hs.out]; rfl) (((Ext.refl _).alloc _).trans hx)

def fineB (u g : Int) : Bool := decide (0 ≤ u) && (decide (u ≤ 2147483648) && (decide (0 ≤ g) && decide (g ≤ 2147483648)))
def ownsB (u o : Int) : Bool := u == 0 || u == o
def freeB (u dmode do_ no : Int) : Bool := !bitOn dmode 9 || (ownsB u do_ || ownsB u no)
set_option maxHeartbeats 400000 in
theorem pfine_any (u g : Int) (w : World) : Calls Try.prog 162 #[.agg #[.int .i64 u, .int .i64 g]] w (Ret w (.bool (fineB u g))) := by
  go_enter Try.func162, Try.ntmps162
  go_wp2_with fail
  all_goals
    go_ret
    exact Ret.mk (by simp [fineB, *] <;> omega) ((Ext.refl _).alloc _)
set_option maxHeartbeats 400000 in
theorem powns_any (u g : Int) (x0 x1 x2 x3 : Value) (o : Int) (x5 x6 x7 x8 x9 x10 x11 : Value) (w : World) :
    Calls Try.prog 183 #[.agg #[.int .i64 u, .int .i64 g], .agg #[x0, x1, x2, x3, .int .i64 o, x5, x6, x7, x8, x9, x10, x11]] w (Ret w (.bool (ownsB u o))) := by
  cases h : (u == 0) with
  | true =>
    have hf : Hid (ownsB u o = true) := by show _ = _; unfold ownsB; rw [h]; rfl
    go_enter Try.func183, Try.ntmps183
    go_wp2_with fail
    go_ret
    exact Ret.mk (by rw [hf.out]; rfl) (((Ext.refl _).alloc _).alloc _)
  | false =>
    have hf : Hid (ownsB u o = (u == o)) := by show _ = _; unfold ownsB; rw [h]; rfl
    go_enter Try.func183, Try.ntmps183
    go_wp2_with fail
    go_ret
    exact Ret.mk (by rw [hf.out]; rfl) (((Ext.refl _).alloc _).alloc _)
set_option maxHeartbeats 400000 in
theorem pnode_any (u g : Int) (x0 x1 x2 : Value) (mode o gr : Int) (x6 x7 x8 x9 x10 x11 : Value) (want : Int) (w : World) :
    Calls Try.prog 140 #[.agg #[.int .i64 u, .int .i64 g], .agg #[x0, x1, x2, .int .i64 mode, .int .i64 o, .int .i64 gr, x6, x7, x8, x9, x10, x11], .int .i64 want] w (Ret w (.bool (mayB u g o gr mode want))) := by
  go_enter Try.func140, Try.ntmps140
  go_wp2_with fail
  refine (may_any _ _ _ _ _ _ _).mono ?_
  rintro e w1 ⟨rfl, b1⟩
  go_wp2_with fail
  go_ret
  exact Ret.mk rfl ((((Ext.refl _).alloc _).alloc _).trans b1)
set_option maxHeartbeats 1000000 in
set_option maxRecDepth 100000 in
theorem pfree_any (u g : Int) (x0 x1 x2 : Value) (dm do_ : Int) (x5 x6 x7 x8 x9 x10 x11 y0 y1 y2 y3 : Value) (no : Int) (y5 y6 y7 y8 y9 y10 y11 : Value) (w : World) :
    Calls Try.prog 176 #[.agg #[.int .i64 u, .int .i64 g], .agg #[x0, x1, x2, .int .i64 dm, .int .i64 do_, x5, x6, x7, x8, x9, x10, x11], .agg #[y0, y1, y2, y3, .int .i64 no, y5, y6, y7, y8, y9, y10, y11]] w (Ret w (.bool (freeB u dm do_ no))) := by
  have A0 : Has (((w.alloc (.cells #[.int .i64 u, .int .i64 g] 62)).alloc (.cells #[x0, x1, x2, .int .i64 dm, .int .i64 do_, x5, x6, x7, x8, x9, x10, x11] 100)).alloc (.cells #[y0, y1, y2, y3, .int .i64 no, y5, y6, y7, y8, y9, y10, y11] 100)) w.heap.size (.cells #[.int .i64 u, .int .i64 g] 62) := ((Has.new _ _).alloc _).alloc _
  have B0 : Has (((w.alloc (.cells #[.int .i64 u, .int .i64 g] 62)).alloc (.cells #[x0, x1, x2, .int .i64 dm, .int .i64 do_, x5, x6, x7, x8, x9, x10, x11] 100)).alloc (.cells #[y0, y1, y2, y3, .int .i64 no, y5, y6, y7, y8, y9, y10, y11] 100)) (w.heap.size + 1) (.cells #[x0, x1, x2, .int .i64 dm, .int .i64 do_, x5, x6, x7, x8, x9, x10, x11] 100) := by
    have := (Has.new (w.alloc (.cells #[.int .i64 u, .int .i64 g] 62)) (.cells #[x0, x1, x2, .int .i64 dm, .int .i64 do_, x5, x6, x7, x8, x9, x10, x11] 100)).alloc (.cells #[y0, y1, y2, y3, .int .i64 no, y5, y6, y7, y8, y9, y10, y11] 100)
    rwa [World.size_alloc] at this
  have C0 : Has (((w.alloc (.cells #[.int .i64 u, .int .i64 g] 62)).alloc (.cells #[x0, x1, x2, .int .i64 dm, .int .i64 do_, x5, x6, x7, x8, x9, x10, x11] 100)).alloc (.cells #[y0, y1, y2, y3, .int .i64 no, y5, y6, y7, y8, y9, y10, y11] 100)) (w.heap.size + 2) (.cells #[y0, y1, y2, y3, .int .i64 no, y5, y6, y7, y8, y9, y10, y11] 100) := by
    have := Has.new ((w.alloc (.cells #[.int .i64 u, .int .i64 g] 62)).alloc (.cells #[x0, x1, x2, .int .i64 dm, .int .i64 do_, x5, x6, x7, x8, x9, x10, x11] 100)) (.cells #[y0, y1, y2, y3, .int .i64 no, y5, y6, y7, y8, y9, y10, y11] 100)
    rwa [World.size_alloc, World.size_alloc] at this
  cases hb : bitOn dm 9 with
  | false =>
    have hf : Hid (freeB u dm do_ no = true) := by show _ = _; unfold freeB; rw [hb]; rfl
    have h5 : (bits BinOp.and IntKind.i64 dm 512 == 0) = true := by have := sticky_and dm; rw [hb] at this; simpa [bne] using this
    clear hb A0 B0 C0
    go_enter Try.func176, Try.ntmps176
    go_wp2_with fail
    go_ret
    exact Ret.mk (by rw [hf.out]; rfl) ((((Ext.refl _).alloc _).alloc _).alloc _)
  | true =>
    have h5 : (bits BinOp.and IntKind.i64 dm 512 == 0) = false := by have := sticky_and dm; rw [hb] at this; simpa [bne] using this
    have hf : Hid (freeB u dm do_ no = (ownsB u do_ || ownsB u no)) := by show _ = _; unfold freeB; rw [hb]; rfl
    clear hb
    go_enter Try.func176, Try.ntmps176
    go_wp2_with fail
    refine (powns_any _ _ _ _ _ _ _ _ _ _ _ _ _ _ _).mono ?_
    rintro e w1 ⟨rfl, b1⟩
    cases ho : ownsB u do_ with
    | true =>
      have hf' : Hid (freeB u dm do_ no = true) := by show _ = _; rw [hf.out, ho]; rfl
      clear ho
      go_wp2_with fail
      go_ret
      exact Ret.mk (by rw [hf'.out]; rfl) (((((Ext.refl _).alloc _).alloc _).alloc _).trans b1)
    | false =>
      have hf' : Hid (freeB u dm do_ no = ownsB u no) := by show _ = _; rw [hf.out, ho]; rfl
      clear ho
      have hcA : ∀ i, w1.cell? ⟨w.heap.size, i, none⟩ = _ := fun i => (A0.ext b1).cell i
      have hcC : ∀ i, w1.cell? ⟨w.heap.size + 2, i, none⟩ = _ := fun i => (C0.ext b1).cell i
      go_wp2_with fail
      refine (powns_any _ _ _ _ _ _ _ _ _ _ _ _ _ _ _).mono ?_
      rintro e w2 ⟨rfl, b2⟩
      go_wp2_with fail
      go_ret
      exact Ret.mk (by rw [hf'.out]; rfl) ((((((Ext.refl _).alloc _).alloc _).alloc _).trans b1).trans b2)
set_option maxHeartbeats 400000 in
theorem rfine_any (u g : Int) (w : World) : Calls Try.prog 164 #[.agg #[.int .i64 u, .int .i64 g]] w (Ret w (.bool (fineB u g))) := by
  go_enter Try.func164, Try.ntmps164
  go_wp2_with fail
  all_goals
    go_ret
    exact Ret.mk (by simp [fineB, *] <;> omega) ((Ext.refl _).alloc _)
set_option maxHeartbeats 400000 in
theorem rowns_any (u g : Int) (x0 x1 x2 x3 : Value) (o : Int) (x5 x6 x7 x8 x9 x10 x11 : Value) (w : World) :
    Calls Try.prog 184 #[.agg #[.int .i64 u, .int .i64 g], .agg #[x0, x1, x2, x3, .int .i64 o, x5, x6, x7, x8, x9, x10, x11]] w (Ret w (.bool (ownsB u o))) := by
  cases h : (u == 0) with
  | true =>
    have hf : Hid (ownsB u o = true) := by show _ = _; unfold ownsB; rw [h]; rfl
    go_enter Try.func184, Try.ntmps184
    go_wp2_with fail
    go_ret
    exact Ret.mk (by rw [hf.out]; rfl) (((Ext.refl _).alloc _).alloc _)
  | false =>
    have hf : Hid (ownsB u o = (u == o)) := by show _ = _; unfold ownsB; rw [h]; rfl
    go_enter Try.func184, Try.ntmps184
    go_wp2_with fail
    go_ret
    exact Ret.mk (by rw [hf.out]; rfl) (((Ext.refl _).alloc _).alloc _)
set_option maxHeartbeats 400000 in
theorem rnode_any (u g : Int) (x0 x1 x2 : Value) (mode o gr : Int) (x6 x7 x8 x9 x10 x11 : Value) (want : Int) (w : World) :
    Calls Try.prog 126 #[.agg #[.int .i64 u, .int .i64 g], .agg #[x0, x1, x2, .int .i64 mode, .int .i64 o, .int .i64 gr, x6, x7, x8, x9, x10, x11], .int .i64 want] w (Ret w (.bool (mayB u g o gr mode want))) := by
  go_enter Try.func126, Try.ntmps126
  go_wp2_with fail
  refine (rmay_any _ _ _ _ _ _ _).mono ?_
  rintro e w1 ⟨rfl, b1⟩
  go_wp2_with fail
  go_ret
  exact Ret.mk rfl ((((Ext.refl _).alloc _).alloc _).trans b1)
end Go.Proofs.Ytebghednhjaniaa

namespace Go.Proofs.Ytebghednhjaniaa
open Go.ChangeShapes Go.WideShapes Go.ChangeAt Go.RowKit

set_option maxRecDepth 100000 in
set_option maxHeartbeats 4000000 in
theorem same_node (n : NodeD) (A A' : Option Addr) (c c' : Nat) (w : World) (h : EntsAt w A n.ents) (h' : EntsAt w A' n.ents) (hlen : n.ents.length ≤ 1000000) :
    Calls Try.prog 58 #[.agg #[.int .i64 n.no, .int .i64 n.dev, .int .i64 n.kind, .int .i64 n.mode, .int .i64 n.uid, .int .i64 n.gid, .int .i64 n.mtime, .int .i64 n.ctime, .int .i64 n.links, .int .i64 n.up, .string (bs n.data), .slice A n.ents.length c], .agg #[.int .i64 n.no, .int .i64 n.dev, .int .i64 n.kind, .int .i64 n.mode, .int .i64 n.uid, .int .i64 n.gid, .int .i64 n.mtime, .int .i64 n.ctime, .int .i64 n.links, .int .i64 n.up, .string (bs n.data), .slice A' n.ents.length c']] w (Ret w (.bool true)) := by
  obtain ⟨m, hm⟩ : ∃ m, m = n.ents.length := ⟨_, rfl⟩
  obtain ⟨W, hW⟩ : ∃ W, W = (w.alloc (.cells #[.int .i64 n.no, .int .i64 n.dev, .int .i64 n.kind, .int .i64 n.mode, .int .i64 n.uid, .int .i64 n.gid, .int .i64 n.mtime, .int .i64 n.ctime, .int .i64 n.links, .int .i64 n.up, .string (bs n.data), .slice A n.ents.length c] 100)).alloc (.cells #[.int .i64 n.no, .int .i64 n.dev, .int .i64 n.kind, .int .i64 n.mode, .int .i64 n.uid, .int .i64 n.gid, .int .i64 n.mtime, .int .i64 n.ctime, .int .i64 n.links, .int .i64 n.up, .string (bs n.data), .slice A' n.ents.length c'] 100) := ⟨_, rfl⟩
  have EW : Ext w W := by rw [hW]; exact ((Ext.refl _).alloc _).alloc _
  have B1 : Has W w.heap.size (.cells #[.int .i64 n.no, .int .i64 n.dev, .int .i64 n.kind, .int .i64 n.mode, .int .i64 n.uid, .int .i64 n.gid, .int .i64 n.mtime, .int .i64 n.ctime, .int .i64 n.links, .int .i64 n.up, .string (bs n.data), .slice A n.ents.length c] 100) := by rw [hW]; exact (Has.new _ _).alloc _
  have B2 : Has W (w.heap.size + 1) (.cells #[.int .i64 n.no, .int .i64 n.dev, .int .i64 n.kind, .int .i64 n.mode, .int .i64 n.uid, .int .i64 n.gid, .int .i64 n.mtime, .int .i64 n.ctime, .int .i64 n.links, .int .i64 n.up, .string (bs n.data), .slice A' n.ents.length c'] 100) := by
    rw [hW]
    have := Has.new (w.alloc (.cells #[.int .i64 n.no, .int .i64 n.dev, .int .i64 n.kind, .int .i64 n.mode, .int .i64 n.uid, .int .i64 n.gid, .int .i64 n.mtime, .int .i64 n.ctime, .int .i64 n.links, .int .i64 n.up, .string (bs n.data), .slice A n.ents.length c] 100)) (.cells #[.int .i64 n.no, .int .i64 n.dev, .int .i64 n.kind, .int .i64 n.mode, .int .i64 n.uid, .int .i64 n.gid, .int .i64 n.mtime, .int .i64 n.ctime, .int .i64 n.links, .int .i64 n.up, .string (bs n.data), .slice A' n.ents.length c'] 100)
    rwa [World.size_alloc] at this
  go_enter Try.func58, Try.ntmps58
  go_upto_region 1 with fail
  rw [← hW]
  obtain ⟨x0, x1, x2, x3, x4, x5, x6, x7, x8, x9, x10, x11⟩ := B1.node12
  obtain ⟨y0, y1, y2, y3, y4, y5, y6, y7, y8, y9, y10, y11⟩ := B2.node12
  have z1 := B1.lt
  have z2 := B2.lt
  have HM := Lib.hid hm
  rw [← hm] at x11 y11 hlen
  clear hW hm
  simp only [List.append]
  go_wp2_with fail
  clear x0 x1 x2 x3 x4 x5 x6 x7 x8 x9 x10 y0 y1 y2 y3 y4 y5 y6 y7 y8 y9 y10
  go_loopw [5] (fun i wr => ∃ k : Nat, k ≤ m ∧ i = .int .i64 k ∧ Ext W wr) (fun i _ => m - (intOf i).toNat)
  case atStart => exact ⟨0, Nat.zero_le _, rfl, Ext.refl _⟩
  case round =>
    obtain ⟨k, hk, rfl, hE⟩ := hrel
    have u11 := ((B1.ext hE).cell 11)
    have v11 := ((B2.ext hE).cell 11)
    simp only [List.getElem?_toArray, List.getElem?_cons_succ, List.getElem?_cons_zero] at u11 v11
    rw [← HM.out] at u11 v11
    have z3 := (B1.ext hE).lt
    have z4 := (B2.ext hE).lt
    clear x11 y11 z1 z2
    by_cases hlt : (k : Int) < m
    · have hkl : k < n.ents.length := by have := HM.out; omega
      obtain ⟨b, o, rfl, hbw, ca, cb⟩ := h.at_ (EW.trans hE) k hkl
      obtain ⟨b', o', rfl, hbw', ca', cb'⟩ := h'.at_ (EW.trans hE) k hkl
      obtain ⟨x, hx⟩ : ∃ x, x = n.ents[k] := ⟨_, rfl⟩
      rw [← hx] at ca cb ca' cb'
      clear hx
      have g2 : (0 : Int) ≤ (k : Int) := by omega
      go_upto_region 6 with fail
      go_quiet (fail)
      go_wp2_with fail
      go_roundw
      case rel => exact ⟨k + 1, by omega, by go_num, hE.drewN nq⟩
      case measure => simp [intOf]; omega
    · go_wp2_with fail
      go_ret
      exact Ret.mk rfl (EW.trans hE)
end Go.Proofs.Ytebghednhjaniaa

namespace Go.Proofs.Ytebghednhjaniaa
open Go.ChangeShapes Go.WideShapes Go.ChangeAt Go.RowKit

set_option maxRecDepth 100000 in
set_option maxHeartbeats 2000000 in
theorem rget_fix (B : Nat) (g : GhF) (S : TreeD) (X : Xtra) (no : Int) (V : World) (h : FAt V B g S X) (hl : S.nodes.length ≤ 1000000) (hu : NosUp S.nodes S.last) :
    ∃ A c, NodeOk V B (getN S.nodes no) A c ∧ ∀ u : World, Ext V u → Calls Try.prog 55 #[.pointer (some ⟨g.bF, 0, none⟩), .int .i64 no] u (Ret u (.agg #[.int .i64 (getN S.nodes no).no, .int .i64 (getN S.nodes no).dev, .int .i64 (getN S.nodes no).kind, .int .i64 (getN S.nodes no).mode, .int .i64 (getN S.nodes no).uid, .int .i64 (getN S.nodes no).gid, .int .i64 (getN S.nodes no).mtime, .int .i64 (getN S.nodes no).ctime, .int .i64 (getN S.nodes no).links, .int .i64 (getN S.nodes no).up, .string (bs (getN S.nodes no).data), .slice A (getN S.nodes no).ents.length c])) := by
  obtain ⟨ce, hfn, _⟩ := h.fn
  generalize hvD : Value.slice (some ⟨g.bE, 0, none⟩) S.devs.length ce = vD at hfn
  clear hvD
  cases hi : isN S.nodes no
  · refine ⟨none, 0, by rw [(isN_false hi).1]; exact NodeOk.zero _ _, fun u hE => ?_⟩
    have hz := (isN_false hi).1
    have hfu := hfn.ext hE
    obtain ⟨h1, cn, h2, ⟨xs, h3, h5⟩⟩ := id hfu
    have c0 := h2.cell 0
    simp only [List.getElem?_toArray, List.getElem?_cons_zero] at c0
    have hF := h2.lt
    have HI := Lib.hid hi
    have HZ := Lib.hid hz
    clear hi hz
    go_enter Try.func55, Try.ntmps55
    go_wp2_with fail
    refine (rat_any B g.bF g.bN vD S.nodes S.last X no _ (hfu.ext ((Ext.refl _).alloc _)) hl).mono ?_
    rintro e w1 ⟨rfl, ⟨hi, rfl⟩ | ⟨k, hk, hno, hi, rfl⟩⟩
    · clear hi
      go_wp2_with fail
      refine bodyPost_ret (v := .agg #[.int .i64 0, .int .i64 0, .int .i64 0, .int .i64 0, .int .i64 0, .int .i64 0, .int .i64 0, .int .i64 0, .int .i64 0, .int .i64 0, .string ⟨#[]⟩, .slice none 0 0]) (by simp [results, Try.results55, go_sem]) rfl (Ret.mk (by rw [HZ.out]; rfl) ((Ext.refl _).alloc _))
    · rw [HI.out] at hi; cases hi
  · obtain ⟨k, hk, hno⟩ := isN_iff.1 hi
    obtain ⟨_, cn0, h20, ⟨xs0, h30, h50⟩⟩ := id hfn
    obtain ⟨A, c, ok, hr⟩ := NodeXs.range h30 h50 k hk
    have hg : getN S.nodes no = S.nodes[k] := by unfold getN; rw [← hno, getO_at hu hk]; rfl
    have hbN := hfn.lt.2
    obtain ⟨m, hm⟩ : ∃ m, m = S.nodes[k] := ⟨_, rfl⟩
    rw [← hm] at ok hr hg
    rw [hg]
    refine ⟨A, c, ok, fun u hE => ?_⟩
    have hfu := hfn.ext hE
    obtain ⟨h1, cn, h2, ⟨xs, h3, h5⟩⟩ := id hfu
    have c0 := h2.cell 0
    simp only [List.getElem?_toArray, List.getElem?_cons_zero] at c0
    have hF := h2.lt
    have hr' : u.rangeAt g.bN (k * 12) (nodeL m A c) := fun j v hv => (hE.cell hbN).trans (hr j v hv)
    obtain ⟨d0, d1, d2, d3, d4, d5, d6, d7, d8, d9, d10, d11⟩ := range12 hr'
    have hN := hfu.lt.2
    have hneg : decide ((k : Int) < 0) = false := decide_eq_false (by omega)
    have y0 : (k : Int) < S.nodes.length := by omega
    have y1 : (0 : Int) ≤ (k : Int) := Int.natCast_nonneg _
    have HI := Lib.hid hi
    have HNO := Lib.hid hno
    clear hi hg hm hno
    go_enter Try.func55, Try.ntmps55
    go_wp2_with fail
    refine (rat_any B g.bF g.bN vD S.nodes S.last X no _ (hfu.ext ((Ext.refl _).alloc _)) hl).mono ?_
    rintro e w1 ⟨rfl, ⟨hi, rfl⟩ | ⟨k', hk', hno', hi, rfl⟩⟩
    · rw [HI.out] at hi; cases hi
    · obtain rfl : k' = k := nos_inj hu hk' hk (by rw [hno', HNO.out])
      clear hi hno'
      go_wp2_with fail
      refine bodyPost_ret (v := .agg #[.int .i64 m.no, .int .i64 m.dev, .int .i64 m.kind, .int .i64 m.mode, .int .i64 m.uid, .int .i64 m.gid, .int .i64 m.mtime, .int .i64 m.ctime, .int .i64 m.links, .int .i64 m.up, .string (bs m.data), .slice A m.ents.length c]) (by simp [results, Try.results55, go_sem]) rfl (Ret.mk rfl ((Ext.refl _).alloc _))
/-! ### Get behind Set. -/
theorem getO_setN (ns : List NodeD) (n : NodeD) (k : Int) : getO (setN ns n) k = (getO ns k).map fun m => if m.no == n.no then n else m := by
  unfold getO setN
  rw [List.find?_map]
  congr 1
  congr 1
  funext m
  simp only [Function.comp]
  split
  · rename_i h; rw [beq_iff_eq] at h; rw [h]
  · rfl
theorem getN_set_ne (ns : List NodeD) (n : NodeD) {k : Int} (h : k ≠ n.no) : getN (setN ns n) k = getN ns k := by
  unfold getN
  rw [getO_setN]
  cases hg : getO ns k with
  | none => rfl
  | some m =>
    have := (getO_some hg).1
    show (if m.no == n.no then n else m) = m
    rw [if_neg]; rw [this]; simpa using h
theorem isN_set (ns : List NodeD) (n : NodeD) (k : Int) : isN (setN ns n) k = isN ns k := by
  unfold isN
  rw [getO_setN]
  cases getO ns k <;> rfl
theorem getN_set_eq (ns : List NodeD) (n : NodeD) (h : isN ns n.no = true) : getN (setN ns n) n.no = n := by
  unfold isN at h
  obtain ⟨m, hm⟩ := Option.isSome_iff_exists.1 h
  unfold getN
  rw [getO_setN, hm]
  show (if m.no == n.no then n else m) = n
  rw [if_pos]; rw [(getO_some hm).1]; simp
end Go.Proofs.Ytebghednhjaniaa

namespace Go.Proofs.Ytebghednhjaniaa
open Go.ChangeShapes Go.WideShapes Go.ChangeAt Go.RowKit

/-- A call that is asked for. -/
structure ActD where
  kind : Int
  uid : Int
  gid : Int
  dir : Int
  no : Int
  n : Int
  name : List UInt8
  text : List UInt8
  to_ : Int
  as_ : List UInt8
def ActsAt (w : World) (A : Option Addr) (l : List ActD) : Prop :=
  l = [] ∨ ∃ b o, A = some ⟨b, o, none⟩ ∧ b < w.heap.size ∧ ∀ k, (h : k < l.length) → w.cell? ⟨b, o + k * 10, none⟩ = some (.int .i64 l[k].kind) ∧ w.cell? ⟨b, o + k * 10 + 1, none⟩ = some (.int .i64 l[k].uid) ∧ w.cell? ⟨b, o + k * 10 + 2, none⟩ = some (.int .i64 l[k].gid) ∧ w.cell? ⟨b, o + k * 10 + 3, none⟩ = some (.int .i64 l[k].dir) ∧
    w.cell? ⟨b, o + k * 10 + 4, none⟩ = some (.int .i64 l[k].no) ∧ w.cell? ⟨b, o + k * 10 + 5, none⟩ = some (.int .i64 l[k].n) ∧ w.cell? ⟨b, o + k * 10 + 6, none⟩ = some (.string (bs l[k].name)) ∧ w.cell? ⟨b, o + k * 10 + 7, none⟩ = some (.string (bs l[k].text)) ∧ w.cell? ⟨b, o + k * 10 + 8, none⟩ = some (.int .i64 l[k].to_) ∧ w.cell? ⟨b, o + k * 10 + 9, none⟩ = some (.string (bs l[k].as_))
theorem ActsAt.ext {w w' : World} {A : Option Addr} {l : List ActD} (h : ActsAt w A l) (k : Ext w w') : ActsAt w' A l := by
  rcases h with h | ⟨b, o, hA, hb, hc⟩
  · exact .inl h
  · refine .inr ⟨b, o, hA, by have := k.size; omega, fun i hi => ?_⟩
    simp only [k.cell hb]; exact hc i hi
theorem ActsAt.at_ {w w' : World} {A : Option Addr} {l : List ActD} (h : ActsAt w A l) (hE : Ext w w') (k : Nat) (hk : k < l.length) : ∃ b o, A = some ⟨b, o, none⟩ ∧ b < w'.heap.size ∧ w'.cell? ⟨b, o + k * 10, none⟩ = some (.int .i64 l[k].kind) ∧ w'.cell? ⟨b, o + k * 10 + 1, none⟩ = some (.int .i64 l[k].uid) ∧ w'.cell? ⟨b, o + k * 10 + 2, none⟩ = some (.int .i64 l[k].gid) ∧ w'.cell? ⟨b, o + k * 10 + 3, none⟩ = some (.int .i64 l[k].dir) ∧
    w'.cell? ⟨b, o + k * 10 + 4, none⟩ = some (.int .i64 l[k].no) ∧ w'.cell? ⟨b, o + k * 10 + 5, none⟩ = some (.int .i64 l[k].n) ∧ w'.cell? ⟨b, o + k * 10 + 6, none⟩ = some (.string (bs l[k].name)) ∧ w'.cell? ⟨b, o + k * 10 + 7, none⟩ = some (.string (bs l[k].text)) ∧ w'.cell? ⟨b, o + k * 10 + 8, none⟩ = some (.int .i64 l[k].to_) ∧ w'.cell? ⟨b, o + k * 10 + 9, none⟩ = some (.string (bs l[k].as_)) := by
  rcases h.ext hE with h0 | ⟨b, o, hA, hb, hc⟩
  · subst h0; simp at hk
  · exact ⟨b, o, hA, hb, hc k hk⟩
def shortA (x : ActD) : Prop := x.name.length ≤ 300 ∧ x.as_.length ≤ 300 ∧ x.text.length ≤ 2000
def FewA (l : List ActD) : Prop := (∀ x ∈ l, shortA x) ∧ l.length ≤ 30
def FewAR (w : World) (l : List ActD) (e : Ending) (w' : World) : Prop := w = w' ∧ ((FewA l ∧ e = .returned (.bool true)) ∨ (¬ FewA l ∧ e = .returned (.bool false)))
set_option maxRecDepth 100000 in
set_option maxHeartbeats 2000000 in
theorem fewA_any (A : Option Addr) (l : List ActD) (cap : Nat) (w : World) (h : ActsAt w A l) (hlen : l.length ≤ 9223372036854775807) : Calls Try.prog 30 #[.slice A l.length cap] w (FewAR w l) := by
  obtain ⟨n, hn⟩ : ∃ n, n = l.length := ⟨_, rfl⟩
  rw [← hn] at hlen ⊢
  have HN := Lib.hid hn
  clear hn
  go_enter Try.func30, Try.ntmps30
  go_wp2_with fail
  go_loop [3] (fun i => ∃ k : Nat, k ≤ n ∧ i = .int .i64 k ∧ Hid (∀ x ∈ l.take k, shortA x)) (fun i => n - (intOf i).toNat)
  case atStart => exact ⟨0, Nat.zero_le _, rfl, fun x hx => by simp at hx⟩
  case round =>
    obtain ⟨k, hk, rfl, ha⟩ := hrel
    by_cases hlt : (k : Int) < n
    · have hkl : k < l.length := by have := HN.out; omega
      obtain ⟨b, o, rfl, hbw, c0, c1, c2, c3, c4, c5, c6, c7, c8, c9⟩ := h.at_ (Ext.refl w) k hkl
      have hmem : l[k] ∈ l := List.getElem_mem hkl
      generalize hx : l[k] = x at c0 c1 c2 c3 c4 c5 c6 c7 c8 c9
      rw [hx] at hmem
      have z6 : ((bs x.name).size : Int) = x.name.length := by rw [bs_size]
      have z7 : ((bs x.text).size : Int) = x.text.length := by rw [bs_size]
      have z9 : ((bs x.as_).size : Int) = x.as_.length := by rw [bs_size]
      have bad : ¬ shortA x → Hid (¬ FewA l) := fun hs h => hs (h.1 x hmem)
      have HB := Lib.hid bad
      clear bad
      by_cases h1 : 300 < (x.name.length : Int)
      · have h1b : decide (300 < (x.name.length : Int)) = true := decide_eq_true h1
        have hf := HB.out (fun h => by have := h.1; omega)
        clear hx
        go_wp2_with fail
        go_ret
        exact ⟨rfl, .inr ⟨hf.out, rfl⟩⟩
      · have h1b : decide (300 < (x.name.length : Int)) = false := decide_eq_false h1
        by_cases h2 : 300 < (x.as_.length : Int)
        · have h2b : decide (300 < (x.as_.length : Int)) = true := decide_eq_true h2
          have hf := HB.out (fun h => by have := h.2.1; omega)
          clear hx
          go_wp2_with fail
          go_ret
          exact ⟨rfl, .inr ⟨hf.out, rfl⟩⟩
        · have h2b : decide (300 < (x.as_.length : Int)) = false := decide_eq_false h2
          by_cases h3 : 2000 < (x.text.length : Int)
          · have h3b : decide (2000 < (x.text.length : Int)) = true := decide_eq_true h3
            have hf := HB.out (fun h => by have := h.2.2; omega)
            clear hx
            go_wp2_with fail
            go_ret
            exact ⟨rfl, .inr ⟨hf.out, rfl⟩⟩
          · have h3b : decide (2000 < (x.text.length : Int)) = false := decide_eq_false h3
            have ha2 : Hid (∀ y ∈ l.take (k + 1), shortA y) := by
              show ∀ y ∈ l.take (k + 1), shortA y
              intro y hy
              rw [List.take_succ_eq_append_getElem hkl, List.mem_append] at hy
              rcases hy with hy | hy
              · exact ha.out y hy
              · rw [List.mem_singleton.1 hy, hx]; exact ⟨by omega, by omega, by omega⟩
            clear hx
            go_wp2_with fail
            go_round
            case rel => exact ⟨k + 1, by omega, by go_num, ha2⟩
            case measure => simp [intOf]; omega
    · have hall : Hid (∀ x ∈ l, shortA x) := by
        show ∀ x ∈ l, shortA x
        intro x hx
        exact ha.out x (by rw [List.take_of_length_le (by have := HN.out; omega)]; exact hx)
      by_cases h30 : (n : Int) ≤ 30
      · have hf : Hid (FewA l) := ⟨hall.out, by have := HN.out; omega⟩
        have hb : decide ((n : Int) ≤ 30) = true := decide_eq_true h30
        go_wp2_with fail
        go_ret
        exact ⟨rfl, .inl ⟨hf.out, by first | rfl | exact ret_bool hb⟩⟩
      · have hf : Hid (¬ FewA l) := fun h => by have := h.2; have := HN.out; omega
        have hb : decide ((n : Int) ≤ 30) = false := decide_eq_false h30
        go_wp2_with fail
        go_ret
        exact ⟨rfl, .inr ⟨hf.out, by first | rfl | exact ret_bool hb⟩⟩
/-- law14's Few is its few. -/
theorem few14_any (A : Option Addr) (l : List ItemD) (cap : Nat) (w : World) (h : ItemsAt w A l) (hlen : l.length ≤ 9223372036854775807) : Calls Try.prog 29 #[.slice A l.length cap] w (FewR w l) := by
  go_enter Try.func29, Try.ntmps29
  go_wp2_with fail
  refine (few_any A l cap w h hlen).mono ?_
  rintro e w1 ⟨rfl, ⟨hf, rfl⟩ | ⟨hf, rfl⟩⟩
  · go_wp2_with fail
    go_ret
    exact ⟨rfl, .inl ⟨hf, rfl⟩⟩
  · go_wp2_with fail
    go_ret
    exact ⟨rfl, .inr ⟨hf, rfl⟩⟩
end Go.Proofs.Ytebghednhjaniaa

namespace Go.Proofs.Ytebghednhjaniaa
open Go.ChangeShapes Go.WideShapes Go.ChangeAt Go.RowKit

section
variable {H : Type} {enc : TypeId × Value → H} {w : World} {base : Nat} {spare : Nat → Bool} {held : Bool}
theorem opnInt : Try.prog.cellsOf 3 = 1 := by kernel_rfl
theorem opnStr : Try.prog.cellsOf 9 = 1 := by kernel_rfl
theorem opnCred_size : Try.prog.cellsOf 62 = 2 := by kernel_rfl
set_option maxRecDepth 100000 in
theorem Cred_cells {n : Nat} {cs : List Value} {x : DataW H × List MemPlace} (h : DataW.trod enc Try.prog w base spare held n 62 cs = some x) : ∃ v : (Int × Int), cs = [.int .i64 v.1, .int .i64 v.2] := by
  obtain ⟨xs, m, _, _, hl, hxl, hf⟩ := DataW.trod_struct Try.underlying62 h
  rw [opnCred_size] at hl
  match cs, hl with
  | [a0, a1], _ =>
    match xs, hxl with
    | [y0, y1], _ =>
      have f0 : DataW.trod enc Try.prog w base spare held m 3 (List.take (Try.prog.cellsOf 3) (List.drop 0 [a0, a1])) = some y0 := hf 0 _ rfl
      rw [opnInt] at f0
      obtain ⟨k0, h0, _, _⟩ := DataW.trod_int Try.underlying3 f0
      have e0 : a0 = .int .i64 k0 := by simpa using h0
      have f1 : DataW.trod enc Try.prog w base spare held m 3 (List.take (Try.prog.cellsOf 3) (List.drop 1 [a0, a1])) = some y1 := hf 1 _ rfl
      rw [opnInt] at f1
      obtain ⟨k1, h1, _, _⟩ := DataW.trod_int Try.underlying3 f1
      have e1 : a1 = .int .i64 k1 := by simpa using h1
      exact ⟨⟨k0, k1⟩, by rw [e0, e1]⟩
set_option maxRecDepth 100000 in
theorem open_Cred {r : Reach} {b0 : Nat} {v : Value} {d : DataW H} {p : List MemPlace} (hv : Value.okWide Try.prog w r b0 62 v) (h : DataW.Trod enc Try.prog w base spare held 62 v d p) :
    ∃ x : (Int × Int), v = .agg #[.int .i64 x.1, .int .i64 x.2] := by
  obtain ⟨cs, rfl, hsz⟩ := okWide_struct Try.underlying62 hv
  obtain ⟨fuel, hf⟩ := h
  obtain ⟨x, hx⟩ := Cred_cells hf
  have hcs : cs.toList = [.int .i64 x.1, .int .i64 x.2] := hx
  exact ⟨x, by rw [show cs = #[.int .i64 x.1, .int .i64 x.2] from Array.toList_inj.1 hcs]⟩
theorem opnItem_size : Try.prog.cellsOf 138 = 8 := by kernel_rfl
set_option maxRecDepth 100000 in
theorem Item_cells {n : Nat} {cs : List Value} {x : DataW H × List MemPlace} (h : DataW.trod enc Try.prog w base spare held n 138 cs = some x) : ∃ v : ItemD, cs = [.int .i64 v.dir, .string (bs v.name), .int .i64 v.kind, .int .i64 v.mode, .int .i64 v.uid, .int .i64 v.gid, .string (bs v.data), .int .i64 v.n] := by
  obtain ⟨xs, m, _, _, hl, hxl, hf⟩ := DataW.trod_struct Try.underlying138 h
  rw [opnItem_size] at hl
  match cs, hl with
  | [a0, a1, a2, a3, a4, a5, a6, a7], _ =>
    match xs, hxl with
    | [y0, y1, y2, y3, y4, y5, y6, y7], _ =>
      have f0 : DataW.trod enc Try.prog w base spare held m 3 (List.take (Try.prog.cellsOf 3) (List.drop 0 [a0, a1, a2, a3, a4, a5, a6, a7])) = some y0 := hf 0 _ rfl
      rw [opnInt] at f0
      obtain ⟨k0, h0, _, _⟩ := DataW.trod_int Try.underlying3 f0
      have e0 : a0 = .int .i64 k0 := by simpa using h0
      have f1 : DataW.trod enc Try.prog w base spare held m 9 (List.take (Try.prog.cellsOf 9) (List.drop 1 [a0, a1, a2, a3, a4, a5, a6, a7])) = some y1 := hf 1 _ rfl
      rw [opnStr] at f1
      obtain ⟨s1, h1, _, _⟩ := DataW.trod_string Try.underlying9 f1
      have e1 : a1 = .string s1 := by simpa using h1
      have f2 : DataW.trod enc Try.prog w base spare held m 3 (List.take (Try.prog.cellsOf 3) (List.drop 2 [a0, a1, a2, a3, a4, a5, a6, a7])) = some y2 := hf 2 _ rfl
      rw [opnInt] at f2
      obtain ⟨k2, h2, _, _⟩ := DataW.trod_int Try.underlying3 f2
      have e2 : a2 = .int .i64 k2 := by simpa using h2
      have f3 : DataW.trod enc Try.prog w base spare held m 3 (List.take (Try.prog.cellsOf 3) (List.drop 3 [a0, a1, a2, a3, a4, a5, a6, a7])) = some y3 := hf 3 _ rfl
      rw [opnInt] at f3
      obtain ⟨k3, h3, _, _⟩ := DataW.trod_int Try.underlying3 f3
      have e3 : a3 = .int .i64 k3 := by simpa using h3
      have f4 : DataW.trod enc Try.prog w base spare held m 3 (List.take (Try.prog.cellsOf 3) (List.drop 4 [a0, a1, a2, a3, a4, a5, a6, a7])) = some y4 := hf 4 _ rfl
      rw [opnInt] at f4
      obtain ⟨k4, h4, _, _⟩ := DataW.trod_int Try.underlying3 f4
      have e4 : a4 = .int .i64 k4 := by simpa using h4
      have f5 : DataW.trod enc Try.prog w base spare held m 3 (List.take (Try.prog.cellsOf 3) (List.drop 5 [a0, a1, a2, a3, a4, a5, a6, a7])) = some y5 := hf 5 _ rfl
      rw [opnInt] at f5
      obtain ⟨k5, h5, _, _⟩ := DataW.trod_int Try.underlying3 f5
      have e5 : a5 = .int .i64 k5 := by simpa using h5
      have f6 : DataW.trod enc Try.prog w base spare held m 9 (List.take (Try.prog.cellsOf 9) (List.drop 6 [a0, a1, a2, a3, a4, a5, a6, a7])) = some y6 := hf 6 _ rfl
      rw [opnStr] at f6
      obtain ⟨s6, h6, _, _⟩ := DataW.trod_string Try.underlying9 f6
      have e6 : a6 = .string s6 := by simpa using h6
      have f7 : DataW.trod enc Try.prog w base spare held m 3 (List.take (Try.prog.cellsOf 3) (List.drop 7 [a0, a1, a2, a3, a4, a5, a6, a7])) = some y7 := hf 7 _ rfl
      rw [opnInt] at f7
      obtain ⟨k7, h7, _, _⟩ := DataW.trod_int Try.underlying3 f7
      have e7 : a7 = .int .i64 k7 := by simpa using h7
      exact ⟨⟨k0, s1.data.toList, k2, k3, k4, k5, s6.data.toList, k7⟩, by rw [e0, e1, e2, e3, e4, e5, e6, e7]; simp only [bs_self]⟩
set_option maxRecDepth 100000 in
theorem open_Items {r : Reach} {b0 : Nat} {v : Value} {d : DataW H} {p : List MemPlace} (hv : Value.okWide Try.prog w r b0 24 v) (h : DataW.Trod enc Try.prog w base spare held 24 v d p) :
    ∃ (A : Option Addr) (l : List ItemD) (cap : Nat), v = .slice A l.length cap ∧ ItemsAt w A l ∧ (A = none → cap = 0) ∧ l.length ≤ cap ∧ cap ≤ maxLen := by
  obtain ⟨a, n, c, rfl⟩ := okWide_slice Try.underlying24 hv
  obtain ⟨fuel, hf⟩ := h
  rcases Go.Deep.open_slice Try.underlying24 hf with ⟨hcs, _⟩ | ⟨ad, len, cap, m, k, D, Pl, hcs, _, hl, hm, hmm, _, hi⟩
  · simp [Value.cells] at hcs
    obtain ⟨rfl, rfl, rfl⟩ := hcs
    exact ⟨none, [], 0, rfl, .inl rfl, fun _ => rfl, Nat.le_refl _, by decide⟩
  · simp [Value.cells] at hcs
    obtain ⟨rfl, rfl, rfl⟩ := hcs
    have hmn : n ≤ m := by rw [hmm]; split <;> omega
    obtain ⟨l, hll, hlp⟩ := list_of (α := ItemD) n (fun i x => w.cell? (ad.add (i * 8)) = some (.int .i64 x.dir) ∧ w.cell? ((ad.add (i * 8)).add 1) = some (.string (bs x.name)) ∧ w.cell? ((ad.add (i * 8)).add 2) = some (.int .i64 x.kind) ∧ w.cell? ((ad.add (i * 8)).add 3) = some (.int .i64 x.mode) ∧ w.cell? ((ad.add (i * 8)).add 4) = some (.int .i64 x.uid) ∧ w.cell? ((ad.add (i * 8)).add 5) = some (.int .i64 x.gid) ∧ w.cell? ((ad.add (i * 8)).add 6) = some (.string (bs x.data)) ∧ w.cell? ((ad.add (i * 8)).add 7) = some (.int .i64 x.n)) (fun i hin => by
      obtain ⟨cs', hc, ht⟩ := hi i (by omega)
      rw [opnItem_size] at hc
      obtain ⟨x, rfl⟩ := Item_cells ht
      obtain ⟨_, _, hat⟩ := World.cells?_some hc
      exact ⟨x, by simpa [Addr.add] using hat 0 (by simp), by simpa using hat 1 (by simp), by simpa using hat 2 (by simp), by simpa using hat 3 (by simp), by simpa using hat 4 (by simp), by simpa using hat 5 (by simp), by simpa using hat 6 (by simp), by simpa using hat 7 (by simp)⟩)
    refine ⟨some ad, l, c, by rw [hll], ?_, (fun h => by cases h), by omega, hm⟩
    by_cases h0 : l = []
    · exact .inl h0
    · have hpos : 0 < l.length := List.length_pos_iff.2 h0
      obtain ⟨b, off, spot⟩ := ad
      have hspot : spot = none := by simpa [Addr.add] using World.cell?_spot (hlp 0 hpos).1
      subst hspot
      have hbl : b < w.heap.size := by
        have := (hlp 0 hpos).1
        rcases Nat.lt_or_ge b w.heap.size with h' | h'
        · exact h'
        · simp [Addr.add, World.cell?, Array.getElem?_eq_none h'] at this
      refine .inr ⟨b, off, rfl, hbl, fun i hi' => ?_⟩
      obtain ⟨q0, q1, q2, q3, q4, q5, q6, q7⟩ := hlp i hi'
      simp only [add_plain] at q0 q1 q2 q3 q4 q5 q6 q7
      exact ⟨q0, q1, q2, q3, q4, q5, q6, q7⟩
theorem opnAct_size : Try.prog.cellsOf 64 = 10 := by kernel_rfl
set_option maxRecDepth 100000 in
theorem Act_cells {n : Nat} {cs : List Value} {x : DataW H × List MemPlace} (h : DataW.trod enc Try.prog w base spare held n 64 cs = some x) : ∃ v : ActD, cs = [.int .i64 v.kind, .int .i64 v.uid, .int .i64 v.gid, .int .i64 v.dir, .int .i64 v.no, .int .i64 v.n, .string (bs v.name), .string (bs v.text), .int .i64 v.to_, .string (bs v.as_)] := by
  obtain ⟨xs, m, _, _, hl, hxl, hf⟩ := DataW.trod_struct Try.underlying64 h
  rw [opnAct_size] at hl
  match cs, hl with
  | [a0, a1, a2, a3, a4, a5, a6, a7, a8, a9], _ =>
    match xs, hxl with
    | [y0, y1, y2, y3, y4, y5, y6, y7, y8], _ =>
      have f0 : DataW.trod enc Try.prog w base spare held m 3 (List.take (Try.prog.cellsOf 3) (List.drop 0 [a0, a1, a2, a3, a4, a5, a6, a7, a8, a9])) = some y0 := hf 0 _ rfl
      rw [opnInt] at f0
      obtain ⟨k0, h0, _, _⟩ := DataW.trod_int Try.underlying3 f0
      have e0 : a0 = .int .i64 k0 := by simpa using h0
      have f1 : DataW.trod enc Try.prog w base spare held m 62 (List.take (Try.prog.cellsOf 62) (List.drop 1 [a0, a1, a2, a3, a4, a5, a6, a7, a8, a9])) = some y1 := hf 1 _ rfl
      rw [opnCred_size] at f1
      obtain ⟨⟨u1, g1⟩, h1⟩ := Cred_cells f1
      have e1a : a1 = .int .i64 u1 := by simp at h1; exact h1.1
      have e1b : a2 = .int .i64 g1 := by simp at h1; exact h1.2
      have f2 : DataW.trod enc Try.prog w base spare held m 3 (List.take (Try.prog.cellsOf 3) (List.drop 3 [a0, a1, a2, a3, a4, a5, a6, a7, a8, a9])) = some y2 := hf 2 _ rfl
      rw [opnInt] at f2
      obtain ⟨k2, h2, _, _⟩ := DataW.trod_int Try.underlying3 f2
      have e2 : a3 = .int .i64 k2 := by simpa using h2
      have f3 : DataW.trod enc Try.prog w base spare held m 3 (List.take (Try.prog.cellsOf 3) (List.drop 4 [a0, a1, a2, a3, a4, a5, a6, a7, a8, a9])) = some y3 := hf 3 _ rfl
      rw [opnInt] at f3
      obtain ⟨k3, h3, _, _⟩ := DataW.trod_int Try.underlying3 f3
      have e3 : a4 = .int .i64 k3 := by simpa using h3
      have f4 : DataW.trod enc Try.prog w base spare held m 3 (List.take (Try.prog.cellsOf 3) (List.drop 5 [a0, a1, a2, a3, a4, a5, a6, a7, a8, a9])) = some y4 := hf 4 _ rfl
      rw [opnInt] at f4
      obtain ⟨k4, h4, _, _⟩ := DataW.trod_int Try.underlying3 f4
      have e4 : a5 = .int .i64 k4 := by simpa using h4
      have f5 : DataW.trod enc Try.prog w base spare held m 9 (List.take (Try.prog.cellsOf 9) (List.drop 6 [a0, a1, a2, a3, a4, a5, a6, a7, a8, a9])) = some y5 := hf 5 _ rfl
      rw [opnStr] at f5
      obtain ⟨s5, h5, _, _⟩ := DataW.trod_string Try.underlying9 f5
      have e5 : a6 = .string s5 := by simpa using h5
      have f6 : DataW.trod enc Try.prog w base spare held m 9 (List.take (Try.prog.cellsOf 9) (List.drop 7 [a0, a1, a2, a3, a4, a5, a6, a7, a8, a9])) = some y6 := hf 6 _ rfl
      rw [opnStr] at f6
      obtain ⟨s6, h6, _, _⟩ := DataW.trod_string Try.underlying9 f6
      have e6 : a7 = .string s6 := by simpa using h6
      have f7 : DataW.trod enc Try.prog w base spare held m 3 (List.take (Try.prog.cellsOf 3) (List.drop 8 [a0, a1, a2, a3, a4, a5, a6, a7, a8, a9])) = some y7 := hf 7 _ rfl
      rw [opnInt] at f7
      obtain ⟨k7, h7, _, _⟩ := DataW.trod_int Try.underlying3 f7
      have e7 : a8 = .int .i64 k7 := by simpa using h7
      have f8 : DataW.trod enc Try.prog w base spare held m 9 (List.take (Try.prog.cellsOf 9) (List.drop 9 [a0, a1, a2, a3, a4, a5, a6, a7, a8, a9])) = some y8 := hf 8 _ rfl
      rw [opnStr] at f8
      obtain ⟨s8, h8, _, _⟩ := DataW.trod_string Try.underlying9 f8
      have e8 : a9 = .string s8 := by simpa using h8
      exact ⟨⟨k0, u1, g1, k2, k3, k4, s5.data.toList, s6.data.toList, k7, s8.data.toList⟩, by rw [e0, e1a, e1b, e2, e3, e4, e5, e6, e7, e8]; simp only [bs_self]⟩
set_option maxRecDepth 100000 in
theorem open_Act {r : Reach} {b0 : Nat} {v : Value} {d : DataW H} {p : List MemPlace} (hv : Value.okWide Try.prog w r b0 64 v) (h : DataW.Trod enc Try.prog w base spare held 64 v d p) :
    ∃ x : ActD, v = .agg #[.int .i64 x.kind, .int .i64 x.uid, .int .i64 x.gid, .int .i64 x.dir, .int .i64 x.no, .int .i64 x.n, .string (bs x.name), .string (bs x.text), .int .i64 x.to_, .string (bs x.as_)] := by
  obtain ⟨cs, rfl, hsz⟩ := okWide_struct Try.underlying64 hv
  obtain ⟨fuel, hf⟩ := h
  obtain ⟨x, hx⟩ := Act_cells hf
  have hcs : cs.toList = [.int .i64 x.kind, .int .i64 x.uid, .int .i64 x.gid, .int .i64 x.dir, .int .i64 x.no, .int .i64 x.n, .string (bs x.name), .string (bs x.text), .int .i64 x.to_, .string (bs x.as_)] := hx
  exact ⟨x, by rw [show cs = #[.int .i64 x.kind, .int .i64 x.uid, .int .i64 x.gid, .int .i64 x.dir, .int .i64 x.no, .int .i64 x.n, .string (bs x.name), .string (bs x.text), .int .i64 x.to_, .string (bs x.as_)] from Array.toList_inj.1 hcs]⟩
set_option maxRecDepth 100000 in
theorem open_Acts {r : Reach} {b0 : Nat} {v : Value} {d : DataW H} {p : List MemPlace} (hv : Value.okWide Try.prog w r b0 58 v) (h : DataW.Trod enc Try.prog w base spare held 58 v d p) :
    ∃ (A : Option Addr) (l : List ActD) (cap : Nat), v = .slice A l.length cap ∧ ActsAt w A l ∧ (A = none → cap = 0) ∧ l.length ≤ cap ∧ cap ≤ maxLen := by
  obtain ⟨a, n, c, rfl⟩ := okWide_slice Try.underlying58 hv
  obtain ⟨fuel, hf⟩ := h
  rcases Go.Deep.open_slice Try.underlying58 hf with ⟨hcs, _⟩ | ⟨ad, len, cap, m, k, D, Pl, hcs, _, hl, hm, hmm, _, hi⟩
  · simp [Value.cells] at hcs
    obtain ⟨rfl, rfl, rfl⟩ := hcs
    exact ⟨none, [], 0, rfl, .inl rfl, fun _ => rfl, Nat.le_refl _, by decide⟩
  · simp [Value.cells] at hcs
    obtain ⟨rfl, rfl, rfl⟩ := hcs
    have hmn : n ≤ m := by rw [hmm]; split <;> omega
    obtain ⟨l, hll, hlp⟩ := list_of (α := ActD) n (fun i x => w.cell? (ad.add (i * 10)) = some (.int .i64 x.kind) ∧ w.cell? ((ad.add (i * 10)).add 1) = some (.int .i64 x.uid) ∧ w.cell? ((ad.add (i * 10)).add 2) = some (.int .i64 x.gid) ∧ w.cell? ((ad.add (i * 10)).add 3) = some (.int .i64 x.dir) ∧ w.cell? ((ad.add (i * 10)).add 4) = some (.int .i64 x.no) ∧ w.cell? ((ad.add (i * 10)).add 5) = some (.int .i64 x.n) ∧ w.cell? ((ad.add (i * 10)).add 6) = some (.string (bs x.name)) ∧ w.cell? ((ad.add (i * 10)).add 7) = some (.string (bs x.text)) ∧ w.cell? ((ad.add (i * 10)).add 8) = some (.int .i64 x.to_) ∧ w.cell? ((ad.add (i * 10)).add 9) = some (.string (bs x.as_))) (fun i hin => by
      obtain ⟨cs', hc, ht⟩ := hi i (by omega)
      rw [opnAct_size] at hc
      obtain ⟨x, rfl⟩ := Act_cells ht
      obtain ⟨_, _, hat⟩ := World.cells?_some hc
      exact ⟨x, by simpa [Addr.add] using hat 0 (by simp), by simpa using hat 1 (by simp), by simpa using hat 2 (by simp), by simpa using hat 3 (by simp), by simpa using hat 4 (by simp), by simpa using hat 5 (by simp), by simpa using hat 6 (by simp), by simpa using hat 7 (by simp), by simpa using hat 8 (by simp), by simpa using hat 9 (by simp)⟩)
    refine ⟨some ad, l, c, by rw [hll], ?_, (fun h => by cases h), by omega, hm⟩
    by_cases h0 : l = []
    · exact .inl h0
    · have hpos : 0 < l.length := List.length_pos_iff.2 h0
      obtain ⟨b, off, spot⟩ := ad
      have hspot : spot = none := by simpa [Addr.add] using World.cell?_spot (hlp 0 hpos).1
      subst hspot
      have hbl : b < w.heap.size := by
        have := (hlp 0 hpos).1
        rcases Nat.lt_or_ge b w.heap.size with h' | h'
        · exact h'
        · simp [Addr.add, World.cell?, Array.getElem?_eq_none h'] at this
      refine .inr ⟨b, off, rfl, hbl, fun i hi' => ?_⟩
      obtain ⟨q0, q1, q2, q3, q4, q5, q6, q7, q8, q9⟩ := hlp i hi'
      simp only [add_plain] at q0 q1 q2 q3 q4 q5 q6 q7 q8 q9
      exact ⟨q0, q1, q2, q3, q4, q5, q6, q7, q8, q9⟩
end
end Go.Proofs.Ytebghednhjaniaa
