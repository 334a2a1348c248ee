/- Layer 2 (name): the program's Check. | The law's grow: one item comes, in both trees. | The law's Grow: both trees, with all items. | Results of which the first lies in a block: a struct, and a number beside it. | The reference's Get, with one value in all worlds that have grown from one; plain laws of Get behind Set. | The program's Get, with one value in all worlds that have grown from one; a region that puts a node into a box that was there. -/
import Derived.Test.YtjblimclakfhfaaBunC
import Derived.Test.YtjblimclakfhfaaShelf
import Derived.Lib.IndexAny
import Derived.Deep.Cut
import Derived.Deep.DeepCutAuto
namespace Go.Proofs.Ytjblimclakfhfaa
open Go.ChangeShapes Go.WideShapes Go.ChangeAt Go.RowKit

theorem hasB_index (l : List UInt8) (c : UInt8) : decide (0 ≤ Lib.indexByte l c) = hasB l c := by
  rw [← Lib.contains_iff_indexByte, Bool.eq_iff_iff]
  simp [hasB]
set_option maxRecDepth 100000 in
set_option maxHeartbeats 2000000 in
theorem pcheck_any (s : ByteArray) (w : World) : Calls Try.prog 121 #[.string s] w (Ret w (.int .i64 (checkN s.data.toList))) := by
  by_cases h0 : s.data.toList = []
  · have hf : Hid (checkN s.data.toList = 1) := by show _ = _; unfold checkN; rw [if_pos (.inl h0)]
    have e : s.toList = [] := by rw [ByteArray.toList_eq]; exact h0
    clear h0
    go_enter Try.func121, Try.ntmps121
    go_wp2_with fail
    go_ret
    exact Ret.mk (ret_int (by rw [hf.out])) (Ext.refl _)
  · by_cases h1 : s.data.toList = [46]
    · have hf : Hid (checkN s.data.toList = 1) := by show _ = _; unfold checkN; rw [if_pos (.inr (.inl h1))]
      have e : s.toList = [46] := by rw [ByteArray.toList_eq]; exact h1
      clear h0 h1
      go_enter Try.func121, Try.ntmps121
      go_wp2_with fail
      go_ret
      exact Ret.mk (ret_int (by rw [hf.out])) (Ext.refl _)
    · by_cases h2 : s.data.toList = [46, 46]
      · have hf : Hid (checkN s.data.toList = 1) := by show _ = _; unfold checkN; rw [if_pos (.inr (.inr (.inl h2)))]
        have e : s.toList = [46, 46] := by rw [ByteArray.toList_eq]; exact h2
        clear h0 h1 h2
        go_enter Try.func121, Try.ntmps121
        go_wp2_with fail
        go_ret
        exact Ret.mk (ret_int (by rw [hf.out])) (Ext.refl _)
      · have hk := checkN_no h0 h1 h2
        have e0 : s.toList.isEmpty = false := by rw [ByteArray.toList_eq, List.isEmpty_eq_false_iff]; exact h0
        have e1 : (s.toList == [46]) = false := by rw [ByteArray.toList_eq]; exact beq_eq_false_iff_ne.2 h1
        have e2 : (s.toList == [46, 46]) = false := by rw [ByteArray.toList_eq]; exact beq_eq_false_iff_ne.2 h2
        clear h0 h1 h2
        have hsz : s.data.toList.length = s.size := by simp
        rw [hsz] at hk
        have hx : ∀ c, Hid (decide (0 ≤ Lib.indexByte s.data.toList c) = hasB s.data.toList c) := fun c => hasB_index _ c
        cases hb : hasB s.data.toList 47 with
        | true =>
          have hf : Hid (checkN s.data.toList = 1) := by show _ = _; rw [hk, if_pos (.inl hb)]
          have HB := Lib.hid hb
          clear hk hb hsz
          go_enter Try.func121, Try.ntmps121
          go_wp2_with fail
          refine (Try.strings_Contains_one _ 47 _).mono ?_
          rintro e w1 ⟨rfl, rfl⟩
          rw [(hx 47).out, HB.out]
          go_wp2_with fail
          go_ret
          exact Ret.mk (ret_int (by rw [hf.out])) (Ext.refl _)
        | false =>
          cases hc : hasB s.data.toList 0 with
          | true =>
            have hf : Hid (checkN s.data.toList = 1) := by show _ = _; rw [hk, if_pos (.inr hc)]
            have HB := Lib.hid hb
            have HC := Lib.hid hc
            clear hk hb hc hsz
            go_enter Try.func121, Try.ntmps121
            go_wp2_with fail
            refine (Try.strings_Contains_one _ 47 _).mono ?_
            rintro e w1 ⟨rfl, rfl⟩
            rw [(hx 47).out, HB.out]
            go_wp2_with fail
            refine (Try.strings_Contains_one _ 0 _).mono ?_
            rintro e w1 ⟨rfl, rfl⟩
            rw [(hx 0).out, HC.out]
            go_wp2_with fail
            go_ret
            exact Ret.mk (ret_int (by rw [hf.out])) (Ext.refl _)
          | false =>
            have hf : Hid (checkN s.data.toList = if 255 < s.size then 13 else 0) := by show _ = _; rw [hk, if_neg (by rw [hb, hc]; simp)]
            have HB := Lib.hid hb
            have HC := Lib.hid hc
            clear hk hb hc hsz
            by_cases h : 255 < s.size
            · rw [if_pos h] at hf
              go_enter Try.func121, Try.ntmps121
              go_wp2_with fail
              refine (Try.strings_Contains_one _ 47 _).mono ?_
              rintro e w1 ⟨rfl, rfl⟩
              rw [(hx 47).out, HB.out]
              go_wp2_with fail
              refine (Try.strings_Contains_one _ 0 _).mono ?_
              rintro e w1 ⟨rfl, rfl⟩
              rw [(hx 0).out, HC.out]
              go_wp2_with fail
              go_ret
              exact Ret.mk (ret_int (by rw [hf.out])) (Ext.refl _)
            · rw [if_neg h] at hf
              go_enter Try.func121, Try.ntmps121
              go_wp2_with fail
              refine (Try.strings_Contains_one _ 47 _).mono ?_
              rintro e w1 ⟨rfl, rfl⟩
              rw [(hx 47).out, HB.out]
              go_wp2_with fail
              refine (Try.strings_Contains_one _ 0 _).mono ?_
              rintro e w1 ⟨rfl, rfl⟩
              rw [(hx 0).out, HC.out]
              go_wp2_with fail
              go_ret
              exact Ret.mk (ret_int (by rw [hf.out])) (Ext.refl _)
end Go.Proofs.Ytjblimclakfhfaa

namespace Go.Proofs.Ytjblimclakfhfaa
open Go.ChangeShapes Go.WideShapes Go.ChangeAt Go.RowKit

/-- Both trees, in one memory. -/
def Two (w : World) (B : Nat) (g : GhW) (f : GhF) (S : TreeD) (X : Xtra) : Prop := WAt w B g S ∧ FAt w B f S X
/-- Where the reference's blocks may lie behind a call. -/
def GhF.on (f' f : GhF) (w : World) : Prop := f'.bF = f.bF ∧ ∀ b ∈ f'.list, b ∈ f.list ∨ w.heap.size ≤ b
theorem GhF.on_refl (f : GhF) (w : World) : f.on f w := ⟨rfl, fun _ h => .inl h⟩
theorem GhF.on_trans {f1 f2 f3 : GhF} {w1 w2 : World} (h : f2.on f1 w1) (k : f3.on f2 w2) (hw : w1.heap.size ≤ w2.heap.size) : f3.on f1 w1 :=
  ⟨k.1.trans h.1, fun b hb => by rcases k.2 b hb with g | g; exact h.2 b g; exact .inr (by omega)⟩
def GhW.on (g' g : GhW) (w : World) : Prop := g'.bW = g.bW ∧ ∀ b ∈ g'.list, b ∈ g.list ∨ w.heap.size ≤ b
theorem GhW.on_refl (g : GhW) (w : World) : g.on g w := ⟨rfl, fun _ h => .inl h⟩
theorem GhW.on_trans {g1 g2 g3 : GhW} {w1 w2 : World} (h : g2.on g1 w1) (k : g3.on g2 w2) (hw : w1.heap.size ≤ w2.heap.size) : g3.on g1 w1 :=
  ⟨k.1.trans h.1, fun b hb => by rcases k.2 b hb with g | g; exact h.2 b g; exact .inr (by omega)⟩
def GrowR (w : World) (B : Nat) (g : GhW) (f : GhF) (S : TreeD) (X : Xtra) (it : ItemD) (e : Ending) (w' : World) : Prop :=
  e = .returned (.bool true) ∧ ∃ g' f', Two w' B g' f' (growT S it) X ∧ Only (g.list ++ f.list) w w' ∧ GhW.on g' g w ∧ GhF.on f' f w
theorem grow_same {w w' : World} {B : Nat} {g : GhW} {f : GhF} {S : TreeD} {X : Xtra} {it : ItemD} (h : Two w B g f S X) (hE : Ext w w') (hg : growT S it = S) : GrowR w B g f S X it (.returned (.bool true)) w' :=
  ⟨rfl, g, f, by rw [hg]; exact ⟨h.1.ext hE, h.2.ext hE⟩, Only.of_ext hE, GhW.on_refl g w, GhF.on_refl f w⟩
theorem isN_append {ns : List NodeD} {no : Int} (h : isN ns no = true) (x : NodeD) : isN (ns ++ [x]) no = true := by
  obtain ⟨k, hk, e⟩ := isN_iff.1 h
  exact isN_iff.2 ⟨k, by simp; omega, by rw [List.getElem_append_left hk]; exact e⟩
theorem isN_kind {ns : List NodeD} {no : Int} (h : (getN ns no).kind = 1) : isN ns no = true := by
  cases hi : isN ns no
  · rw [(isN_false hi).1] at h; cases h
  · rfl
set_option maxRecDepth 100000 in
set_option maxHeartbeats 8000000 in
theorem grow_any (B : Nat) (g : GhW) (f : GhF) (S : TreeD) (X : Xtra) (it : ItemD) (w : World) (h : Two w B g f S X) (hG : Good S) (hl : S.last ≤ 1000) (hn : it.name.length ≤ 300) (hd : it.data.length ≤ 2000) :
    Calls Try.prog 35 #[.pointer (some ⟨g.bW, 0, none⟩), .pointer (some ⟨f.bF, 0, none⟩), .agg #[.int .i64 it.dir, .string (bs it.name), .int .i64 it.kind, .int .i64 it.mode, .int .i64 it.uid, .int .i64 it.gid, .string (bs it.data), .int .i64 it.n]] w (GrowR w B g f S X it) := by
  obtain ⟨W1, hW1⟩ : ∃ W1, W1 = w.alloc (.cells #[.int .i64 it.dir, .string (bs it.name), .int .i64 it.kind, .int .i64 it.mode, .int .i64 it.uid, .int .i64 it.gid, .string (bs it.data), .int .i64 it.n] 84) := ⟨_, rfl⟩
  have E1 : Ext w W1 := by rw [hW1]; exact (Ext.refl _).alloc _
  have B1 : Has W1 w.heap.size (.cells #[.int .i64 it.dir, .string (bs it.name), .int .i64 it.kind, .int .i64 it.mode, .int .i64 it.uid, .int .i64 it.gid, .string (bs it.data), .int .i64 it.n] 84) := by rw [hW1]; exact Has.new _ _
  have hl1 := hG.last
  have hnz : S.last ≠ 0 := by omega
  have hnv := near_val it.dir S.last (by omega) (by omega)
  have hat : atI S it = 1 + it.dir % 18446744073709551616 % S.last := rfl
  go_enter Try.func35, Try.ntmps35
  go_upto_region 1 with fail
  rw [← hW1]
  go_cut [7] (fun v wc => v = .int .i64 (atI S it) ∧ Ext W1 wc)
  case first =>
    have x0 : W1.cell? ⟨w.heap.size, 0, none⟩ = some (.int .i64 it.dir) := B1.cell 0
    have z0 := B1.lt
    have c2 : W1.cell? ⟨f.bF, 2, none⟩ = some (.int .i64 S.last) := by obtain ⟨_, cn, ce, k, _⟩ := h.2.ext E1; exact k.cell 2
    have zF := (h.2.ext E1).lt.1
    have HV := Lib.hid hnv
    have HA := Lib.hid hat
    clear hnv hat hW1
    go_quiet (fail)
    go_wp2_with fail
    go_meet
    exact ⟨by rw [HA.out, ← HV.out], ((Ext.refl _).drewN nq)⟩
  case rest =>
  obtain ⟨rfl, E2⟩ := hcut
  obtain ⟨W2, hW2⟩ : ∃ W2, W2 = wc := ⟨_, rfl⟩
  rw [← hW2] at E2 ⊢
  obtain ⟨a, ha⟩ : ∃ a, a = atI S it := ⟨_, rfl⟩
  rw [← ha]
  have EW : Ext w W2 := E1.trans E2
  have B2 := B1.ext E2
  have x2 : W2.cell? ⟨w.heap.size, 2, none⟩ = some (.int .i64 it.kind) := B2.cell 2
  have x7 : W2.cell? ⟨w.heap.size, 7, none⟩ = some (.int .i64 it.n) := B2.cell 7
  have xz := B2.lt
  have HA := Lib.hid ha
  clear hW2 hW1 hnv hat ha hnz
  have hd0 := hG.devs
  have hd8 := hG.eight
  have hcount := hG.count
  by_cases hk : it.kind = 4
  · have hkb : (it.kind == 4) = true := by simpa using hk
    have hgr : Hid (growT S it = mountT S a it.n it.n) := by show _ = _; unfold growT; rw [if_pos hk, HA.out]
    clear hk
    go_wp2_with fail
    refine (pmount_any B g S a it.n it.n _ (h.1.ext EW) hd0 hd8 hG.nos (by omega) (by omega)).mono ?_
    rintro e w3 ⟨rfl, bD, K3, O3, f3⟩
    have F3 := FAt.byW (h.2.ext EW) (h.1.ext EW) O3
    have hlt := (h.1).lt
    have B3 := O3.has B2 (by simp; omega)
    have y7 : w3.cell? ⟨w.heap.size, 7, none⟩ = some (.int .i64 it.n) := B3.cell 7
    have yz := B3.lt
    obtain ⟨m, hm⟩ : ∃ m, m = mountN S a it.n it.n := ⟨_, rfl⟩
    obtain ⟨me, hme⟩ : ∃ me, me = mountE S a it.n it.n := ⟨_, rfl⟩
    rw [← hm, ← hme]
    have HM := Lib.hid hm
    have HE := Lib.hid hme
    clear hm hme x2 x7
    go_wp2_with fail
    refine (rmount_any B f S X a it.n it.n _ F3 hd8 hG.nos (by omega) (by omega) (by omega)).mono ?_
    rintro e w4 ⟨he, bN, bE, F4, O4, f4, f5⟩
    rw [← HM.out, ← HE.out] at he
    subst he
    have K4 := WAt.byF K3 F3 O4
    go_wp2_with fail
    go_ret
    refine ⟨rfl, ⟨g.bW, g.bT, g.bM, bD⟩, ⟨f.bF, bN, bE⟩, ⟨by rw [hgr.out]; exact K4, by rw [hgr.out]; exact F4⟩, ?_, ⟨rfl, ?_⟩, ⟨rfl, ?_⟩⟩
    · exact (Only.pre EW (O3.mono (by simp))).then (O4.mono (by simp))
    · intro b hb
      simp only [GhW.list, List.mem_cons, List.not_mem_nil, or_false] at hb ⊢
      have := EW.size
      rcases hb with rfl | rfl | rfl | rfl
      · simp
      · simp
      · simp
      · rcases f3 with f3 | f3
        · simp [f3]
        · right; omega
    · intro b hb
      simp only [GhF.list, List.mem_cons, List.not_mem_nil, or_false] at hb ⊢
      have := EW.size
      have := O3.size
      rcases hb with rfl | rfl | rfl
      · simp
      · rcases f4 with f4 | f4
        · simp [f4]
        · right; omega
      · rcases f5 with f5 | f5
        · simp [f5]
        · right; omega
  · have hkb : (it.kind == 4) = false := by simpa using hk
    have hgr : Hid (growT S it = if comesI S it = true then (if makeE S (nodeI S it) = 0 then setT (makeT S (nodeI S it)) { getN S.nodes (atI S it) with ents := putF (getN S.nodes (atI S it)).ents (it.name, S.last + 1) } else S) else S) := by show _ = _; unfold growT; rw [if_neg hk]
    clear hk x7
    go_wp2_with fail
    refine (rget_any B f S X a _ (h.2.ext EW) (by omega) hG.nos).mono ?_
    rintro e w3 ⟨A, c, rfl, ok3, E3⟩
    have hcm : Hid (comesI S it = (decide ((getN S.nodes a).kind = 1) && decide (1 ≤ it.kind) && decide (it.kind ≤ 3) && decide (checkN it.name = 0) && decide (findF (getN S.nodes a).ents it.name = 0))) := by show _ = _; rw [HA.out]; rfl
    have hgm := good_getN hG a
    obtain ⟨m, hm⟩ : ∃ m, m = getN S.nodes a := ⟨_, rfl⟩
    rw [← hm] at ok3 hcm hgm ⊢
    have HM := Lib.hid hm
    clear hm x2
    obtain ⟨W4, hW4⟩ : ∃ W4, W4 = w3.alloc (.cells #[.int .i64 m.no, .int .i64 m.dev, .int .i64 m.kind, .int .i64 m.mode, .int .i64 m.uid, .int .i64 m.gid, .int .i64 m.mtime, .int .i64 m.ctime, .int .i64 m.links, .int .i64 m.up, .string (bs m.data), .slice A m.ents.length c] 42) := ⟨_, rfl⟩
    have D4 : Has W4 w3.heap.size (.cells #[.int .i64 m.no, .int .i64 m.dev, .int .i64 m.kind, .int .i64 m.mode, .int .i64 m.uid, .int .i64 m.gid, .int .i64 m.mtime, .int .i64 m.ctime, .int .i64 m.links, .int .i64 m.up, .string (bs m.data), .slice A m.ents.length c] 42) := by rw [hW4]; exact Has.new _ _
    obtain ⟨b12, hb12⟩ : ∃ b12, b12 = w3.heap.size := ⟨_, rfl⟩
    have hbD : w.heap.size < b12 := by have := E3.size; omega
    have E34 : Ext w3 W4 := by rw [hW4]; exact (Ext.refl _).alloc _
    go_upto_region 7 with fail
    rw [← hW4]
    rw [← hb12] at D4 ⊢
    have E4 : Ext W2 W4 := E3.trans E34
    have B4 := B2.ext E4
    have ok4 := ok3.ext E34
    go_cut [89] (fun v wc => v = .bool (!comesI S it) ∧ Ext W4 wc)
    case first =>
      have k2 : W4.cell? ⟨b12, 2, none⟩ = some (.int .i64 m.kind) := D4.cell 2
      have k11 : W4.cell? ⟨b12, 11, none⟩ = some (.slice A m.ents.length c) := D4.cell 11
      have i1 : W4.cell? ⟨w.heap.size, 1, none⟩ = some (.string (bs it.name)) := B4.cell 1
      have i2 : W4.cell? ⟨w.heap.size, 2, none⟩ = some (.int .i64 it.kind) := B4.cell 2
      have zb := B4.lt
      have zd := D4.lt
      have hml : m.ents.length ≤ 2000000 := by have := hgm.2; omega
      have HG := Lib.hid hgm
      have HW4 := Lib.hid hW4
      clear hgm hW4 hb12
      by_cases c1 : m.kind = 1
      · have t1 : (m.kind == 1) = true := by simpa using c1
        have t1b : (m.kind != 1) = false := by simpa using c1
        by_cases c2 : 1 ≤ it.kind
        · have t2 : decide (it.kind < 1) = false := decide_eq_false (by omega)
          by_cases c3 : it.kind ≤ 3
          · have t3 : decide (3 < it.kind) = false := decide_eq_false (by omega)
            obtain ⟨ck, hck⟩ : ∃ ck, ck = checkN it.name := ⟨_, rfl⟩
            rw [← hck] at hcm
            have HK := Lib.hid hck
            by_cases c4 : ck = 0
            · have t4 : (ck == 0) = true := by simpa using c4
              have t4b : (ck != 0) = false := by simpa using c4
              obtain ⟨fk, hfk⟩ : ∃ fk, fk = findF m.ents it.name := ⟨_, rfl⟩
              rw [← hfk] at hcm
              have HF := Lib.hid hfk
              have hcv : Hid (comesI S it = (fk == 0)) := by
                show _ = _
                rw [hcm.out, decide_eq_true c1, decide_eq_true c2, decide_eq_true c3, decide_eq_true c4]
                simp; rfl
              clear hck hfk c1 c2 c3 c4 hcm
              go_wp2_with fail
              refine (rcheck_any (bs it.name) (by rw [bs_size]; omega) _).mono ?_
              rw [bs_list, ← HK.out]
              rintro e w5 ⟨rfl, b5⟩
              obtain ⟨hc5, hf5⟩ := b5.cells
              go_wp2_with fail
              refine (rfind_any A m.ents c it.name _ (ok4.ext b5).ents.ents hml).mono ?_
              rw [← HF.out]
              rintro e w6 ⟨rfl, b6⟩
              cases t5 : (fk == 0)
              · have t5b : (fk != 0) = true := by simpa using t5
                rw [t5] at hcv
                go_wp2_with fail
                go_meet
                exact ⟨by rw [hcv.out]; rfl, b5.trans b6⟩
              · have t5b : (fk != 0) = false := by simpa using t5
                rw [t5] at hcv
                go_wp2_with fail
                go_meet
                exact ⟨by rw [hcv.out]; rfl, b5.trans b6⟩
            · have t4 : (ck == 0) = false := by simpa using c4
              have t4b : (ck != 0) = true := by simpa using c4
              have hcv : Hid (comesI S it = false) := by
                show _ = _
                rw [hcm.out, decide_eq_false c4]
                simp
              clear hck c1 c2 c3 c4 hcm
              go_wp2_with fail
              refine (rcheck_any (bs it.name) (by rw [bs_size]; omega) _).mono ?_
              rw [bs_list, ← HK.out]
              rintro e w5 ⟨rfl, b5⟩
              go_wp2_with fail
              go_meet
              exact ⟨by rw [hcv.out]; rfl, b5⟩
          · have t3 : decide (3 < it.kind) = true := decide_eq_true (by omega)
            have hcv : Hid (comesI S it = false) := by
              show _ = _
              rw [hcm.out, decide_eq_false c3]
              simp
            clear c1 c2 c3 hcm
            go_wp2_with fail
            go_meet
            exact ⟨by rw [hcv.out]; rfl, Ext.refl _⟩
        · have t2 : decide (it.kind < 1) = true := decide_eq_true (by omega)
          have hcv : Hid (comesI S it = false) := by
            show _ = _
            rw [hcm.out, decide_eq_false c2]
            simp
          clear c1 c2 hcm
          go_wp2_with fail
          go_meet
          exact ⟨by rw [hcv.out]; rfl, Ext.refl _⟩
      · have t1 : (m.kind == 1) = false := by simpa using c1
        have t1b : (m.kind != 1) = true := by simpa using c1
        have hcv : Hid (comesI S it = false) := by
          show _ = _
          rw [hcm.out, decide_eq_false c1]
          simp
        clear c1 hcm
        go_wp2_with fail
        go_meet
        exact ⟨by rw [hcv.out]; rfl, Ext.refl _⟩
    case rest =>
    obtain ⟨rfl, E5⟩ := hcut
    cases hc : comesI S it
    · rw [hc] at hgr
      go_wp2_with fail
      go_ret
      exact grow_same h (EW.trans (E4.trans E5)) (by rw [hgr.out]; rfl)
    · rw [hc] at hgr
      obtain ⟨n, hn'⟩ : ∃ n, n = nodeI S it := ⟨_, rfl⟩
      rw [← hn'] at hgr
      have hgr2 : Hid (growT S it = if makeE S n = 0 then setT (makeT S n) { m with ents := putF m.ents (it.name, S.last + 1) } else S) := by
        show _ = _; rw [hgr.out, if_pos rfl, ← HA.out, ← HM.out]
      have hmk : m.kind = 1 := by
        have := hcm.out; rw [hc] at this; symm at this
        simp only [Bool.and_eq_true, decide_eq_true_eq] at this
        exact this.1.1.1.1
      have hin : isN S.nodes a = true := isN_kind (by rw [← HM.out]; exact hmk)
      have hno : m.no = a := by rw [HM.out]; exact (isN_true hin).2.1
      have hnn : n = { nodeZ with dev := m.dev, kind := it.kind, mode := it.mode % 1024, uid := it.uid, gid := it.gid, links := 1, up := if it.kind = 1 then a else 0, data := if it.kind = 1 then [] else it.data } := by rw [hn', HM.out, HA.out]; rfl
      have B5 := B4.ext E5
      have D5 := D4.ext E5
      have ok5 := ok4.ext E5
      obtain ⟨W5, hW5⟩ : ∃ W5, W5 = wc := ⟨_, rfl⟩
      rw [← hW5] at E5 B5 D5 ok5 ⊢
      have hml : m.ents.length ≤ 1000 := by have := hgm.2; omega
      have HIN := Lib.hid hin
      have HNO := Lib.hid hno
      have HR := Lib.hid hgm.1
      clear hW5 hc hgr hcm hn' hmk hin hno hgm hW4 hb12
      have k1 : W5.cell? ⟨b12, 1, none⟩ = some (.int .i64 m.dev) := D5.cell 1
      have i2 : W5.cell? ⟨w.heap.size, 2, none⟩ = some (.int .i64 it.kind) := B5.cell 2
      have i3 : W5.cell? ⟨w.heap.size, 3, none⟩ = some (.int .i64 it.mode) := B5.cell 3
      have i4 : W5.cell? ⟨w.heap.size, 4, none⟩ = some (.int .i64 it.uid) := B5.cell 4
      have i5 : W5.cell? ⟨w.heap.size, 5, none⟩ = some (.int .i64 it.gid) := B5.cell 5
      have i6 : W5.cell? ⟨w.heap.size, 6, none⟩ = some (.string (bs it.data)) := B5.cell 6
      have zb := B5.lt
      have zd := D5.lt
      have HN := Lib.hid hnn
      clear hnn
      go_upto_if 104 with fail
      go_cut [] (fun wx => Ext W5 wx ∧ Has wx W5.heap.size (.cells #[.int .i64 n.no, .int .i64 n.dev, .int .i64 n.kind, .int .i64 n.mode, .int .i64 n.uid, .int .i64 n.gid, .int .i64 n.mtime, .int .i64 n.ctime, .int .i64 n.links, .int .i64 n.up, .string (bs n.data), .slice none n.ents.length 0] 42))
      case first =>
        by_cases hk1 : it.kind = 1
        · have hk1b : (it.kind == 1) = true := by simpa using hk1
          have hnv : Hid (n = { nodeZ with dev := m.dev, kind := it.kind, mode := bits .and .i64 it.mode 1023, uid := it.uid, gid := it.gid, links := 1, up := a }) := by show _ = _; rw [HN.out, if_pos hk1, if_pos hk1, and_1023]; rfl
          clear hk1
          go_wp2_with fail
          go_meet
          rw [hnv.out]
          exact ⟨(Ext.refl _).alloc _, Has.new _ _⟩
        · have hk1b : (it.kind == 1) = false := by simpa using hk1
          have hnv : Hid (n = { nodeZ with dev := m.dev, kind := it.kind, mode := bits .and .i64 it.mode 1023, uid := it.uid, gid := it.gid, links := 1, data := it.data }) := by show _ = _; rw [HN.out, if_neg hk1, if_neg hk1, and_1023]; rfl
          clear hk1
          go_wp2_with fail
          go_meet
          rw [hnv.out]
          exact ⟨(Ext.refl _).alloc _, Has.new _ _⟩
      case rest =>
      obtain ⟨E6, N6⟩ := hcut
      obtain ⟨W6, hW6⟩ : ∃ W6, W6 = wc := ⟨_, rfl⟩
      obtain ⟨b13, hb13⟩ : ∃ b13, b13 = W5.heap.size := ⟨_, rfl⟩
      rw [← hW6, ← hb13] at N6
      rw [← hW6] at E6 ⊢
      rw [← hb13]
      have hne : n.ents = [] := by rw [HN.out]; rfl
      have hnd : n.data.length ≤ 2000 := by rw [HN.out]; show (if it.kind = 1 then [] else it.data).length ≤ 2000; split; simp; exact hd
      have EW6 : Ext w W6 := EW.trans ((E4.trans E5).trans E6)
      have hnok : NodeOk W6 B n none 0 := (NodeOk.zero W6 B).same hne
      have s45 := E4.size
      have s56 := E5.size
      have s01 := EW.size
      have s67 := E6.size
      have hb13w : w.heap.size ≤ b13 := by omega
      have B6 := B5.ext E6
      have D6 := D5.ext E6
      have hlg := h.1.lt
      have hlf := h.2.lt
      have HNE := Lib.hid hne
      clear hW6 k1 i2 i3 i4 i5 i6 hb13 zb zd hne
      obtain ⟨x0, x1, x2, x3, x4, x5, x6, x7, x8, x9, x10, x11⟩ := N6.node12
      have xz6 := N6.lt
      go_wp2_with fail
      refine (pmake_any B g S n none 0 _ (h.1.ext EW6) hnok hG.roots hd0 hd8 hG.nos (by omega) (by omega) (by omega)).mono ?_
      rintro e w7 ⟨rfl, K7, O7⟩
      have F7 := FAt.byW (h.2.ext EW6) (h.1.ext EW6) O7
      have N7 := O7.has N6 (by simp; omega)
      have B7 := O7.has B6 (by simp; omega)
      have D7 := O7.has D6 (by simp; omega)
      have ok7 : NodeOk w7 B m A c := (ok5.ext E6).only O7 (h.1.ext EW6).apart
      have hnok7 : NodeOk w7 B n none 0 := (NodeOk.zero w7 B).same HNE.out
      clear x0 x1 x2 x3 x4 x5 x6 x7 x8 x9 x10 x11
      obtain ⟨x0, x1, x2, x3, x4, x5, x6, x7, x8, x9, x10, x11⟩ := N7.node12
      have xz7 := N7.lt
      obtain ⟨p, hp⟩ : ∃ p, p = makeN S n := ⟨_, rfl⟩
      obtain ⟨q, hq⟩ : ∃ q, q = makeE S n := ⟨_, rfl⟩
      rw [← hp, ← hq]
      have HP := Lib.hid hp
      have HQ := Lib.hid hq
      clear hp hq
      go_wp2_with fail
      refine (rmake_any B f S X n none 0 _ F7 (by omega) hnok7 hG.roots hd8 hG.nos (by omega) (by omega) (by omega)).mono ?_
      rintro e w8 ⟨he, bN, F8, O8, f8⟩
      rw [← HP.out, ← HQ.out] at he
      subst he
      have K8 := WAt.byF K7 F7 O8
      have s78 := O7.size
      have s88 := O8.size
      have B8 := O8.has B7 (by simp; omega)
      have D8 := O8.has D7 (by simp; omega)
      have ok8 := ok7.only O8 F7.apart
      have O68 : Only (g.list ++ f.list) w w8 := (Only.pre EW6 (O7.mono (by simp))).then (O8.mono (by simp))
      have hon8 : GhF.on ⟨f.bF, bN, f.bE⟩ f w := by
        refine ⟨rfl, fun b hb => ?_⟩
        simp only [GhF.list, List.mem_cons, List.not_mem_nil, or_false] at hb ⊢
        rcases hb with rfl | rfl | rfl
        · simp
        · rcases f8 with f8 | f8
          · simp [f8]
          · right; omega
        · simp
      clear x0 x1 x2 x3 x4 x5 x6 x7 x8 x9 x10 x11
      by_cases hz : q = 0
      · have hzb : (q == 0) = true := by simpa using hz
        have hE0 : makeE S n = 0 := by rw [← HQ.out]; exact hz
        have hgr3 : Hid (growT S it = setT (makeT S n) { m with ents := putF m.ents (it.name, S.last + 1) }) := by show _ = _; rw [hgr2.out, if_pos hE0]
        have hG2 : Good (makeT S n) := good_make hG HNE.out
        have hlast2 := makeT_last hE0
        have hp1 : p = S.last + 1 := by rw [HP.out]; unfold makeN; rw [if_pos hE0]
        have hin2 : isN (makeT S n).nodes a = true := by
          unfold makeT; rw [if_pos hE0]; exact isN_append HIN.out _
        have HIN2 := Lib.hid hin2
        have HE0 := Lib.hid hE0
        have HL2 := Lib.hid hlast2
        have hlen2 : (makeT S n).nodes.length ≤ 1001 := by have := hG2.count; omega
        have hl20 : (0 : Int) ≤ (makeT S n).last := by omega
        have hl21 : (makeT S n).last ≤ 1000000 := by omega
        have k11 : w8.cell? ⟨b12, 11, none⟩ = some (.slice A m.ents.length c) := D8.cell 11
        have i1 : w8.cell? ⟨w.heap.size, 1, none⟩ = some (.string (bs it.name)) := B8.cell 1
        have zb8 := B8.lt
        have zd8 := D8.lt
        subst hp1
        clear hz hE0 hin2 hlast2
        go_wp2_with fail
        refine (rput_any A m.ents c (it.name, S.last + 1) _ ok8.ents.ents (by omega)).mono ?_
        rintro e w9 ⟨v, rfl, ho9, E9⟩
        obtain ⟨A9, c9, rfl, hle9, hmx9, ht9, hn9⟩ := OwnE.entsT (B := B) ho9
        have D9 := D8.ext E9
        obtain ⟨L, hL⟩ : ∃ L, L = putF m.ents (it.name, S.last + 1) := ⟨_, rfl⟩
        rw [← hL] at hle9 ht9 hgr3 ⊢
        have HLL := Lib.hid hL
        clear hL ho9 k11 i1
        obtain ⟨d', hd'⟩ : ∃ d' : NodeD, d' = { m with ents := L } := ⟨_, rfl⟩
        obtain ⟨V, hV⟩ : ∃ V, V = w9.setCell ⟨b12, 11, none⟩ (.slice A9 L.length c9) := ⟨_, rfl⟩
        have DV : Has V b12 (.cells #[.int .i64 (d').no, .int .i64 (d').dev, .int .i64 (d').kind, .int .i64 (d').mode, .int .i64 (d').uid, .int .i64 (d').gid, .int .i64 (d').mtime, .int .i64 (d').ctime, .int .i64 (d').links, .int .i64 (d').up, .string (bs (d').data), .slice A9 (d').ents.length c9] 42) := by
          rw [hV, hd']
          have := D9.setCell 11 (.slice A9 L.length c9)
          exact this
        have OV : Only [b12] w9 V := by rw [hV]; exact Only.setCell w9 b12 11 _
        have s9 := E9.size
        have zd7 := D7.lt
        have hbB : B ≤ w.heap.size := by have := h.1.1; omega
        have haV : Apart w9 B [b12] := by
          intro b hb
          rw [List.mem_singleton] at hb
          subst hb
          exact ⟨by omega, D9.noTag (by decide)⟩
        have okV : NodeOk V B d' A9 c9 := (show NodeOk w9 B d' A9 c9 from ⟨by rw [hd']; exact ht9, by rw [hd']; exact hle9, hmx9, hn9⟩).only OV haV
        have FV : FAt V B ⟨f.bF, bN, f.bE⟩ (makeT S n) X := (F8.ext E9).only OV haV (by
          intro b hb
          simp only [GhF.list, List.mem_cons, List.not_mem_nil, or_false] at hb
          rw [List.mem_singleton]
          rcases hb with rfl | rfl | rfl
          · omega
          · rcases f8 with f8 | f8 <;> omega
          · omega)
        have KV : WAt V B g (makeT S n) := (K8.ext E9).only OV haV (by
          intro b hb
          simp only [GhW.list, List.mem_cons, List.not_mem_nil, or_false] at hb
          rw [List.mem_singleton]
          rcases hb with rfl | rfl | rfl | rfl <;> omega)
        have OwV : Only (g.list ++ f.list) w V := (O68.ext E9).trans OV (by intro b hb; rw [List.mem_singleton] at hb; right; omega)
        have HV := Lib.hid hV
        have HD' := Lib.hid hd'
        have hdno : d'.no = a := by rw [hd']; exact HNO.out
        have HDN := Lib.hid hdno
        obtain ⟨x0, x1, x2, x3, x4, x5, x6, x7, x8, x9, x10, x11⟩ := DV.node12
        have zV := DV.lt
        have k11' : w9.cell? ⟨b12, 11, none⟩ = some (.slice A m.ents.length c) := D9.cell 11
        have f11 : w9.frozen? ⟨b12, 11, none⟩ = false := D9.free 11
        have zd9 := D9.lt
        clear hV hd' hdno
        go_upto_region 19 with fail
        rw [← HV.out]
        clear k11' f11 zd9
        go_wp2_with fail
        refine (rset_any B ⟨f.bF, bN, f.bE⟩ (makeT S n) X d' A9 c9 _ FV (by omega) hG2.nos okV).mono ?_
        rintro e w10 ⟨rfl, F10, O10⟩
        have K10 := WAt.byF KV FV O10
        have DVn : b12 ∉ ([f.bF, bN, f.bE] : List Nat) := by
          simp only [List.mem_cons, List.not_mem_nil, or_false, not_or]
          refine ⟨by omega, ?_, by omega⟩
          rcases f8 with f8 | f8 <;> omega
        have D10 := O10.has DV DVn
        have ok10 : NodeOk w10 B d' A9 c9 := okV.only O10 FV.apart
        clear x0 x1 x2 x3 x4 x5 x6 x7 x8 x9 x10 x11 zV
        obtain ⟨hb1, hT, cd, hW10, hR10⟩ := K10
        have v0 : w10.cell? ⟨g.bW, 0, none⟩ = some (.pointer (some ⟨g.bT, 0, none⟩)) := hW10.cell 0
        have vz := hW10.lt
        obtain ⟨x0, x1, x2, x3, x4, x5, x6, x7, x8, x9, x10, x11⟩ := D10.node12
        have zD := D10.lt
        have K10 : WAt w10 B g (makeT S n) := ⟨hb1, hT, cd, hW10, hR10⟩
        go_upto_region 20 with fail
        go_still_tail 5, (by kernel_rfl)
        change wpList _ _ _ _ _ w10.drew
        go_wp2_with fail
        have E10 : Ext w10 w10.drew := (Ext.refl _).drew
        refine (tset_any B g.bT g.bM (makeT S n).nodes (makeT S n).last d' A9 c9 _ (hT.ext E10) hG2.nos (ok10.ext E10)).mono ?_
        rintro e w11 ⟨he, T11, O11⟩
        rw [HDN.out, HIN2.out] at he
        subst he
        have F11 : FAt w11 B ⟨f.bF, bN, f.bE⟩ (setT (makeT S n) d') X := FAt.byW (F10.ext E10) (K10.ext E10) (O11.mono (by simp))
        have K11 : WAt w11 B g (setT (makeT S n) d') := WAt.table (K10.ext E10) O11 T11
        go_wp2_with fail
        go_ret
        have eg : growT S it = setT (makeT S n) d' := by rw [hgr3.out, HD'.out]
        refine ⟨rfl, g, ⟨f.bF, bN, f.bE⟩, ⟨by rw [eg]; exact K11, by rw [eg]; exact F11⟩, ?_, GhW.on_refl g w, hon8⟩
        refine ((OwV.trans O10 ?_).ext E10).then (O11.mono (by simp))
        intro b hb
        simp only [GhF.list, List.mem_cons, List.not_mem_nil, or_false] at hb
        rcases hb with rfl | rfl | rfl
        · left; simp
        · rcases f8 with f8 | f8
          · left; simp [f8]
          · right; omega
        · left; simp
      · have hzb : (q == 0) = false := by simpa using hz
        have hE0 : ¬ makeE S n = 0 := by rw [← HQ.out]; exact hz
        have hgr3 : Hid (growT S it = S) := by show _ = _; rw [hgr2.out, if_neg hE0]
        have hmt : Hid (makeT S n = S) := by show _ = _; unfold makeT; rw [if_neg hE0]
        clear hz hE0
        go_wp2_with fail
        go_ret
        rw [hmt.out] at K8 F8
        exact ⟨rfl, g, ⟨f.bF, bN, f.bE⟩, ⟨by rw [hgr3.out]; exact K8, by rw [hgr3.out]; exact F8⟩, O68, GhW.on_refl g w, hon8⟩
end Go.Proofs.Ytjblimclakfhfaa

namespace Go.Proofs.Ytjblimclakfhfaa
open Go.ChangeShapes Go.WideShapes Go.ChangeAt Go.RowKit

abbrev firstT (b n : Int) : TreeD := rootT emptyT 0 b n
def GrowAllR (w : World) (b n : Int) (l : List ItemD) (e : Ending) (w' : World) : Prop :=
  ∃ g f, e = .returned (.tuple #[.pointer (some ⟨g.bW, 0, none⟩), .pointer (some ⟨f.bF, 0, none⟩), .bool true]) ∧ Two w' w.heap.size g f (growAll (firstT b n) l) x0 ∧ Ext w w'
theorem two_after {w0 w w' : World} {g : GhW} {f : GhF} {S : TreeD} {X : Xtra} (h : Two w w0.heap.size g f S X) (o : Only (g.list ++ f.list) w w') (hE : Ext w0 w) : Ext w0 w' := by
  refine o.after hE fun b hb => ?_
  rcases List.mem_append.1 hb with hb | hb
  · exact (h.1.apart b hb).1
  · exact (h.2.apart b hb).1
set_option maxRecDepth 100000 in
set_option maxHeartbeats 8000000 in
theorem growAll_any (b n : Int) (A : Option Addr) (l : List ItemD) (cap : Nat) (w : World) (hlim : limitsF b n = true) (hf : FewI l) (hA : ItemsAt w A l) :
    Calls Try.prog 9 #[.int .i64 b, .int .i64 n, .slice A l.length cap] w (GrowAllR w b n l) := by
  have hg1 := good_first hlim
  have hl40 := hf.2
  obtain ⟨S0, hS0⟩ : ∃ S0, S0 = firstT b n := ⟨_, rfl⟩
  have hlast : S0.last = 1 := by rw [hS0]; rfl
  have HS := Lib.hid hS0
  go_enter Try.func9, Try.ntmps9
  go_wp2_with fail
  refine (pnew_any w.heap.size b n w (Nat.le_refl _) hlim).mono ?_
  rintro e w1 ⟨g1, rfl, K1, b1⟩
  go_wp2_with fail
  refine (rnew_any w.heap.size b n w1 b1.size hlim).mono ?_
  rintro e w2 ⟨f1, rfl, F2, b2⟩
  have K2 := K1.ext b2
  have E2 := b1.trans b2
  rw [show rootT emptyT 0 b n = S0 from hS0.symm] at F2 K2
  rw [show rootT emptyT 0 b n = S0 from hS0.symm] at hg1
  have c2 : w2.cell? ⟨f1.bF, 2, none⟩ = some (.int .i64 1) := by obtain ⟨_, cn, ce, k, _⟩ := F2; rw [← hlast]; exact k.cell 2
  have zF := F2.lt.1
  obtain ⟨m, hm⟩ : ∃ m, m = l.length := ⟨_, rfl⟩
  rw [← hm]
  have HN := Lib.hid hm
  have HL := Lib.hid hlast
  clear hS0 hm hlast
  go_wp2_with fail
  go_loopw [12] (fun i wr => ∃ k : Nat, k ≤ m ∧ i = .int .i64 k ∧ ∃ g f, g.bW = g1.bW ∧ f.bF = f1.bF ∧ Two wr w.heap.size g f (growAll S0 (l.take k)) x0 ∧ Ext w wr) (fun i _ => m - (intOf i).toNat)
  case atStart => exact ⟨0, Nat.zero_le _, rfl, g1, f1, rfl, rfl, ⟨K2, F2⟩, E2⟩
  case round =>
    obtain ⟨k, hk, rfl, g, f, hgW, hfF, hTwo, hE⟩ := hrel
    by_cases hlt : (k : Int) < m
    · have hkl : k < l.length := by have := HN.out; omega
      obtain ⟨bI, o, rfl, hbw, i0, i1, i2, i3, i4, i5, i6, i7⟩ := hA.at_ hE k hkl
      have hsn : Hid (growAll S0 (l.take (k + 1)) = growT (growAll S0 (l.take k)) l[k]) := growAll_snoc hkl
      have hsh := hf.1 _ (List.getElem_mem hkl)
      obtain ⟨it, hit⟩ : ∃ it, it = l[k] := ⟨_, rfl⟩
      rw [← hit] at i0 i1 i2 i3 i4 i5 i6 i7 hsn hsh
      have hga := good_all hg1 (l.take k)
      obtain ⟨T, hT⟩ : ∃ T, T = growAll S0 (l.take k) := ⟨_, rfl⟩
      rw [← hT] at hTwo hsn hga
      have hTl : T.last ≤ 1000 := by have h1 := hga.2; have h2 := HL.out; simp only [List.length_take] at h1; omega
      have HGA := Lib.hid hga.1
      have HSH := Lib.hid hsh
      clear hit hT hga hsh c2
      go_wp2_with fail
      rw [← hgW, ← hfF]
      refine (grow_any w.heap.size g f T x0 it _ hTwo HGA.out hTl HSH.out.1 HSH.out.2).mono ?_
      rintro e w3 ⟨rfl, g', f', T3, O3, on1, on2⟩
      have hE3 := two_after hTwo O3 hE
      have hW3 : g'.bW = g1.bW := on1.1.trans hgW
      have hF3 : f'.bF = f1.bF := on2.1.trans hfF
      have HW3 := Lib.hid hW3
      have HF3 := Lib.hid hF3
      clear hW3 hF3
      rw [hgW, hfF]
      clear hgW hfF
      go_wp2_with fail
      go_roundw
      case rel => exact ⟨k + 1, by omega, by go_num, g', f', HW3.out, HF3.out, by rw [hsn.out]; exact T3, hE3⟩
      case measure => simp [intOf]; omega
    · have hkn : k = m := by omega
      have htk : Hid (l.take k = l) := by show _ = _; rw [hkn, HN.out, List.take_length]
      have HGW := Lib.hid hgW
      have HFF := Lib.hid hfF
      clear hgW hfF hkn c2
      go_wp2_with fail
      refine bodyPost_ret (v := .tuple #[.pointer (some ⟨g1.bW, 0, none⟩), .pointer (some ⟨f1.bF, 0, none⟩), .bool true]) (by simp [results, Try.results9, go_sem]) rfl ?_
      refine ⟨g, f, by rw [HGW.out, HFF.out], ?_, hE⟩
      rw [htk.out, HS.out] at hTwo
      exact hTwo
end Go.Proofs.Ytjblimclakfhfaa

namespace Go.Proofs.Ytjblimclakfhfaa
open Go.ChangeShapes Go.WideShapes Go.ChangeAt Go.RowKit

theorem res_cell_tmp {P : Program} {fn : Func} {p t : Tmp} {ty : TypeId} (h : fn.results = #[.cell p ty, .tmp t]) (tmps : Array Value) (w : World) (g : Nat) (tt : TypeId) (cs : Array Value) (d : TypeDesc) (v : Value)
    (hp : tmps.getD p undef = .pointer (some ⟨g, 0, none⟩)) (hv : tmps.getD t undef = v) (hg : Has w g (.cells cs tt))
    (hu : P.underlying ty = some d) (hd : (match d with | .struct _ | .array _ _ => true | _ => false) = true) (hi : (P.info? ty).map (·.size) = some cs.size) :
    (results fn tmps).run P w = .ok (.tuple #[.agg cs, v]) w := by
  have hp' : tmps[p]?.getD undef = .pointer (some ⟨g, 0, none⟩) := by simpa using hp
  have hv' : tmps[t]?.getD undef = v := by simpa using hv
  have hl := run_loadVar_row (P := P) w g tt ty cs (0, 0) d hg hu hd hi
  simp [results, h, hp', hv', asAddr, hl]
/-- A whole block, as a range that may be written. -/
theorem Has.there {w : World} {b : Nat} {C : Array Value} {t : TypeId} (h : Has w b (.cells C t)) : w.there b 0 C.size := fun j hj => by
  rw [Nat.zero_add, h.cell j, h.free j]
  refine ⟨?_, by simp⟩
  rw [Array.getElem?_eq_getElem hj]; rfl
theorem Has.range {w : World} {b : Nat} {C : Array Value} {t : TypeId} (h : Has w b (.cells C t)) : w.rangeAt b 0 C.toList := fun j v hv => by
  rw [Nat.zero_add, h.cell j]
  simpa using hv
/-- Twelve stores into a node's box. -/
theorem Has.setNode {w : World} {b : Nat} {a0 a1 a2 a3 a4 a5 a6 a7 a8 a9 a10 a11 : Value} {t : TypeId} (h : Has w b (.cells #[a0, a1, a2, a3, a4, a5, a6, a7, a8, a9, a10, a11] t)) (n : NodeD) (A : Option Addr) (c : Nat) : Has (w.setCells b 0 (nodeL n A c)) b (.cells #[.int .i64 n.no, .int .i64 n.dev, .int .i64 n.kind, .int .i64 n.mode, .int .i64 n.uid, .int .i64 n.gid, .int .i64 n.mtime, .int .i64 n.ctime, .int .i64 n.links, .int .i64 n.up, .string (bs n.data), .slice A n.ents.length c] t) := by
  have h0 : Has (w.setCell ⟨b, 0, none⟩ (.int .i64 n.no)) b (.cells #[.int .i64 n.no, a1, a2, a3, a4, a5, a6, a7, a8, a9, a10, a11] t) := by have := Has.setCell h 0 (.int .i64 n.no); simpa using this
  have h1 : Has ((w.setCell ⟨b, 0, none⟩ (.int .i64 n.no)).setCell ⟨b, 1, none⟩ (.int .i64 n.dev)) b (.cells #[.int .i64 n.no, .int .i64 n.dev, a2, a3, a4, a5, a6, a7, a8, a9, a10, a11] t) := by have := Has.setCell h0 1 (.int .i64 n.dev); simpa using this
  have h2 : Has (((w.setCell ⟨b, 0, none⟩ (.int .i64 n.no)).setCell ⟨b, 1, none⟩ (.int .i64 n.dev)).setCell ⟨b, 2, none⟩ (.int .i64 n.kind)) b (.cells #[.int .i64 n.no, .int .i64 n.dev, .int .i64 n.kind, a3, a4, a5, a6, a7, a8, a9, a10, a11] t) := by have := Has.setCell h1 2 (.int .i64 n.kind); simpa using this
  have h3 : Has ((((w.setCell ⟨b, 0, none⟩ (.int .i64 n.no)).setCell ⟨b, 1, none⟩ (.int .i64 n.dev)).setCell ⟨b, 2, none⟩ (.int .i64 n.kind)).setCell ⟨b, 3, none⟩ (.int .i64 n.mode)) b (.cells #[.int .i64 n.no, .int .i64 n.dev, .int .i64 n.kind, .int .i64 n.mode, a4, a5, a6, a7, a8, a9, a10, a11] t) := by have := Has.setCell h2 3 (.int .i64 n.mode); simpa using this
  have h4 : Has (((((w.setCell ⟨b, 0, none⟩ (.int .i64 n.no)).setCell ⟨b, 1, none⟩ (.int .i64 n.dev)).setCell ⟨b, 2, none⟩ (.int .i64 n.kind)).setCell ⟨b, 3, none⟩ (.int .i64 n.mode)).setCell ⟨b, 4, none⟩ (.int .i64 n.uid)) b (.cells #[.int .i64 n.no, .int .i64 n.dev, .int .i64 n.kind, .int .i64 n.mode, .int .i64 n.uid, a5, a6, a7, a8, a9, a10, a11] t) := by have := Has.setCell h3 4 (.int .i64 n.uid); simpa using this
  have h5 : Has ((((((w.setCell ⟨b, 0, none⟩ (.int .i64 n.no)).setCell ⟨b, 1, none⟩ (.int .i64 n.dev)).setCell ⟨b, 2, none⟩ (.int .i64 n.kind)).setCell ⟨b, 3, none⟩ (.int .i64 n.mode)).setCell ⟨b, 4, none⟩ (.int .i64 n.uid)).setCell ⟨b, 5, none⟩ (.int .i64 n.gid)) b (.cells #[.int .i64 n.no, .int .i64 n.dev, .int .i64 n.kind, .int .i64 n.mode, .int .i64 n.uid, .int .i64 n.gid, a6, a7, a8, a9, a10, a11] t) := by have := Has.setCell h4 5 (.int .i64 n.gid); simpa using this
  have h6 : Has (((((((w.setCell ⟨b, 0, none⟩ (.int .i64 n.no)).setCell ⟨b, 1, none⟩ (.int .i64 n.dev)).setCell ⟨b, 2, none⟩ (.int .i64 n.kind)).setCell ⟨b, 3, none⟩ (.int .i64 n.mode)).setCell ⟨b, 4, none⟩ (.int .i64 n.uid)).setCell ⟨b, 5, none⟩ (.int .i64 n.gid)).setCell ⟨b, 6, none⟩ (.int .i64 n.mtime)) b (.cells #[.int .i64 n.no, .int .i64 n.dev, .int .i64 n.kind, .int .i64 n.mode, .int .i64 n.uid, .int .i64 n.gid, .int .i64 n.mtime, a7, a8, a9, a10, a11] t) := by have := Has.setCell h5 6 (.int .i64 n.mtime); simpa using this
  have h7 : Has ((((((((w.setCell ⟨b, 0, none⟩ (.int .i64 n.no)).setCell ⟨b, 1, none⟩ (.int .i64 n.dev)).setCell ⟨b, 2, none⟩ (.int .i64 n.kind)).setCell ⟨b, 3, none⟩ (.int .i64 n.mode)).setCell ⟨b, 4, none⟩ (.int .i64 n.uid)).setCell ⟨b, 5, none⟩ (.int .i64 n.gid)).setCell ⟨b, 6, none⟩ (.int .i64 n.mtime)).setCell ⟨b, 7, none⟩ (.int .i64 n.ctime)) b (.cells #[.int .i64 n.no, .int .i64 n.dev, .int .i64 n.kind, .int .i64 n.mode, .int .i64 n.uid, .int .i64 n.gid, .int .i64 n.mtime, .int .i64 n.ctime, a8, a9, a10, a11] t) := by have := Has.setCell h6 7 (.int .i64 n.ctime); simpa using this
  have h8 : Has (((((((((w.setCell ⟨b, 0, none⟩ (.int .i64 n.no)).setCell ⟨b, 1, none⟩ (.int .i64 n.dev)).setCell ⟨b, 2, none⟩ (.int .i64 n.kind)).setCell ⟨b, 3, none⟩ (.int .i64 n.mode)).setCell ⟨b, 4, none⟩ (.int .i64 n.uid)).setCell ⟨b, 5, none⟩ (.int .i64 n.gid)).setCell ⟨b, 6, none⟩ (.int .i64 n.mtime)).setCell ⟨b, 7, none⟩ (.int .i64 n.ctime)).setCell ⟨b, 8, none⟩ (.int .i64 n.links)) b (.cells #[.int .i64 n.no, .int .i64 n.dev, .int .i64 n.kind, .int .i64 n.mode, .int .i64 n.uid, .int .i64 n.gid, .int .i64 n.mtime, .int .i64 n.ctime, .int .i64 n.links, a9, a10, a11] t) := by have := Has.setCell h7 8 (.int .i64 n.links); simpa using this
  have h9 : Has ((((((((((w.setCell ⟨b, 0, none⟩ (.int .i64 n.no)).setCell ⟨b, 1, none⟩ (.int .i64 n.dev)).setCell ⟨b, 2, none⟩ (.int .i64 n.kind)).setCell ⟨b, 3, none⟩ (.int .i64 n.mode)).setCell ⟨b, 4, none⟩ (.int .i64 n.uid)).setCell ⟨b, 5, none⟩ (.int .i64 n.gid)).setCell ⟨b, 6, none⟩ (.int .i64 n.mtime)).setCell ⟨b, 7, none⟩ (.int .i64 n.ctime)).setCell ⟨b, 8, none⟩ (.int .i64 n.links)).setCell ⟨b, 9, none⟩ (.int .i64 n.up)) b (.cells #[.int .i64 n.no, .int .i64 n.dev, .int .i64 n.kind, .int .i64 n.mode, .int .i64 n.uid, .int .i64 n.gid, .int .i64 n.mtime, .int .i64 n.ctime, .int .i64 n.links, .int .i64 n.up, a10, a11] t) := by have := Has.setCell h8 9 (.int .i64 n.up); simpa using this
  have h10 : Has (((((((((((w.setCell ⟨b, 0, none⟩ (.int .i64 n.no)).setCell ⟨b, 1, none⟩ (.int .i64 n.dev)).setCell ⟨b, 2, none⟩ (.int .i64 n.kind)).setCell ⟨b, 3, none⟩ (.int .i64 n.mode)).setCell ⟨b, 4, none⟩ (.int .i64 n.uid)).setCell ⟨b, 5, none⟩ (.int .i64 n.gid)).setCell ⟨b, 6, none⟩ (.int .i64 n.mtime)).setCell ⟨b, 7, none⟩ (.int .i64 n.ctime)).setCell ⟨b, 8, none⟩ (.int .i64 n.links)).setCell ⟨b, 9, none⟩ (.int .i64 n.up)).setCell ⟨b, 10, none⟩ (.string (bs n.data))) b (.cells #[.int .i64 n.no, .int .i64 n.dev, .int .i64 n.kind, .int .i64 n.mode, .int .i64 n.uid, .int .i64 n.gid, .int .i64 n.mtime, .int .i64 n.ctime, .int .i64 n.links, .int .i64 n.up, .string (bs n.data), a11] t) := by have := Has.setCell h9 10 (.string (bs n.data)); simpa using this
  have h11 : Has ((((((((((((w.setCell ⟨b, 0, none⟩ (.int .i64 n.no)).setCell ⟨b, 1, none⟩ (.int .i64 n.dev)).setCell ⟨b, 2, none⟩ (.int .i64 n.kind)).setCell ⟨b, 3, none⟩ (.int .i64 n.mode)).setCell ⟨b, 4, none⟩ (.int .i64 n.uid)).setCell ⟨b, 5, none⟩ (.int .i64 n.gid)).setCell ⟨b, 6, none⟩ (.int .i64 n.mtime)).setCell ⟨b, 7, none⟩ (.int .i64 n.ctime)).setCell ⟨b, 8, none⟩ (.int .i64 n.links)).setCell ⟨b, 9, none⟩ (.int .i64 n.up)).setCell ⟨b, 10, none⟩ (.string (bs n.data))).setCell ⟨b, 11, none⟩ (.slice A n.ents.length c)) b (.cells #[.int .i64 n.no, .int .i64 n.dev, .int .i64 n.kind, .int .i64 n.mode, .int .i64 n.uid, .int .i64 n.gid, .int .i64 n.mtime, .int .i64 n.ctime, .int .i64 n.links, .int .i64 n.up, .string (bs n.data), .slice A n.ents.length c] t) := by have := Has.setCell h10 11 (.slice A n.ents.length c); simpa using this
  exact h11
/-- A node's box, into which another node is put. -/
theorem Has.putNode {w : World} {b : Nat} {n : NodeD} {A : Option Addr} {c : Nat} {t : TypeId} (h : Has w b (.cells #[.int .i64 n.no, .int .i64 n.dev, .int .i64 n.kind, .int .i64 n.mode, .int .i64 n.uid, .int .i64 n.gid, .int .i64 n.mtime, .int .i64 n.ctime, .int .i64 n.links, .int .i64 n.up, .string (bs n.data), .slice A n.ents.length c] t)) (m : NodeD) (A' : Option Addr) (c' : Nat) : Has (w.setCells b 0 (nodeL m A' c')) b (.cells #[.int .i64 m.no, .int .i64 m.dev, .int .i64 m.kind, .int .i64 m.mode, .int .i64 m.uid, .int .i64 m.gid, .int .i64 m.mtime, .int .i64 m.ctime, .int .i64 m.links, .int .i64 m.up, .string (bs m.data), .slice A' m.ents.length c'] t) := h.setNode m A' c'
theorem Ext.setCells {a w : World} (h : Ext a w) {b o : Nat} (hb : a.heap.size ≤ b) (vs : List Value) : Ext a (w.setCells b o vs) :=
  (only_setCells (g := b) vs o w).after h (by intro x hx; rw [List.mem_singleton] at hx; omega)
theorem node_all (n : NodeD) (A : Option Addr) (c : Nat) : (#[.int .i64 n.no, .int .i64 n.dev, .int .i64 n.kind, .int .i64 n.mode, .int .i64 n.uid, .int .i64 n.gid, .int .i64 n.mtime, .int .i64 n.ctime, .int .i64 n.links, .int .i64 n.up, .string (bs n.data), .slice A n.ents.length c] : Array Value).all (·.oneCell') = true := all_oneCell_toArray (nodeL_one n A c)
theorem infoNode12 : (Try.prog.info? 42).map (·.size) = some 12 := by kernel_rfl
/-- A whole node goes into a node's box: the box holds it behind, and nothing else has changed. -/
theorem wpList_store_node {ops : Array Oper} {rest : List Oper} {op : Oper} {a : Act} {w : World} {Q : Exit → Act → World → Prop} (hgd : op.guard = none) (x y : Operand) (ho : op.op = .store 42 x y)
    (b : Nat) (n : NodeD) (A : Option Addr) (c : Nat) (hx : a.eval x = .pointer (some ⟨b, 0, none⟩)) (hy : a.eval y = .agg #[.int .i64 n.no, .int .i64 n.dev, .int .i64 n.kind, .int .i64 n.mode, .int .i64 n.uid, .int .i64 n.gid, .int .i64 n.mtime, .int .i64 n.ctime, .int .i64 n.links, .int .i64 n.up, .string (bs n.data), .slice A n.ents.length c]) {m : NodeD} {A' : Option Addr} {c' : Nat} (hb : Has w b (.cells #[.int .i64 m.no, .int .i64 m.dev, .int .i64 m.kind, .int .i64 m.mode, .int .i64 m.uid, .int .i64 m.gid, .int .i64 m.mtime, .int .i64 m.ctime, .int .i64 m.links, .int .i64 m.up, .string (bs m.data), .slice A' m.ents.length c'] 42))
    (h : ∀ w', Has w' b (.cells #[.int .i64 n.no, .int .i64 n.dev, .int .i64 n.kind, .int .i64 n.mode, .int .i64 n.uid, .int .i64 n.gid, .int .i64 n.mtime, .int .i64 n.ctime, .int .i64 n.links, .int .i64 n.up, .string (bs n.data), .slice A n.ents.length c] 42) → Only [b] w w' → wpList Try.prog ops Q rest (a.put op.dst undef) w') : wpList Try.prog ops Q (op :: rest) a w := by
  refine wpList_store_mid hgd 42 x y ho b 0 #[.int .i64 n.no, .int .i64 n.dev, .int .i64 n.kind, .int .i64 n.mode, .int .i64 n.uid, .int .i64 n.gid, .int .i64 n.mtime, .int .i64 n.ctime, .int .i64 n.links, .int .i64 n.up, .string (bs n.data), .slice A n.ents.length c] hx hy hb.there infoNode12 (node_all n A c) ?_
  exact h _ (hb.putNode n A c) (only_setCells (nodeL n A c) 0 w)
/-- A node is read out of its box. -/
theorem wpList_load_node {ops : Array Oper} {rest : List Oper} {op : Oper} {a : Act} {w : World} {Q : Exit → Act → World → Prop} (hgd : op.guard = none) (x : Operand) (ho : op.op = .load 42 x)
    (b : Nat) (n : NodeD) (A : Option Addr) (c : Nat) (hx : a.eval x = .pointer (some ⟨b, 0, none⟩)) (hb : Has w b (.cells #[.int .i64 n.no, .int .i64 n.dev, .int .i64 n.kind, .int .i64 n.mode, .int .i64 n.uid, .int .i64 n.gid, .int .i64 n.mtime, .int .i64 n.ctime, .int .i64 n.links, .int .i64 n.up, .string (bs n.data), .slice A n.ents.length c] 42))
    (h : wpList Try.prog ops Q rest (a.put op.dst (.agg #[.int .i64 n.no, .int .i64 n.dev, .int .i64 n.kind, .int .i64 n.mode, .int .i64 n.uid, .int .i64 n.gid, .int .i64 n.mtime, .int .i64 n.ctime, .int .i64 n.links, .int .i64 n.up, .string (bs n.data), .slice A n.ents.length c])) w) : wpList Try.prog ops Q (op :: rest) a w :=
  wpList_load_mid hgd 42 x ho b 0 hx [.int .i64 n.no, .int .i64 n.dev, .int .i64 n.kind, .int .i64 n.mode, .int .i64 n.uid, .int .i64 n.gid, .int .i64 n.mtime, .int .i64 n.ctime, .int .i64 n.links, .int .i64 n.up, .string (bs n.data), .slice A n.ents.length c] _ hb.range Try.underlying42 rfl infoNode12 h
/-- The result: a node in a box, a number beside it. -/
theorem res_node {fn : Func} {p t : Tmp} (h : fn.results = #[.cell p 42, .tmp t]) (tmps : Array Value) (w : World) (g : Nat) (n : NodeD) (A : Option Addr) (c : Nat) (v : Value)
    (hp : tmps.getD p undef = .pointer (some ⟨g, 0, none⟩)) (hv : tmps.getD t undef = v) (hg : Has w g (.cells #[.int .i64 n.no, .int .i64 n.dev, .int .i64 n.kind, .int .i64 n.mode, .int .i64 n.uid, .int .i64 n.gid, .int .i64 n.mtime, .int .i64 n.ctime, .int .i64 n.links, .int .i64 n.up, .string (bs n.data), .slice A n.ents.length c] 42)) :
    (results fn tmps).run Try.prog w = .ok (.tuple #[.agg #[.int .i64 n.no, .int .i64 n.dev, .int .i64 n.kind, .int .i64 n.mode, .int .i64 n.uid, .int .i64 n.gid, .int .i64 n.mtime, .int .i64 n.ctime, .int .i64 n.links, .int .i64 n.up, .string (bs n.data), .slice A n.ents.length c], v]) w :=
  res_cell_tmp h tmps w g 42 _ _ v hp hv hg Try.underlying42 rfl infoNode12
end Go.Proofs.Ytjblimclakfhfaa

namespace Go.Proofs.Ytjblimclakfhfaa
open Go.ChangeShapes Go.WideShapes Go.ChangeAt Go.RowKit

set_option maxRecDepth 100000 in
set_option maxHeartbeats 2000000 in
theorem rget_fix (B : Nat) (g : GhF) (S : TreeD) (X : Xtra) (no : Int) (V : World) (h : FAt V B g S X) (hl : S.nodes.length ≤ 1000000) (hu : NosUp S.nodes S.last) :
    ∃ A c, NodeOk V B (getN S.nodes no) A c ∧ ∀ u : World, Ext V u → Calls Try.prog 46 #[.pointer (some ⟨g.bF, 0, none⟩), .int .i64 no] u (Ret u (.agg #[.int .i64 (getN S.nodes no).no, .int .i64 (getN S.nodes no).dev, .int .i64 (getN S.nodes no).kind, .int .i64 (getN S.nodes no).mode, .int .i64 (getN S.nodes no).uid, .int .i64 (getN S.nodes no).gid, .int .i64 (getN S.nodes no).mtime, .int .i64 (getN S.nodes no).ctime, .int .i64 (getN S.nodes no).links, .int .i64 (getN S.nodes no).up, .string (bs (getN S.nodes no).data), .slice A (getN S.nodes no).ents.length c])) := by
  obtain ⟨ce, hfn, _⟩ := h.fn
  generalize hvD : Value.slice (some ⟨g.bE, 0, none⟩) S.devs.length ce = vD at hfn
  clear hvD
  cases hi : isN S.nodes no
  · refine ⟨none, 0, by rw [(isN_false hi).1]; exact NodeOk.zero _ _, fun u hE => ?_⟩
    have hz := (isN_false hi).1
    have hfu := hfn.ext hE
    obtain ⟨h1, cn, h2, ⟨xs, h3, h5⟩⟩ := id hfu
    have c0 := h2.cell 0
    simp only [List.getElem?_toArray, List.getElem?_cons_zero] at c0
    have hF := h2.lt
    have HI := Lib.hid hi
    have HZ := Lib.hid hz
    clear hi hz
    go_enter Try.func46, Try.ntmps46
    go_wp2_with fail
    refine (rat_any B g.bF g.bN vD S.nodes S.last X no _ (hfu.ext ((Ext.refl _).alloc _)) hl).mono ?_
    rintro e w1 ⟨rfl, ⟨hi, rfl⟩ | ⟨k, hk, hno, hi, rfl⟩⟩
    · clear hi
      go_wp2_with fail
      refine bodyPost_ret (v := .agg #[.int .i64 0, .int .i64 0, .int .i64 0, .int .i64 0, .int .i64 0, .int .i64 0, .int .i64 0, .int .i64 0, .int .i64 0, .int .i64 0, .string ⟨#[]⟩, .slice none 0 0]) (by simp [results, Try.results46, go_sem]) rfl (Ret.mk (by rw [HZ.out]; rfl) ((Ext.refl _).alloc _))
    · rw [HI.out] at hi; cases hi
  · obtain ⟨k, hk, hno⟩ := isN_iff.1 hi
    obtain ⟨_, cn0, h20, ⟨xs0, h30, h50⟩⟩ := id hfn
    obtain ⟨A, c, ok, hr⟩ := NodeXs.range h30 h50 k hk
    have hg : getN S.nodes no = S.nodes[k] := by unfold getN; rw [← hno, getO_at hu hk]; rfl
    have hbN := hfn.lt.2
    obtain ⟨m, hm⟩ : ∃ m, m = S.nodes[k] := ⟨_, rfl⟩
    rw [← hm] at ok hr hg
    rw [hg]
    refine ⟨A, c, ok, fun u hE => ?_⟩
    have hfu := hfn.ext hE
    obtain ⟨h1, cn, h2, ⟨xs, h3, h5⟩⟩ := id hfu
    have c0 := h2.cell 0
    simp only [List.getElem?_toArray, List.getElem?_cons_zero] at c0
    have hF := h2.lt
    have hr' : u.rangeAt g.bN (k * 12) (nodeL m A c) := fun j v hv => (hE.cell hbN).trans (hr j v hv)
    obtain ⟨d0, d1, d2, d3, d4, d5, d6, d7, d8, d9, d10, d11⟩ := range12 hr'
    have hN := hfu.lt.2
    have hneg : decide ((k : Int) < 0) = false := decide_eq_false (by omega)
    have y0 : (k : Int) < S.nodes.length := by omega
    have y1 : (0 : Int) ≤ (k : Int) := Int.natCast_nonneg _
    have HI := Lib.hid hi
    have HNO := Lib.hid hno
    clear hi hg hm hno
    go_enter Try.func46, Try.ntmps46
    go_wp2_with fail
    refine (rat_any B g.bF g.bN vD S.nodes S.last X no _ (hfu.ext ((Ext.refl _).alloc _)) hl).mono ?_
    rintro e w1 ⟨rfl, ⟨hi, rfl⟩ | ⟨k', hk', hno', hi, rfl⟩⟩
    · rw [HI.out] at hi; cases hi
    · obtain rfl : k' = k := nos_inj hu hk' hk (by rw [hno', HNO.out])
      clear hi hno'
      go_wp2_with fail
      refine bodyPost_ret (v := .agg #[.int .i64 m.no, .int .i64 m.dev, .int .i64 m.kind, .int .i64 m.mode, .int .i64 m.uid, .int .i64 m.gid, .int .i64 m.mtime, .int .i64 m.ctime, .int .i64 m.links, .int .i64 m.up, .string (bs m.data), .slice A m.ents.length c]) (by simp [results, Try.results46, go_sem]) rfl (Ret.mk rfl ((Ext.refl _).alloc _))
/-! ### Get behind Set. -/
theorem getO_setN (ns : List NodeD) (n : NodeD) (k : Int) : getO (setN ns n) k = (getO ns k).map fun m => if m.no == n.no then n else m := by
  unfold getO setN
  rw [List.find?_map]
  congr 1
  congr 1
  funext m
  simp only [Function.comp]
  split
  · rename_i h; rw [beq_iff_eq] at h; rw [h]
  · rfl
theorem getN_set_ne (ns : List NodeD) (n : NodeD) {k : Int} (h : k ≠ n.no) : getN (setN ns n) k = getN ns k := by
  unfold getN
  rw [getO_setN]
  cases hg : getO ns k with
  | none => rfl
  | some m =>
    have := (getO_some hg).1
    show (if m.no == n.no then n else m) = m
    rw [if_neg]; rw [this]; simpa using h
theorem isN_set (ns : List NodeD) (n : NodeD) (k : Int) : isN (setN ns n) k = isN ns k := by
  unfold isN
  rw [getO_setN]
  cases getO ns k <;> rfl
theorem getN_set_eq (ns : List NodeD) (n : NodeD) (h : isN ns n.no = true) : getN (setN ns n) n.no = n := by
  unfold isN at h
  obtain ⟨m, hm⟩ := Option.isSome_iff_exists.1 h
  unfold getN
  rw [getO_setN, hm]
  show (if m.no == n.no then n else m) = n
  rw [if_pos]; rw [(getO_some hm).1]; simp
end Go.Proofs.Ytjblimclakfhfaa

namespace Go.Proofs.Ytjblimclakfhfaa
open Go.ChangeShapes Go.WideShapes Go.ChangeAt Go.RowKit

theorem run_get_fix {w0 : World} {B : Nat} {es : Array MapEntry} {clock : Nat} {ns : List NodeD} (bM : Nat) (h : MapIs w0 B es.toList ns) (no : Int) :
    ∃ A c, NodeOk w0 B (getN ns no) A c ∧ ∀ w : World, Has w bM (.map es clock) → (Instr.lookup 104 (.map (some bM)) (.int .i64 no) true).run Try.prog w = .ok (.tuple #[.agg #[.int .i64 (getN ns no).no, .int .i64 (getN ns no).dev, .int .i64 (getN ns no).kind, .int .i64 (getN ns no).mode, .int .i64 (getN ns no).uid, .int .i64 (getN ns no).gid, .int .i64 (getN ns no).mtime, .int .i64 (getN ns no).ctime, .int .i64 (getN ns no).links, .int .i64 (getN ns no).up, .string (bs (getN ns no).data), .slice A (getN ns no).ents.length c], .bool (isN ns no)]) w := by
  have hk : ∀ (w : World) r, Instr.findNow (.int .i64) (.int .i64 no) es.toList 0 = some r → (Instr.findKey 3 (.int .i64 no) es.toList).run Try.prog w = .ok r w := fun w r hr => by
    unfold Instr.findKey
    rw [Sem.run_bind, run_underlying Try.underlying3]
    simp [hr]
  rcases findNow_nodes no es.toList ns 0 h.1 (fun k hk => by obtain ⟨e, A, c, h1, h2, _⟩ := h.2 k hk; exact ⟨e, h1, h2⟩) with ⟨g1, g2⟩ | ⟨k, e, g1, g2, g3, g4⟩
  · refine ⟨none, 0, by rw [(isN_false g1).1]; exact NodeOk.zero w0 B, fun w hm => ?_⟩
    have hz := (isN_false g1).1
    simp [Instr.lookup, run_underlying Try.underlying104, MapKept.run_getObj_map hm, run_checkInt, hk w _ g2, hz, g1]
    exact ⟨rfl, rfl, rfl, rfl, rfl, rfl, rfl, rfl, rfl, rfl, rfl, rfl⟩
  · obtain ⟨e', A, c, h1, _, h3, h4⟩ := h.2 k g1
    rw [h1] at g2
    injection g2 with g2
    subst g2
    have e1 : getN ns no = ns[k] := by unfold getN; rw [g4, List.getElem?_eq_getElem g1]; rfl
    have e2 : isN ns no = true := by unfold isN; rw [g4, List.getElem?_eq_getElem g1]; rfl
    refine ⟨A, c, by rw [e1]; exact h4, fun w hm => ?_⟩
    rw [e1, e2]
    simp [Instr.lookup, run_underlying Try.underlying104, MapKept.run_getObj_map hm, run_checkInt, hk w _ g3, h3]
set_option maxRecDepth 100000 in
set_option maxHeartbeats 1000000 in
theorem tget_fix (B : Nat) (g : GhW) (S : TreeD) (no : Int) (V : World) (h : WAt V B g S) :
    ∃ A c, NodeOk V B (getN S.nodes no) A c ∧ ∀ u : World, Ext V u → Calls Try.prog 12 #[.pointer (some ⟨g.bT, 0, none⟩), .int .i64 no] u (Ret u (.tuple #[.agg #[.int .i64 (getN S.nodes no).no, .int .i64 (getN S.nodes no).dev, .int .i64 (getN S.nodes no).kind, .int .i64 (getN S.nodes no).mode, .int .i64 (getN S.nodes no).uid, .int .i64 (getN S.nodes no).gid, .int .i64 (getN S.nodes no).mtime, .int .i64 (getN S.nodes no).ctime, .int .i64 (getN S.nodes no).links, .int .i64 (getN S.nodes no).up, .string (bs (getN S.nodes no).data), .slice A (getN S.nodes no).ents.length c], .bool (isN S.nodes no)])) := by
  obtain ⟨_, ⟨h1, h2, h3, es, cl, h4, h5⟩, _⟩ := h
  obtain ⟨A, c, ok, hr0⟩ := run_get_fix (clock := cl) g.bM h5 no
  refine ⟨A, c, ok, fun u hE => ?_⟩
  have c0 : u.cell? ⟨g.bT, 0, none⟩ = some (.map (some g.bM)) := (h3.ext hE).cell 0
  have hbT := (h3.ext hE).lt
  have hr := hr0 (u.alloc (.cells #[.int .i64 0, .int .i64 0, .int .i64 0, .int .i64 0, .int .i64 0, .int .i64 0, .int .i64 0, .int .i64 0, .int .i64 0, .int .i64 0, .string ⟨#[]⟩, .slice none 0 0] 42)) ((h4.ext hE).alloc _)
  clear hr0 ok h5
  go_enter Try.func12, Try.ntmps12
  go_wp2_with fail
  refine bodyPost_ret (v := .tuple #[.agg #[.int .i64 (getN S.nodes no).no, .int .i64 (getN S.nodes no).dev, .int .i64 (getN S.nodes no).kind, .int .i64 (getN S.nodes no).mode, .int .i64 (getN S.nodes no).uid, .int .i64 (getN S.nodes no).gid, .int .i64 (getN S.nodes no).mtime, .int .i64 (getN S.nodes no).ctime, .int .i64 (getN S.nodes no).links, .int .i64 (getN S.nodes no).up, .string (bs (getN S.nodes no).data), .slice A (getN S.nodes no).ents.length c], .bool (isN S.nodes no)]) (by simp [results, Try.results12, go_sem]) rfl (Ret.mk rfl (((Ext.refl _).alloc _).alloc _))
/-- A region that ends with a node's store into a box that was there. -/
theorem wp_region_node {id : Nat} {Q : Exit → Act → World → Prop} {a : Act} {w : World} {l : List Oper} (V : World) (s : Nat) (x y : Tmp) (b : Nat) (n m : NodeD) (A A' : Option Addr) (c c' : Nat) (hb : Has V b (.cells #[.int .i64 m.no, .int .i64 m.dev, .int .i64 m.kind, .int .i64 m.mode, .int .i64 m.uid, .int .i64 m.gid, .int .i64 m.mtime, .int .i64 m.ctime, .int .i64 m.links, .int .i64 m.up, .string (bs m.data), .slice A' m.ents.length c'] 42)) (os : Oper)
    (hB : Region.lexB .any l.toArray = true) (hc : putB' l s x y = true) (hos : l[s]? = some os) (ho2 : os.op = .store 42 (.tmp x) (.tmp y)) (hV : Ext V w.drew) :
    wpQuietR Try.prog l.toArray V (fun a2 => a2.eval (.tmp x) = .pointer (some ⟨b, 0, none⟩) ∧ a2.eval (.tmp y) = .agg #[.int .i64 n.no, .int .i64 n.dev, .int .i64 n.kind, .int .i64 n.mode, .int .i64 n.uid, .int .i64 n.gid, .int .i64 n.mtime, .int .i64 n.ctime, .int .i64 n.links, .int .i64 n.up, .string (bs n.data), .slice A n.ents.length c] ∧ wpQuietR Try.prog l.toArray V (fun a3 => ∀ w', (∃ w0, Ext V w0 ∧ Only [b] w0 w' ∧ Has w' b (.cells #[.int .i64 n.no, .int .i64 n.dev, .int .i64 n.kind, .int .i64 n.mode, .int .i64 n.uid, .int .i64 n.gid, .int .i64 n.mtime, .int .i64 n.ctime, .int .i64 n.links, .int .i64 n.up, .string (bs n.data), .slice A n.ents.length c] 42)) → Q .normal a3 w') (l.drop (s + 1)) a2) (l.take s) a →
    (Code.region id l.toArray true).wp Try.prog Q a w := by
  refine wp_region_put V s x y _ _ (fun w' => ∃ w0, Ext V w0 ∧ Only [b] w0 w' ∧ Has w' b (.cells #[.int .i64 n.no, .int .i64 n.dev, .int .i64 n.kind, .int .i64 n.mode, .int .i64 n.uid, .int .i64 n.gid, .int .i64 n.mtime, .int .i64 n.ctime, .int .i64 n.links, .int .i64 n.up, .string (bs n.data), .slice A n.ents.length c] 42)) os (by kernel_rfl) hB hc hos ?_ hV
  intro a w hE h1 h2
  have hw := hb.ext hE
  refine ⟨_, ?_, w, hE, only_setCells (nodeL n A c) 0 w, hw.setNode n A c⟩
  simp only [execOp, ho2, h1, h2, run_storeAt_mid w b 0 42 #[.int .i64 n.no, .int .i64 n.dev, .int .i64 n.kind, .int .i64 n.mode, .int .i64 n.uid, .int .i64 n.gid, .int .i64 n.mtime, .int .i64 n.ctime, .int .i64 n.links, .int .i64 n.up, .string (bs n.data), .slice A n.ents.length c] hw.there infoNode12 (node_all n A c), Sem.run_bind, Sem.run_pure, Result.andThen_ok]
  rfl
end Go.Proofs.Ytjblimclakfhfaa
