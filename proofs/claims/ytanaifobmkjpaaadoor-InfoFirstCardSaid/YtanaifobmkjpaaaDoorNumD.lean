/- Layer 1 (num): digits of the program. -/
import Derived.Test.YtanaifobmkjpaaaDoorNumP
namespace Go.Proofs.YtanaifobmkjpaaaDoor
open Go.ChangeShapes Go.WideShapes Go.ChangeAt Go.RowKit

theorem idx_10 (x : Nat) (h : x % 10 < 10) : (((⟨#[48, 49, 50, 51, 52, 53, 54, 55, 56, 57]⟩ : ByteArray)[x % 10]'h).toNat : Int) = ((48 + x % 10 : Nat) : Int) := by
  have : ∀ k : Fin 10, (((⟨#[48, 49, 50, 51, 52, 53, 54, 55, 56, 57]⟩ : ByteArray)[k.val]'(by exact k.isLt)).toNat : Int) = ((48 + k.val : Nat) : Int) := by decide +kernel
  exact this ⟨x % 10, h⟩
set_option maxRecDepth 100000 in
set_option maxHeartbeats 4000000 in
theorem digits_10 (n : Nat) (w : World) (hn : n < 18446744073709551616) : Calls Tryd.prog 56 #[.int .u64 n, .int .u64 10] w (Ret w (.string (bs (digL 10 n)))) := by
  obtain ⟨i0, hi, hz0, hz1, hz2⟩ := info_parts infoByte
  by_cases h0 : n = 0
  · subst h0
    go_enter Tryd.func56, Tryd.ntmps56
    go_wp2_with fail
    go_ret
    exact Ret.mk rfl (Ext.refl _)
  · have hstart := Lib.hid (LowInv.start 10 n (by have : (2 : Nat) ^ 64 ≤ 10 ^ 64 := Nat.pow_le_pow_left (by decide) 64; omega))
    have hn0 : ((n : Int) == 0) = false := beq_eq_false_iff_ne.2 (by omega)
    go_enter Tryd.func56, Tryd.ntmps56
    go_wp2_with fail
    go_loopw [0, 5] (fun m v wr => ∃ (x : Nat) (pre : List Nat), m = .int .u64 x ∧ x ≤ 18446744073709551615 ∧ wr.ownsRow w.heap.size 5 1 v pre.length (Lib.byteCells (pre.map chr)) ∧ LowInv 10 n pre x ∧ Ext w wr) (fun m _ _ => (intOf m).toNat)
    case atStart => exact ⟨n, [], rfl, by omega, World.ownsRow_nil _ _ _ _, hstart.out, Ext.refl _⟩
    case round =>
      obtain ⟨x, pre, rfl, hxle, hown, hinv, hx⟩ := hrel
      have hpl := hinv.len
      have Hinv := Lib.hid hinv
      clear hinv
      have hinv := Hinv
      clear Hinv
      have hsz := hx.size
      by_cases hpos : 0 < x
      · have hst := Lib.hid (hinv.out.step (by decide) hpos)
        have hm : x % 10 < 10 := by omega
        have hix := idx_10 x hm
        have hcc : Lib.byteCells ((pre ++ [x % 10]).map chr) = Lib.byteCells (pre.map chr) ++ [.int .u8 ((48 + x % 10 : Nat) : Int)] := by
          simp [Lib.byteCells, chr]; omega
        have HC := Lib.hid hcc
        clear hcc
        go_wp2_with (at_builtin; refine wpList_append_own _ rfl _ _ 63 rfl w.heap.size 5 i0 (.int .u8 0) 1 1 Tryd.underlying63 hi hz0 hz1 hz2 rfl (by decide) _ _ _ rfl (hown.alloc _) ⟨wr.heap.size, 0, none⟩ 1 1 [.int .u8 ((48 + x % 10 : Nat) : Int)] rfl rfl ?c1 ?c2 ?c3 ?c4 ?c5 ?_)
        case c1 =>
          intro j u hj
          match j, hj with
          | 0, hj => simp at hj; subst hj; simp [Addr.add]
        case c2 => intro u hu; simp at hu; subst hu; rfl
        case c3 => unfold maxLen; omega
        case c4 => omega
        case c5 => have := hx.size; simp; omega
        intro v' w2 hown' hgrow _
        go_wp2_with fail
        go_roundw
        case rel => exact ⟨x / 10, pre ++ [x % 10], by go_num, by omega, by rw [HC.out, List.length_append]; exact hown', hst.out, (hx.alloc _).grown hgrow (fun q hq => (hown.lt q hq).1)⟩
        case measure => simp [intOf]; omega
      · obtain rfl : x = 0 := by omega
        have hdone := Lib.hid hinv.out.done
        have hne : 0 < pre.length := by rw [hdone.out]; exact low_pos 10 n h0
        obtain ⟨g, cap, rfl⟩ : ∃ g cap, u5 = .slice (some ⟨g, 0, none⟩) pre.length cap := by
          rcases hown.2 with ⟨_, h0⟩ | ⟨g, cap, cur, hv, _⟩
          · omega
          · exact ⟨g, cap, hv⟩
        have hgb := (hown.lt g rfl).1
        have hfin : Hid (bs (turned (pre.map chr) 0) = bs (pre.map chr)) := by show _ = _; rw [turned_zero]
        obtain ⟨L, hL⟩ : ∃ L, L = pre.length := ⟨_, rfl⟩
        have hl : (pre.map chr).length = L := by rw [List.length_map, hL]
        generalize hl' : pre.map chr = l at hown hl
        rw [← hL] at hown hne hpl ⊢
        have HL := Lib.hid hl
        have HP : Hid (l = (low 10 64 n).map chr) := by show _ = _; rw [← hl', ← hdone.out]
        clear hl hl' hfin hdone hL
        go_wp2_with fail
        obtain ⟨wo, rfl⟩ : ∃ wo : World, wo = wr := ⟨_, rfl⟩
        go_loopw [6, 7] (fun i j wr => ∃ (k jn : Nat), i = .int .i64 k ∧ j = .int .i64 jn ∧ jn + k + 1 = L ∧ wr.ownsRow w.heap.size 5 1 (.slice (some ⟨g, 0, none⟩) L cap) L (Lib.byteCells (turned l k)) ∧ Ext w wr) (fun _ j _ => (intOf j).toNat)
        case atStart => exact ⟨0, L - 1, rfl, by congr 1; omega, by omega, by rw [turned_zero]; exact hown, hx⟩
        case round =>
          obtain ⟨k, jn, rfl, rfl, hjn, hown, hx⟩ := hrel
          by_cases hlt : k < jn
          · have hT := turned_at l k (by rw [HL.out]; omega)
            have hj' : l.length - 1 - k = jn := by rw [HL.out]; omega
            rw [hj'] at hT
            have ck : wr.cell? ⟨g, k, none⟩ = some (.int .u8 ((l.getD k default).toNat : Int)) := by rw [hown.cellAt k (by omega)]; simp [Lib.byteCells, hT.1]
            have cj : wr.cell? ⟨g, jn, none⟩ = some (.int .u8 ((l.getD jn default).toNat : Int)) := by rw [hown.cellAt jn (by omega)]; simp [Lib.byteCells, hT.2]
            have fk := hown.frozenAt k
            have fj := hown.frozenAt jn
            have hne' : ¬ k = jn := by omega
            have hs1 := hown.stored k (.int .u8 ((l.getD jn default).toNat : Int))
            have hs2 := hs1.1.stored jn (.int .u8 ((l.getD k default).toNat : Int))
            have hst : Hid (((Lib.byteCells (turned l k)).set k (.int .u8 ((l.getD jn default).toNat : Int))).set jn (.int .u8 ((l.getD k default).toNat : Int)) = Lib.byteCells (turned l (k + 1))) := by
              show _ = _
              rw [← turned_step l k (by rw [HL.out]; omega), hj']
              simp [Lib.byteCells, List.map_set]
            have H2 := Lib.hid hs2.1
            have G1 := Lib.hid hs1.2
            have G2 := Lib.hid hs2.2
            clear hs1 hs2 hT hj' hown
            generalize (l.getD k default).toNat = vk at ck hst H2 G1 G2
            generalize (l.getD jn default).toNat = vj at cj hst H2 G1 G2
            go_wp2_with fail
            go_region
            go_wp2_with fail
            go_roundw
            case rel => exact ⟨k + 1, jn - 1, by go_num, by congr 1; omega, by omega, by rw [← hst.out]; exact H2.out, Ext.drew ((hx.grown G1.out (fun q hq => by cases hq; exact hgb)).grown G2.out (fun q hq => by cases hq; exact hgb))⟩
            case measure => simp [intOf]; omega
          · have hrev : turned l k = l.reverse := turned_all l k (by rw [HL.out]; omega)
            have hcv := convert_own (P := Tryd.prog) Tryd.underlying63 Tryd.underlying5 Tryd.underlying9 (turned l k) _ hown (by rw [turned_len, HL.out])
            have hfin : Hid (bs (turned l k) = bs (digL 10 n)) := by
              show _ = _
              rw [hrev, HP.out]; unfold digL; rw [if_neg h0, List.map_reverse]
            clear hrev
            go_wp2_with fail
            go_ret
            exact Ret.mk (ret_str hfin.out) hx
end Go.Proofs.YtanaifobmkjpaaaDoor
