/- Layer 2 (name): name.Parts as an iterator; the law's all. The lines follow the guide's worked contract of an iterator, turned to parts of a path. -/
import Derived.Test.YtmppjbimdonfmaaDoorNamQ
import Derived.Test.YtmppjbimdonfmaaDoorScoI
import Derived.RangeFuncNested
import Derived.RangeFuncBound
import Derived.RangeFuncCalls
import Derived.RangeFuncLeaves
import Derived.RangeFuncBox
import Derived.Shelf.Abstract
import Derived.OwnWalkIn
import Derived.TacticsInMore
import Derived.LoopNIn
import Derived.LoopIn
namespace Go.Proofs.YtmppjbimdonfmaaDoor
open Go.ChangeShapes Go.WideShapes Go.ChangeAt Go.RowKit Go.Shelf
attribute [local go_sem] Oper.semAt_some

abbrev encP (x : Txt) : Array Value := #[.string (bs x)]
theorem restP_none (l : List UInt8) (fr k : Nat) (h : l.length < k) : restP l fr k = [] := by unfold restP; rw [if_neg (by omega)]
set_option maxRecDepth 100000 in
set_option maxHeartbeats 4000000 in
theorem parts1_in (F : Fence) (n : Nat) (hf : F.fn 104) (hro : F.round = none) (hn : 1 ≤ n) (lb Bs : Nat) (l : List UInt8) (hlen : l.length ≤ 1000000) (J Jx : List Txt → World → Prop) (Kp : World → World → Prop) (R : World → Prop)
    (hK : ∀ {A B : World}, Kp A B → R A → R B) (hRc : ∀ {A : World}, R A → A.cell? ⟨Bs, 0, none⟩ = some (.string (bs l))) (W : World)
    (hY : ∀ pre x W, J pre W → pre.length < (partsN l).length → YieldAt F (n - 1) Tryd.prog lb (encP x) W fun e W' =>
      (e = .returned (.bool true) ∧ J (pre ++ [x]) W' ∧ Kp W W') ∨ (e = .returned (.bool false) ∧ Jx (pre ++ [x]) W'))
    (hBs : R W) (h0 : J [] W) :
    CallsIn F n Tryd.prog 104 #[.func (.yield lb) #[] #[], .pointer (some ⟨Bs, 0, none⟩)] W fun e W' => (∃ v, e = .returned v) ∧
      ((∃ ys, ys = partsN l ∧ J ys W') ∨ (∃ pre, pre <+: partsN l ∧ Jx pre W')) := by
  have hsz : ((bs l).size : Int) = l.length := by rw [bs_size]
  refine callsIn_of_wp Tryd.func104 rfl hf ?_ hro
  simp only [Tryd.ntmps104, List.size_toArray, List.length_cons, List.length_nil, Nat.reduceAdd, Nat.reduceSub, Array.replicate_succ, Array.replicate_zero, List.push_toArray, List.append_toArray, List.nil_append, List.cons_append]
  gi_wp2
  refine wpIn_scope_straight ?_
  gi_wp2
  refine wpIn_label ?_
  gi_wp2
  gi_loopw [3, 4] (fun f a wr => ∃ fr k : Nat, fr ≤ k ∧ k ≤ l.length + 1 ∧ f = .int .i64 fr ∧ a = .int .i64 k ∧ ∃ pre, pre ++ (restP l fr k).filter good = partsN l ∧ J pre wr ∧ R wr) (fun _ a _ => l.length + 1 - (intOf a).toNat)
  case atStart => exact ⟨0, 0, Nat.le_refl _, Nat.zero_le _, rfl, rfl, [], by rw [restP_start]; rfl, h0, hBs⟩
  case round =>
    obtain ⟨fr, k, hfk, hk, rfl, rfl, pre, hpre, hJ, hR0⟩ := hrel
    have hc := hRc hR0
    by_cases hle : (k : Int) ≤ l.length
    · have hk0 : (0 : Int) ≤ (k : Int) := Int.natCast_nonneg _
      obtain ⟨p, hp⟩ : ∃ p, p = (l.drop fr).take (k - fr) := ⟨_, rfl⟩
      by_cases hlt : (k : Int) < l.length
      · have hkl : k < l.length := by omega
        have hks : k < (bs l).size := by rw [bs_size]; exact hkl
        have hg : (bs l)[k] = l[k] := bs_get l k hks hkl
        by_cases hs : l[k] = 47
        · have hs2 : (((bs l)[k].toNat : Int) != 47) = false := by rw [hg, hs]; rfl
          have hr0 := restP_cut (fr := fr) hkl hs
          rw [← hp] at hr0
          clear hg hs
          have hr : restP l fr k = p :: restP l (k + 1) (k + 1) := hr0
          rw [hr, List.filter_cons] at hpre
          have hk1 : IntKind.i64.wrap ((k : Int) + 1) = k + 1 := wrap_i64_in (by omega) (by omega)
          have hsl := slice_str (P := Tryd.prog) Tryd.underlying9 (bs l) (fr : Int) (k : Int) fr k rfl rfl hfk (by omega) (bs p) (by rw [bs_extract, hp])
          obtain ⟨t0, t1, _, t3⟩ := txt_tests (p := p)
          obtain ⟨X, hX⟩ : ∃ X, X = bs p := ⟨_, rfl⟩
          rw [← hX] at hsl t0 t1 t3
          have HX := Lib.hid hX
          clear hX hp hr
          cases h0 : (p == []) with
          | true =>
            rw [h0] at t0 t3
            rw [if_neg (by unfold good; rw [h0]; simp)] at hpre
            have HP := Lib.hid hpre
            clear h0 t1 hpre
            gi_wp2
            go_roundw
            case rel => exact ⟨k + 1, k + 1, Nat.le_refl _, by omega, by go_num, by go_num, pre, HP.out, hJ, hR0⟩
            case measure => simp [intOf]; omega
          | false =>
            cases h1 : (p == [46]) with
            | true =>
              rw [h0] at t0 t3
              rw [h1] at t1
              rw [if_neg (by unfold good; rw [h0, h1]; simp)] at hpre
              have HP := Lib.hid hpre
              clear h0 h1 hpre
              gi_wp2
              go_roundw
              case rel => exact ⟨k + 1, k + 1, Nat.le_refl _, by omega, by go_num, by go_num, pre, HP.out, hJ, hR0⟩
              case measure => simp [intOf]; omega
            | false =>
              rw [h0] at t0 t3
              rw [h1] at t1
              rw [if_pos (by unfold good; rw [h0, h1]; rfl)] at hpre
              have hl1 : pre.length < (partsN l).length := by rw [← hpre]; simp
              obtain ⟨fn, tmps, assign, body, hy, hR⟩ := hY pre p wr hJ hl1
              try dsimp only [encP] at hy
              have HP := Lib.hid hpre
              rw [← HX.out] at hy
              clear h0 h1 hpre hl1
              gi_wp2
              refine hR.mono ?_
              rintro e W3 (⟨rfl, hJ3, hk3⟩ | ⟨rfl, hJx3⟩)
              · gi_wp2
                go_roundw
                case rel => exact ⟨k + 1, k + 1, Nat.le_refl _, by omega, by go_num, by go_num, pre ++ [p], by rw [← HP.out]; simp, hJ3, hK hk3 hR0⟩
                case measure => simp [intOf]; omega
              · gi_wp2
                simp only [Exit.noGoto]
                gi_wp2
                refine bodyPost_ret (results_none rfl _ _ _) rfl ?_
                exact ⟨⟨_, rfl⟩, .inr ⟨_, by rw [← HP.out]; exact ⟨_, by rw [List.append_assoc]; rfl⟩, hJx3⟩⟩
        · have hs2 : (((bs l)[k].toNat : Int) != 47) = true := by
            have := (u8_eq (c := l[k]) (d := 47)).trans (beq_eq_false_iff_ne.2 hs)
            have hg2 : ((bs l)[k].toNat : Int) = (l[k].toNat : Int) := congrArg (fun c : UInt8 => (c.toNat : Int)) hg
            exact (congrArg (fun x : Int => x != 47) hg2).trans (by show (!((l[k].toNat : Int) == 47)) = true; exact congrArg (fun b => !b) this)
          have hr0 := restP_go hfk hkl hs
          rw [← hr0] at hpre
          have HP := Lib.hid hpre
          clear hg hs hr0 hpre hp
          gi_wp2
          go_roundw
          case rel => exact ⟨fr, k + 1, by omega, by omega, by go_num, by go_num, pre, HP.out, hJ, hR0⟩
          case measure => simp [intOf]; omega
      · have hr0 : restP l fr k = p :: restP l (k + 1) (k + 1) := by
          have hkl : k = l.length := by omega
          rw [hp, hkl]; exact restP_end
        have hr : restP l fr k = p :: restP l (k + 1) (k + 1) := hr0
        rw [hr, List.filter_cons] at hpre
        have hk1 : IntKind.i64.wrap ((k : Int) + 1) = k + 1 := wrap_i64_in (by omega) (by omega)
        have hsl := slice_str (P := Tryd.prog) Tryd.underlying9 (bs l) (fr : Int) (k : Int) fr k rfl rfl hfk (by omega) (bs p) (by rw [bs_extract, hp])
        obtain ⟨t0, t1, _, t3⟩ := txt_tests (p := p)
        obtain ⟨X, hX⟩ : ∃ X, X = bs p := ⟨_, rfl⟩
        rw [← hX] at hsl t0 t1 t3
        have HX := Lib.hid hX
        clear hX hp hr
        cases h0 : (p == []) with
        | true =>
          rw [h0] at t0 t3
          rw [if_neg (by unfold good; rw [h0]; simp)] at hpre
          have HP := Lib.hid hpre
          clear h0 t1 hpre
          gi_wp2
          go_roundw
          case rel => exact ⟨k + 1, k + 1, Nat.le_refl _, by omega, by go_num, by go_num, pre, HP.out, hJ, hR0⟩
          case measure => simp [intOf]; omega
        | false =>
          cases h1 : (p == [46]) with
          | true =>
            rw [h0] at t0 t3
            rw [h1] at t1
            rw [if_neg (by unfold good; rw [h0, h1]; simp)] at hpre
            have HP := Lib.hid hpre
            clear h0 h1 hpre
            gi_wp2
            go_roundw
            case rel => exact ⟨k + 1, k + 1, Nat.le_refl _, by omega, by go_num, by go_num, pre, HP.out, hJ, hR0⟩
            case measure => simp [intOf]; omega
          | false =>
            rw [h0] at t0 t3
            rw [h1] at t1
            rw [if_pos (by unfold good; rw [h0, h1]; rfl)] at hpre
            have hl1 : pre.length < (partsN l).length := by rw [← hpre]; simp
            obtain ⟨fn, tmps, assign, body, hy, hR⟩ := hY pre p wr hJ hl1
            try dsimp only [encP] at hy
            have HP := Lib.hid hpre
            rw [← HX.out] at hy
            clear h0 h1 hpre hl1
            gi_wp2
            refine hR.mono ?_
            rintro e W3 (⟨rfl, hJ3, hk3⟩ | ⟨rfl, hJx3⟩)
            · gi_wp2
              go_roundw
              case rel => exact ⟨k + 1, k + 1, Nat.le_refl _, by omega, by go_num, by go_num, pre ++ [p], by rw [← HP.out]; simp, hJ3, hK hk3 hR0⟩
              case measure => simp [intOf]; omega
            · gi_wp2
              simp only [Exit.noGoto]
              gi_wp2
              refine bodyPost_ret (results_none rfl _ _ _) rfl ?_
              exact ⟨⟨_, rfl⟩, .inr ⟨_, by rw [← HP.out]; exact ⟨_, by rw [List.append_assoc]; rfl⟩, hJx3⟩⟩
    · rw [restP_none l fr k (by omega)] at hpre
      have HP : Hid (pre = partsN l) := by show _ = _; rw [← hpre]; simp
      clear hpre
      gi_wp2
      go_end0
      exact ⟨⟨_, rfl⟩, .inl ⟨_, HP.out, hJ⟩⟩
theorem parts_stops (F : Fence) (n : Nat) (hf : F.fn 104) (hro : F.round = none) (hn : 1 ≤ n) (Bs n₀ : Nat) (l : List UInt8) (hlen : l.length ≤ 1000000) (w : World) (hBs : Bs < w.heap.size) (hn₀ : Bs < n₀)
    (hc : w.cell? ⟨Bs, 0, none⟩ = some (.string (bs l))) :
    SeqStopsK F n Tryd.prog 104 #[.pointer (some ⟨Bs, 0, none⟩)] encP (Below n₀) (fun ys => ys = partsN l) (fun pre => pre <+: partsN l) (partsN l).length w := fun lb J Jx W hW _ _ hY h0 =>
  parts1_in F n hf hro hn lb Bs l hlen J Jx (Below n₀) (fun W => W.cell? ⟨Bs, 0, none⟩ = some (.string (bs l))) (fun hk h => (hk.cell (p := ⟨Bs, 0, none⟩) hn₀).trans h) id W hY ((hW.cell (p := ⟨Bs, 0, none⟩) hBs).trans hc) h0
/-- The box of a text is kept. -/
def KeepsBox (B : Nat) (W W' : World) : Prop := ∀ t v, Boxed W B t v → Boxed W' B t v
theorem keepsBox_t {B : Nat} {X Y Z : World} (h : KeepsBox B X Y) (k : KeepsBox B Y Z) : KeepsBox B X Z := fun t v hx => k t v (h t v hx)
theorem keepsBox_b {B : Nat} (W : World) (l : Nat) (o o' : Obj) (hl : W.heap[l]? = some o) (ho : o.isCells = false) : KeepsBox B W (W.putObj l o') := fun t v hx =>
  hx.kept (grownBy_putObj' W l o') (fun e => by
    cases e
    rw [show W.heap[B]? = _ from hx] at hl
    cases hl; cases ho)
/-- As 'parts_stops', where a round keeps the text's box. -/
theorem parts_stops_box (F : Fence) (n : Nat) (hf : F.fn 104) (hro : F.round = none) (hn : 1 ≤ n) (Bs : Nat) (l : List UInt8) (hlen : l.length ≤ 1000000) (w : World) (hb : Boxed w Bs 9 (.string (bs l))) :
    SeqStopsK F n Tryd.prog 104 #[.pointer (some ⟨Bs, 0, none⟩)] encP (KeepsBox Bs) (fun ys => ys = partsN l) (fun pre => pre <+: partsN l) (partsN l).length w := fun lb J Jx W hW _ _ hY h0 =>
  parts1_in F n hf hro hn lb Bs l hlen J Jx (KeepsBox Bs) (fun W => Boxed W Bs 9 (.string (bs l))) (fun hk h => hk _ _ h) (fun h => h.cell) W hY ((hW.block Bs hb.lt).trans hb) h0
end Go.Proofs.YtmppjbimdonfmaaDoor
