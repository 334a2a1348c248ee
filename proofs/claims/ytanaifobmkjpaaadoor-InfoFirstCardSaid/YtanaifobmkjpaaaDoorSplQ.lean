/- strings.SplitSeq at a separator of one byte: its iterator, which keeps the rest of the text in a box of its own. -/
import Derived.Test.YtanaifobmkjpaaaDoorLinP
import Derived.Test.YtanaifobmkjpaaaDoorRngB
import Derived.Test.YtanaifobmkjpaaaDoorScoI
import Derived.Shelf.Abstract
import Derived.OwnWalkIn
import Derived.TacticsInMore
import Derived.LoopNIn
import Derived.LoopIn
namespace Go.Proofs.YtanaifobmkjpaaaDoor
open Go.ChangeShapes Go.WideShapes Go.ChangeAt Go.RowKit Go.Shelf
attribute [local go_sem] Oper.semAt_some

abbrev encP (x : List UInt8) : Array Value := #[.string (bs x)]
theorem boxed_set {W : World} {B : Nat} {t : TypeId} {v u : Value} (h : Boxed W B t v) : Boxed (W.setCell ⟨B, 0, none⟩ u) B t u := by
  have h0 : W.heap[B]? = some (.cells #[v] t (0, 0)) := h
  show (W.setCell ⟨B, 0, none⟩ u).heap[B]? = _
  unfold World.setCell
  rw [Array.getElem?_modify, if_pos rfl, h0]; rfl
set_option maxRecDepth 100000 in
set_option maxHeartbeats 4000000 in
theorem split1_in (F : Fence) (n : Nat) (hF : F = Fence.wide) (hn : 1 ≤ n) (lb Bp Bs Bv : Nat) (d : UInt8) (l : List UInt8) (hlen : l.length ≤ 1000000) (hps : Bp ≠ Bs) (hvs : Bv ≠ Bs) (J Jx : List (List UInt8) → World → Prop)
    (hJs : ∀ pre V v, J pre V → J pre (V.setCell ⟨Bs, 0, none⟩ v)) (W : World)
    (hY : ∀ pre x W, J pre W → pre ++ [x] <+: pcB d [] l → YieldAt F (n - 1) Tryd.prog lb (encP x) W fun e W' =>
      (e = .returned (.bool true) ∧ J (pre ++ [x]) W' ∧ KeepB [Bp, Bs, Bv] W W') ∨ (e = .returned (.bool false) ∧ Jx (pre ++ [x]) W'))
    (hp : Boxed W Bp 9 (.string ⟨#[d]⟩)) (hs : Boxed W Bs 9 (.string (bs l))) (hv : Boxed W Bv 3 (.int .i64 0)) (h0 : J [] W) :
    CallsIn F n Tryd.prog 100 #[.func (.yield lb) #[] #[], .pointer (some ⟨Bp, 0, none⟩), .pointer (some ⟨Bs, 0, none⟩), .pointer (some ⟨Bv, 0, none⟩)] W fun e W' => (∃ v, e = .returned v) ∧
      ((∃ ys, ys = pcB d [] l ∧ J ys W') ∨ (∃ pre, pre <+: pcB d [] l ∧ Jx pre W')) := by
  have hro : F.round = none := by rw [hF]; rfl
  have hf : F.fn 100 := by rw [hF]; trivial
  refine callsIn_of_wp Tryd.func100 rfl hf ?_ hro
  simp only [Tryd.ntmps100, List.size_toArray, List.length_cons, List.length_nil, Nat.reduceAdd, Nat.reduceSub, Array.replicate_succ, Array.replicate_zero, List.push_toArray, List.append_toArray, List.nil_append, List.cons_append]
  have h105 : F.fn 73 := by rw [hF]; trivial
  have HALL : Hid (∀ (u : List UInt8) (m : Nat) (w' : World), CallsIn F m Tryd.prog 73 #[.string (bs u), .string ⟨#[d]⟩] w' (fun e w2 => e = .returned (.int .i64 (Lib.indexByte u d)) ∧ w2 = w')) := fun u m w' => by
    rw [hF]
    have h := Tryd.strings_Index_one (bs u) d w'
    rw [bs_list] at h
    exact callsIn_wide.2 h
  clear hF
  have c1 := hp.cell
  gi_wp2
  gi_loopw [7, 8] (fun _ _ wr => ∃ (pre : List (List UInt8)) (u : List UInt8), Hid (pre ++ pcB d [] u = pcB d [] l) ∧ u.length ≤ l.length ∧ J pre wr ∧ Boxed wr Bp 9 (.string ⟨#[d]⟩) ∧ Boxed wr Bs 9 (.string (bs u)) ∧ Boxed wr Bv 3 (.int .i64 0)) (fun _ _ wr => match wr.cell? ⟨Bs, 0, none⟩ with | some (.string x) => x.size | _ => 0)
  case atStart => exact ⟨[], l, rfl, Nat.le_refl _, h0, hp, hs, hv⟩
  case round =>
    obtain ⟨pre, u, hpre, hul, hJ, hp1, hs1, hv1⟩ := hrel
    have d1 := hp1.cell
    have d2 := hs1.cell
    have d3 := hv1.cell
    clear c1
    have hix := HALL.out u
    cases hc : cutB d u with
    | none =>
      rw [index_none hc] at hix
      have HIX := Lib.hid hix
      have hlast : Hid (pcB d [] l = pre ++ [u]) := by show _ = _; rw [← hpre.out, pcB_none hc]
      have hl1 : pre ++ [u] <+: pcB d [] l := by rw [hlast.out]; exact List.prefix_refl _
      clear hix hc
      obtain ⟨fn, tmps, assign, body, hy, hR⟩ := hY pre u wr hJ hl1
      try dsimp only [encP] at hy
      clear hl1
      gi_wp2_with (gi_at_call 73; refine (HIX.out _ _).mono ?_; rintro e w' ⟨rfl, rfl⟩)
      refine hR.mono ?_
      rintro e W3 (⟨rfl, hJ3, hk3⟩ | ⟨rfl, hJx3⟩)
      · gi_wp2
        go_end0
        exact ⟨⟨_, rfl⟩, .inl ⟨_, hlast.out.symm, hJ3⟩⟩
      · gi_wp2
        go_end0
        exact ⟨⟨_, rfl⟩, .inr ⟨_, by rw [hlast.out]; exact List.prefix_refl _, hJx3⟩⟩
    | some pr =>
      obtain ⟨A, R⟩ := pr
      rw [index_some hc] at hix
      have HIX := Lib.hid hix
      obtain ⟨q1, q2⟩ := cutB_len hc
      have hpc : Hid (pcB d [] l = (pre ++ [A]) ++ pcB d [] R) := by show _ = _; rw [← hpre.out, pcB_cut hc]; simp
      have hl1 : pre ++ [A] <+: pcB d [] l := by rw [hpc.out]; exact List.prefix_append _ _
      have hul2 : u.length = A.length + 1 + R.length := by rw [q1, List.length_append, List.length_cons]; omega
      have x1 : (bs u).extract 0 A.length = bs A := by rw [bs_extract, q1]; simp
      have x2 : (bs u).extract (A.length + 1) (bs u).size = bs R := by rw [bs_extract, bs_size, List.take_of_length_le (by rw [List.length_drop]; omega), q1]; simp
      have zu : (bs u).size = u.length := bs_size u
      obtain ⟨a, ha⟩ : ∃ a, a = A.length := ⟨_, rfl⟩
      rw [← ha] at x1 x2 hul2 HIX
      have s1 := fun w' => slice_str (P := Tryd.prog) Tryd.underlying9 (bs u) 0 (a : Int) 0 a rfl rfl (by omega) (by omega) (bs A) x1 w'
      have s1 : ∀ w', (Instr.slice 9 (.string (bs u)) none (some (.int .i64 (a : Int))) none).run Tryd.prog w' = .ok (.string (bs A)) w' := fun w' => by
        have h := run_slice_string_to_if (P := Tryd.prog) w' 9 (bs u) .i64 (a : Int) Tryd.underlying9
        rw [h, if_pos (by omega)]
        have : (a : Int).toNat = a := by omega
        rw [this, x1]
      have s2 : ∀ w', (Instr.slice 9 (.string (bs u)) (some (.int .i64 ((a : Int) + 1))) none none).run Tryd.prog w' = .ok (.string (bs R)) w' := fun w' => by
        have h := run_slice_string_from_if (P := Tryd.prog) w' 9 (bs u) .i64 ((a : Int) + 1) Tryd.underlying9
        rw [h, if_pos (by omega)]
        have : ((a : Int) + 1).toNat = a + 1 := by omega
        rw [this, x2]
      have zd : (⟨#[d]⟩ : ByteArray).size = 1 := rfl
      have hw1 : IntKind.i64.wrap ((a : Int) + 1) = a + 1 := wrap_i64_in (by omega) (by omega)
      have hw0 : IntKind.i64.wrap (a : Int) = a := wrap_i64_in (by omega) (by omega)
      obtain ⟨fn, tmps, assign, body, hy, hR⟩ := hY pre A wr hJ hl1
      try dsimp only [encP] at hy
      have HRl : R.length ≤ l.length := by omega
      have hneg : ¬ ((a : Int) < 0) := by omega
      have HX1 := Lib.hid x1
      have HX2 := Lib.hid x2
      clear hl1 hix hc q1 q2 x1 x2 ha
      gi_wp2_with (gi_at_call 73; refine (HIX.out _ _).mono ?_; rintro e w' ⟨rfl, rfl⟩)
      refine hR.mono ?_
      rintro e W3 (⟨rfl, hJ3, hk3⟩ | ⟨rfl, hJx3⟩)
      · have hp3 : Boxed W3 Bp 9 (.string ⟨#[d]⟩) := (hk3 Bp (by simp)).trans hp1
        have hs3 : Boxed W3 Bs 9 (.string (bs u)) := (hk3 Bs (by simp)).trans hs1
        have hv3 : Boxed W3 Bv 3 (.int .i64 0) := (hk3 Bv (by simp)).trans hv1
        have e1 := hp3.cell
        have e2 := hs3.cell
        have e3 := hv3.cell
        have ef := hs3.frozen
        have D2 := Lib.hid d2
        clear d1 d2 d3
        gi_wp2
        go_roundw
        case rel => exact ⟨pre ++ [A], R, hpc.out.symm, HRl, hJs _ _ _ hJ3, hp3.other hps _, boxed_set hs3, hv3.other hvs _⟩
        case measure =>
          have q1 : (W3.setCell ⟨Bs, 0, none⟩ (.string (bs R))).cell? ⟨Bs, 0, none⟩ = some (.string (bs R)) := (boxed_set hs3).cell
          have q2 := D2.out
          simp only [q1, q2, bs_size]
          omega
      · gi_wp2
        (try simp only [Exit.noGoto])
        refine bodyPost_ret (results_none rfl _ _ _) rfl ?_
        exact ⟨⟨_, rfl⟩, .inr ⟨_, by rw [hpc.out]; exact List.prefix_append _ _, hJx3⟩⟩
theorem split_seqB (F : Fence) (n : Nat) (hF : F = Fence.wide) (hn : 1 ≤ n) (Bp Bs Bv : Nat) (d : UInt8) (l : List UInt8) (hlen : l.length ≤ 1000000) (hps : Bp ≠ Bs) (hvs : Bv ≠ Bs) (w : World)
    (hp : Boxed w Bp 9 (.string ⟨#[d]⟩)) (hs : Boxed w Bs 9 (.string (bs l))) (hv : Boxed w Bv 3 (.int .i64 0)) :
    SeqB F n Tryd.prog 100 #[.pointer (some ⟨Bp, 0, none⟩), .pointer (some ⟨Bs, 0, none⟩), .pointer (some ⟨Bv, 0, none⟩)] encP Bs [Bp, Bs, Bv] (fun ys => ys = pcB d [] l) (fun pre => pre <+: pcB d [] l) (fun pre x => pre ++ [x] <+: pcB d [] l) w :=
  fun lb J Jx W hW _ _ hJs hY h0 => split1_in F n hF hn lb Bp Bs Bv d l hlen hps hvs J Jx hJs W hY ((hW.block Bp hp.lt).trans hp) ((hW.block Bs hs.lt).trans hs) ((hW.block Bv hv.lt).trans hv) h0
/-- The three boxes. -/
def splitW (w : World) (s : ByteArray) (d : UInt8) : World := ((w.alloc (.cells #[.string s] 9)).alloc (.cells #[.string ⟨#[d]⟩] 9)).alloc (.cells #[.int .i64 0] 3)
set_option maxHeartbeats 1000000 in
theorem splitSeq_any (s : ByteArray) (d : UInt8) (w : World) : Calls Tryd.prog 49 #[.string s, .string ⟨#[d]⟩] w fun e w' => e = .returned (.func (.func 100) #[] #[.pointer (some ⟨w.heap.size + 1, 0, none⟩), .pointer (some ⟨w.heap.size, 0, none⟩), .pointer (some ⟨w.heap.size + 1 + 1, 0, none⟩)]) ∧ w' = splitW w s d := by
  have h : Calls Tryd.prog 80 #[.string s, .string ⟨#[d]⟩, .int .i64 0] w fun e w' => e = .returned (.func (.func 100) #[] #[.pointer (some ⟨w.heap.size + 1, 0, none⟩), .pointer (some ⟨w.heap.size, 0, none⟩), .pointer (some ⟨w.heap.size + 1 + 1, 0, none⟩)]) ∧ w' = splitW w s d := by
    go_enter Tryd.func80, Tryd.ntmps80
    go_wp2_with fail
    go_ret
    exact ⟨rfl, rfl⟩
  have H := Lib.hid h
  clear h
  go_enter Tryd.func49, Tryd.ntmps49
  go_wp2_with fail
  refine (H.out).mono ?_
  rintro e w' ⟨rfl, rfl⟩
  go_wp2_with fail
  go_ret
  exact ⟨rfl, rfl⟩
theorem splitW_boxes (w : World) (s : ByteArray) (d : UInt8) : Boxed (splitW w s d) (w.heap.size + 1) 9 (.string ⟨#[d]⟩) ∧ Boxed (splitW w s d) w.heap.size 9 (.string s) ∧ Boxed (splitW w s d) (w.heap.size + 1 + 1) 3 (.int .i64 0) ∧ Ext w (splitW w s d) ∧ (splitW w s d).heap.size = w.heap.size + 3 := by
  refine ⟨?_, ?_, ?_, ?_, ?_⟩
  · have := Boxed.new (w.alloc (.cells #[.string s] 9)) 9 (.string ⟨#[d]⟩)
    rw [World.size_alloc] at this
    exact this.alloc _
  · exact ((Boxed.new w 9 (.string s)).alloc _).alloc _
  · have := Boxed.new ((w.alloc (.cells #[.string s] 9)).alloc (.cells #[.string ⟨#[d]⟩] 9)) 3 (.int .i64 0)
    rw [World.size_alloc, World.size_alloc] at this
    exact this
  · exact (((Ext.refl _).alloc _).alloc _).alloc _
  · simp [splitW]
end Go.Proofs.YtanaifobmkjpaaaDoor
