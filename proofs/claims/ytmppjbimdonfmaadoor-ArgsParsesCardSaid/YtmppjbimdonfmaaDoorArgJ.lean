/- Layer 46 (args): strings.ContainsAny at the three signs, for every text; the program's Quote. -/
import Derived.Test.YtmppjbimdonfmaaDoorArgI
import Derived.Test.YtmppjbimdonfmaaDoorArgP
import Derived.Test.YtmppjbimdonfmaaDoorStrC
namespace Go.Proofs.YtmppjbimdonfmaaDoor
open Go.ChangeShapes Go.WideShapes Go.ChangeAt Go.RowKit

def anyS (l : List UInt8) : Bool := l.any (signs.contains ·)
theorem anyS_index (l : List UInt8) : decide (0 ≤ Lib.indexAny l signs) = anyS l := by
  unfold anyS
  induction l with
  | nil => rfl
  | cons b l ih =>
    have hstep : Lib.indexAny (b :: l) signs = if signs.contains b then 0 else if Lib.indexAny l signs == -1 then -1 else Lib.indexAny l signs + 1 := rfl
    have hge := Lib.indexAny_ge signs l
    rw [List.any_cons, ← ih, hstep]
    by_cases hb : signs.contains b = true
    · rw [if_pos hb, hb]; rfl
    · rw [if_neg hb]
      have hb' : signs.contains b = false := by simpa using hb
      rw [hb', Bool.false_or]
      split
      · rename_i h
        rw [beq_iff_eq] at h
        rw [h]
      · rename_i h
        rw [beq_iff_eq] at h
        rw [decide_eq_true (by omega : (0 : Int) ≤ Lib.indexAny l signs + 1), decide_eq_true (by omega : (0 : Int) ≤ Lib.indexAny l signs)]
theorem anyS_bare (l : List UInt8) (h : l ≠ []) : bareB l = !(anyS l) := by
  unfold bareB anyS
  rw [Bool.eq_iff_iff, decide_eq_true_iff, Bool.not_eq_true', List.any_eq_false]
  constructor
  · rintro ⟨_, h1, h2, h3⟩ x hx
    have : x ≠ 32 ∧ x ≠ 39 ∧ x ≠ 92 := ⟨by rintro rfl; exact h1 hx, by rintro rfl; exact h2 hx, by rintro rfl; exact h3 hx⟩
    simp [signs, this.1, this.2.1, this.2.2]
  · intro hx
    refine ⟨h, fun hm => ?_, fun hm => ?_, fun hm => ?_⟩
    · exact absurd (hx 32 hm) (by decide)
    · exact absurd (hx 39 hm) (by decide)
    · exact absurd (hx 92 hm) (by decide)
def IaR (w : World) (l : List UInt8) (e : Ending) (w' : World) : Prop := ∃ x : Int, e = .returned (.int .i64 x) ∧ decide (0 ≤ x) = anyS l ∧ Ext w w'
theorem sign_small {x : UInt8} (h : signs.contains x = true) : x.toNat < 128 := by
  have : x = 32 ∨ x = 39 ∨ x = 92 := by simpa [signs] using h
  rcases this with rfl | rfl | rfl <;> decide
/-- No sign among the first bytes. -/
def noS (l : List UInt8) (i : Nat) : Prop := anyS (l.take i) = false
theorem noS_succ {l : List UInt8} {i : Nat} (h : noS l i) (hi : i < l.length) (hx : signs.contains l[i] = false) : noS l (i + 1) := by
  unfold noS anyS at *
  rw [List.take_succ_eq_append_getElem hi, List.any_append, h]
  simpa using hx
theorem noS_more {l : List UInt8} {i : Nat} (n : Nat) (h : noS l i) (hn : i + n ≤ l.length) (hx : ∀ k, i ≤ k → k < i + n → ∀ hk : k < l.length, 128 ≤ (l[k]'hk).toNat) : noS l (i + n) := by
  induction n with
  | zero => exact h
  | succ n ih =>
    have h1 := ih (by omega) (fun k k1 k2 hk => hx k k1 (by omega) hk)
    have h2 := hx (i + n) (by omega) (by omega) (by omega)
    refine noS_succ (i := i + n) h1 (by omega) ?_
    cases hc : signs.contains (l[i + n]'(by omega)) with
    | false => rfl
    | true => exact absurd (sign_small hc) (by omega)
set_option maxRecDepth 100000 in
set_option maxHeartbeats 4000000 in
theorem iany_short (l : List UInt8) (w : World) (h8 : l.length ≤ 8) : Calls Tryd.prog 125 #[.string (bs l), .string (bs signs)] w (IaR w l) := by
  have z0 : (bs l).size = l.length := bs_size l
  have zs : (bs signs).size = 3 := rfl
  have hemp : (bs signs).toList.isEmpty = false := by rw [bs_toList]; rfl
  have h8z : Hid (decide ((8 : Int) < (l.length : Int)) = false) := decide_eq_false (by omega)
  go_enter Tryd.func125, Tryd.ntmps125
  go_wp2_with fail
  refine (Tryd.strings_shouldUseASCIISet _ _).mono ?_
  rintro e w1 ⟨rfl, rfl⟩
  rw [h8z.out]
  go_wp2_with fail
  go_loopw [9, 10] (fun _ _ wx => ∃ i : Nat, i ≤ l.length ∧ wx.heap[w1.heap.size]? = some (.stringIter (bs l) i) ∧ Hid (noS l i) ∧ Ext w1 wx) (fun _ _ wx => l.length - wx.iterPos w1.heap.size)
  case atStart => exact ⟨0, Nat.zero_le _, World.iter_heap _ _ _, rfl, (Ext.refl _).alloc _⟩
  case round =>
    obtain ⟨i, hi, hit, hno, hE⟩ := hrel
    have hpos : wr.iterPos w1.heap.size = i := by unfold World.iterPos; rw [hit]
    by_cases hlt : i < l.length
    · have hks : i < (bs l).size := by omega
      have hg : (bs l)[i] = l[i] := bs_get l i hks hlt
      have hiL : w1.heap.size < wr.heap.size := (Array.getElem?_eq_some_iff.1 hit).1
      have hHd : ∀ p, (wr.iterAt w1.heap.size (bs l) p).heap[w1.heap.size]? = some (.stringIter (bs l) p) := fun p => Lib.iterAt_heap wr _ _ i p hit
      have hEx : ∀ p, Ext w1 (wr.iterAt w1.heap.size (bs l) p) := fun p => Lib.below_iterAt hE (Nat.le_refl _) _ _
      by_cases ha : (l[i]).toNat < 128
      · have hnx := fun ty => Lib.run_next_ascii_at (P := Tryd.prog) wr w1.heap.size (bs l) i ty hit hks (by rw [hg]; exact ha)
        have hrr : ((bs l)[i].toNat : Int) < 128 := by rw [hg]; omega
        have hib : Hid (Lib.indexByte (bs signs).data.toList (((bs l)[i].toNat : Int).toNat.toUInt8) = Lib.indexByte signs l[i]) := by show _ = _; rw [hg]; simp [bs_list]
        have hcon := Lib.contains_iff_indexByte signs l[i]
        cases hin : signs.contains l[i] with
        | false =>
          rw [hin] at hcon
          have hlt0 : Hid (¬ (0 : Int) ≤ Lib.indexByte signs l[i]) := by show ¬ (0 : Int) ≤ _; exact of_decide_eq_false hcon.symm
          have hnn := Lib.hid (noS_succ hno.out hlt hin)
          have HD := Lib.hid (hHd (i + 1))
          have HX := Lib.hid (hEx (i + 1))
          have HP := Lib.hid hpos
          clear hcon hin hg hHd hEx hpos ha
          go_wp2_with fail
          refine (Tryd.strings_IndexRune_ascii _ _ _ (by omega) hrr).mono ?_
          rintro e w2 ⟨rfl, hw2⟩
          rw [hib.out, hw2]
          have hl := hlt0.out
          go_wp2_with fail
          go_roundw
          case rel => exact ⟨i + 1, by omega, HD.out, hnn, HX.out⟩
          case measure =>
            have : (wr.iterAt w1.heap.size (bs l) (i + 1)).iterPos w1.heap.size = i + 1 := by unfold World.iterPos; rw [HD.out]
            rw [this, HP.out]; omega
        | true =>
          rw [hin] at hcon
          have hge0 : Hid ((0 : Int) ≤ Lib.indexByte signs l[i]) := by show (0 : Int) ≤ _; exact of_decide_eq_true hcon.symm
          have hyes : Hid (anyS l = true) := by
            show _ = _
            unfold anyS
            rw [List.any_eq_true]
            exact ⟨l[i], List.getElem_mem hlt, hin⟩
          have HX := Lib.hid (hEx (i + 1))
          clear hcon hin hg hHd hEx hpos ha
          go_wp2_with fail
          refine (Tryd.strings_IndexRune_ascii _ _ _ (by omega) hrr).mono ?_
          rintro e w2 ⟨rfl, hw2⟩
          rw [hib.out, hw2]
          have hl := hge0.out
          go_wp2_with fail
          go_ret
          exact ⟨i, rfl, by rw [hyes.out]; exact decide_eq_true (by omega), HX.out⟩
      · have ha2 : 128 ≤ ((bs l)[i]'hks).toNat := by rw [hg]; omega
        obtain ⟨d1, d2, d3, d4, d5⟩ := decode_big (bs l) i hks ha2
        have hnx := fun ty => Lib.run_next_any_at (P := Tryd.prog) wr w1.heap.size (bs l) i ty hit hks
        obtain ⟨r, hr⟩ : ∃ r, r = (Utf8.decode (bs l) i).1 := ⟨_, rfl⟩
        obtain ⟨n, hn⟩ : ∃ n, n = (Utf8.decode (bs l) i).2 := ⟨_, rfl⟩
        rw [← hr] at d1 d2 hnx
        rw [← hn] at d3 d4 d5 hnx
        have hnn : Hid (noS l (i + n)) := noS_more n hno.out (by omega) (fun k h1 h2 hk => by
          have := d5 k h1 h2 (by omega)
          rw [bs_get l k (by omega) hk] at this
          exact this)
        have HD := Lib.hid (hHd (i + n))
        have HX := Lib.hid (hEx (i + n))
        have HP := Lib.hid hpos
        clear hg hHd hEx hpos ha ha2 d5 hr hn
        by_cases he : r = 65533
        · subst he
          go_wp2_with fail
          refine (irune_err _).mono ?_
          rintro e w2 ⟨rfl, hE2⟩
          have HD2 := Lib.hid (hE2.block HD.out)
          go_wp2_with fail
          go_roundw
          case rel => exact ⟨i + n, by omega, HD2.out, hnn, HX.out.trans hE2⟩
          case measure =>
            have : w2.iterPos w1.heap.size = i + n := by unfold World.iterPos; rw [HD2.out]
            rw [this, HP.out]; omega
        · go_wp2_with fail
          refine (irune_big (r : Int) (by omega) (by omega) (by omega) _).mono ?_
          rintro e w2 ⟨rfl, hE2⟩
          have HD2 := Lib.hid (hE2.block HD.out)
          go_wp2_with fail
          go_roundw
          case rel => exact ⟨i + n, by omega, HD2.out, hnn, HX.out.trans hE2⟩
          case measure =>
            have : w2.iterPos w1.heap.size = i + n := by unfold World.iterPos; rw [HD2.out]
            rw [this, HP.out]; omega
    · obtain rfl : i = l.length := by omega
      have hnx := fun ty => Lib.run_next_end_at (P := Tryd.prog) wr w1.heap.size (bs l) l.length ty hit (by omega)
      have hf : Hid (anyS l = false) := by
        have := hno.out
        unfold noS at this
        rw [List.take_length] at this
        exact this
      clear hpos hit
      go_wp2_with fail
      go_ret
      exact ⟨-1, rfl, by rw [hf.out]; rfl, hE⟩
theorem signs_ascii : ∀ (j : Nat) b, (bs signs).data.toList[j]? = some b → b.toNat < 128 := by
  intro j b h
  rw [bs_list] at h
  have := List.mem_of_getElem? h
  have h2 : b = 32 ∨ b = 39 ∨ b = 92 := by simpa [signs] using this
  rcases h2 with rfl | rfl | rfl <;> decide
theorem iany_any (l : List UInt8) (w : World) (hlen : l.length ≤ 1000000) : Calls Tryd.prog 125 #[.string (bs l), .string (bs signs)] w (IaR w l) := by
  by_cases h8 : l.length ≤ 8
  · exact iany_short l w h8
  · have hz := zero_of_info (P := Tryd.prog) (t := 102) (v := .agg (Array.replicate 256 (.bool false))) (n := 256) (by kernel_rfl)
    refine (Tryd.strings_IndexAny_long hz.1 (bs l) (bs signs) w (by decide) (by rw [bs_size]; omega) (by rw [bs_size]; omega) (by decide) signs_ascii).mono ?_
    rintro e w' ⟨rfl, rfl⟩
    refine ⟨_, rfl, ?_, ((Ext.refl _).alloc _).alloc _⟩
    rw [bs_list, bs_list]
    exact anyS_index l
set_option maxHeartbeats 1000000 in
theorem cany_any (l : List UInt8) (w : World) (hlen : l.length ≤ 1000000) : Calls Tryd.prog 98 #[.string (bs l), .string (bs signs)] w (Ret w (.bool (anyS l))) := by
  go_enter Tryd.func98, Tryd.ntmps98
  go_wp2_with fail
  refine (iany_any l _ hlen).mono ?_
  rintro e w1 ⟨x, rfl, hx, hE⟩
  have HX := Lib.hid hx
  clear hx
  go_wp2_with fail
  go_ret
  exact Ret.mk (ret_bool (by rw [← HX.out])) hE
end Go.Proofs.YtmppjbimdonfmaaDoor
