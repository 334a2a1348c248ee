/- Layer 48 (script): strings.ContainsAny at the bytes 0 and 10, for every text (as ArgI and ArgJ have it at three sgz). -/
import Derived.Test.YtanaifobmkjpaaaDoorArgJ
namespace Go.Proofs.YtanaifobmkjpaaaDoor
open Go.ChangeShapes Go.WideShapes Go.ChangeAt Go.RowKit

def sgz : List UInt8 := [0, 10]
set_option maxRecDepth 100000 in
set_option maxHeartbeats 4000000 in
theorem irune_errZ (w : World) : Calls Tryd.prog 103 #[.string (bs sgz), .int .i32 65533] w (Ret w (.int .i64 (-1))) := by
  have z0 : (bs sgz).size = 2 := rfl
  go_enter Tryd.func103, Tryd.ntmps103
  go_wp2_with fail
  go_loopw [5] (fun u wx => ∃ p : Nat, p ≤ 2 ∧ wx = w.iter (bs sgz) p) (fun _ wx => 2 - wx.iterPos w.heap.size)
  case atStart => exact ⟨0, by omega, rfl⟩
  case round =>
    obtain ⟨p, hp, rfl⟩ := hrel
    by_cases hp3 : p = 2
    · subst hp3
      have hnx := fun ty => run_next_end (P := Tryd.prog) w (bs sgz) 2 ty
      go_wp2_with fail
      go_ret
      exact Ret.mk rfl ((Ext.refl _).alloc _)
    · have hps : p < (bs sgz).size := by omega
      have h128 : ((bs sgz)[p]'hps).toNat < 128 := by
        have h3 : p = 0 ∨ p = 1 := by omega
        rcases h3 with rfl | rfl
        · exact (by decide : (0 : UInt8).toNat < 128)
        · exact (by decide : (10 : UInt8).toNat < 128)
      have hnx := fun ty => run_next_ascii (P := Tryd.prog) w (bs sgz) p ty hps h128
      have hne : ((((bs sgz)[p]'hps).toNat : Int) == 65533) = false := beq_eq_false_iff_ne.2 (by omega)
      go_wp2_with fail
      go_roundw
      case rel => exact ⟨p + 1, by omega, rfl⟩
      case measure => rw [World.iterPos_iter, World.iterPos_iter]; omega
set_option maxRecDepth 100000 in
set_option maxHeartbeats 4000000 in
theorem irune_bigZ (r : Int) (h1 : 128 ≤ r) (h2 : r ≠ 65533) (h3 : r ≤ 1114111) (w : World) : Calls Tryd.prog 103 #[.string (bs sgz), .int .i32 r] w (Ret w (.int .i64 (-1))) := by
  obtain ⟨E, n, b, hE, zE, hn, hb, hgl⟩ := encode_last r h1
  have z0 : (bs sgz).size = 2 := rfl
  have n1 : (r == 65533) = false := beq_eq_false_iff_ne.2 h2
  have n2 : ¬ r < 128 := by omega
  have n3 : (0 : Int) ≤ r := by omega
  cases hv : Lib.validRune r with
  | false =>
    have HV := Lib.hid hv
    clear hv hE h2
    go_enter Tryd.func103, Tryd.ntmps103
    go_wp2_with fail
    refine (Tryd.utf8_ValidRune _ _).mono ?_
    rintro e w1 ⟨rfl, rfl⟩
    rw [HV.out]
    go_wp2_with fail
    go_ret
    exact Ret.mk rfl (Ext.refl _)
  | true =>
    have HV := Lib.hid hv
    have hin : ∀ l : List UInt8, (∀ x ∈ l, x.toNat < 128) → Hid (Lib.indexByte l b = -1) := fun l h => by
      have h2 := indexByte_no (l := l) (b := b) (fun hm => by have := h b hm; omega)
      have h3 := Lib.indexByte_ge l b
      show _ = _
      omega
    have hi2 := hin [] (by decide)
    have hbl : (b.toNat : Int) < 256 := by have := b.toNat_lt; omega
    have hbu : (b.toNat : Int).toNat.toUInt8 = b := by simp
    have hks : n < E.size := by omega
    have hbv := hgl hks
    have c1 : (((bs sgz)[1]'(by decide)).toNat : Int) = 10 := rfl
    have c2 : ((10 : Int) != (b.toNat : Int)) = true := by simp; omega
    have hs1 := slice_from (P := Tryd.prog) Tryd.underlying9 (bs sgz) (2 : Int) 2 rfl (by decide) (bs []) rfl
    have hw2 : IntKind.i64.wrap 2 = 2 := wrap_i64_in (by decide) (by decide)
    clear hv h2 hin hgl
    have k2' : ∀ w, Calls Tryd.prog 97 #[.string (bs []), .int .u8 b.toNat] w fun e w' => e = .returned (.int .i64 (-1)) ∧ w' = w := fun w => (Tryd.strings_IndexByte (bs []) b.toNat w).mono fun e w' h => ⟨by rw [h.1, bs_list, hbu, hi2.out], h.2⟩
    have k2 := Lib.hid k2'
    clear hbu k2'
    have e135 : ∀ args w, (callFunc 97 args).run Tryd.prog w = .ok (.enter 97 args) w := enters_of Tryd.func97 (by kernel_rfl) rfl
    rcases hn with rfl | rfl | rfl
    · go_enter Tryd.func103, Tryd.ntmps103
      go_wp2_with fail
      refine (Tryd.utf8_ValidRune _ _).mono ?_
      rintro e w1 ⟨rfl, rfl⟩
      rw [HV.out]
      go_wp2_with fail
      go_step3
      go_wp2_with fail
      go_loopw [9] (fun u wx => u = .int .i64 1 ∧ wx = w1) (fun _ _ => 0)
      case atStart => exact ⟨rfl, rfl⟩
      case round =>
        obtain ⟨rfl, rfl⟩ := hrel
        go_wp2_with fail
        go_step3
        go_wp2_with fail
        go_quiet (fail)
        go_wp2_with fail
        go_quiet (exact (k2.out _).mono fun e w' h => ⟨h.1, _, h.2⟩)
        go_wp2_with fail
        go_ret
        exact Ret.mk rfl ((Ext.refl _).drewN _)
    · go_enter Tryd.func103, Tryd.ntmps103
      go_wp2_with fail
      refine (Tryd.utf8_ValidRune _ _).mono ?_
      rintro e w1 ⟨rfl, rfl⟩
      rw [HV.out]
      go_wp2_with fail
      go_step3
      go_wp2_with fail
      go_loopw [9] (fun u wx => u = .int .i64 2 ∧ wx = w1) (fun _ _ => 0)
      case atStart => exact ⟨rfl, rfl⟩
      case round =>
        obtain ⟨rfl, rfl⟩ := hrel
        go_wp2_with fail
        simp only [Exit.noGoto_ret]
        go_wp2_with fail
        go_ret
        exact Ret.mk rfl (Ext.refl _)
    · go_enter Tryd.func103, Tryd.ntmps103
      go_wp2_with fail
      refine (Tryd.utf8_ValidRune _ _).mono ?_
      rintro e w1 ⟨rfl, rfl⟩
      rw [HV.out]
      go_wp2_with fail
      go_step3
      go_wp2_with fail
      go_loopw [9] (fun u wx => u = .int .i64 3 ∧ wx = w1) (fun _ _ => 0)
      case atStart => exact ⟨rfl, rfl⟩
      case round =>
        obtain ⟨rfl, rfl⟩ := hrel
        go_wp2_with fail
        simp only [Exit.noGoto_ret]
        go_wp2_with fail
        go_ret
        exact Ret.mk rfl (Ext.refl _)
def anySZ (l : List UInt8) : Bool := l.any (sgz.contains ·)
theorem anyS_indexZ (l : List UInt8) : decide (0 ≤ Lib.indexAny l sgz) = anySZ l := by
  unfold anySZ
  induction l with
  | nil => rfl
  | cons b l ih =>
    have hstep : Lib.indexAny (b :: l) sgz = if sgz.contains b then 0 else if Lib.indexAny l sgz == -1 then -1 else Lib.indexAny l sgz + 1 := rfl
    have hge := Lib.indexAny_ge sgz l
    rw [List.any_cons, ← ih, hstep]
    by_cases hb : sgz.contains b = true
    · rw [if_pos hb, hb]; rfl
    · rw [if_neg hb]
      have hb' : sgz.contains b = false := by simpa using hb
      rw [hb', Bool.false_or]
      split
      · rename_i h
        rw [beq_iff_eq] at h
        rw [h]
      · rename_i h
        rw [beq_iff_eq] at h
        rw [decide_eq_true (by omega : (0 : Int) ≤ Lib.indexAny l sgz + 1), decide_eq_true (by omega : (0 : Int) ≤ Lib.indexAny l sgz)]
def IaRZ (w : World) (l : List UInt8) (e : Ending) (w' : World) : Prop := ∃ x : Int, e = .returned (.int .i64 x) ∧ decide (0 ≤ x) = anySZ l ∧ Ext w w'
theorem sign_smallZ {x : UInt8} (h : sgz.contains x = true) : x.toNat < 128 := by
  have : x = 0 ∨ x = 10 := by simpa [sgz] using h
  rcases this with rfl | rfl <;> decide
def noSZ (l : List UInt8) (i : Nat) : Prop := anySZ (l.take i) = false
theorem noS_succZ {l : List UInt8} {i : Nat} (h : noSZ l i) (hi : i < l.length) (hx : sgz.contains l[i] = false) : noSZ l (i + 1) := by
  unfold noSZ anySZ at *
  rw [List.take_succ_eq_append_getElem hi, List.any_append, h]
  simpa using hx
theorem noS_moreZ {l : List UInt8} {i : Nat} (n : Nat) (h : noSZ l i) (hn : i + n ≤ l.length) (hx : ∀ k, i ≤ k → k < i + n → ∀ hk : k < l.length, 128 ≤ (l[k]'hk).toNat) : noSZ l (i + n) := by
  induction n with
  | zero => exact h
  | succ n ih =>
    have h1 := ih (by omega) (fun k k1 k2 hk => hx k k1 (by omega) hk)
    have h2 := hx (i + n) (by omega) (by omega) (by omega)
    refine noS_succZ (i := i + n) h1 (by omega) ?_
    cases hc : sgz.contains (l[i + n]'(by omega)) with
    | false => rfl
    | true => exact absurd (sign_smallZ hc) (by omega)
set_option maxRecDepth 100000 in
set_option maxHeartbeats 4000000 in
theorem iany_shortZ (l : List UInt8) (w : World) (h8 : l.length ≤ 8) : Calls Tryd.prog 88 #[.string (bs l), .string (bs sgz)] w (IaRZ w l) := by
  have z0 : (bs l).size = l.length := bs_size l
  have zs : (bs sgz).size = 2 := rfl
  have hemp : (bs sgz).toList.isEmpty = false := by rw [bs_toList]; rfl
  have h8z : Hid (decide ((8 : Int) < (l.length : Int)) = false) := decide_eq_false (by omega)
  go_enter Tryd.func88, Tryd.ntmps88
  go_wp2_with fail
  refine (Tryd.strings_shouldUseASCIISet _ _).mono ?_
  rintro e w1 ⟨rfl, rfl⟩
  rw [h8z.out]
  go_wp2_with fail
  go_loopw [9, 10] (fun _ _ wx => ∃ i : Nat, i ≤ l.length ∧ wx.heap[w1.heap.size]? = some (.stringIter (bs l) i) ∧ Hid (noSZ l i) ∧ Ext w1 wx) (fun _ _ wx => l.length - wx.iterPos w1.heap.size)
  case atStart => exact ⟨0, Nat.zero_le _, World.iter_heap _ _ _, rfl, (Ext.refl _).alloc _⟩
  case round =>
    obtain ⟨i, hi, hit, hno, hE⟩ := hrel
    have hpos : wr.iterPos w1.heap.size = i := by unfold World.iterPos; rw [hit]
    by_cases hlt : i < l.length
    · have hks : i < (bs l).size := by omega
      have hg : (bs l)[i] = l[i] := bs_get l i hks hlt
      have hiL : w1.heap.size < wr.heap.size := (Array.getElem?_eq_some_iff.1 hit).1
      have hHd : ∀ p, (wr.iterAt w1.heap.size (bs l) p).heap[w1.heap.size]? = some (.stringIter (bs l) p) := fun p => Lib.iterAt_heap wr _ _ i p hit
      have hEx : ∀ p, Ext w1 (wr.iterAt w1.heap.size (bs l) p) := fun p => Lib.below_iterAt hE (Nat.le_refl _) _ _
      by_cases ha : (l[i]).toNat < 128
      · have hnx := fun ty => Lib.run_next_ascii_at (P := Tryd.prog) wr w1.heap.size (bs l) i ty hit hks (by rw [hg]; exact ha)
        have hrr : ((bs l)[i].toNat : Int) < 128 := by rw [hg]; omega
        have hib : Hid (Lib.indexByte (bs sgz).data.toList (((bs l)[i].toNat : Int).toNat.toUInt8) = Lib.indexByte sgz l[i]) := by show _ = _; rw [hg]; simp [bs_list]
        have hcon := Lib.contains_iff_indexByte sgz l[i]
        cases hin : sgz.contains l[i] with
        | false =>
          rw [hin] at hcon
          have hlt0 : Hid (¬ (0 : Int) ≤ Lib.indexByte sgz l[i]) := by show ¬ (0 : Int) ≤ _; exact of_decide_eq_false hcon.symm
          have hnn := Lib.hid (noS_succZ hno.out hlt hin)
          have HD := Lib.hid (hHd (i + 1))
          have HX := Lib.hid (hEx (i + 1))
          have HP := Lib.hid hpos
          clear hcon hin hg hHd hEx hpos ha
          go_wp2_with fail
          refine (Tryd.strings_IndexRune_ascii _ _ _ (by omega) hrr).mono ?_
          rintro e w2 ⟨rfl, hw2⟩
          rw [hib.out, hw2]
          have hl := hlt0.out
          go_wp2_with fail
          go_roundw
          case rel => exact ⟨i + 1, by omega, HD.out, hnn, HX.out⟩
          case measure =>
            have : (wr.iterAt w1.heap.size (bs l) (i + 1)).iterPos w1.heap.size = i + 1 := by unfold World.iterPos; rw [HD.out]
            rw [this, HP.out]; omega
        | true =>
          rw [hin] at hcon
          have hge0 : Hid ((0 : Int) ≤ Lib.indexByte sgz l[i]) := by show (0 : Int) ≤ _; exact of_decide_eq_true hcon.symm
          have hyes : Hid (anySZ l = true) := by
            show _ = _
            unfold anySZ
            rw [List.any_eq_true]
            exact ⟨l[i], List.getElem_mem hlt, hin⟩
          have HX := Lib.hid (hEx (i + 1))
          clear hcon hin hg hHd hEx hpos ha
          go_wp2_with fail
          refine (Tryd.strings_IndexRune_ascii _ _ _ (by omega) hrr).mono ?_
          rintro e w2 ⟨rfl, hw2⟩
          rw [hib.out, hw2]
          have hl := hge0.out
          go_wp2_with fail
          go_ret
          exact ⟨i, rfl, by rw [hyes.out]; exact decide_eq_true (by omega), HX.out⟩
      · have ha2 : 128 ≤ ((bs l)[i]'hks).toNat := by rw [hg]; omega
        obtain ⟨d1, d2, d3, d4, d5⟩ := decode_big (bs l) i hks ha2
        have hnx := fun ty => Lib.run_next_any_at (P := Tryd.prog) wr w1.heap.size (bs l) i ty hit hks
        obtain ⟨r, hr⟩ : ∃ r, r = (Utf8.decode (bs l) i).1 := ⟨_, rfl⟩
        obtain ⟨n, hn⟩ : ∃ n, n = (Utf8.decode (bs l) i).2 := ⟨_, rfl⟩
        rw [← hr] at d1 d2 hnx
        rw [← hn] at d3 d4 d5 hnx
        have hnn : Hid (noSZ l (i + n)) := noS_moreZ n hno.out (by omega) (fun k h1 h2 hk => by
          have := d5 k h1 h2 (by omega)
          rw [bs_get l k (by omega) hk] at this
          exact this)
        have HD := Lib.hid (hHd (i + n))
        have HX := Lib.hid (hEx (i + n))
        have HP := Lib.hid hpos
        clear hg hHd hEx hpos ha ha2 d5 hr hn
        by_cases he : r = 65533
        · subst he
          go_wp2_with fail
          refine (irune_errZ _).mono ?_
          rintro e w2 ⟨rfl, hE2⟩
          have HD2 := Lib.hid (hE2.block HD.out)
          go_wp2_with fail
          go_roundw
          case rel => exact ⟨i + n, by omega, HD2.out, hnn, HX.out.trans hE2⟩
          case measure =>
            have : w2.iterPos w1.heap.size = i + n := by unfold World.iterPos; rw [HD2.out]
            rw [this, HP.out]; omega
        · go_wp2_with fail
          refine (irune_bigZ (r : Int) (by omega) (by omega) (by omega) _).mono ?_
          rintro e w2 ⟨rfl, hE2⟩
          have HD2 := Lib.hid (hE2.block HD.out)
          go_wp2_with fail
          go_roundw
          case rel => exact ⟨i + n, by omega, HD2.out, hnn, HX.out.trans hE2⟩
          case measure =>
            have : w2.iterPos w1.heap.size = i + n := by unfold World.iterPos; rw [HD2.out]
            rw [this, HP.out]; omega
    · obtain rfl : i = l.length := by omega
      have hnx := fun ty => Lib.run_next_end_at (P := Tryd.prog) wr w1.heap.size (bs l) l.length ty hit (by omega)
      have hf : Hid (anySZ l = false) := by
        have := hno.out
        unfold noSZ at this
        rw [List.take_length] at this
        exact this
      clear hpos hit
      go_wp2_with fail
      go_ret
      exact ⟨-1, rfl, by rw [hf.out]; rfl, hE⟩
theorem signs_asciiZ : ∀ (j : Nat) b, (bs sgz).data.toList[j]? = some b → b.toNat < 128 := by
  intro j b h
  rw [bs_list] at h
  have := List.mem_of_getElem? h
  have h2 : b = 0 ∨ b = 10 := by simpa [sgz] using this
  rcases h2 with rfl | rfl <;> decide
theorem iany_anyZ (l : List UInt8) (w : World) (hlen : l.length ≤ 1000000) : Calls Tryd.prog 88 #[.string (bs l), .string (bs sgz)] w (IaRZ w l) := by
  by_cases h8 : l.length ≤ 8
  · exact iany_shortZ l w h8
  · have hz := zero_of_info (P := Tryd.prog) (t := 108) (v := .agg (Array.replicate 256 (.bool false))) (n := 256) (by kernel_rfl)
    refine (Tryd.strings_IndexAny_long hz.1 (bs l) (bs sgz) w (by decide) (by rw [bs_size]; omega) (by rw [bs_size]; omega) (by decide) signs_asciiZ).mono ?_
    rintro e w' ⟨rfl, rfl⟩
    refine ⟨_, rfl, ?_, ((Ext.refl _).alloc _).alloc _⟩
    rw [bs_list, bs_list]
    exact anyS_indexZ l
set_option maxHeartbeats 1000000 in
theorem cany_anyZ (l : List UInt8) (w : World) (hlen : l.length ≤ 1000000) : Calls Tryd.prog 61 #[.string (bs l), .string (bs sgz)] w (Ret w (.bool (anySZ l))) := by
  go_enter Tryd.func61, Tryd.ntmps61
  go_wp2_with fail
  refine (iany_anyZ l _ hlen).mono ?_
  rintro e w1 ⟨x, rfl, hx, hE⟩
  have HX := Lib.hid hx
  clear hx
  go_wp2_with fail
  go_ret
  exact Ret.mk (ret_bool (by rw [← HX.out])) hE
theorem anyZ_safe {s : List UInt8} : anySZ s = false ↔ safe s := by
  unfold anySZ safe
  rw [List.any_eq_false]
  constructor
  · intro h
    refine ⟨fun h0 => ?_, fun h0 => ?_⟩
    · exact absurd (h 0 h0) (by decide)
    · exact absurd (h 10 h0) (by decide)
  · rintro ⟨h1, h2⟩ x hx
    have a : x ≠ 0 := by rintro rfl; exact h1 hx
    have b : x ≠ 10 := by rintro rfl; exact h2 hx
    simp [sgz, a, b]
end Go.Proofs.YtanaifobmkjpaaaDoor
