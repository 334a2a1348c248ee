/- Layer 7 (sizes): the reference's Line. -/
import Derived.Test.YtmppjbimdonfmaaDoorSizL
import Derived.Test.YtmppjbimdonfmaaDoorStrC
namespace Go.Proofs.YtmppjbimdonfmaaDoor
open Go.ChangeShapes Go.WideShapes Go.ChangeAt Go.RowKit

theorem byte_ne {s : List UInt8} {k : Nat} {c : UInt8} {z : Int} (hz : z = c.toNat) (h : k < s.length) (hks : k < (bs s).size) (hne : s[k] ≠ c) : ((((bs s)[k]'hks).toNat : Int) != z) = true := by
  subst hz
  have := (u8_eq (c := s[k]) (d := c)).trans (beq_eq_false_iff_ne.2 hne)
  show (!(((s[k]).toNat : Int) == (c.toNat : Int))) = true
  rw [this]; rfl
theorem byte_eq {s : List UInt8} {k : Nat} {c : UInt8} {z : Int} (hz : z = c.toNat) (h : k < s.length) (hks : k < (bs s).size) (he : s[k] = c) : ((((bs s)[k]'hks).toNat : Int) != z) = false := by
  subst hz
  show (!(((s[k]).toNat : Int) == (c.toNat : Int))) = false
  rw [he]; simp
theorem get_front {s A R : List UInt8} {d : UInt8} (h : s = A ++ d :: R) (hA : d ∉ A) {k : Nat} (hk : k < A.length) (hks : k < s.length) : s[k] ≠ d := by
  subst h
  rw [List.getElem_append_left hk]
  intro e
  exact hA (by rw [← e]; exact List.getElem_mem hk)
theorem get_at {s A R : List UInt8} {d : UInt8} (h : s = A ++ d :: R) (hks : A.length < s.length) : s[A.length] = d := by
  subst h
  simp
theorem get_rest {s A R : List UInt8} {d : UInt8} (h : s = A ++ d :: R) {m : Nat} (hm : m < R.length) (hks : A.length + 1 + m < s.length) : s[A.length + 1 + m] = R[m] := by
  subst h
  rw [List.getElem_append_right (by omega)]
  simp only [show A.length + 1 + m - A.length = m + 1 by omega, List.getElem_cons_succ]
set_option maxRecDepth 100000 in
set_option maxHeartbeats 8000000 in
theorem rline_any (s : List UInt8) (w : World) (hlen : s.length ≤ 100000) : Calls Tryd.prog 92 #[.string (bs s)] w (LineR w s) := by
  obtain ⟨V, hV⟩ : ∃ V, V = w.alloc (.cells ZL 48) := ⟨_, rfl⟩
  have hB : Has V w.heap.size (.cells ZL 48) := by rw [hV]; exact Has.new _ _
  have E0 : Ext w V := by rw [hV]; exact (Ext.refl _).alloc _
  have HV := Lib.hid hV
  have HB := Lib.hid hB
  obtain ⟨n, hn⟩ : ∃ n, n = s.length := ⟨_, rfl⟩
  have hsz : (bs s).size = n := by rw [bs_size, hn]
  have HN := Lib.hid hn
  have hn9 : n ≤ 100000 := by omega
  clear hV hB
  cases hc1 : cutB 32 s with
  | none =>
    have hr : lineO s = none := lineO_none (fun x ⟨a, b, c, h, _⟩ => by rw [hc1] at h; cases h)
    have HR := Lib.hid hr
    have hno := cutB_none.1 hc1
    have HA1 : Hid (∀ k, k < n → ∀ hks : k < (bs s).size, ((((bs s)[k]'hks).toNat : Int) != 32) = true) := fun k hk hks => by
      have h : k < s.length := by omega
      exact byte_ne (c := 32) rfl h hks (fun e => hno (by rw [← e]; exact List.getElem_mem h))
    clear hc1 hr hno hn
    go_enter Tryd.func92, Tryd.ntmps92
    go_wp2_with (rw [← HV.out])
    go_loop [4] (fun i => ∃ k : Nat, k ≤ n ∧ i = .int .i64 k) (fun i => n - (intOf i).toNat)
    case atStart => exact ⟨0, Nat.zero_le _, rfl⟩
    case round =>
      obtain ⟨k, hk, rfl⟩ := hrel
      by_cases hlt : (k : Int) < n
      · have hkn : (k : Int) < n := by omega
        have hks : k < (bs s).size := by omega
        have ht := HA1.out k (by omega) hks
        go_wp2_with fail
        go_round
        case rel => exact ⟨k + 1, by omega, by go_num⟩
        case measure => simp [intOf]; omega
      · obtain rfl : k = n := by omega
        go_wp2_with fail
        go_loop [5] (fun i => i = .int .i64 k) (fun _ => 0)
        case atStart => (show Value.int .i64 _ = Value.int .i64 _; congr 1; omega)
        case round =>
          obtain rfl := hrel
          have hB5 := HB.out
          obtain ⟨d0, d1, d2⟩ : V.cell? ⟨w.heap.size, 0, none⟩ = some (.int .i64 0) ∧ V.cell? ⟨w.heap.size, 1, none⟩ = some (.int .i64 0) ∧ V.cell? ⟨w.heap.size, 2, none⟩ = some (.string ⟨#[]⟩) := ⟨hB5.cell 0, hB5.cell 1, hB5.cell 2⟩
          obtain ⟨f0, f1, f2⟩ : V.frozen? ⟨w.heap.size, 0, none⟩ = false ∧ V.frozen? ⟨w.heap.size, 1, none⟩ = false ∧ V.frozen? ⟨w.heap.size, 2, none⟩ = false := ⟨hB5.free 0, hB5.free 1, hB5.free 2⟩
          go_wp2_with fail
          refine bodyPost_ret (res_cell_tmp rfl _ _ w.heap.size _ ZL _ (.bool false) rfl rfl (hB5.put3 _ _ _) Tryd.underlying48 rfl (line_size _ _ _)) rfl ?_
          exact ⟨([], 0, 0), false, rfl, (fun h => by cases h), (fun _ => HR.out), E0.put3 (Nat.le_refl _) _ _ _⟩
  | some pr =>
    obtain ⟨A, R⟩ := pr
    obtain ⟨q1, q2⟩ := cutB_len hc1
    have hl : n = A.length + 1 + R.length := by rw [hn, q1, List.length_append, List.length_cons]; omega
    obtain ⟨a, ha⟩ : ∃ a, a = A.length := ⟨_, rfl⟩
    have HA1 : Hid (∀ k, k < a → ∀ hks : k < (bs s).size, ((((bs s)[k]'hks).toNat : Int) != 32) = true) := fun k hk hks => by
      have h : k < s.length := by omega
      exact byte_ne (c := 32) rfl h hks (get_front q1 q2 (by omega) h)
    have HA2 : Hid (∀ hks : a < (bs s).size, ((((bs s)[a]'hks).toNat : Int) != 32) = false) := fun hks => by
      have h : A.length < s.length := by omega
      subst ha
      exact byte_eq (c := 32) rfl h hks (get_at q1 h)
    cases hc2 : cutB 32 R with
    | none =>
      have hr : lineO s = none := lineO_none (fun x ⟨a', b, c, h, h2, _⟩ => by
        rw [hc1] at h
        injection h with h
        injection h with e1 e2
        rw [e2, cutB_at b c h2] at hc2
        cases hc2)
      have HR := Lib.hid hr
      have hno := cutB_none.1 hc2
      obtain ⟨r, hr2⟩ : ∃ r, r = R.length := ⟨_, rfl⟩
      have hl2 : n = a + 1 + r := by omega
      have HB1 : Hid (∀ m, m < r → ∀ hks : a + 1 + m < (bs s).size, ((((bs s)[a + 1 + m]'hks).toNat : Int) != 32) = true) := fun m hm hks => by
        subst ha
        have h : A.length + 1 + m < s.length := by omega
        have hm' : m < R.length := by omega
        exact byte_ne (c := 32) rfl h hks (fun e => hno (by rw [← (get_rest q1 hm' h).symm.trans e]; exact List.getElem_mem hm'))
      clear hc1 hc2 hr hno hn q1 q2 hl ha hr2
      go_enter Tryd.func92, Tryd.ntmps92
      go_wp2_with (rw [← HV.out])
      go_loop [4] (fun i => ∃ k : Nat, k ≤ a ∧ i = .int .i64 k) (fun i => a - (intOf i).toNat)
      case atStart => exact ⟨0, Nat.zero_le _, rfl⟩
      case round =>
        obtain ⟨k, hk, rfl⟩ := hrel
        by_cases hlt : k < a
        · have hkn : (k : Int) < n := by omega
          have hks : k < (bs s).size := by omega
          have ht := HA1.out k hlt hks
          go_wp2_with fail
          go_round
          case rel => exact ⟨k + 1, by omega, by go_num⟩
          case measure => simp [intOf]; omega
        · obtain rfl : k = a := by omega
          have hks : k < (bs s).size := by omega
          have ht := HA2.out hks
          have hkn : (k : Int) < n := by omega
          have hmin : ¬ ((n : Int) < (k : Int) + 1) := by omega
          have hmin2 : (k : Int) + 1 ≤ (n : Int) := by omega
          go_wp2_with fail
          go_loop [5] (fun i => ∃ m : Nat, m ≤ r ∧ i = .int .i64 (k + 1 + m : Nat)) (fun i => n - (intOf i).toNat)
          case atStart => exact ⟨0, Nat.zero_le _, by show Value.int .i64 _ = Value.int .i64 _; congr 1; omega⟩
          case round =>
            obtain ⟨m, hm, rfl⟩ := hrel
            clear ht
            by_cases hlt2 : m < r
            · have hkn2 : ((k + 1 + m : Nat) : Int) < n := by omega
              have hks2 : k + 1 + m < (bs s).size := by omega
              have ht := HB1.out m hlt2 hks2
              generalize hj : k + 1 + m = j at hkn2 hks2 ht
              go_wp2_with fail
              go_round
              case rel => exact ⟨m + 1, by omega, by go_num⟩
              case measure => simp [intOf]; omega
            · obtain rfl : m = r := by omega
              have hjn2 : (n : Int) ≤ (k : Int) + 1 + (m : Int) := by omega
              have hjn1 : ¬ ((k : Int) + 1 + (m : Int) < (n : Int)) := by omega
              have hjn3 : (n : Int) ≤ ((k + 1 + m : Nat) : Int) := by omega
              have hB5 := HB.out
              obtain ⟨d0, d1, d2⟩ : V.cell? ⟨w.heap.size, 0, none⟩ = some (.int .i64 0) ∧ V.cell? ⟨w.heap.size, 1, none⟩ = some (.int .i64 0) ∧ V.cell? ⟨w.heap.size, 2, none⟩ = some (.string ⟨#[]⟩) := ⟨hB5.cell 0, hB5.cell 1, hB5.cell 2⟩
              obtain ⟨f0, f1, f2⟩ : V.frozen? ⟨w.heap.size, 0, none⟩ = false ∧ V.frozen? ⟨w.heap.size, 1, none⟩ = false ∧ V.frozen? ⟨w.heap.size, 2, none⟩ = false := ⟨hB5.free 0, hB5.free 1, hB5.free 2⟩
              go_wp2_with fail
              refine bodyPost_ret (res_cell_tmp rfl _ _ w.heap.size _ ZL _ (.bool false) rfl rfl (hB5.put3 _ _ _) Tryd.underlying48 rfl (line_size _ _ _)) rfl ?_
              exact ⟨([], 0, 0), false, rfl, (fun h => by cases h), (fun _ => HR.out), E0.put3 (Nat.le_refl _) _ _ _⟩
    | some pr =>
      obtain ⟨B, C⟩ := pr
      have hl2 : R.length = B.length + 1 + C.length := by
        have := congrArg List.length (cutB_len hc2).1
        rw [List.length_append, List.length_cons] at this; omega
      obtain ⟨t1, t2⟩ := cutB_len hc2
      obtain ⟨r, hr2⟩ : ∃ r, r = B.length := ⟨_, rfl⟩
      obtain ⟨b, hb2⟩ : ∃ b, b = a + 1 + r := ⟨_, rfl⟩
      have hbn : b < n := by omega
      have HB1 : Hid (∀ m, m < r → ∀ hks : a + 1 + m < (bs s).size, ((((bs s)[a + 1 + m]'hks).toNat : Int) != 32) = true) := fun m hm hks => by
        subst ha
        have h : A.length + 1 + m < s.length := by omega
        have hm' : m < R.length := by omega
        exact byte_ne (c := 32) rfl h hks (fun e => get_front t1 t2 (by omega) hm' ((get_rest q1 hm' h).symm.trans e))
      have HB2 : Hid (∀ hks : b < (bs s).size, ((((bs s)[b]'hks).toNat : Int) != 32) = false) := fun hks => by
        subst ha; subst hb2; subst hr2
        have h : A.length + 1 + B.length < s.length := by omega
        have hm' : B.length < R.length := by omega
        exact byte_eq (c := 32) rfl h hks ((get_rest q1 hm' h).trans (get_at t1 hm'))
      obtain ⟨n1, p1, h3, k3⟩ := pv_cases A
      obtain ⟨n2, p2, h4, k4⟩ := pv_cases B
      obtain ⟨nm, er, h5, l5, k5⟩ := dv_cases C
      obtain ⟨r1, r2⟩ := line_reckon (s := s) (one := true) (two := true) (.inl ⟨rfl, hc1⟩) (fun _ => .inl ⟨rfl, hc2⟩) (fun _ _ => k3) (fun _ _ => k4) (fun _ _ => k5)
      have c3 := fun w1 => rparse_any (bs A) w1
      have c4 := fun w1 => rparse_any (bs B) w1
      have c5 := fun w1 => rdecode_any (bs C) w1 (by rw [bs_size]; omega)
      rw [bs_list, h3] at c3
      rw [bs_list, h4] at c4
      rw [bs_list, h5] at c5
      have HM := Lib.hid (fun w1 => rmay_any (nm, n1, n2) w1 (by show nm.length ≤ 1000000; omega))
      have x1 : (bs s).extract 0 a = bs A := by rw [bs_to, q1, ha]; simp
      have x2 : (bs s).extract (a + 1) b = bs B := by rw [bs_extract, q1, t1, hb2, ha, hr2]; simp
      have x3 : (bs s).extract (b + 1) (bs s).size = bs C := by
        rw [bs_from, q1, t1, hb2, ha, hr2]
        congr 1
        rw [show A.length + 1 + B.length + 1 = A.length + (1 + (B.length + 1)) by omega, ← List.drop_drop, List.drop_left, ← List.drop_drop, List.drop_succ_cons, List.drop_zero, ← List.drop_drop, List.drop_left]
        rfl
      have s1 := slice_to (P := Tryd.prog) Tryd.underlying9 (bs s) (a : Int) a rfl (by omega) (bs A) x1
      have s2 := slice_str (P := Tryd.prog) Tryd.underlying9 (bs s) ((a : Int) + 1) (b : Int) (a + 1) b (by omega) rfl (by omega) (by omega) (bs B) x2
      have s3 := slice_from (P := Tryd.prog) Tryd.underlying9 (bs s) ((b : Int) + 1) (b + 1) (by omega) (by omega) (bs C) x3
      have C3 := Lib.hid c3
      have C4 := Lib.hid c4
      have C5 := Lib.hid c5
      have R1 := Lib.hid r1
      have R2 := Lib.hid r2
      have S1 := Lib.hid s1
      have S2 := Lib.hid s2
      have S3 := Lib.hid s3
      have KE : Hid (er = 0 ∨ er = 2) := by rcases k5 with ⟨h, _⟩ | ⟨h, _⟩; exact .inl h; exact .inr h
      clear hc1 hc2 hn q1 q2 t1 t2 hl hl2 ha hr2 h3 h4 h5 k3 k4 k5 c3 c4 c5 r1 r2 x1 x2 x3 s1 s2 s3 l5
      go_enter Tryd.func92, Tryd.ntmps92
      go_wp2_with (rw [← HV.out])
      go_loop [4] (fun i => ∃ k : Nat, k ≤ a ∧ i = .int .i64 k) (fun i => a - (intOf i).toNat)
      case atStart => exact ⟨0, Nat.zero_le _, rfl⟩
      case round =>
        obtain ⟨k, hk, rfl⟩ := hrel
        by_cases hlt : k < a
        · have hkn : (k : Int) < n := by omega
          have hks : k < (bs s).size := by omega
          have ht := HA1.out k hlt hks
          go_wp2_with fail
          go_round
          case rel => exact ⟨k + 1, by omega, by go_num⟩
          case measure => simp [intOf]; omega
        · obtain rfl : k = a := by omega
          have hks : k < (bs s).size := by omega
          have ht := HA2.out hks
          have hkn : (k : Int) < n := by omega
          have hmin2 : (k : Int) + 1 ≤ (n : Int) := by omega
          have hb2' := Lib.hid hb2
          clear hb2
          go_wp2_with fail
          go_loop [5] (fun i => ∃ m : Nat, m ≤ r ∧ i = .int .i64 (k + 1 + m : Nat)) (fun i => b - (intOf i).toNat)
          case atStart => exact ⟨0, Nat.zero_le _, by show Value.int .i64 _ = Value.int .i64 _; congr 1; omega⟩
          case round =>
            obtain ⟨m, hm, rfl⟩ := hrel
            have hb3 := hb2'.out
            clear ht
            by_cases hlt2 : m < r
            · have hkn2 : ((k + 1 + m : Nat) : Int) < n := by omega
              have hks2 : k + 1 + m < (bs s).size := by omega
              have ht := HB1.out m hlt2 hks2
              generalize hj : k + 1 + m = j at hkn2 hks2 ht
              go_wp2_with fail
              go_round
              case rel => exact ⟨m + 1, by omega, by go_num⟩
              case measure => simp [intOf]; omega
            · obtain rfl : m = r := by omega
              rw [← hb3]
              have hks2 : b < (bs s).size := by omega
              have ht := HB2.out hks2
              have hbn2 : (b : Int) < n := by omega
              have s1 := S1.out
              have s2 := S2.out
              have s3 := S3.out
              clear hb3 hlt2
              go_wp2_with fail
              refine (C3.out _).mono ?_
              rintro e w1 ⟨rfl, b1⟩
              go_wp2_with fail
              refine (C4.out _).mono ?_
              rintro e w2 ⟨rfl, b2⟩
              go_wp2_with fail
              refine (C5.out _).mono ?_
              rintro e w5 ⟨rfl, b5⟩
              have E5 := ((E0.trans b1).trans b2).trans b5
              have hB5 := ((HB.out.ext b1).ext b2).ext b5
              have HV0 := HV
              clear HV
              obtain ⟨V1, hV1⟩ : ∃ V1, V1 = w5.alloc (.cells #[.int .i64 n1, .int .i64 n2, .string (bs nm)] 48) := ⟨_, rfl⟩
              have hX : Has V1 w5.heap.size (.cells #[.int .i64 n1, .int .i64 n2, .string (bs nm)] 48) := by rw [hV1]; exact Has.new _ _
              have hB6 : Has V1 w.heap.size (.cells ZL 48) := by rw [hV1]; exact hB5.alloc _
              have E6 : Ext w V1 := by rw [hV1]; exact E5.alloc _
              have HV1 := Lib.hid hV1
              clear hV1
              have hne : w5.heap.size ≠ w.heap.size := by have := hB5.lt; omega
              clear E0 b1 b2 b5 E5 hB5 C3 C4 C5 s1 s2 s3 S1 S2 S3 ht
              go_wp2_with (rw [← HV1.out])
              cases p1
              · refine wp_region_held_drew (S := (fun w' => (w'.cell? ⟨w5.heap.size, 0, none⟩ = some (.int .i64 n1) ∧ w'.cell? ⟨w5.heap.size, 1, none⟩ = some (.int .i64 n2) ∧ w'.cell? ⟨w5.heap.size, 2, none⟩ = some (.string (bs nm))) ∧ Ext w w')) (by kernel_rfl) (⟨⟨hX.cell 0, hX.cell 1, hX.cell 2⟩, E6.drew⟩) (fun hS => ?_)
                refine wpAnyH_take (i := 0) (oi := { dst := some 75, op := Op.load 48 (Operand.tmp 12), type := 48, pos := "ref.go:71", after := #[], guard := none }) (v := ?_) rfl (by kernel_rfl) (by kernel_rfl) (by kernel_rfl) (fun _ _ _ h => h) (Or.inl ⟨by rfl, ?_⟩) hS ?_
                rotate_left
                · (intro w0 hS0; (try dsimp only at hS0); go_simp; try with_reducible rfl)
                try simp only [Act.put, List.setIfInBounds_toArray, List.set_cons_zero, List.set_cons_succ]
                refine wpAnyH_take (i := 1) (oi := { dst := some 76, op := Op.move (Operand.tmp 7), type := 4, pos := "ref.go:71", after := #[], guard := none }) (v := ?_) rfl (by kernel_rfl) (by kernel_rfl) (by kernel_rfl) (fun _ _ _ h => h) (Or.inl ⟨by rfl, ?_⟩) hS ?_
                rotate_left
                · (intro w0 hS0; (try dsimp only at hS0); go_simp; try with_reducible rfl)
                try simp only [Act.put, List.setIfInBounds_toArray, List.set_cons_zero, List.set_cons_succ]
                refine wpAnyH_take (i := 2) (oi := { dst := some 77, op := Op.move (Operand.tmp 76), type := 4, pos := "ref.go:71", after := #[{ on := 1, ground := Ground.data }], guard := none }) (v := ?_) rfl (by kernel_rfl) (by kernel_rfl) (by kernel_rfl) (fun _ _ _ h => h) (Or.inl ⟨by rfl, ?_⟩) hS ?_
                rotate_left
                · (intro w0 hS0; (try dsimp only at hS0); go_simp; try with_reducible rfl)
                try simp only [Act.put, List.setIfInBounds_toArray, List.set_cons_zero, List.set_cons_succ]
                refine wpAnyH_take (i := 3) (oi := { dst := some 78, op := Op.move (Operand.tmp 9), type := 4, pos := "ref.go:71", after := #[{ on := 2, ground := Ground.guard }], guard := some (2, true) }) (v := undef) rfl (by kernel_rfl) (by kernel_rfl) (by kernel_rfl) (fun _ _ _ h => h) (Or.inr ⟨by rfl, rfl⟩) hS ?_
                try simp only [Act.put, List.setIfInBounds_toArray, List.set_cons_zero, List.set_cons_succ]
                refine wpAnyH_take (i := 4) (oi := { dst := some 79, op := Op.pick (Operand.tmp 77) (Operand.tmp 78) (Operand.const (Value.bool false)), type := 4, pos := "ref.go:71", after := #[{ on := 2, ground := Ground.data }, { on := 3, ground := Ground.data }], guard := none }) (v := ?_) rfl (by kernel_rfl) (by kernel_rfl) (by kernel_rfl) (fun _ _ _ h => h) (Or.inl ⟨by rfl, ?_⟩) hS ?_
                rotate_left
                · (intro w0 hS0; (try dsimp only at hS0); go_simp; try with_reducible rfl)
                try simp only [Act.put, List.setIfInBounds_toArray, List.set_cons_zero, List.set_cons_succ]
                refine wpAnyH_take (i := 5) (oi := { dst := some 80, op := Op.move (Operand.tmp 79), type := 4, pos := "ref.go:71", after := #[{ on := 4, ground := Ground.data }, { on := 2, ground := Ground.chain }], guard := none }) (v := ?_) rfl (by kernel_rfl) (by kernel_rfl) (by kernel_rfl) (fun _ _ _ h => h) (Or.inl ⟨by rfl, ?_⟩) hS ?_
                rotate_left
                · (intro w0 hS0; (try dsimp only at hS0); go_simp; try with_reducible rfl)
                try simp only [Act.put, List.setIfInBounds_toArray, List.set_cons_zero, List.set_cons_succ]
                refine wpAnyH_take (i := 6) (oi := { dst := some 81, op := Op.move (Operand.tmp 11), type := 3, pos := "ref.go:71", after := #[{ on := 5, ground := Ground.guard }], guard := some (5, true) }) (v := undef) rfl (by kernel_rfl) (by kernel_rfl) (by kernel_rfl) (fun _ _ _ h => h) (Or.inr ⟨by rfl, rfl⟩) hS ?_
                try simp only [Act.put, List.setIfInBounds_toArray, List.set_cons_zero, List.set_cons_succ]
                refine wpAnyH_take (i := 7) (oi := { dst := some 82, op := Op.binOp BinOp.eql 3 (Operand.tmp 81) (Operand.const (Value.int IntKind.i64 0)) 3, type := 4, pos := "ref.go:71", after := #[{ on := 6, ground := Ground.data }, { on := 5, ground := Ground.guard }], guard := some (5, true) }) (v := undef) rfl (by kernel_rfl) (by kernel_rfl) (by kernel_rfl) (fun _ _ _ h => h) (Or.inr ⟨by rfl, rfl⟩) hS ?_
                try simp only [Act.put, List.setIfInBounds_toArray, List.set_cons_zero, List.set_cons_succ]
                refine wpAnyH_take (i := 8) (oi := { dst := some 83, op := Op.pick (Operand.tmp 80) (Operand.tmp 82) (Operand.const (Value.bool false)), type := 4, pos := "ref.go:71", after := #[{ on := 5, ground := Ground.data }, { on := 7, ground := Ground.data }], guard := none }) (v := ?_) rfl (by kernel_rfl) (by kernel_rfl) (by kernel_rfl) (fun _ _ _ h => h) (Or.inl ⟨by rfl, ?_⟩) hS ?_
                rotate_left
                · (intro w0 hS0; (try dsimp only at hS0); go_simp; try with_reducible rfl)
                try simp only [Act.put, List.setIfInBounds_toArray, List.set_cons_zero, List.set_cons_succ]
                refine wpAnyH_take (i := 9) (oi := { dst := some 84, op := Op.move (Operand.tmp 83), type := 4, pos := "ref.go:71", after := #[{ on := 8, ground := Ground.data }, { on := 5, ground := Ground.chain }], guard := none }) (v := ?_) rfl (by kernel_rfl) (by kernel_rfl) (by kernel_rfl) (fun _ _ _ h => h) (Or.inl ⟨by rfl, ?_⟩) hS ?_
                rotate_left
                · (intro w0 hS0; (try dsimp only at hS0); go_simp; try with_reducible rfl)
                try simp only [Act.put, List.setIfInBounds_toArray, List.set_cons_zero, List.set_cons_succ]
                refine wpAnyH_take (i := 10) (oi := { dst := some 85, op := Op.load 48 (Operand.tmp 12), type := 48, pos := "ref.go:71", after := #[{ on := 9, ground := Ground.guard }], guard := some (9, true) }) (v := undef) rfl (by kernel_rfl) (by kernel_rfl) (by kernel_rfl) (fun _ _ _ h => h) (Or.inr ⟨by rfl, rfl⟩) hS ?_
                try simp only [Act.put, List.setIfInBounds_toArray, List.set_cons_zero, List.set_cons_succ]
                refine wpAnyH_take (i := 11) (oi := { dst := some 86, op := Op.call { callee := Callee.value (Operand.func 49), args := #[Operand.tmp 85], argTypes := #[48] }, type := 4, pos := "ref.go:71", after := #[{ on := 10, ground := Ground.data }, { on := 9, ground := Ground.chain }, { on := 9, ground := Ground.guard }], guard := some (9, true) }) (v := undef) rfl (by kernel_rfl) (by kernel_rfl) (by kernel_rfl) (fun _ _ _ h => h) (Or.inr ⟨by rfl, rfl⟩) hS ?_
                try simp only [Act.put, List.setIfInBounds_toArray, List.set_cons_zero, List.set_cons_succ]
                refine wpAnyH_take (i := 12) (oi := { dst := some 87, op := Op.pick (Operand.tmp 84) (Operand.tmp 86) (Operand.const (Value.bool false)), type := 4, pos := "ref.go:71", after := #[{ on := 9, ground := Ground.data }, { on := 11, ground := Ground.data }, { on := 13, ground := Ground.gcOnly Departure.lateStores }], guard := none }) (v := ?_) rfl (by kernel_rfl) (by kernel_rfl) (by kernel_rfl) (fun _ _ _ h => h) (Or.inl ⟨by rfl, ?_⟩) hS ?_
                rotate_left
                · (intro w0 hS0; (try dsimp only at hS0); go_simp; try with_reducible rfl)
                try simp only [Act.put, List.setIfInBounds_toArray, List.set_cons_zero, List.set_cons_succ]
                refine wpAnyH_ready (rs := [13]) (by kernel_rfl) (by simp) ?_
                refine AllReadyH.cons (o := { dst := none, op := Op.store 48 (Operand.tmp 2) (Operand.tmp 75), type := 0, pos := "ref.go:71", after := #[{ on := 0, ground := Ground.data }, { on := 11, ground := Ground.chain }, { on := 0, ground := Ground.phase }, { on := 1, ground := Ground.textOnly Departure.lateStores }, { on := 2, ground := Ground.textOnly Departure.lateStores }, { on := 3, ground := Ground.textOnly Departure.lateStores }, { on := 4, ground := Ground.textOnly Departure.lateStores }, { on := 5, ground := Ground.textOnly Departure.lateStores }, { on := 6, ground := Ground.textOnly Departure.lateStores }, { on := 7, ground := Ground.textOnly Departure.lateStores }, { on := 8, ground := Ground.textOnly Departure.lateStores }, { on := 9, ground := Ground.textOnly Departure.lateStores }, { on := 10, ground := Ground.textOnly Departure.lateStores }, { on := 11, ground := Ground.textOnly Departure.lateStoresUnsure }, { on := 12, ground := Ground.textOnly Departure.lateStores }], guard := none }) rfl (fun K hK => ?_) AllReadyH.nil
                have hX6 : Has V1.drew _ _ := hX
                have hB7 : Has V1.drew _ _ := hB6
                have E7 := E6.drew
                obtain ⟨d0, d1, d2⟩ : V1.cell? ⟨w.heap.size, 0, none⟩ = some (.int .i64 0) ∧ V1.cell? ⟨w.heap.size, 1, none⟩ = some (.int .i64 0) ∧ V1.cell? ⟨w.heap.size, 2, none⟩ = some (.string ⟨#[]⟩) := ⟨hB6.cell 0, hB6.cell 1, hB6.cell 2⟩
                obtain ⟨f0, f1, f2⟩ : V1.frozen? ⟨w.heap.size, 0, none⟩ = false ∧ V1.frozen? ⟨w.heap.size, 1, none⟩ = false ∧ V1.frozen? ⟨w.heap.size, 2, none⟩ = false := ⟨hB6.free 0, hB6.free 1, hB6.free 2⟩
                go_simp
                refine hK.out _ _ ?_ (fun hS => ?_)
                · exact ⟨⟨(has_other3 hX6 hne _ _ _).cell 0, (has_other3 hX6 hne _ _ _).cell 1, (has_other3 hX6 hne _ _ _).cell 2⟩, E7.put3 (Nat.le_refl _) _ _ _⟩
                clear hK K
                try simp only [Act.put, List.setIfInBounds_toArray, List.set_cons_zero, List.set_cons_succ]
                refine wpAnyH_take (i := 14) (oi := { dst := some 3, op := Op.assign (Operand.tmp 87), type := 4, pos := "ref.go:71", after := #[{ on := 12, ground := Ground.data }, { on := 13, ground := Ground.chain }, { on := 0, ground := Ground.phase }, { on := 1, ground := Ground.phase }, { on := 2, ground := Ground.phase }, { on := 3, ground := Ground.phase }, { on := 4, ground := Ground.phase }, { on := 5, ground := Ground.phase }, { on := 6, ground := Ground.phase }, { on := 7, ground := Ground.phase }, { on := 8, ground := Ground.phase }, { on := 9, ground := Ground.phase }, { on := 10, ground := Ground.phase }, { on := 11, ground := Ground.phase }, { on := 12, ground := Ground.phase }, { on := 13, ground := Ground.phase }], guard := none }) (v := ?_) rfl (by kernel_rfl) (by kernel_rfl) (by kernel_rfl) (fun _ _ _ h => h) (Or.inl ⟨by rfl, ?_⟩) hS ?_
                rotate_left
                · (intro w0 hS0; (try dsimp only at hS0); go_simp; try with_reducible rfl)
                try simp only [Act.put, List.setIfInBounds_toArray, List.set_cons_zero, List.set_cons_succ]
                refine wpAnyH_done (by kernel_rfl) ?_ _
                have E8 := E7.put3 (b := w.heap.size) (Nat.le_refl _) (.int .i64 n1) (.int .i64 n2) (.string (bs nm))
                go_wp2_with fail
                refine bodyPost_ret (res_cell_tmp rfl _ _ w.heap.size _ _ _ _ rfl rfl (hB7.put3 _ _ _) Tryd.underlying48 rfl (line_size _ _ _)) rfl ?_
                exact ⟨(nm, n1, n2), _, rfl, R1.out, R2.out, E8⟩
              · cases p2
                · refine wp_region_held_drew (S := (fun w' => (w'.cell? ⟨w5.heap.size, 0, none⟩ = some (.int .i64 n1) ∧ w'.cell? ⟨w5.heap.size, 1, none⟩ = some (.int .i64 n2) ∧ w'.cell? ⟨w5.heap.size, 2, none⟩ = some (.string (bs nm))) ∧ Ext w w')) (by kernel_rfl) (⟨⟨hX.cell 0, hX.cell 1, hX.cell 2⟩, E6.drew⟩) (fun hS => ?_)
                  refine wpAnyH_take (i := 0) (oi := { dst := some 75, op := Op.load 48 (Operand.tmp 12), type := 48, pos := "ref.go:71", after := #[], guard := none }) (v := ?_) rfl (by kernel_rfl) (by kernel_rfl) (by kernel_rfl) (fun _ _ _ h => h) (Or.inl ⟨by rfl, ?_⟩) hS ?_
                  rotate_left
                  · (intro w0 hS0; (try dsimp only at hS0); go_simp; try with_reducible rfl)
                  try simp only [Act.put, List.setIfInBounds_toArray, List.set_cons_zero, List.set_cons_succ]
                  refine wpAnyH_take (i := 1) (oi := { dst := some 76, op := Op.move (Operand.tmp 7), type := 4, pos := "ref.go:71", after := #[], guard := none }) (v := ?_) rfl (by kernel_rfl) (by kernel_rfl) (by kernel_rfl) (fun _ _ _ h => h) (Or.inl ⟨by rfl, ?_⟩) hS ?_
                  rotate_left
                  · (intro w0 hS0; (try dsimp only at hS0); go_simp; try with_reducible rfl)
                  try simp only [Act.put, List.setIfInBounds_toArray, List.set_cons_zero, List.set_cons_succ]
                  refine wpAnyH_take (i := 2) (oi := { dst := some 77, op := Op.move (Operand.tmp 76), type := 4, pos := "ref.go:71", after := #[{ on := 1, ground := Ground.data }], guard := none }) (v := ?_) rfl (by kernel_rfl) (by kernel_rfl) (by kernel_rfl) (fun _ _ _ h => h) (Or.inl ⟨by rfl, ?_⟩) hS ?_
                  rotate_left
                  · (intro w0 hS0; (try dsimp only at hS0); go_simp; try with_reducible rfl)
                  try simp only [Act.put, List.setIfInBounds_toArray, List.set_cons_zero, List.set_cons_succ]
                  refine wpAnyH_take (i := 3) (oi := { dst := some 78, op := Op.move (Operand.tmp 9), type := 4, pos := "ref.go:71", after := #[{ on := 2, ground := Ground.guard }], guard := some (2, true) }) (v := ?_) rfl (by kernel_rfl) (by kernel_rfl) (by kernel_rfl) (fun _ _ _ h => h) (Or.inl ⟨by rfl, ?_⟩) hS ?_
                  rotate_left
                  · (intro w0 hS0; (try dsimp only at hS0); go_simp; try with_reducible rfl)
                  try simp only [Act.put, List.setIfInBounds_toArray, List.set_cons_zero, List.set_cons_succ]
                  refine wpAnyH_take (i := 4) (oi := { dst := some 79, op := Op.pick (Operand.tmp 77) (Operand.tmp 78) (Operand.const (Value.bool false)), type := 4, pos := "ref.go:71", after := #[{ on := 2, ground := Ground.data }, { on := 3, ground := Ground.data }], guard := none }) (v := ?_) rfl (by kernel_rfl) (by kernel_rfl) (by kernel_rfl) (fun _ _ _ h => h) (Or.inl ⟨by rfl, ?_⟩) hS ?_
                  rotate_left
                  · (intro w0 hS0; (try dsimp only at hS0); go_simp; try with_reducible rfl)
                  try simp only [Act.put, List.setIfInBounds_toArray, List.set_cons_zero, List.set_cons_succ]
                  refine wpAnyH_take (i := 5) (oi := { dst := some 80, op := Op.move (Operand.tmp 79), type := 4, pos := "ref.go:71", after := #[{ on := 4, ground := Ground.data }, { on := 2, ground := Ground.chain }], guard := none }) (v := ?_) rfl (by kernel_rfl) (by kernel_rfl) (by kernel_rfl) (fun _ _ _ h => h) (Or.inl ⟨by rfl, ?_⟩) hS ?_
                  rotate_left
                  · (intro w0 hS0; (try dsimp only at hS0); go_simp; try with_reducible rfl)
                  try simp only [Act.put, List.setIfInBounds_toArray, List.set_cons_zero, List.set_cons_succ]
                  refine wpAnyH_take (i := 6) (oi := { dst := some 81, op := Op.move (Operand.tmp 11), type := 3, pos := "ref.go:71", after := #[{ on := 5, ground := Ground.guard }], guard := some (5, true) }) (v := undef) rfl (by kernel_rfl) (by kernel_rfl) (by kernel_rfl) (fun _ _ _ h => h) (Or.inr ⟨by rfl, rfl⟩) hS ?_
                  try simp only [Act.put, List.setIfInBounds_toArray, List.set_cons_zero, List.set_cons_succ]
                  refine wpAnyH_take (i := 7) (oi := { dst := some 82, op := Op.binOp BinOp.eql 3 (Operand.tmp 81) (Operand.const (Value.int IntKind.i64 0)) 3, type := 4, pos := "ref.go:71", after := #[{ on := 6, ground := Ground.data }, { on := 5, ground := Ground.guard }], guard := some (5, true) }) (v := undef) rfl (by kernel_rfl) (by kernel_rfl) (by kernel_rfl) (fun _ _ _ h => h) (Or.inr ⟨by rfl, rfl⟩) hS ?_
                  try simp only [Act.put, List.setIfInBounds_toArray, List.set_cons_zero, List.set_cons_succ]
                  refine wpAnyH_take (i := 8) (oi := { dst := some 83, op := Op.pick (Operand.tmp 80) (Operand.tmp 82) (Operand.const (Value.bool false)), type := 4, pos := "ref.go:71", after := #[{ on := 5, ground := Ground.data }, { on := 7, ground := Ground.data }], guard := none }) (v := ?_) rfl (by kernel_rfl) (by kernel_rfl) (by kernel_rfl) (fun _ _ _ h => h) (Or.inl ⟨by rfl, ?_⟩) hS ?_
                  rotate_left
                  · (intro w0 hS0; (try dsimp only at hS0); go_simp; try with_reducible rfl)
                  try simp only [Act.put, List.setIfInBounds_toArray, List.set_cons_zero, List.set_cons_succ]
                  refine wpAnyH_take (i := 9) (oi := { dst := some 84, op := Op.move (Operand.tmp 83), type := 4, pos := "ref.go:71", after := #[{ on := 8, ground := Ground.data }, { on := 5, ground := Ground.chain }], guard := none }) (v := ?_) rfl (by kernel_rfl) (by kernel_rfl) (by kernel_rfl) (fun _ _ _ h => h) (Or.inl ⟨by rfl, ?_⟩) hS ?_
                  rotate_left
                  · (intro w0 hS0; (try dsimp only at hS0); go_simp; try with_reducible rfl)
                  try simp only [Act.put, List.setIfInBounds_toArray, List.set_cons_zero, List.set_cons_succ]
                  refine wpAnyH_take (i := 10) (oi := { dst := some 85, op := Op.load 48 (Operand.tmp 12), type := 48, pos := "ref.go:71", after := #[{ on := 9, ground := Ground.guard }], guard := some (9, true) }) (v := undef) rfl (by kernel_rfl) (by kernel_rfl) (by kernel_rfl) (fun _ _ _ h => h) (Or.inr ⟨by rfl, rfl⟩) hS ?_
                  try simp only [Act.put, List.setIfInBounds_toArray, List.set_cons_zero, List.set_cons_succ]
                  refine wpAnyH_take (i := 11) (oi := { dst := some 86, op := Op.call { callee := Callee.value (Operand.func 49), args := #[Operand.tmp 85], argTypes := #[48] }, type := 4, pos := "ref.go:71", after := #[{ on := 10, ground := Ground.data }, { on := 9, ground := Ground.chain }, { on := 9, ground := Ground.guard }], guard := some (9, true) }) (v := undef) rfl (by kernel_rfl) (by kernel_rfl) (by kernel_rfl) (fun _ _ _ h => h) (Or.inr ⟨by rfl, rfl⟩) hS ?_
                  try simp only [Act.put, List.setIfInBounds_toArray, List.set_cons_zero, List.set_cons_succ]
                  refine wpAnyH_take (i := 12) (oi := { dst := some 87, op := Op.pick (Operand.tmp 84) (Operand.tmp 86) (Operand.const (Value.bool false)), type := 4, pos := "ref.go:71", after := #[{ on := 9, ground := Ground.data }, { on := 11, ground := Ground.data }, { on := 13, ground := Ground.gcOnly Departure.lateStores }], guard := none }) (v := ?_) rfl (by kernel_rfl) (by kernel_rfl) (by kernel_rfl) (fun _ _ _ h => h) (Or.inl ⟨by rfl, ?_⟩) hS ?_
                  rotate_left
                  · (intro w0 hS0; (try dsimp only at hS0); go_simp; try with_reducible rfl)
                  try simp only [Act.put, List.setIfInBounds_toArray, List.set_cons_zero, List.set_cons_succ]
                  refine wpAnyH_ready (rs := [13]) (by kernel_rfl) (by simp) ?_
                  refine AllReadyH.cons (o := { dst := none, op := Op.store 48 (Operand.tmp 2) (Operand.tmp 75), type := 0, pos := "ref.go:71", after := #[{ on := 0, ground := Ground.data }, { on := 11, ground := Ground.chain }, { on := 0, ground := Ground.phase }, { on := 1, ground := Ground.textOnly Departure.lateStores }, { on := 2, ground := Ground.textOnly Departure.lateStores }, { on := 3, ground := Ground.textOnly Departure.lateStores }, { on := 4, ground := Ground.textOnly Departure.lateStores }, { on := 5, ground := Ground.textOnly Departure.lateStores }, { on := 6, ground := Ground.textOnly Departure.lateStores }, { on := 7, ground := Ground.textOnly Departure.lateStores }, { on := 8, ground := Ground.textOnly Departure.lateStores }, { on := 9, ground := Ground.textOnly Departure.lateStores }, { on := 10, ground := Ground.textOnly Departure.lateStores }, { on := 11, ground := Ground.textOnly Departure.lateStoresUnsure }, { on := 12, ground := Ground.textOnly Departure.lateStores }], guard := none }) rfl (fun K hK => ?_) AllReadyH.nil
                  have hX6 : Has V1.drew _ _ := hX
                  have hB7 : Has V1.drew _ _ := hB6
                  have E7 := E6.drew
                  obtain ⟨d0, d1, d2⟩ : V1.cell? ⟨w.heap.size, 0, none⟩ = some (.int .i64 0) ∧ V1.cell? ⟨w.heap.size, 1, none⟩ = some (.int .i64 0) ∧ V1.cell? ⟨w.heap.size, 2, none⟩ = some (.string ⟨#[]⟩) := ⟨hB6.cell 0, hB6.cell 1, hB6.cell 2⟩
                  obtain ⟨f0, f1, f2⟩ : V1.frozen? ⟨w.heap.size, 0, none⟩ = false ∧ V1.frozen? ⟨w.heap.size, 1, none⟩ = false ∧ V1.frozen? ⟨w.heap.size, 2, none⟩ = false := ⟨hB6.free 0, hB6.free 1, hB6.free 2⟩
                  go_simp
                  refine hK.out _ _ ?_ (fun hS => ?_)
                  · exact ⟨⟨(has_other3 hX6 hne _ _ _).cell 0, (has_other3 hX6 hne _ _ _).cell 1, (has_other3 hX6 hne _ _ _).cell 2⟩, E7.put3 (Nat.le_refl _) _ _ _⟩
                  clear hK K
                  try simp only [Act.put, List.setIfInBounds_toArray, List.set_cons_zero, List.set_cons_succ]
                  refine wpAnyH_take (i := 14) (oi := { dst := some 3, op := Op.assign (Operand.tmp 87), type := 4, pos := "ref.go:71", after := #[{ on := 12, ground := Ground.data }, { on := 13, ground := Ground.chain }, { on := 0, ground := Ground.phase }, { on := 1, ground := Ground.phase }, { on := 2, ground := Ground.phase }, { on := 3, ground := Ground.phase }, { on := 4, ground := Ground.phase }, { on := 5, ground := Ground.phase }, { on := 6, ground := Ground.phase }, { on := 7, ground := Ground.phase }, { on := 8, ground := Ground.phase }, { on := 9, ground := Ground.phase }, { on := 10, ground := Ground.phase }, { on := 11, ground := Ground.phase }, { on := 12, ground := Ground.phase }, { on := 13, ground := Ground.phase }], guard := none }) (v := ?_) rfl (by kernel_rfl) (by kernel_rfl) (by kernel_rfl) (fun _ _ _ h => h) (Or.inl ⟨by rfl, ?_⟩) hS ?_
                  rotate_left
                  · (intro w0 hS0; (try dsimp only at hS0); go_simp; try with_reducible rfl)
                  try simp only [Act.put, List.setIfInBounds_toArray, List.set_cons_zero, List.set_cons_succ]
                  refine wpAnyH_done (by kernel_rfl) ?_ _
                  have E8 := E7.put3 (b := w.heap.size) (Nat.le_refl _) (.int .i64 n1) (.int .i64 n2) (.string (bs nm))
                  go_wp2_with fail
                  refine bodyPost_ret (res_cell_tmp rfl _ _ w.heap.size _ _ _ _ rfl rfl (hB7.put3 _ _ _) Tryd.underlying48 rfl (line_size _ _ _)) rfl ?_
                  exact ⟨(nm, n1, n2), _, rfl, R1.out, R2.out, E8⟩
                · rcases KE.out with rfl | rfl
                  · refine wp_region_held_drew (S := (fun w' => (w'.cell? ⟨w5.heap.size, 0, none⟩ = some (.int .i64 n1) ∧ w'.cell? ⟨w5.heap.size, 1, none⟩ = some (.int .i64 n2) ∧ w'.cell? ⟨w5.heap.size, 2, none⟩ = some (.string (bs nm))) ∧ Ext w w')) (by kernel_rfl) (⟨⟨hX.cell 0, hX.cell 1, hX.cell 2⟩, E6.drew⟩) (fun hS => ?_)
                    refine wpAnyH_take (i := 0) (oi := { dst := some 75, op := Op.load 48 (Operand.tmp 12), type := 48, pos := "ref.go:71", after := #[], guard := none }) (v := ?_) rfl (by kernel_rfl) (by kernel_rfl) (by kernel_rfl) (fun _ _ _ h => h) (Or.inl ⟨by rfl, ?_⟩) hS ?_
                    rotate_left
                    · (intro w0 hS0; (try dsimp only at hS0); go_simp; try with_reducible rfl)
                    try simp only [Act.put, List.setIfInBounds_toArray, List.set_cons_zero, List.set_cons_succ]
                    refine wpAnyH_take (i := 1) (oi := { dst := some 76, op := Op.move (Operand.tmp 7), type := 4, pos := "ref.go:71", after := #[], guard := none }) (v := ?_) rfl (by kernel_rfl) (by kernel_rfl) (by kernel_rfl) (fun _ _ _ h => h) (Or.inl ⟨by rfl, ?_⟩) hS ?_
                    rotate_left
                    · (intro w0 hS0; (try dsimp only at hS0); go_simp; try with_reducible rfl)
                    try simp only [Act.put, List.setIfInBounds_toArray, List.set_cons_zero, List.set_cons_succ]
                    refine wpAnyH_take (i := 2) (oi := { dst := some 77, op := Op.move (Operand.tmp 76), type := 4, pos := "ref.go:71", after := #[{ on := 1, ground := Ground.data }], guard := none }) (v := ?_) rfl (by kernel_rfl) (by kernel_rfl) (by kernel_rfl) (fun _ _ _ h => h) (Or.inl ⟨by rfl, ?_⟩) hS ?_
                    rotate_left
                    · (intro w0 hS0; (try dsimp only at hS0); go_simp; try with_reducible rfl)
                    try simp only [Act.put, List.setIfInBounds_toArray, List.set_cons_zero, List.set_cons_succ]
                    refine wpAnyH_take (i := 3) (oi := { dst := some 78, op := Op.move (Operand.tmp 9), type := 4, pos := "ref.go:71", after := #[{ on := 2, ground := Ground.guard }], guard := some (2, true) }) (v := ?_) rfl (by kernel_rfl) (by kernel_rfl) (by kernel_rfl) (fun _ _ _ h => h) (Or.inl ⟨by rfl, ?_⟩) hS ?_
                    rotate_left
                    · (intro w0 hS0; (try dsimp only at hS0); go_simp; try with_reducible rfl)
                    try simp only [Act.put, List.setIfInBounds_toArray, List.set_cons_zero, List.set_cons_succ]
                    refine wpAnyH_take (i := 4) (oi := { dst := some 79, op := Op.pick (Operand.tmp 77) (Operand.tmp 78) (Operand.const (Value.bool false)), type := 4, pos := "ref.go:71", after := #[{ on := 2, ground := Ground.data }, { on := 3, ground := Ground.data }], guard := none }) (v := ?_) rfl (by kernel_rfl) (by kernel_rfl) (by kernel_rfl) (fun _ _ _ h => h) (Or.inl ⟨by rfl, ?_⟩) hS ?_
                    rotate_left
                    · (intro w0 hS0; (try dsimp only at hS0); go_simp; try with_reducible rfl)
                    try simp only [Act.put, List.setIfInBounds_toArray, List.set_cons_zero, List.set_cons_succ]
                    refine wpAnyH_take (i := 5) (oi := { dst := some 80, op := Op.move (Operand.tmp 79), type := 4, pos := "ref.go:71", after := #[{ on := 4, ground := Ground.data }, { on := 2, ground := Ground.chain }], guard := none }) (v := ?_) rfl (by kernel_rfl) (by kernel_rfl) (by kernel_rfl) (fun _ _ _ h => h) (Or.inl ⟨by rfl, ?_⟩) hS ?_
                    rotate_left
                    · (intro w0 hS0; (try dsimp only at hS0); go_simp; try with_reducible rfl)
                    try simp only [Act.put, List.setIfInBounds_toArray, List.set_cons_zero, List.set_cons_succ]
                    refine wpAnyH_take (i := 6) (oi := { dst := some 81, op := Op.move (Operand.tmp 11), type := 3, pos := "ref.go:71", after := #[{ on := 5, ground := Ground.guard }], guard := some (5, true) }) (v := ?_) rfl (by kernel_rfl) (by kernel_rfl) (by kernel_rfl) (fun _ _ _ h => h) (Or.inl ⟨by rfl, ?_⟩) hS ?_
                    rotate_left
                    · (intro w0 hS0; (try dsimp only at hS0); go_simp; try with_reducible rfl)
                    try simp only [Act.put, List.setIfInBounds_toArray, List.set_cons_zero, List.set_cons_succ]
                    refine wpAnyH_take (i := 7) (oi := { dst := some 82, op := Op.binOp BinOp.eql 3 (Operand.tmp 81) (Operand.const (Value.int IntKind.i64 0)) 3, type := 4, pos := "ref.go:71", after := #[{ on := 6, ground := Ground.data }, { on := 5, ground := Ground.guard }], guard := some (5, true) }) (v := ?_) rfl (by kernel_rfl) (by kernel_rfl) (by kernel_rfl) (fun _ _ _ h => h) (Or.inl ⟨by rfl, ?_⟩) hS ?_
                    rotate_left
                    · (intro w0 hS0; (try dsimp only at hS0); go_simp; try with_reducible rfl)
                    try simp only [Act.put, List.setIfInBounds_toArray, List.set_cons_zero, List.set_cons_succ]
                    refine wpAnyH_take (i := 8) (oi := { dst := some 83, op := Op.pick (Operand.tmp 80) (Operand.tmp 82) (Operand.const (Value.bool false)), type := 4, pos := "ref.go:71", after := #[{ on := 5, ground := Ground.data }, { on := 7, ground := Ground.data }], guard := none }) (v := ?_) rfl (by kernel_rfl) (by kernel_rfl) (by kernel_rfl) (fun _ _ _ h => h) (Or.inl ⟨by rfl, ?_⟩) hS ?_
                    rotate_left
                    · (intro w0 hS0; (try dsimp only at hS0); go_simp; try with_reducible rfl)
                    try simp only [Act.put, List.setIfInBounds_toArray, List.set_cons_zero, List.set_cons_succ]
                    refine wpAnyH_take (i := 9) (oi := { dst := some 84, op := Op.move (Operand.tmp 83), type := 4, pos := "ref.go:71", after := #[{ on := 8, ground := Ground.data }, { on := 5, ground := Ground.chain }], guard := none }) (v := ?_) rfl (by kernel_rfl) (by kernel_rfl) (by kernel_rfl) (fun _ _ _ h => h) (Or.inl ⟨by rfl, ?_⟩) hS ?_
                    rotate_left
                    · (intro w0 hS0; (try dsimp only at hS0); go_simp; try with_reducible rfl)
                    try simp only [Act.put, List.setIfInBounds_toArray, List.set_cons_zero, List.set_cons_succ]
                    refine wpAnyH_take (i := 10) (oi := { dst := some 85, op := Op.load 48 (Operand.tmp 12), type := 48, pos := "ref.go:71", after := #[{ on := 9, ground := Ground.guard }], guard := some (9, true) }) (v := ?_) rfl (by kernel_rfl) (by kernel_rfl) (by kernel_rfl) (fun _ _ _ h => h) (Or.inl ⟨by rfl, ?_⟩) hS ?_
                    rotate_left
                    · (intro w0 hS0; (try dsimp only at hS0); go_simp; try with_reducible rfl)
                    try simp only [Act.put, List.setIfInBounds_toArray, List.set_cons_zero, List.set_cons_succ]
                    refine wpAnyH_ready (rs := [11]) (by kernel_rfl) (by simp) ?_
                    refine AllReadyH.cons (o := { dst := some 86, op := Op.call { callee := Callee.value (Operand.func 49), args := #[Operand.tmp 85], argTypes := #[48] }, type := 4, pos := "ref.go:71", after := #[{ on := 10, ground := Ground.data }, { on := 9, ground := Ground.chain }, { on := 9, ground := Ground.guard }], guard := some (9, true) }) rfl (fun K hK => ?_) AllReadyH.nil
                    go_simp
                    refine (HM.out _).mono ?_
                    rintro e w6 ⟨rfl, b6⟩
                    have hX6 := hX.ext ((Ext.refl V1).drew.trans b6)
                    have hB7 := hB6.ext ((Ext.refl V1).drew.trans b6)
                    have E7 := E6.drew.trans b6
                    have keepS : (_ ∧ _ ∧ _) ∧ _ := ⟨⟨hX6.cell 0, hX6.cell 1, hX6.cell 2⟩, E7⟩
                    clear hS
                    refine hK.out _ _ ?_ (fun hS => ?_)
                    · exact keepS
                    clear hK K
                    try simp only [Act.put, List.setIfInBounds_toArray, List.set_cons_zero, List.set_cons_succ]
                    refine wpAnyH_take (i := 12) (oi := { dst := some 87, op := Op.pick (Operand.tmp 84) (Operand.tmp 86) (Operand.const (Value.bool false)), type := 4, pos := "ref.go:71", after := #[{ on := 9, ground := Ground.data }, { on := 11, ground := Ground.data }, { on := 13, ground := Ground.gcOnly Departure.lateStores }], guard := none }) (v := ?_) rfl (by kernel_rfl) (by kernel_rfl) (by kernel_rfl) (fun _ _ _ h => h) (Or.inl ⟨by rfl, ?_⟩) hS ?_
                    rotate_left
                    · (intro w0 hS0; (try dsimp only at hS0); go_simp; try with_reducible rfl)
                    try simp only [Act.put, List.setIfInBounds_toArray, List.set_cons_zero, List.set_cons_succ]
                    refine wpAnyH_ready (rs := [13]) (by kernel_rfl) (by simp) ?_
                    refine AllReadyH.cons (o := { dst := none, op := Op.store 48 (Operand.tmp 2) (Operand.tmp 75), type := 0, pos := "ref.go:71", after := #[{ on := 0, ground := Ground.data }, { on := 11, ground := Ground.chain }, { on := 0, ground := Ground.phase }, { on := 1, ground := Ground.textOnly Departure.lateStores }, { on := 2, ground := Ground.textOnly Departure.lateStores }, { on := 3, ground := Ground.textOnly Departure.lateStores }, { on := 4, ground := Ground.textOnly Departure.lateStores }, { on := 5, ground := Ground.textOnly Departure.lateStores }, { on := 6, ground := Ground.textOnly Departure.lateStores }, { on := 7, ground := Ground.textOnly Departure.lateStores }, { on := 8, ground := Ground.textOnly Departure.lateStores }, { on := 9, ground := Ground.textOnly Departure.lateStores }, { on := 10, ground := Ground.textOnly Departure.lateStores }, { on := 11, ground := Ground.textOnly Departure.lateStoresUnsure }, { on := 12, ground := Ground.textOnly Departure.lateStores }], guard := none }) rfl (fun K hK => ?_) AllReadyH.nil
                    obtain ⟨d0, d1, d2⟩ : w6.cell? ⟨w.heap.size, 0, none⟩ = some (.int .i64 0) ∧ w6.cell? ⟨w.heap.size, 1, none⟩ = some (.int .i64 0) ∧ w6.cell? ⟨w.heap.size, 2, none⟩ = some (.string ⟨#[]⟩) := ⟨hB7.cell 0, hB7.cell 1, hB7.cell 2⟩
                    obtain ⟨f0, f1, f2⟩ : w6.frozen? ⟨w.heap.size, 0, none⟩ = false ∧ w6.frozen? ⟨w.heap.size, 1, none⟩ = false ∧ w6.frozen? ⟨w.heap.size, 2, none⟩ = false := ⟨hB7.free 0, hB7.free 1, hB7.free 2⟩
                    go_simp
                    refine hK.out _ _ ?_ (fun hS => ?_)
                    · exact ⟨⟨(has_other3 hX6 hne _ _ _).cell 0, (has_other3 hX6 hne _ _ _).cell 1, (has_other3 hX6 hne _ _ _).cell 2⟩, E7.put3 (Nat.le_refl _) _ _ _⟩
                    clear hK K
                    try simp only [Act.put, List.setIfInBounds_toArray, List.set_cons_zero, List.set_cons_succ]
                    refine wpAnyH_take (i := 14) (oi := { dst := some 3, op := Op.assign (Operand.tmp 87), type := 4, pos := "ref.go:71", after := #[{ on := 12, ground := Ground.data }, { on := 13, ground := Ground.chain }, { on := 0, ground := Ground.phase }, { on := 1, ground := Ground.phase }, { on := 2, ground := Ground.phase }, { on := 3, ground := Ground.phase }, { on := 4, ground := Ground.phase }, { on := 5, ground := Ground.phase }, { on := 6, ground := Ground.phase }, { on := 7, ground := Ground.phase }, { on := 8, ground := Ground.phase }, { on := 9, ground := Ground.phase }, { on := 10, ground := Ground.phase }, { on := 11, ground := Ground.phase }, { on := 12, ground := Ground.phase }, { on := 13, ground := Ground.phase }], guard := none }) (v := ?_) rfl (by kernel_rfl) (by kernel_rfl) (by kernel_rfl) (fun _ _ _ h => h) (Or.inl ⟨by rfl, ?_⟩) hS ?_
                    rotate_left
                    · (intro w0 hS0; (try dsimp only at hS0); go_simp; try with_reducible rfl)
                    try simp only [Act.put, List.setIfInBounds_toArray, List.set_cons_zero, List.set_cons_succ]
                    refine wpAnyH_done (by kernel_rfl) ?_ _
                    have E8 := E7.put3 (b := w.heap.size) (Nat.le_refl _) (.int .i64 n1) (.int .i64 n2) (.string (bs nm))
                    go_wp2_with fail
                    refine bodyPost_ret (res_cell_tmp rfl _ _ w.heap.size _ _ _ _ rfl rfl (hB7.put3 _ _ _) Tryd.underlying48 rfl (line_size _ _ _)) rfl ?_
                    exact ⟨(nm, n1, n2), _, rfl, R1.out, R2.out, E8⟩
                  · refine wp_region_held_drew (S := (fun w' => (w'.cell? ⟨w5.heap.size, 0, none⟩ = some (.int .i64 n1) ∧ w'.cell? ⟨w5.heap.size, 1, none⟩ = some (.int .i64 n2) ∧ w'.cell? ⟨w5.heap.size, 2, none⟩ = some (.string (bs nm))) ∧ Ext w w')) (by kernel_rfl) (⟨⟨hX.cell 0, hX.cell 1, hX.cell 2⟩, E6.drew⟩) (fun hS => ?_)
                    refine wpAnyH_take (i := 0) (oi := { dst := some 75, op := Op.load 48 (Operand.tmp 12), type := 48, pos := "ref.go:71", after := #[], guard := none }) (v := ?_) rfl (by kernel_rfl) (by kernel_rfl) (by kernel_rfl) (fun _ _ _ h => h) (Or.inl ⟨by rfl, ?_⟩) hS ?_
                    rotate_left
                    · (intro w0 hS0; (try dsimp only at hS0); go_simp; try with_reducible rfl)
                    try simp only [Act.put, List.setIfInBounds_toArray, List.set_cons_zero, List.set_cons_succ]
                    refine wpAnyH_take (i := 1) (oi := { dst := some 76, op := Op.move (Operand.tmp 7), type := 4, pos := "ref.go:71", after := #[], guard := none }) (v := ?_) rfl (by kernel_rfl) (by kernel_rfl) (by kernel_rfl) (fun _ _ _ h => h) (Or.inl ⟨by rfl, ?_⟩) hS ?_
                    rotate_left
                    · (intro w0 hS0; (try dsimp only at hS0); go_simp; try with_reducible rfl)
                    try simp only [Act.put, List.setIfInBounds_toArray, List.set_cons_zero, List.set_cons_succ]
                    refine wpAnyH_take (i := 2) (oi := { dst := some 77, op := Op.move (Operand.tmp 76), type := 4, pos := "ref.go:71", after := #[{ on := 1, ground := Ground.data }], guard := none }) (v := ?_) rfl (by kernel_rfl) (by kernel_rfl) (by kernel_rfl) (fun _ _ _ h => h) (Or.inl ⟨by rfl, ?_⟩) hS ?_
                    rotate_left
                    · (intro w0 hS0; (try dsimp only at hS0); go_simp; try with_reducible rfl)
                    try simp only [Act.put, List.setIfInBounds_toArray, List.set_cons_zero, List.set_cons_succ]
                    refine wpAnyH_take (i := 3) (oi := { dst := some 78, op := Op.move (Operand.tmp 9), type := 4, pos := "ref.go:71", after := #[{ on := 2, ground := Ground.guard }], guard := some (2, true) }) (v := ?_) rfl (by kernel_rfl) (by kernel_rfl) (by kernel_rfl) (fun _ _ _ h => h) (Or.inl ⟨by rfl, ?_⟩) hS ?_
                    rotate_left
                    · (intro w0 hS0; (try dsimp only at hS0); go_simp; try with_reducible rfl)
                    try simp only [Act.put, List.setIfInBounds_toArray, List.set_cons_zero, List.set_cons_succ]
                    refine wpAnyH_take (i := 4) (oi := { dst := some 79, op := Op.pick (Operand.tmp 77) (Operand.tmp 78) (Operand.const (Value.bool false)), type := 4, pos := "ref.go:71", after := #[{ on := 2, ground := Ground.data }, { on := 3, ground := Ground.data }], guard := none }) (v := ?_) rfl (by kernel_rfl) (by kernel_rfl) (by kernel_rfl) (fun _ _ _ h => h) (Or.inl ⟨by rfl, ?_⟩) hS ?_
                    rotate_left
                    · (intro w0 hS0; (try dsimp only at hS0); go_simp; try with_reducible rfl)
                    try simp only [Act.put, List.setIfInBounds_toArray, List.set_cons_zero, List.set_cons_succ]
                    refine wpAnyH_take (i := 5) (oi := { dst := some 80, op := Op.move (Operand.tmp 79), type := 4, pos := "ref.go:71", after := #[{ on := 4, ground := Ground.data }, { on := 2, ground := Ground.chain }], guard := none }) (v := ?_) rfl (by kernel_rfl) (by kernel_rfl) (by kernel_rfl) (fun _ _ _ h => h) (Or.inl ⟨by rfl, ?_⟩) hS ?_
                    rotate_left
                    · (intro w0 hS0; (try dsimp only at hS0); go_simp; try with_reducible rfl)
                    try simp only [Act.put, List.setIfInBounds_toArray, List.set_cons_zero, List.set_cons_succ]
                    refine wpAnyH_take (i := 6) (oi := { dst := some 81, op := Op.move (Operand.tmp 11), type := 3, pos := "ref.go:71", after := #[{ on := 5, ground := Ground.guard }], guard := some (5, true) }) (v := ?_) rfl (by kernel_rfl) (by kernel_rfl) (by kernel_rfl) (fun _ _ _ h => h) (Or.inl ⟨by rfl, ?_⟩) hS ?_
                    rotate_left
                    · (intro w0 hS0; (try dsimp only at hS0); go_simp; try with_reducible rfl)
                    try simp only [Act.put, List.setIfInBounds_toArray, List.set_cons_zero, List.set_cons_succ]
                    refine wpAnyH_take (i := 7) (oi := { dst := some 82, op := Op.binOp BinOp.eql 3 (Operand.tmp 81) (Operand.const (Value.int IntKind.i64 0)) 3, type := 4, pos := "ref.go:71", after := #[{ on := 6, ground := Ground.data }, { on := 5, ground := Ground.guard }], guard := some (5, true) }) (v := ?_) rfl (by kernel_rfl) (by kernel_rfl) (by kernel_rfl) (fun _ _ _ h => h) (Or.inl ⟨by rfl, ?_⟩) hS ?_
                    rotate_left
                    · (intro w0 hS0; (try dsimp only at hS0); go_simp; try with_reducible rfl)
                    try simp only [Act.put, List.setIfInBounds_toArray, List.set_cons_zero, List.set_cons_succ]
                    refine wpAnyH_take (i := 8) (oi := { dst := some 83, op := Op.pick (Operand.tmp 80) (Operand.tmp 82) (Operand.const (Value.bool false)), type := 4, pos := "ref.go:71", after := #[{ on := 5, ground := Ground.data }, { on := 7, ground := Ground.data }], guard := none }) (v := ?_) rfl (by kernel_rfl) (by kernel_rfl) (by kernel_rfl) (fun _ _ _ h => h) (Or.inl ⟨by rfl, ?_⟩) hS ?_
                    rotate_left
                    · (intro w0 hS0; (try dsimp only at hS0); go_simp; try with_reducible rfl)
                    try simp only [Act.put, List.setIfInBounds_toArray, List.set_cons_zero, List.set_cons_succ]
                    refine wpAnyH_take (i := 9) (oi := { dst := some 84, op := Op.move (Operand.tmp 83), type := 4, pos := "ref.go:71", after := #[{ on := 8, ground := Ground.data }, { on := 5, ground := Ground.chain }], guard := none }) (v := ?_) rfl (by kernel_rfl) (by kernel_rfl) (by kernel_rfl) (fun _ _ _ h => h) (Or.inl ⟨by rfl, ?_⟩) hS ?_
                    rotate_left
                    · (intro w0 hS0; (try dsimp only at hS0); go_simp; try with_reducible rfl)
                    try simp only [Act.put, List.setIfInBounds_toArray, List.set_cons_zero, List.set_cons_succ]
                    refine wpAnyH_take (i := 10) (oi := { dst := some 85, op := Op.load 48 (Operand.tmp 12), type := 48, pos := "ref.go:71", after := #[{ on := 9, ground := Ground.guard }], guard := some (9, true) }) (v := undef) rfl (by kernel_rfl) (by kernel_rfl) (by kernel_rfl) (fun _ _ _ h => h) (Or.inr ⟨by rfl, rfl⟩) hS ?_
                    try simp only [Act.put, List.setIfInBounds_toArray, List.set_cons_zero, List.set_cons_succ]
                    refine wpAnyH_take (i := 11) (oi := { dst := some 86, op := Op.call { callee := Callee.value (Operand.func 49), args := #[Operand.tmp 85], argTypes := #[48] }, type := 4, pos := "ref.go:71", after := #[{ on := 10, ground := Ground.data }, { on := 9, ground := Ground.chain }, { on := 9, ground := Ground.guard }], guard := some (9, true) }) (v := undef) rfl (by kernel_rfl) (by kernel_rfl) (by kernel_rfl) (fun _ _ _ h => h) (Or.inr ⟨by rfl, rfl⟩) hS ?_
                    try simp only [Act.put, List.setIfInBounds_toArray, List.set_cons_zero, List.set_cons_succ]
                    refine wpAnyH_take (i := 12) (oi := { dst := some 87, op := Op.pick (Operand.tmp 84) (Operand.tmp 86) (Operand.const (Value.bool false)), type := 4, pos := "ref.go:71", after := #[{ on := 9, ground := Ground.data }, { on := 11, ground := Ground.data }, { on := 13, ground := Ground.gcOnly Departure.lateStores }], guard := none }) (v := ?_) rfl (by kernel_rfl) (by kernel_rfl) (by kernel_rfl) (fun _ _ _ h => h) (Or.inl ⟨by rfl, ?_⟩) hS ?_
                    rotate_left
                    · (intro w0 hS0; (try dsimp only at hS0); go_simp; try with_reducible rfl)
                    try simp only [Act.put, List.setIfInBounds_toArray, List.set_cons_zero, List.set_cons_succ]
                    refine wpAnyH_ready (rs := [13]) (by kernel_rfl) (by simp) ?_
                    refine AllReadyH.cons (o := { dst := none, op := Op.store 48 (Operand.tmp 2) (Operand.tmp 75), type := 0, pos := "ref.go:71", after := #[{ on := 0, ground := Ground.data }, { on := 11, ground := Ground.chain }, { on := 0, ground := Ground.phase }, { on := 1, ground := Ground.textOnly Departure.lateStores }, { on := 2, ground := Ground.textOnly Departure.lateStores }, { on := 3, ground := Ground.textOnly Departure.lateStores }, { on := 4, ground := Ground.textOnly Departure.lateStores }, { on := 5, ground := Ground.textOnly Departure.lateStores }, { on := 6, ground := Ground.textOnly Departure.lateStores }, { on := 7, ground := Ground.textOnly Departure.lateStores }, { on := 8, ground := Ground.textOnly Departure.lateStores }, { on := 9, ground := Ground.textOnly Departure.lateStores }, { on := 10, ground := Ground.textOnly Departure.lateStores }, { on := 11, ground := Ground.textOnly Departure.lateStoresUnsure }, { on := 12, ground := Ground.textOnly Departure.lateStores }], guard := none }) rfl (fun K hK => ?_) AllReadyH.nil
                    have hX6 : Has V1.drew _ _ := hX
                    have hB7 : Has V1.drew _ _ := hB6
                    have E7 := E6.drew
                    obtain ⟨d0, d1, d2⟩ : V1.cell? ⟨w.heap.size, 0, none⟩ = some (.int .i64 0) ∧ V1.cell? ⟨w.heap.size, 1, none⟩ = some (.int .i64 0) ∧ V1.cell? ⟨w.heap.size, 2, none⟩ = some (.string ⟨#[]⟩) := ⟨hB6.cell 0, hB6.cell 1, hB6.cell 2⟩
                    obtain ⟨f0, f1, f2⟩ : V1.frozen? ⟨w.heap.size, 0, none⟩ = false ∧ V1.frozen? ⟨w.heap.size, 1, none⟩ = false ∧ V1.frozen? ⟨w.heap.size, 2, none⟩ = false := ⟨hB6.free 0, hB6.free 1, hB6.free 2⟩
                    go_simp
                    refine hK.out _ _ ?_ (fun hS => ?_)
                    · exact ⟨⟨(has_other3 hX6 hne _ _ _).cell 0, (has_other3 hX6 hne _ _ _).cell 1, (has_other3 hX6 hne _ _ _).cell 2⟩, E7.put3 (Nat.le_refl _) _ _ _⟩
                    clear hK K
                    try simp only [Act.put, List.setIfInBounds_toArray, List.set_cons_zero, List.set_cons_succ]
                    refine wpAnyH_take (i := 14) (oi := { dst := some 3, op := Op.assign (Operand.tmp 87), type := 4, pos := "ref.go:71", after := #[{ on := 12, ground := Ground.data }, { on := 13, ground := Ground.chain }, { on := 0, ground := Ground.phase }, { on := 1, ground := Ground.phase }, { on := 2, ground := Ground.phase }, { on := 3, ground := Ground.phase }, { on := 4, ground := Ground.phase }, { on := 5, ground := Ground.phase }, { on := 6, ground := Ground.phase }, { on := 7, ground := Ground.phase }, { on := 8, ground := Ground.phase }, { on := 9, ground := Ground.phase }, { on := 10, ground := Ground.phase }, { on := 11, ground := Ground.phase }, { on := 12, ground := Ground.phase }, { on := 13, ground := Ground.phase }], guard := none }) (v := ?_) rfl (by kernel_rfl) (by kernel_rfl) (by kernel_rfl) (fun _ _ _ h => h) (Or.inl ⟨by rfl, ?_⟩) hS ?_
                    rotate_left
                    · (intro w0 hS0; (try dsimp only at hS0); go_simp; try with_reducible rfl)
                    try simp only [Act.put, List.setIfInBounds_toArray, List.set_cons_zero, List.set_cons_succ]
                    refine wpAnyH_done (by kernel_rfl) ?_ _
                    have E8 := E7.put3 (b := w.heap.size) (Nat.le_refl _) (.int .i64 n1) (.int .i64 n2) (.string (bs nm))
                    go_wp2_with fail
                    refine bodyPost_ret (res_cell_tmp rfl _ _ w.heap.size _ _ _ _ rfl rfl (hB7.put3 _ _ _) Tryd.underlying48 rfl (line_size _ _ _)) rfl ?_
                    exact ⟨(nm, n1, n2), _, rfl, R1.out, R2.out, E8⟩
end Go.Proofs.YtmppjbimdonfmaaDoor
