/- Layer 7 (sizes): Write, of the program and of the reference. -/
import Derived.Test.YtmppjbimdonfmaaDoorSizF
import Derived.Test.YtmppjbimdonfmaaDoorBldB
namespace Go.Proofs.YtmppjbimdonfmaaDoor
open Go.ChangeShapes Go.WideShapes Go.ChangeAt Go.RowKit

/-- A line's text, without its end. -/
def lineB (x : EntD) : List UInt8 := decI x.2.1 ++ (32 :: (decI x.2.2 ++ 32 :: encL x.1))
def writeL (L : List EntD) : List UInt8 := (L.filter mayL).flatMap fun x => lineB x ++ [10]
theorem writeL_take {L : List EntD} {k : Nat} (h : k < L.length) : writeL (L.take (k + 1)) = writeL (L.take k) ++ if mayL L[k] = true then lineB L[k] ++ [10] else [] := by
  unfold writeL
  rw [List.take_succ_eq_append_getElem h, List.filter_append, List.flatMap_append]
  congr 1
  by_cases hm : mayL L[k] = true <;> simp [hm]
theorem lineB_len {x : EntD} (h : x.1.length ≤ 10000) : (lineB x).length ≤ 30132 := by
  have h1 := decI_len x.2.1
  have h2 := decI_len x.2.2
  have h3 := encL_le x.1
  unfold lineB
  simp only [List.length_append, List.length_cons]
  omega
theorem writeL_len {K : Nat} (hK : 30133 ≤ K) : ∀ {L : List EntD}, (∀ x ∈ L, x.1.length ≤ 10000) → (writeL L).length ≤ L.length * K
  | [], _ => by simp [writeL]
  | x :: L, h => by
    have ih := writeL_len hK (L := L) (fun y hy => h y (List.mem_cons_of_mem _ hy))
    have hx := lineB_len (h x (List.mem_cons_self ..))
    unfold writeL at ih ⊢
    rw [List.filter_cons]
    split
    · rw [List.flatMap_cons, List.length_append, List.length_append, List.length_singleton, List.length_cons, Nat.add_mul]; omega
    · rw [List.length_cons, Nat.add_mul]; omega
theorem byteCells_strCells (T : List UInt8) (q : List UInt8) : Lib.byteCells T ++ Lib.strCells (bs q) = Lib.byteCells (T ++ q) := by simp [Lib.byteCells, Lib.strCells, bs]
set_option maxRecDepth 100000 in
set_option maxHeartbeats 2000000 in
theorem swrite_any (A : Option Addr) (cap : Nat) (L : List EntD) (w : World) (hat : EntsAt w A L) (hlen : L.length ≤ 1000) (hI : ∀ x ∈ L, I64 x.2.1 ∧ I64 x.2.2 ∧ x.1.length ≤ 10000) : Calls Tryd.prog 44 #[.slice A L.length cap] w (Ret w (.string (bs (writeL L)))) := by
  obtain ⟨n, hn⟩ : ∃ n, n = L.length := ⟨_, rfl⟩
  rw [← hn] at hlen ⊢
  have HN := Lib.hid hn
  have HA := Lib.hid hat
  have HI := Lib.hid hI
  clear hn hat hI
  go_enter Tryd.func44, Tryd.ntmps44
  go_wp2_with fail
  go_loopw [8] (fun i wr => ∃ k : Nat, k ≤ n ∧ i = .int .i64 k ∧ Lib.IsBuilder 79 5 w.heap.size w.heap.size (Lib.byteCells (writeL (L.take k))) wr ∧ Ext w wr) (fun i _ => n - (intOf i).toNat)
  case atStart => exact ⟨0, Nat.zero_le _, rfl, Lib.fresh_isBuilder _ _ w, (Ext.refl _).alloc _⟩
  case round =>
    obtain ⟨k, hk, rfl, hBd, hE⟩ := hrel
    have hsz := hE.size
    by_cases hlt : (k : Int) < n
    · have hkl : k < L.length := by rw [← HN.out]; omega
      obtain ⟨b, o, rfl, hbb, p0, p1, p2⟩ := HA.out.at_ hE k hkl
      have hf := HI.out L[k] (List.getElem_mem hkl)
      have hct := writeL_take hkl
      have hcl : (writeL (L.take k)).length ≤ 1000 * 30133 := by
        have h1 := writeL_len (K := 30133) (Nat.le_refl _) (L := L.take k) (fun s hs => (HI.out s (List.mem_of_mem_take hs)).2.2)
        have h2 : (L.take k).length ≤ 1000 := by rw [List.length_take]; omega
        exact Nat.le_trans h1 (Nat.mul_le_mul_right _ h2)
      obtain ⟨x, hx⟩ : ∃ x, x = L[k] := ⟨_, rfl⟩
      rw [← hx] at p0 p1 p2 hf hct
      obtain ⟨T, hTT⟩ : ∃ T, T = writeL (L.take k) := ⟨_, rfl⟩
      rw [← hTT] at hct hcl hBd
      have HCT := Lib.hid hct
      obtain ⟨nm, sz, tm⟩ := x
      obtain ⟨i1, i2, i3⟩ := hf
      simp only [] at p0 p1 p2 i1 i2 i3
      obtain ⟨V, hV⟩ : ∃ V, V = wr.alloc (.cells #[.int .i64 sz, .int .i64 tm, .string (bs nm)] 48) := ⟨_, rfl⟩
      have hC : Has V wr.heap.size (.cells #[.int .i64 sz, .int .i64 tm, .string (bs nm)] 48) := by rw [hV]; exact Has.new _ _
      have EV : Ext wr V := by rw [hV]; exact (Ext.refl _).alloc _
      obtain ⟨c0, c1, c2⟩ : V.cell? ⟨wr.heap.size, 0, none⟩ = some (.int .i64 sz) ∧ V.cell? ⟨wr.heap.size, 1, none⟩ = some (.int .i64 tm) ∧ V.cell? ⟨wr.heap.size, 2, none⟩ = some (.string (bs nm)) := ⟨hC.cell 0, hC.cell 1, hC.cell 2⟩
      have HV := Lib.hid hV
      have HBD := Lib.hid (bld_keep hBd EV)
      have HC := Lib.hid hC
      have hmx := fun w1 => smay_any (nm, sz, tm) w1
      unfold lineA at hmx
      have HM := Lib.hid hmx
      have hS := hC.lt
      clear hV hx hTT hct hBd hC hmx
      cases hm : mayL (nm, sz, tm) with
      | false =>
        have H0 := Lib.hid hm
        clear hm
        go_wp2_with (rw [← HV.out])
        refine (HM.out _).mono ?_
        rintro e w1 ⟨rfl, b1⟩
        rw [H0.out]
        have HB1 := Lib.hid (bld_keep HBD.out b1)
        have HR : Hid (writeL (L.take (k + 1)) = T) := by show _ = _; rw [HCT.out, H0.out]; simp
        go_wp2_with fail
        go_roundw
        case rel => exact ⟨k + 1, by omega, by go_num, by rw [HR.out]; exact HB1.out, (hE.trans EV).trans b1⟩
        case measure => simp [intOf]; omega
      | true =>
        have H0 := Lib.hid hm
        clear hm
        go_wp2_with (rw [← HV.out])
        refine (HM.out _).mono ?_
        rintro e w1 ⟨rfl, b1⟩
        rw [H0.out]
        have HB1 := Lib.hid (bld_keep HBD.out b1)
        have hC1 := HC.out.ext b1
        have hE1 := (hE.trans EV).trans b1
        obtain ⟨d1, hd1⟩ : ∃ d, d = decI sz := ⟨_, rfl⟩
        obtain ⟨d2, hd2⟩ : ∃ d, d = decI tm := ⟨_, rfl⟩
        obtain ⟨d3, hd3⟩ : ∃ d, d = encL nm := ⟨_, rfl⟩
        have g1 := fun w' => pdec_any sz w' i1
        have g2 := fun w' => pdec_any tm w' i2
        have g3 := fun w' => pencode_any (bs nm) w' (by rw [bs_size]; omega)
        rw [bs_list, ← hd3] at g3
        rw [← hd1] at g1
        rw [← hd2] at g2
        have j1 : d1.length ≤ 65 := by rw [hd1]; exact decI_len _
        have j2 : d2.length ≤ 65 := by rw [hd2]; exact decI_len _
        have j3 : d3.length ≤ 30000 := by rw [hd3]; have := encL_le nm; omega
        have hln : Hid (lineB (nm, sz, tm) ++ [10] = (((((d1 ++ [32]) ++ d2) ++ [32]) ++ d3) ++ [10])) := by show _ = _; unfold lineB; rw [hd1, hd2, hd3]; simp
        obtain ⟨l1, hl1⟩ : ∃ l, l = d1.length := ⟨_, rfl⟩
        obtain ⟨l2, hl2⟩ : ∃ l, l = d2.length := ⟨_, rfl⟩
        obtain ⟨l3, hl3⟩ : ∃ l, l = d3.length := ⟨_, rfl⟩
        obtain ⟨D1, hD1⟩ : ∃ D, D = bs d1 := ⟨_, rfl⟩
        obtain ⟨D2, hD2⟩ : ∃ D, D = bs d2 := ⟨_, rfl⟩
        obtain ⟨D3, hD3⟩ : ∃ D, D = bs d3 := ⟨_, rfl⟩
        have zD1 : D1.size = l1 := by rw [hD1, bs_size, hl1]
        have zD2 : D2.size = l2 := by rw [hD2, bs_size, hl2]
        have zD3 : D3.size = l3 := by rw [hD3, bs_size, hl3]
        rw [← hD1] at g1
        rw [← hD2] at g2
        rw [← hD3] at g3
        obtain ⟨pQ1, hpQ1⟩ : ∃ Q, Q = bs (d1 ++ [32]) := ⟨_, rfl⟩
        obtain ⟨pm1, hpm1⟩ : ∃ m : Nat, m = l1 + 1 := ⟨_, rfl⟩
        have epQ1 : D1 ++ (⟨#[32]⟩ : ByteArray) = pQ1 := by rw [hD1, hpQ1]; exact bs_append d1 [32]
        have zpQ1 : pQ1.size = pm1 := by rw [hpQ1, bs_size, List.length_append, hpm1]; first | omega | (simp; try omega)
        have opQ1 : ¬ 9223372036854775807 < l1 + 1 := by omega
        obtain ⟨pQ2, hpQ2⟩ : ∃ Q, Q = bs ((d1 ++ [32]) ++ d2) := ⟨_, rfl⟩
        obtain ⟨pm2, hpm2⟩ : ∃ m : Nat, m = pm1 + l2 := ⟨_, rfl⟩
        have epQ2 : pQ1 ++ D2 = pQ2 := by rw [hpQ1, hD2, hpQ2]; exact bs_append (d1 ++ [32]) d2
        have zpQ2 : pQ2.size = pm2 := by rw [hpQ2, bs_size, List.length_append, hpm2]; first | omega | (simp; try omega)
        have opQ2 : ¬ 9223372036854775807 < pm1 + l2 := by omega
        obtain ⟨pQ3, hpQ3⟩ : ∃ Q, Q = bs (((d1 ++ [32]) ++ d2) ++ [32]) := ⟨_, rfl⟩
        obtain ⟨pm3, hpm3⟩ : ∃ m : Nat, m = pm2 + 1 := ⟨_, rfl⟩
        have epQ3 : pQ2 ++ (⟨#[32]⟩ : ByteArray) = pQ3 := by rw [hpQ2, hpQ3]; exact bs_append ((d1 ++ [32]) ++ d2) [32]
        have zpQ3 : pQ3.size = pm3 := by rw [hpQ3, bs_size, List.length_append, hpm3]; first | omega | (simp; try omega)
        have opQ3 : ¬ 9223372036854775807 < pm2 + 1 := by omega
        obtain ⟨pQ4, hpQ4⟩ : ∃ Q, Q = bs ((((d1 ++ [32]) ++ d2) ++ [32]) ++ d3) := ⟨_, rfl⟩
        obtain ⟨pm4, hpm4⟩ : ∃ m : Nat, m = pm3 + l3 := ⟨_, rfl⟩
        have epQ4 : pQ3 ++ D3 = pQ4 := by rw [hpQ3, hD3, hpQ4]; exact bs_append (((d1 ++ [32]) ++ d2) ++ [32]) d3
        have zpQ4 : pQ4.size = pm4 := by rw [hpQ4, bs_size, List.length_append, hpm4]; first | omega | (simp; try omega)
        have opQ4 : ¬ 9223372036854775807 < pm3 + l3 := by omega
        obtain ⟨pQ5, hpQ5⟩ : ∃ Q, Q = bs (((((d1 ++ [32]) ++ d2) ++ [32]) ++ d3) ++ [10]) := ⟨_, rfl⟩
        obtain ⟨pm5, hpm5⟩ : ∃ m : Nat, m = pm4 + 1 := ⟨_, rfl⟩
        have epQ5 : pQ4 ++ (⟨#[10]⟩ : ByteArray) = pQ5 := by rw [hpQ4, hpQ5]; exact bs_append ((((d1 ++ [32]) ++ d2) ++ [32]) ++ d3) [10]
        have zpQ5 : pQ5.size = pm5 := by rw [hpQ5, bs_size, List.length_append, hpm5]; first | omega | (simp; try omega)
        have opQ5 : ¬ 9223372036854775807 < pm4 + 1 := by omega
        have G1 := Lib.hid g1
        have G2 := Lib.hid g2
        have G3 := Lib.hid g3
        have HQF := Lib.hid hpQ5
        have HSZ : Hid (pQ5.size ≤ 40000) := by show _ ≤ _; omega
        clear g1 g2 g3 hpQ1 hpQ2 hpQ3 hpQ4 hpQ5 hpm1 hpm2 hpm3 hpm4 hpm5 hd1 hd2 hd3 hl1 hl2 hl3 hD1 hD2 hD3 j1 j2 j3 i1 i2 c0 c1 c2 p0 p1 p2
        have u0 : ∀ u : Gr w1, u.w.cell? ⟨wr.heap.size, 0, none⟩ = some (.int .i64 sz) := Gr.cell hC1.lt (hC1.cell 0)
        have u1 : ∀ u : Gr w1, u.w.cell? ⟨wr.heap.size, 1, none⟩ = some (.int .i64 tm) := Gr.cell hC1.lt (hC1.cell 1)
        have u2 : ∀ u : Gr w1, u.w.cell? ⟨wr.heap.size, 2, none⟩ = some (.string (bs nm)) := Gr.cell hC1.lt (hC1.cell 2)
        go_wp2_with fail
        refine wp_region_grow_seq w1 14 (by kernel_rfl) (by kernel_rfl) (by kernel_rfl) (Ext.refl _).drew ?_
        simp only [List.take_succ_cons, List.take_zero, List.drop_succ_cons, List.drop_zero]
        repeat (quiet_step (((first | with_reducible refine (G1.out _).mono ?_ | with_reducible refine (G2.out _).mono ?_ | with_reducible refine (G3.out _).mono ?_); rintro e w'' ⟨rfl, hEx⟩; exact ⟨rfl, ⟨w'', Ext.trans (Gr.h _) hEx⟩, rfl⟩)))
        refine wpQuiet_nil ?_
        rintro _ ⟨⟨w3, b3⟩, rfl⟩
        go_wp2_with fail
        have HB3 := Lib.hid (bld_keep HB1.out b3)
        have hE3 := hE1.trans b3
        refine (bld_string _ _ _ _ _ HB3.out (by have := HSZ.out; simp [Lib.byteCells]; omega) hE3.size).mono ?_
        rintro e w4 ⟨rfl, h4, b4⟩
        have H4 := Lib.hid h4
        clear h4
        go_wp2_with fail
        go_roundw
        case rel => exact ⟨k + 1, by omega, by go_num, .inr (by rw [HCT.out, if_pos H0.out, hln.out, ← byteCells_strCells, ← HQF.out]; exact H4.out), Below.trans hE3 b4⟩
        case measure => simp [intOf]; omega
    · obtain rfl : n = k := by omega
      have hfin : writeL (L.take n) = writeL L := by rw [HN.out, List.take_length]
      rw [hfin] at hBd
      have HBD := Lib.hid hBd
      clear hBd hfin
      go_wp2_with fail
      refine (Tryd.Builder_String_any _ _ _ _ HBD.out hE.size).mono ?_
      rintro e w1 ⟨rfl, b1⟩
      go_wp2_with fail
      go_ret
      exact Ret.mk rfl (Below.trans hE b1)
set_option maxRecDepth 100000 in
set_option maxHeartbeats 2000000 in
theorem rwrite_any (A : Option Addr) (cap : Nat) (L : List EntD) (w : World) (hat : EntsAt w A L) (hlen : L.length ≤ 1000) (hI : ∀ x ∈ L, I64 x.2.1 ∧ I64 x.2.2 ∧ x.1.length ≤ 10000) : Calls Tryd.prog 45 #[.slice A L.length cap] w (Ret w (.string (bs (writeL L)))) := by
  obtain ⟨n, hn⟩ : ∃ n, n = L.length := ⟨_, rfl⟩
  rw [← hn] at hlen ⊢
  have HN := Lib.hid hn
  have HA := Lib.hid hat
  have HI := Lib.hid hI
  clear hn hat hI
  go_enter Tryd.func45, Tryd.ntmps45
  go_wp2_with fail
  go_loopw [3, 4] (fun u i wr => ∃ k : Nat, k ≤ n ∧ i = .int .i64 k ∧ u = .string (bs (writeL (L.take k))) ∧ Ext w wr) (fun _ i _ => n - (intOf i).toNat)
  case atStart => exact ⟨0, Nat.zero_le _, rfl, rfl, Ext.refl _⟩
  case round =>
    obtain ⟨k, hk, rfl, rfl, hE⟩ := hrel
    have hsz := hE.size
    by_cases hlt : (k : Int) < n
    · have hkl : k < L.length := by rw [← HN.out]; omega
      obtain ⟨b, o, rfl, hbb, p0, p1, p2⟩ := HA.out.at_ hE k hkl
      have hf := HI.out L[k] (List.getElem_mem hkl)
      have hct := writeL_take hkl
      have hcl : (writeL (L.take k)).length ≤ 1000 * 30133 := by
        have h1 := writeL_len (K := 30133) (Nat.le_refl _) (L := L.take k) (fun s hs => (HI.out s (List.mem_of_mem_take hs)).2.2)
        have h2 : (L.take k).length ≤ 1000 := by rw [List.length_take]; omega
        exact Nat.le_trans h1 (Nat.mul_le_mul_right _ h2)
      obtain ⟨x, hx⟩ : ∃ x, x = L[k] := ⟨_, rfl⟩
      rw [← hx] at p0 p1 p2 hf hct
      obtain ⟨T, hTT⟩ : ∃ T, T = writeL (L.take k) := ⟨_, rfl⟩
      rw [← hTT] at hct hcl ⊢
      have HCT := Lib.hid hct
      obtain ⟨nm, sz, tm⟩ := x
      obtain ⟨i1, i2, i3⟩ := hf
      simp only [] at p0 p1 p2 i1 i2 i3
      have hmx := fun w1 => rmay_any (nm, sz, tm) w1 (by show nm.length ≤ 1000000; omega)
      unfold lineA at hmx
      have HM := Lib.hid hmx
      clear hx hTT hct hmx
      have hk0 : (0 : Int) ≤ (k : Int) := by omega
      cases hm : mayL (nm, sz, tm) with
      | false =>
        have H0 := Lib.hid hm
        clear hm
        go_wp2_with fail
        refine (HM.out _).mono ?_
        rintro e w1 ⟨rfl, b1⟩
        rw [H0.out]
        have HR : Hid (writeL (L.take (k + 1)) = T) := by show _ = _; rw [HCT.out, H0.out]; simp
        go_wp2_with fail
        go_roundw
        case rel => exact ⟨k + 1, by omega, by go_num, by rw [HR.out], hE.trans b1⟩
        case measure => simp [intOf]; omega
      | true =>
        have H0 := Lib.hid hm
        clear hm
        obtain ⟨l0, hl0⟩ : ∃ l, l = T.length := ⟨_, rfl⟩
        have zT0 : (bs T).size = l0 := by rw [bs_size, hl0]
        go_wp2_with fail
        refine (HM.out _).mono ?_
        rintro e w1 ⟨rfl, b1⟩
        rw [H0.out]
        have hE1 := hE.trans b1
        have hbb1 : b < w1.heap.size := by have := b1.size; omega
        have p0' := (b1.cell (o := o + k * 3) hbb).trans p0
        have p1' := (b1.cell (o := o + k * 3 + 1) hbb).trans p1
        have p2' := (b1.cell (o := o + k * 3 + 2) hbb).trans p2
        obtain ⟨d1, hd1⟩ : ∃ d, d = decI sz := ⟨_, rfl⟩
        obtain ⟨d2, hd2⟩ : ∃ d, d = decI tm := ⟨_, rfl⟩
        obtain ⟨d3, hd3⟩ : ∃ d, d = encL nm := ⟨_, rfl⟩
        have g1 := fun w' => rdec_any sz w' i1
        have g2 := fun w' => rdec_any tm w' i2
        have g3 := fun w' => rencode_any (bs nm) w' (by rw [bs_size]; omega)
        rw [bs_list, ← hd3] at g3
        rw [← hd1] at g1
        rw [← hd2] at g2
        have j1 : d1.length ≤ 65 := by rw [hd1]; exact decI_len _
        have j2 : d2.length ≤ 65 := by rw [hd2]; exact decI_len _
        have j3 : d3.length ≤ 30000 := by rw [hd3]; have := encL_le nm; omega
        have hln : Hid (T ++ (lineB (nm, sz, tm) ++ [10]) = ((((((T ++ d1) ++ [32]) ++ d2) ++ [32]) ++ d3) ++ [10])) := by show _ = _; unfold lineB; rw [hd1, hd2, hd3]; simp
        obtain ⟨l1, hl1⟩ : ∃ l, l = d1.length := ⟨_, rfl⟩
        obtain ⟨l2, hl2⟩ : ∃ l, l = d2.length := ⟨_, rfl⟩
        obtain ⟨l3, hl3⟩ : ∃ l, l = d3.length := ⟨_, rfl⟩
        obtain ⟨D1, hD1⟩ : ∃ D, D = bs d1 := ⟨_, rfl⟩
        obtain ⟨D2, hD2⟩ : ∃ D, D = bs d2 := ⟨_, rfl⟩
        obtain ⟨D3, hD3⟩ : ∃ D, D = bs d3 := ⟨_, rfl⟩
        have zD1 : D1.size = l1 := by rw [hD1, bs_size, hl1]
        have zD2 : D2.size = l2 := by rw [hD2, bs_size, hl2]
        have zD3 : D3.size = l3 := by rw [hD3, bs_size, hl3]
        rw [← hD1] at g1
        rw [← hD2] at g2
        rw [← hD3] at g3
        obtain ⟨pQ1, hpQ1⟩ : ∃ Q, Q = bs (T ++ d1) := ⟨_, rfl⟩
        obtain ⟨pm1, hpm1⟩ : ∃ m : Nat, m = l0 + l1 := ⟨_, rfl⟩
        have epQ1 : (bs T) ++ D1 = pQ1 := by rw [hD1, hpQ1]; exact bs_append T d1
        have zpQ1 : pQ1.size = pm1 := by rw [hpQ1, bs_size, List.length_append, hpm1]; first | omega | (simp; try omega)
        have opQ1 : ¬ 9223372036854775807 < l0 + l1 := by omega
        obtain ⟨pQ2, hpQ2⟩ : ∃ Q, Q = bs ((T ++ d1) ++ [32]) := ⟨_, rfl⟩
        obtain ⟨pm2, hpm2⟩ : ∃ m : Nat, m = pm1 + 1 := ⟨_, rfl⟩
        have epQ2 : pQ1 ++ (⟨#[32]⟩ : ByteArray) = pQ2 := by rw [hpQ1, hpQ2]; exact bs_append (T ++ d1) [32]
        have zpQ2 : pQ2.size = pm2 := by rw [hpQ2, bs_size, List.length_append, hpm2]; first | omega | (simp; try omega)
        have opQ2 : ¬ 9223372036854775807 < pm1 + 1 := by omega
        obtain ⟨pQ3, hpQ3⟩ : ∃ Q, Q = bs (((T ++ d1) ++ [32]) ++ d2) := ⟨_, rfl⟩
        obtain ⟨pm3, hpm3⟩ : ∃ m : Nat, m = pm2 + l2 := ⟨_, rfl⟩
        have epQ3 : pQ2 ++ D2 = pQ3 := by rw [hpQ2, hD2, hpQ3]; exact bs_append ((T ++ d1) ++ [32]) d2
        have zpQ3 : pQ3.size = pm3 := by rw [hpQ3, bs_size, List.length_append, hpm3]; first | omega | (simp; try omega)
        have opQ3 : ¬ 9223372036854775807 < pm2 + l2 := by omega
        obtain ⟨pQ4, hpQ4⟩ : ∃ Q, Q = bs ((((T ++ d1) ++ [32]) ++ d2) ++ [32]) := ⟨_, rfl⟩
        obtain ⟨pm4, hpm4⟩ : ∃ m : Nat, m = pm3 + 1 := ⟨_, rfl⟩
        have epQ4 : pQ3 ++ (⟨#[32]⟩ : ByteArray) = pQ4 := by rw [hpQ3, hpQ4]; exact bs_append (((T ++ d1) ++ [32]) ++ d2) [32]
        have zpQ4 : pQ4.size = pm4 := by rw [hpQ4, bs_size, List.length_append, hpm4]; first | omega | (simp; try omega)
        have opQ4 : ¬ 9223372036854775807 < pm3 + 1 := by omega
        obtain ⟨pQ5, hpQ5⟩ : ∃ Q, Q = bs (((((T ++ d1) ++ [32]) ++ d2) ++ [32]) ++ d3) := ⟨_, rfl⟩
        obtain ⟨pm5, hpm5⟩ : ∃ m : Nat, m = pm4 + l3 := ⟨_, rfl⟩
        have epQ5 : pQ4 ++ D3 = pQ5 := by rw [hpQ4, hD3, hpQ5]; exact bs_append ((((T ++ d1) ++ [32]) ++ d2) ++ [32]) d3
        have zpQ5 : pQ5.size = pm5 := by rw [hpQ5, bs_size, List.length_append, hpm5]; first | omega | (simp; try omega)
        have opQ5 : ¬ 9223372036854775807 < pm4 + l3 := by omega
        obtain ⟨pQ6, hpQ6⟩ : ∃ Q, Q = bs ((((((T ++ d1) ++ [32]) ++ d2) ++ [32]) ++ d3) ++ [10]) := ⟨_, rfl⟩
        obtain ⟨pm6, hpm6⟩ : ∃ m : Nat, m = pm5 + 1 := ⟨_, rfl⟩
        have epQ6 : pQ5 ++ (⟨#[10]⟩ : ByteArray) = pQ6 := by rw [hpQ5, hpQ6]; exact bs_append (((((T ++ d1) ++ [32]) ++ d2) ++ [32]) ++ d3) [10]
        have zpQ6 : pQ6.size = pm6 := by rw [hpQ6, bs_size, List.length_append, hpm6]; first | omega | (simp; try omega)
        have opQ6 : ¬ 9223372036854775807 < pm5 + 1 := by omega
        have G1 := Lib.hid g1
        have G2 := Lib.hid g2
        have G3 := Lib.hid g3
        have HQF := Lib.hid hpQ6
        clear g1 g2 g3 hpQ1 hpQ2 hpQ3 hpQ4 hpQ5 hpQ6 hpm1 hpm2 hpm3 hpm4 hpm5 hpm6 hd1 hd2 hd3 hl0 hl1 hl2 hl3 hD1 hD2 hD3 j1 j2 j3 i1 i2 p0 p1 p2 hcl
        have u0 : ∀ u : Gr w1, u.w.cell? ⟨b, o + k * 3, none⟩ = some (.int .i64 sz) := Gr.cell hbb1 p0'
        have u1 : ∀ u : Gr w1, u.w.cell? ⟨b, o + k * 3 + 1, none⟩ = some (.int .i64 tm) := Gr.cell hbb1 p1'
        have u2 : ∀ u : Gr w1, u.w.cell? ⟨b, o + k * 3 + 2, none⟩ = some (.string (bs nm)) := Gr.cell hbb1 p2'
        go_wp2_with fail
        refine wp_region_grow w1 (by kernel_rfl) (by kernel_rfl) (Ext.refl _).drew ?_
        repeat (quiet_step (((first | with_reducible refine (G1.out _).mono ?_ | with_reducible refine (G2.out _).mono ?_ | with_reducible refine (G3.out _).mono ?_); rintro e w'' ⟨rfl, hEx⟩; exact ⟨rfl, ⟨w'', Ext.trans (Gr.h _) hEx⟩, rfl⟩)))
        refine wpQuiet_nil ?_
        rintro _ ⟨⟨w3, b3⟩, rfl⟩
        go_wp2_with fail
        go_roundw
        case rel => exact ⟨k + 1, by omega, by go_num, by rw [HCT.out, if_pos H0.out, hln.out, ← HQF.out], hE1.trans b3⟩
        case measure => simp [intOf]; omega
    · obtain rfl : n = k := by omega
      have hfin : writeL (L.take n) = writeL L := by rw [HN.out, List.take_length]
      rw [hfin]
      go_wp2_with fail
      go_ret
      exact Ret.mk rfl hE
end Go.Proofs.YtmppjbimdonfmaaDoor
