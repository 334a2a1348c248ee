/- Layer 15: the reference's Path. -/
import Derived.Test.YtjblimclakfhfaaBunM
import Derived.Test.YtjblimclakfhfaaBunE
import Derived.Test.YtjblimclakfhfaaBunC
namespace Go.Proofs.Ytjblimclakfhfaa
open Go.ChangeShapes Go.WideShapes Go.ChangeAt Go.RowKit

set_option maxRecDepth 100000 in
set_option maxHeartbeats 16000000 in
theorem rpath15_any {c : Nat} (B : Nat) (g : GhF) (S : TreeD) (X0 : Xtra) (cu cg : Int) (p0 : List UInt8) (fol : Bool) (w : World) (h : FAt w B g S X0) (T : Tre c S) (hc : c ≤ 1000000) (hl : S.last ≤ 100000) (hp0 : p0.length ≤ 1000000) :
    Calls Try.prog 11 #[.pointer (some ⟨g.bF, 0, none⟩), .agg #[.int .i64 cu, .int .i64 cg], .string (bs p0), .bool fol] w (FndR w (pathF S cu cg p0 fol)) := by
  obtain ⟨W0, hW0⟩ : ∃ W, W = (w.alloc (.cells #[.int .i64 cu, .int .i64 cg] 24)).alloc (.cells #[.int .i64 0, .string ⟨#[]⟩, .int .i64 0, .bool false] 33) := ⟨_, rfl⟩
  obtain ⟨b5, hb5⟩ : ∃ b, b = w.heap.size := ⟨_, rfl⟩
  obtain ⟨b8, hb8⟩ : ∃ b, b = w.heap.size + 1 := ⟨_, rfl⟩
  have E0 : Ext w W0 := by rw [hW0]; exact ((Ext.refl _).alloc _).alloc _
  have F0 : Has W0 b8 (.cells (fndC fndZ).toArray 33) := by rw [hW0, hb8]; have := Has.new (w.alloc (.cells #[.int .i64 cu, .int .i64 cg] 24)) (.cells #[.int .i64 0, .string ⟨#[]⟩, .int .i64 0, .bool false] 33); rw [World.size_alloc] at this; exact this
  have C0 : Has W0 b5 (.cells #[.int .i64 cu, .int .i64 cg] 24) := by rw [hW0, hb5]; exact (Has.new w _).alloc _
  have hb8w : w.heap.size ≤ b8 := by omega
  have hnl1 : S.nodes.length ≤ 1000000 := by have := T.count; omega
  obtain ⟨R, hR⟩ : ∃ R, R = pathF S cu cg p0 fol := ⟨_, rfl⟩
  rw [← hR]
  have HR := Lib.hid hR
  obtain ⟨q, hq⟩ : ∃ q, q = pathN p0 := ⟨_, rfl⟩
  have HQ := Lib.hid hq
  clear hR
  go_enter Try.func11, Try.ntmps11
  go_upto_region 1 with fail
  rw [← hW0, ← hb5]
  rw [show b5 + 1 = b8 by omega]
  clear hW0 hb5 hb8
  go_wp2_with fail
  refine (rpath_any p0 _ hp0).mono ?_
  rw [← hq]
  rintro e w2 ⟨rfl, b2⟩
  have E2 := E0.trans b2
  have F2 := F0.ext b2
  have C2 := C0.ext b2
  clear hq F0 C0 E0 b2
  by_cases hq0 : q = 0
  case neg =>
    have t0 : (q == 0) = false := by simpa using hq0
    have t0b : (q != 0) = true := by simpa using hq0
    have e1 : Hid (R = (fndZ, q)) := by show _ = _; rw [HR.out, HQ.out]; unfold pathF; rw [if_neg (by rw [← HQ.out]; exact hq0)]
    clear hq0
    go_wp2_with (refine wpList_store_found rfl _ _ rfl b8 fndZ fndZ rfl rfl F2 ?_; intro w9 R9 O9)
    refine bodyPost_ret (v := .tuple #[.agg (fndC fndZ).toArray, .int .i64 q]) (res_found Try.results11 _ _ b8 fndZ _ rfl rfl R9) rfl ?_
    exact FndR.mk E2 hb8w O9 e1.out
  have t0 : (q == 0) = true := by simpa using hq0
  have t0b : (q != 0) = false := by simpa using hq0
  have HR2 : Hid (R = seekF S cu cg fol 1 (partsN p0) 0 (slashB p0)) := by show _ = _; rw [HR.out]; unfold pathF; rw [if_pos (by rw [← HQ.out]; exact hq0)]
  have HPL : Hid (∀ p ∈ partsN p0, p.length ≤ 1100000) := by show ∀ p ∈ _, _; intro p hp; have := part_len hp; omega
  have HP1 : Hid ((partsN p0).length ≤ 1050000) := by show _ ≤ _; have := parts_len p0; omega
  clear HR HQ hq0
  go_wp2_with fail
  refine (rparts_any p0 _ (by omega)).mono ?_
  rintro e w3 ⟨v3, rfl, ok3, b3⟩
  obtain ⟨A3, c3, rfl, hA31, hA32, hA33, hA34⟩ := OwnT.at_ ok3
  go_wp2_with fail
  refine (rslash_any p0 _ (by omega)).mono ?_
  rintro e w4 ⟨rfl, b4⟩
  have E4 := (E2.trans b3).trans b4
  have F4 := (F2.ext b3).ext b4
  have C4 := (C2.ext b3).ext b4
  have hat4 := hA33.ext b4
  obtain ⟨l0, hl0⟩ : ∃ l0, l0 = partsN p0 := ⟨_, rfl⟩
  obtain ⟨m0, hm0⟩ : ∃ m0, m0 = slashB p0 := ⟨_, rfl⟩
  rw [← hl0] at hat4 HR2 HPL HP1 hA31
  rw [← hm0] at HR2
  rw [← hl0, ← hm0]
  have HA31 := Lib.hid hA31
  clear hA31 hA32 hA33 ok3 b3 b4 E2 F2 C2 hl0 hm0 t0 t0b
  go_wp2_with fail
  go_loopw [11, 12, 13, 14] (fun v11 v12 v13 v14 wr => ∃ (at_ : Int) (l : List (List UInt8)) (h : Nat) (m : Bool) (A : Option Addr) (cap : Nat), v11 = .slice A l.length cap ∧ v12 = .bool m ∧ v13 = .int .i64 at_ ∧ v14 = .int .i64 (h : Int) ∧ TxtAt wr A l ∧ (A = none → cap = 0) ∧ l.length ≤ cap ∧ Hid (∀ p ∈ l, p.length ≤ 1100000) ∧ l.length ≤ 1050000 * (h + 1) ∧ h ≤ 8 ∧ Hid (R = seekF S cu cg fol at_ l h m) ∧ Has wr b8 (.cells (fndC fndZ).toArray 33) ∧ Has wr b5 (.cells #[.int .i64 cu, .int .i64 cg] 24) ∧ Ext w wr) (fun v11 _ _ v14 _ => (9 - (intOf v14).toNat) * 20000000 + lenV v11)
  case atStart => exact ⟨1, l0, 0, m0, A3, c3, rfl, rfl, rfl, rfl, hat4, hA34, HA31.out, HPL, by have := HP1.out; omega, by decide, HR2, F4, C4, E4⟩
  case round =>
    obtain ⟨at_, l, hp, m, A, cap, rfl, rfl, rfl, rfl, hat, hA0, hlc, HL, hll, hh8, HR, Fr, Cr, Er⟩ := hrel
    cases l with
    | nil =>
      have e1 : Hid (R = (⟨0, [], at_, true⟩, 0)) := by show _ = _; rw [HR.out, seek_nil]
      clear HR
      go_wp2_with (refine wpList_store_found rfl _ _ rfl b8 fndZ ⟨0, [], at_, true⟩ rfl rfl Fr ?_; intro w9 R9 O9)
      refine bodyPost_ret (v := .tuple #[.agg (fndC ⟨0, [], at_, true⟩).toArray, .int .i64 0]) (res_found Try.results11 _ _ b8 ⟨0, [], at_, true⟩ _ rfl rfl R9) rfl ?_
      exact FndR.mk Er hb8w O9 e1.out
    | cons p l =>
      obtain ⟨bl, o, rfl, hbl, hcl⟩ : ∃ bl o, A = some ⟨bl, o, none⟩ ∧ bl < wr.heap.size ∧ ∀ k, (h : k < (p :: l).length) → wr.cell? ⟨bl, o + k, none⟩ = some (.string (bs (p :: l)[k])) := by
        rcases hat with h0 | h0
        · cases h0
        · exact h0
      obtain ⟨n, hn⟩ : ∃ n, n = (p :: l).length := ⟨_, rfl⟩
      have hnl : n = l.length + 1 := by rw [hn]; rfl
      have hc0 : wr.cell? ⟨bl, o, none⟩ = some (.string (bs p)) := hcl 0 (by simp)
      obtain ⟨X, hsl, hX, hXb⟩ := from_one15 bl o n l.length cap hnl (by omega)
      have hpl : p.length ≤ 1100000 := HL.out p (List.mem_cons_self ..)
      have hat1 : TxtAt wr (some X) l := by
        by_cases hl0 : l = []
        · exact .inl hl0
        · have hpos : 0 < l.length := List.length_pos_iff.2 hl0
          rw [hX hpos]
          refine .inr ⟨bl, o + 1, rfl, hbl, fun k hk => ?_⟩
          have h1 := hcl (k + 1) (by simp; omega)
          rw [show o + 1 + k = o + (k + 1) by omega]
          exact h1
      have HLC := Lib.hid (show l.length ≤ cap - 1 by omega)
      have HLL := Lib.hid (show l.length + 1 ≤ 1050000 * (hp + 1) by omega)
      have HLP : Hid (∀ q ∈ l, q.length ≤ 1100000) := by show ∀ q ∈ l, _; intro q hq; exact HL.out q (List.mem_cons_of_mem _ hq)
      have q0 : (0 : Int) < (n : Int) := by omega
      obtain ⟨lb, hlb⟩ : ∃ lb, lb = l.isEmpty := ⟨_, rfl⟩
      have tl : ((n : Int) == 1) = lb := by rw [hlb, hnl]; cases l <;> simp <;> omega
      have HLB := Lib.hid hlb
      rw [← hn]
      have HMR := Lib.hid (show (p :: l).length = n from hn.symm)
      clear hat hcl hX hXb hlc hll HL hA0 hlb hnl hn
      go_upto_region 8 with fail
      clear hsl hc0 q0 tl
      go_wp2_with fail
      refine (rget_any B g S X0 at_ _ (h.ext Er) hnl1 T.nos).mono ?_
      rintro e w5 ⟨A5, c5, rfl, ok5, b5'⟩
      obtain ⟨d, hd⟩ : ∃ d, d = getN S.nodes at_ := ⟨_, rfl⟩
      have hRR : Rise d.ents ∧ d.ents.length ≤ c := by rw [hd]; exact T.getN at_
      have HRR := Lib.hid hRR
      rw [← hd] at ok5
      rw [← hd]
      have HD := Lib.hid hd
      obtain ⟨W6, hW6⟩ : ∃ W, W = w5.alloc (.cells #[.int .i64 d.no, .int .i64 d.dev, .int .i64 d.kind, .int .i64 d.mode, .int .i64 d.uid, .int .i64 d.gid, .int .i64 d.mtime, .int .i64 d.ctime, .int .i64 d.links, .int .i64 d.up, .string (bs d.data), .slice A5 d.ents.length c5] 42) := ⟨_, rfl⟩
      obtain ⟨b17, hb17⟩ : ∃ b, b = w5.heap.size := ⟨_, rfl⟩
      have E56 : Ext w5 W6 := by rw [hW6]; exact (Ext.refl _).alloc _
      have D6 : Has W6 b17 (.cells #[.int .i64 d.no, .int .i64 d.dev, .int .i64 d.kind, .int .i64 d.mode, .int .i64 d.uid, .int .i64 d.gid, .int .i64 d.mtime, .int .i64 d.ctime, .int .i64 d.links, .int .i64 d.up, .string (bs d.data), .slice A5 d.ents.length c5] 42) := by rw [hW6, hb17]; exact Has.new _ _
      have E6 := (Er.trans b5').trans E56
      have F6 := (Fr.ext b5').ext E56
      have C6 := (Cr.ext b5').ext E56
      have hat6 := (hat1.ext b5').ext E56
      have ok6 := ok5.ext E56
      have hE : Hid (stepE S cu cg at_ p = if d.kind ≠ 1 then 9 else if mayB cu cg d.uid d.gid d.mode 1 = false then 6 else if p = [46, 46] then 0 else if 255 < p.length then 13 else 0) := by show _ = _; rw [hd]; rfl
      have k2 : W6.cell? ⟨b17, 2, none⟩ = some (.int .i64 d.kind) := D6.cell 2
      have kz := D6.lt
      clear hd hRR Fr Cr Er hat1 ok5
      go_upto_region 9 with fail
      rw [← hW6, ← hb17]
      clear hW6 hb17 b5' E56
      by_cases q1 : d.kind = 1
      case neg =>
        have t1 : (d.kind == 1) = false := by simpa using q1
        have t1b : (d.kind != 1) = true := by simpa using q1
        have e0 : stepE S cu cg at_ p = 9 := by rw [hE.out, if_pos q1]
        have e1 : Hid (R = (fndZ, 9)) := by show _ = _; rw [HR.out, seek_err (by rw [e0]; decide), e0]
        clear q1 e0 HR
        have z0 := F6.cell 0
        have z1 := F6.cell 1
        have z2 := F6.cell 2
        have z3 := F6.cell 3
        have zf0 := Has.free F6 0
        have zf1 := Has.free F6 1
        have zf2 := Has.free F6 2
        have zf3 := Has.free F6 3
        have zz := F6.lt
        obtain ⟨R9, O9⟩ := found_set (fndZ : FndD) F6
        go_upto_region 10 with fail
        iterate 15 (first | go_values | go_skip | go_guarded | go_step | go_upon | go_back)
        refine bodyPost_ret (v := .tuple #[.agg (fndC fndZ).toArray, .int .i64 9]) (res_found Try.results11 _ _ b8 fndZ _ rfl rfl R9) rfl ?_
        exact FndR.mk E6 hb8w O9 e1.out
      have t1 : (d.kind == 1) = true := by simpa using q1
      have t1b : (d.kind != 1) = false := by simpa using q1
      obtain ⟨u, hu⟩ : ∃ u, u = mayB cu cg d.uid d.gid d.mode 1 := ⟨_, rfl⟩
      have hE2 : Hid (stepE S cu cg at_ p = if u = false then 6 else if p = [46, 46] then 0 else if 255 < p.length then 13 else 0) := by show _ = _; rw [hE.out, if_neg (fun k => k q1), hu]
      have HU := Lib.hid hu
      clear q1 hE hu
      obtain ⟨n0, n1, n2, n3, n4, n5, n6, n7, n8, n9, n10, n11⟩ := D6.node12
      have x0 : W6.cell? ⟨b5, 0, none⟩ = some (.int .i64 cu) := C6.cell 0
      have x1 : W6.cell? ⟨b5, 1, none⟩ = some (.int .i64 cg) := C6.cell 1
      have xz := C6.lt
      go_wp2_with fail
      refine (rnode_any cu cg _ _ _ d.mode d.uid d.gid _ _ _ _ _ _ 1 _).mono ?_
      rw [← HU.out]
      rintro e w7 ⟨rfl, b7⟩
      have E7 := E6.trans b7
      have F7 := F6.ext b7
      have C7 := C6.ext b7
      have D7 := D6.ext b7
      have hat7 := hat6.ext b7
      have ok7 := ok6.ext b7
      clear n0 n1 n2 n3 n4 n5 n6 n7 n8 n9 n10 n11 x0 x1 xz k2 kz E6 F6 C6 D6 hat6 ok6 b7
      cases u with
      | false =>
        have e0 : stepE S cu cg at_ p = 6 := by rw [hE2.out, if_pos rfl]
        have e1 : Hid (R = (fndZ, 6)) := by show _ = _; rw [HR.out, seek_err (by rw [e0]; decide), e0]
        clear e0 HR
        have z0 := F7.cell 0
        have z1 := F7.cell 1
        have z2 := F7.cell 2
        have z3 := F7.cell 3
        have zf0 := Has.free F7 0
        have zf1 := Has.free F7 1
        have zf2 := Has.free F7 2
        have zf3 := Has.free F7 3
        have zz := F7.lt
        obtain ⟨R9, O9⟩ := found_set (fndZ : FndD) F7
        go_upto_region 12 with fail
        iterate 15 (first | go_values | go_skip | go_guarded | go_step | go_upon | go_back)
        refine bodyPost_ret (v := .tuple #[.agg (fndC fndZ).toArray, .int .i64 6]) (res_found Try.results11 _ _ b8 fndZ _ rfl rfl R9) rfl ?_
        exact FndR.mk E7 hb8w O9 e1.out
      | true =>
        have hE3 : Hid (stepE S cu cg at_ p = if p = [46, 46] then 0 else if 255 < p.length then 13 else 0) := by show _ = _; rw [hE2.out, if_neg (by decide)]
        obtain ⟨XP, hXP⟩ : ∃ Y, Y = bs p := ⟨_, rfl⟩
        have hlX : (XP.size : Int) = p.length := by rw [hXP, bs_size]
        have tX : (XP.toList == [46, 46]) = (p == [46, 46]) := by rw [hXP]; exact txt_tests.2.2.1
        have HXP := Lib.hid hXP
        rw [← hXP]
        clear hE2 hXP
        by_cases q2 : p = [46, 46]
        · have t2 : (XP.toList == [46, 46]) = true := by rw [tX, q2]; rfl
          have e0 : stepE S cu cg at_ p = 0 := by rw [hE3.out, if_pos q2]
          have HR2 : Hid (R = seekF S cu cg fol (aboveF S at_) l hp m) := by show _ = _; rw [HR.out, seek_up e0 q2]
          clear tX q2 e0 HR hlX
          go_wp2_with fail
          refine (rabove_any B g S X0 at_ _ (h.ext E7) hnl1 T.eight T.roots T.nos).mono ?_
          rintro e w8 ⟨rfl, b8'⟩
          obtain ⟨z, hz⟩ : ∃ z, z = aboveF S at_ := ⟨_, rfl⟩
          rw [← hz] at HR2
          rw [← hz]
          clear hz
          have F8 := F7.ext b8'
          have C8 := C7.ext b8'
          have hat8 := hat7.ext b8'
          have E8 := E7.trans b8'
          go_wp2_with fail
          go_roundw
          case rel => exact ⟨z, l, hp, m, some X, cap - 1, rfl, rfl, rfl, rfl, hat8, by simp, HLC.out, HLP, by have := HLL.out; omega, hh8, HR2, F8, C8, E8⟩
          case measure => have := HMR.out; simp [intOf, lenV] at this ⊢; omega
        have t2 : (XP.toList == [46, 46]) = false := by rw [tX]; simpa using q2
        have HC2 := Lib.hid q2
        have hE4 : Hid (stepE S cu cg at_ p = if 255 < p.length then 13 else 0) := by show _ = _; rw [hE3.out, if_neg q2]
        clear tX q2 hE3
        by_cases q3 : 255 < p.length
        · have t3 : (255 : Int) < XP.size := by omega
          have e0 : stepE S cu cg at_ p = 13 := by rw [hE4.out, if_pos q3]
          have e1 : Hid (R = (fndZ, 13)) := by show _ = _; rw [HR.out, seek_err (by rw [e0]; decide), e0]
          clear q3 e0 HR hlX
          have z0 := F7.cell 0
          have z1 := F7.cell 1
          have z2 := F7.cell 2
          have z3 := F7.cell 3
          have zf0 := Has.free F7 0
          have zf1 := Has.free F7 1
          have zf2 := Has.free F7 2
          have zf3 := Has.free F7 3
          have zz := F7.lt
          obtain ⟨R9, O9⟩ := found_set (fndZ : FndD) F7
          go_upto_region 16 with fail
          iterate 15 (first | go_values | go_skip | go_guarded | go_step | go_upon | go_back)
          refine bodyPost_ret (v := .tuple #[.agg (fndC fndZ).toArray, .int .i64 13]) (res_found Try.results11 _ _ b8 fndZ _ rfl rfl R9) rfl ?_
          exact FndR.mk E7 hb8w O9 e1.out
        have t3 : ¬ (255 : Int) < XP.size := by omega
        have HS0 : Hid (stepE S cu cg at_ p = 0) := by show _ = _; rw [hE4.out, if_neg q3]
        have y11 : w7.cell? ⟨b17, 11, none⟩ = some (.slice A5 d.ents.length c5) := D7.cell 11
        have yz := D7.lt
        clear q3 hE4 hlX
        go_wp2_with fail
        rw [HXP.out]
        refine (rfind_any A5 d.ents c5 p _ ok7.ents.ents (by have := HRR.out.2; omega)).mono ?_
        rintro e w8 ⟨rfl, b8'⟩
        rw [← HXP.out]
        obtain ⟨fo, hfo⟩ : ∃ fo, fo = findF d.ents p := ⟨_, rfl⟩
        rw [← hfo]
        have HFO := Lib.hid hfo
        have E8 := E7.trans b8'
        clear hfo y11 yz
        go_wp2_with fail
        refine (rover_any B g S X0 fo _ (h.ext E8) (by have := T.eight; omega)).mono ?_
        rintro e w9' ⟨rfl, b9'⟩
        obtain ⟨z, hz⟩ : ∃ z, z = overF S.devs fo := ⟨_, rfl⟩
        rw [← hz]
        have HZ3 : Hid (z = stepN S at_ p) := by show _ = _; rw [hz, HFO.out, HD.out]; rfl
        have E9 := E8.trans b9'
        clear hz
        go_wp2_with fail
        refine (rget_any B g S X0 z _ (h.ext E9) hnl1 T.nos).mono ?_
        rintro e w10 ⟨A10, c10, rfl, ok10, b10⟩
        obtain ⟨nd, hnd⟩ : ∃ nd, nd = getN S.nodes z := ⟨_, rfl⟩
        obtain ⟨is, his⟩ : ∃ is, is = isN S.nodes z := ⟨_, rfl⟩
        have hno1 : is = true → nd.no = z ∧ z ≠ 0 := fun k => by
          rw [his] at k
          obtain ⟨_, e1, e2⟩ := isN_true k
          have := (T.nos.2 _ e2).1
          rw [hnd]
          exact ⟨e1, by rw [← e1]; omega⟩
        have hno0 : is = false → nd.no = 0 := fun k => by
          rw [his] at k
          rw [hnd, (isN_false k).1]; rfl
        rw [← hnd]
        have HND := Lib.hid hnd
        have HIS := Lib.hid his
        have HNO1 := Lib.hid hno1
        have HNO0 := Lib.hid hno0
        obtain ⟨W11, hW11⟩ : ∃ W, W = w10.alloc (.cells #[.int .i64 nd.no, .int .i64 nd.dev, .int .i64 nd.kind, .int .i64 nd.mode, .int .i64 nd.uid, .int .i64 nd.gid, .int .i64 nd.mtime, .int .i64 nd.ctime, .int .i64 nd.links, .int .i64 nd.up, .string (bs nd.data), .slice A10 nd.ents.length c10] 42) := ⟨_, rfl⟩
        obtain ⟨b18, hb18⟩ : ∃ b, b = w10.heap.size := ⟨_, rfl⟩
        have E1011 : Ext w10 W11 := by rw [hW11]; exact (Ext.refl _).alloc _
        have N11 : Has W11 b18 (.cells #[.int .i64 nd.no, .int .i64 nd.dev, .int .i64 nd.kind, .int .i64 nd.mode, .int .i64 nd.uid, .int .i64 nd.gid, .int .i64 nd.mtime, .int .i64 nd.ctime, .int .i64 nd.links, .int .i64 nd.up, .string (bs nd.data), .slice A10 nd.ents.length c10] 42) := by rw [hW11, hb18]; exact Has.new _ _
        have E711 : Ext w7 W11 := ((b8'.trans b9').trans b10).trans E1011
        have E11 := E7.trans E711
        have F11 := F7.ext E711
        have C11 := C7.ext E711
        have hat11 := hat7.ext E711
        clear hnd his hno1 hno0 F7 C7 D7 hat7 ok7 E7 E8 E9 ok10
        go_upto_region 18 with fail
        rw [← hW11, ← hb18]
        clear hW11 hb18 b8' b9' b10 E1011 E711
        have y0 : W11.cell? ⟨b18, 0, none⟩ = some (.int .i64 nd.no) := N11.cell 0
        have y2 : W11.cell? ⟨b18, 2, none⟩ = some (.int .i64 nd.kind) := N11.cell 2
        have y10 : W11.cell? ⟨b18, 10, none⟩ = some (.string (bs nd.data)) := N11.cell 10
        have yz := N11.lt
        cases is with
        | false =>
          have HI : Hid (isN S.nodes (stepN S at_ p) = false) := by show _ = _; rw [← HZ3.out]; exact HIS.out.symm
          rw [HNO0.out rfl] at y0
          cases lb with
          | true =>
            have e1 : Hid (R = (⟨at_, p, 0, m⟩, 0)) := by
              show _ = _
              rw [HR.out, seek_free HS0.out HC2.out HI.out]
              have := HLB.out
              cases l with
              | nil => rfl
              | cons a l => cases this
            clear HR y2 y10
            go_upto_region 21 with fail
            rw [HXP.out]
            have z0 := F11.cell 0
            have z1 := F11.cell 1
            have z2 := F11.cell 2
            have z3 := F11.cell 3
            have zf0 := Has.free F11 0
            have zf1 := Has.free F11 1
            have zf2 := Has.free F11 2
            have zf3 := Has.free F11 3
            have zz := F11.lt
            obtain ⟨R9, O9⟩ := found_set (⟨at_, p, 0, m⟩ : FndD) F11
            iterate 24 (first | go_values | go_skip | go_guarded | go_step | go_upon | go_back)
            refine bodyPost_ret (v := .tuple #[.agg (fndC ⟨at_, p, 0, m⟩).toArray, .int .i64 0]) (res_found Try.results11 _ _ b8 ⟨at_, p, 0, m⟩ _ rfl rfl R9) rfl ?_
            exact FndR.mk E11 hb8w O9 e1.out
          | false =>
            have e1 : Hid (R = (fndZ, 5)) := by
              show _ = _
              rw [HR.out, seek_none HS0.out HC2.out HI.out]
              rintro rfl
              cases HLB.out
            clear HR y2 y10
            have z0 := F11.cell 0
            have z1 := F11.cell 1
            have z2 := F11.cell 2
            have z3 := F11.cell 3
            have zf0 := Has.free F11 0
            have zf1 := Has.free F11 1
            have zf2 := Has.free F11 2
            have zf3 := Has.free F11 3
            have zz := F11.lt
            obtain ⟨R9, O9⟩ := found_set (fndZ : FndD) F11
            go_upto_region 19 with fail
            iterate 15 (first | go_values | go_skip | go_guarded | go_step | go_upon | go_back)
            refine bodyPost_ret (v := .tuple #[.agg (fndC fndZ).toArray, .int .i64 5]) (res_found Try.results11 _ _ b8 fndZ _ rfl rfl R9) rfl ?_
            exact FndR.mk E11 hb8w O9 e1.out
        | true =>
          have HI : Hid (isN S.nodes (stepN S at_ p) = true) := by show _ = _; rw [← HZ3.out]; exact HIS.out.symm
          obtain ⟨hnz, hz0⟩ := HNO1.out rfl
          rw [hnz] at y0
          have t5 : (z == 0) = false := by simpa using hz0
          obtain ⟨k3, hk3⟩ : ∃ k : Bool, k = (nd.kind == 3) := ⟨_, rfl⟩
          obtain ⟨k1, hk1⟩ : ∃ k : Bool, k = (nd.kind != 1) := ⟨_, rfl⟩
          have t6 := hk3.symm
          have t7 := hk1.symm
          have HK3 := Lib.hid hk3
          have HK1 := Lib.hid hk1
          obtain ⟨bv, hbv⟩ : ∃ bv : Bool, bv = (k3 && (!lb || (m || fol))) := ⟨_, rfl⟩
          have HBV := Lib.hid hbv
          clear hk3 hk1 hbv hnz hz0
          go_upto_region 22 with fail
          go_cut [96] (fun v wc => v = .bool bv ∧ wc = W11)
          case first =>
            have hb : Hid (bv = (k3 && (!lb || (m || fol)))) := HBV
            cases k3
            · have e : Hid (bv = false) := by show _ = _; rw [hb.out]; rfl
              clear HBV hb
              go_wp2_with fail
              go_meet
              exact ⟨by rw [e.out], rfl⟩
            · cases lb
              · have e : Hid (bv = true) := by show _ = _; rw [hb.out]; rfl
                clear HBV hb
                go_wp2_with fail
                go_meet
                exact ⟨by rw [e.out], rfl⟩
              · cases m
                · cases fol
                  · have e : Hid (bv = false) := by show _ = _; rw [hb.out]; rfl
                    clear HBV hb
                    go_wp2_with fail
                    go_meet
                    exact ⟨by rw [e.out], rfl⟩
                  · have e : Hid (bv = true) := by show _ = _; rw [hb.out]; rfl
                    clear HBV hb
                    go_wp2_with fail
                    go_meet
                    exact ⟨by rw [e.out], rfl⟩
                · have e : Hid (bv = true) := by show _ = _; rw [hb.out]; rfl
                  clear HBV hb
                  go_wp2_with fail
                  go_meet
                  exact ⟨by rw [e.out], rfl⟩
          case rest =>
            obtain ⟨rfl, hwc⟩ := hcut
            obtain rfl : W11 = wc := hwc.symm
            cases bv with
            | true =>
              have hb3 : k3 = true ∧ (l ≠ [] ∨ m = true ∨ fol = true) := by
                have := HBV.out
                cases k3
                · cases this
                · refine ⟨rfl, ?_⟩
                  cases hm : m
                  · cases hf : fol
                    · left
                      rintro rfl
                      rw [hm, hf, HLB.out] at this
                      cases this
                    · exact .inr (.inr rfl)
                  · exact .inr (.inl rfl)
              have HK : Hid ((getN S.nodes (stepN S at_ p)).kind = 3) := by
                show _ = _
                have h2 := hb3.1
                rw [HK3.out, HND.out, HZ3.out] at h2
                simpa using h2
              have HOR := Lib.hid hb3.2
              have HDD : Hid (nd.data = (getN S.nodes (stepN S at_ p)).data) := by show _ = _; rw [HND.out, HZ3.out]
              have HDL : Hid (nd.data.length ≤ 1048576) := by
                show _ ≤ _
                rw [HDD.out]
                exact (T.on _ (isN_true HI.out).2.2).2
              obtain ⟨h1, hh1⟩ : ∃ h1 : Nat, h1 = hp + 1 := ⟨_, rfl⟩
              have q4 : IntKind.i64.wrap ((hp : Int) + 1) = (h1 : Int) := by rw [IntWalk.i64_in _ (by omega)]; omega
              have HH1 := Lib.hid hh1
              obtain ⟨dt, hdt⟩ : ∃ dt, dt = nd.data := ⟨_, rfl⟩
              rw [← hdt] at y10 HDD HDL
              clear hb3 hh1 t6 t7 y0 y2 t5
              by_cases q5 : 8 < h1
              · have t8 : (8 : Int) < (h1 : Int) := by omega
                have e1 : Hid (R = (fndZ, 12)) := by show _ = _; rw [HR.out, seek_loop HS0.out HC2.out HI.out HK.out HOR.out (by rw [← HH1.out]; exact q5)]
                clear q5 HR
                have z0 := F11.cell 0
                have z1 := F11.cell 1
                have z2 := F11.cell 2
                have z3 := F11.cell 3
                have zf0 := Has.free F11 0
                have zf1 := Has.free F11 1
                have zf2 := Has.free F11 2
                have zf3 := Has.free F11 3
                have zz := F11.lt
                obtain ⟨R9, O9⟩ := found_set (fndZ : FndD) F11
                go_upto_region 25 with fail
                iterate 15 (first | go_values | go_skip | go_guarded | go_step | go_upon | go_back)
                refine bodyPost_ret (v := .tuple #[.agg (fndC fndZ).toArray, .int .i64 12]) (res_found Try.results11 _ _ b8 fndZ _ rfl rfl R9) rfl ?_
                exact FndR.mk E11 hb8w O9 e1.out
              have t8 : ¬ (8 : Int) < (h1 : Int) := by omega
              have H8 : Hid (¬ 8 < hp + 1) := by show ¬ _; rw [← HH1.out]; exact q5
              clear q5
              cases dt with
              | nil =>
                have e1 : Hid (R = (fndZ, 5)) := by show _ = _; rw [HR.out, seek_empty HS0.out HC2.out HI.out HK.out HOR.out H8.out HDD.out.symm]
                have u0 : (bs []).toList = [] := bs_toList []
                clear HR hdt
                have z0 := F11.cell 0
                have z1 := F11.cell 1
                have z2 := F11.cell 2
                have z3 := F11.cell 3
                have zf0 := Has.free F11 0
                have zf1 := Has.free F11 1
                have zf2 := Has.free F11 2
                have zf3 := Has.free F11 3
                have zz := F11.lt
                obtain ⟨R9, O9⟩ := found_set (fndZ : FndD) F11
                go_upto_region 27 with fail
                iterate 15 (first | go_values | go_skip | go_guarded | go_step | go_upon | go_back)
                refine bodyPost_ret (v := .tuple #[.agg (fndC fndZ).toArray, .int .i64 5]) (res_found Try.results11 _ _ b8 fndZ _ rfl rfl R9) rfl ?_
                exact FndR.mk E11 hb8w O9 e1.out
              | cons ch tt =>
                have HR2 : Hid (R = seekF S cu cg fol (if (ch :: tt).head? = some 47 then 1 else at_) (partsN (ch :: tt) ++ l) (hp + 1) (m || (l.isEmpty && slashB (ch :: tt)))) := by
                  show _ = _
                  rw [HR.out, seek_link HS0.out HC2.out HI.out HK.out HOR.out H8.out (by rw [← HDD.out]; simp), ← HDD.out]
                obtain ⟨at2, hat2⟩ : ∃ a : Int, a = if (ch :: tt).head? = some 47 then 1 else at_ := ⟨_, rfl⟩
                obtain ⟨v, hv⟩ : ∃ v : Bool, v = (ch == 47) := ⟨_, rfl⟩
                have hks : 0 < (bs (ch :: tt)).size := by rw [bs_size]; simp
                have hs2 : (((bs (ch :: tt))[0].toNat : Int) == 47) = v := by rw [show (bs (ch :: tt))[0] = ch from rfl, hv]; exact u8_eq (c := ch) (d := 47)
                have HV1 : Hid (v = true → at2 = 1) := by show _ → _; intro k; rw [hv] at k; rw [hat2, if_pos (by simpa using k)]
                have HV0 : Hid (v = false → at2 = at_) := by show _ → _; intro k; rw [hv] at k; rw [hat2, if_neg (by simpa using k)]
                rw [← hat2] at HR2
                have u0 : (bs (ch :: tt)).toList.isEmpty = false := by rw [bs_toList]; rfl
                clear hat2 hv HR hdt
                go_upto_if 109 with fail
                go_cut [13] (fun x wc => x = .int .i64 at2 ∧ wc = W11)
                case first =>
                  cases v
                  · have e2 := Lib.hid (HV0.out rfl)
                    clear HV0 HV1
                    go_wp2_with fail
                    go_meet
                    exact ⟨by rw [e2.out], rfl⟩
                  · have e2 := Lib.hid (HV1.out rfl)
                    clear HV0 HV1
                    go_wp2_with fail
                    go_meet
                    exact ⟨by rw [e2.out], rfl⟩
                case rest =>
                  obtain ⟨rfl, hwc⟩ := hcut
                  obtain rfl : W11 = wc := hwc.symm
                  obtain ⟨sl, hsl⟩ : ∃ sl, sl = slashB (ch :: tt) := ⟨_, rfl⟩
                  obtain ⟨m2, hm2⟩ : ∃ m2, m2 = (m || (l.isEmpty && slashB (ch :: tt))) := ⟨_, rfl⟩
                  have HM : Hid (m2 = (m || (lb && sl))) := by show _ = _; rw [hm2, HLB.out, hsl]
                  have HSL := Lib.hid hsl
                  rw [← hm2] at HR2
                  clear hsl hm2 HV0 HV1 hs2 u0 hks
                  go_upto_region 30 with fail
                  go_cut [12] (fun x wc => x = .bool m2 ∧ Ext W11 wc)
                  case first =>
                    cases m
                    · cases lb
                      · have e2 : Hid (m2 = false) := by show _ = _; rw [HM.out]; rfl
                        go_wp2_with fail
                        go_meet
                        exact ⟨by rw [e2.out], Ext.refl _⟩
                      · have e2 : Hid (m2 = sl) := by show _ = _; rw [HM.out]; rfl
                        go_wp2_with fail
                        refine (rslash_any (ch :: tt) _ (by have := HDL.out; omega)).mono ?_
                        rw [← HSL.out, ← e2.out]
                        rintro e w12 ⟨rfl, b12⟩
                        go_wp2_with fail
                        go_meet
                        exact ⟨rfl, b12⟩
                    · have e2 : Hid (m2 = true) := by show _ = _; rw [HM.out]; rfl
                      go_wp2_with fail
                      go_meet
                      exact ⟨by rw [e2.out], Ext.refl _⟩
                  case rest =>
                    obtain ⟨rfl, b12⟩ := hcut
                    have N12 := N11.ext b12
                    have y12 : wc.cell? ⟨b18, 10, none⟩ = some (.string (bs (ch :: tt))) := (b12.cell yz).trans y10
                    have yz2 := N12.lt
                    clear y10 yz
                    go_wp2_with fail
                    refine (rparts_any (ch :: tt) _ (by have := HDL.out; omega)).mono ?_
                    rintro e w13 ⟨v13, rfl, ok13, b13⟩
                    have hat13 := (hat11.ext b12).ext b13
                    have hpl2 := parts_len (ch :: tt)
                    obtain ⟨v14, w14, hr14, hO14, hg14⟩ := app_texts (some X) (cap - 1) l w13 ok13 hat13 (by simp) b13.size (by have := HDL.out; omega) (by have := HLL.out; omega)
                    have E14 : Ext wc w14 := b13.grown hg14 (fun g hv => (World.ownsRow.lt ok13 g hv).1)
                    have HR14 := Lib.hid hr14
                    obtain ⟨A14, c14, rfl, hA14, hA14b, hat14, hA14c⟩ := OwnT.at_ hO14
                    have HA14 := Lib.hid hA14
                    have F14 := (F11.ext b12).ext E14
                    have C14 := (C11.ext b12).ext E14
                    have E15 := (E11.trans b12).trans E14
                    have HLN : Hid ((partsN (ch :: tt) ++ l).length ≤ 1050000 * (hp + 1 + 1)) := by
                      show _ ≤ _
                      have := HDL.out
                      have := HLL.out
                      rw [List.length_append]
                      omega
                    have HLP2 : Hid (∀ q ∈ partsN (ch :: tt) ++ l, q.length ≤ 1100000) := by
                      show ∀ q ∈ _, _
                      intro q hq
                      rcases List.mem_append.1 hq with hq | hq
                      · have := part_len hq
                        have := HDL.out
                        omega
                      · exact HLP.out q hq
                    clear hr14 hO14 hg14 hA14 hA14b hat13 y12
                    go_wp2_with (at_builtin; refine Lib.wpList_append_run _ rfl _ _ 25 25 rfl _ _ rfl rfl _ _ HR14.out ?_)
                    have H8b := Lib.hid (show hp + 1 ≤ 8 by have := H8.out; omega)
                    go_roundw
                    case rel => exact ⟨at2, partsN (ch :: tt) ++ l, hp + 1, m2, A14, c14, by rw [List.length_append], rfl, rfl, by rw [HH1.out], hat14, hA14c, HA14.out, HLP2, HLN.out, H8b.out, HR2, F14, C14, E15⟩
                    case measure =>
                      have h1' := HLN.out
                      rw [List.length_append] at h1'
                      have h2' := H8b.out
                      have h3' := HH1.out
                      simp only [intOf, lenV]
                      omega
            | false =>
              have HN3 : Hid (¬ ((getN S.nodes (stepN S at_ p)).kind = 3 ∧ (l ≠ [] ∨ m = true ∨ fol = true))) := by
                show ¬ _
                rintro ⟨h1, h2⟩
                have h3 : k3 = true := by rw [HK3.out, HND.out, HZ3.out]; simpa using h1
                have := HBV.out
                rw [h3] at this
                rcases h2 with h2 | h2 | h2
                · have h4 : lb = false := by
                    rw [HLB.out]
                    cases l with
                    | nil => exact absurd rfl h2
                    | cons a l => rfl
                  rw [h4] at this; cases this
                · rw [h2] at this; cases lb <;> cases this
                · rw [h2] at this; cases lb <;> cases m <;> cases this
              obtain ⟨bw, hbw2⟩ : ∃ bw : Bool, bw = (k1 && (!lb || m)) := ⟨_, rfl⟩
              have HBW := Lib.hid hbw2
              clear hbw2 HBV HK3 t6 y10
              go_upto_region 32 with fail
              go_cut [133] (fun v wc => v = .bool bw ∧ wc = W11)
              case first =>
                have hb := HBW
                cases k1
                · have e : Hid (bw = false) := by show _ = _; rw [hb.out]; rfl
                  clear HBW hb
                  go_wp2_with fail
                  go_meet
                  exact ⟨by rw [e.out], rfl⟩
                · cases lb
                  · have e : Hid (bw = true) := by show _ = _; rw [hb.out]; rfl
                    clear HBW hb
                    go_wp2_with fail
                    go_meet
                    exact ⟨by rw [e.out], rfl⟩
                  · cases m
                    · have e : Hid (bw = false) := by show _ = _; rw [hb.out]; rfl
                      clear HBW hb
                      go_wp2_with fail
                      go_meet
                      exact ⟨by rw [e.out], rfl⟩
                    · have e : Hid (bw = true) := by show _ = _; rw [hb.out]; rfl
                      clear HBW hb
                      go_wp2_with fail
                      go_meet
                      exact ⟨by rw [e.out], rfl⟩
              case rest =>
                obtain ⟨rfl, hwc⟩ := hcut
                obtain rfl : W11 = wc := hwc.symm
                have hK1 : k1 = true ↔ (getN S.nodes (stepN S at_ p)).kind ≠ 1 := by rw [HK1.out, HND.out, HZ3.out]; simp
                have hLB : lb = false ↔ l ≠ [] := by
                  rw [HLB.out]
                  cases l <;> simp
                have HKK := Lib.hid hK1
                have HLL2 := Lib.hid hLB
                clear hK1 hLB t7 y2
                cases bw with
                | true =>
                  have e1 : Hid (R = (fndZ, 9)) := by
                    show _ = _
                    have h1 := HBW.out
                    have hk : k1 = true := by cases k1 <;> simp at h1 ⊢
                    rw [hk] at h1
                    rw [HR.out, seek_file HS0.out HC2.out HI.out HN3.out (HKK.out.1 hk)]
                    cases hlb : lb
                    · exact .inl (HLL2.out.1 hlb)
                    · rw [hlb] at h1
                      cases hm : m
                      · rw [hm] at h1; cases h1
                      · exact .inr rfl
                  clear HR HBW
                  have z0 := F11.cell 0
                  have z1 := F11.cell 1
                  have z2 := F11.cell 2
                  have z3 := F11.cell 3
                  have zf0 := Has.free F11 0
                  have zf1 := Has.free F11 1
                  have zf2 := Has.free F11 2
                  have zf3 := Has.free F11 3
                  have zz := F11.lt
                  obtain ⟨R9, O9⟩ := found_set (fndZ : FndD) F11
                  go_upto_region 33 with fail
                  iterate 15 (first | go_values | go_skip | go_guarded | go_step | go_upon | go_back)
                  refine bodyPost_ret (v := .tuple #[.agg (fndC fndZ).toArray, .int .i64 9]) (res_found Try.results11 _ _ b8 fndZ _ rfl rfl R9) rfl ?_
                  exact FndR.mk E11 hb8w O9 e1.out
                | false =>
                  have HN1 : Hid (¬ ((getN S.nodes (stepN S at_ p)).kind ≠ 1 ∧ (l ≠ [] ∨ m = true))) := by
                    show ¬ _
                    rintro ⟨h1, h2⟩
                    have h3 := HBW.out
                    rw [HKK.out.2 h1] at h3
                    rcases h2 with h2 | h2
                    · rw [HLL2.out.2 h2] at h3; cases h3
                    · rw [h2] at h3; cases lb <;> cases h3
                  clear HBW
                  cases lb with
                  | true =>
                    have hl0 : l = [] := by
                      have := HLB.out
                      cases l with
                      | nil => rfl
                      | cons a l => cases this
                    have e1 : Hid (R = (⟨at_, p, z, m⟩, 0)) := by
                      show _ = _
                      rw [HR.out, seek_last HS0.out HC2.out HI.out HN3.out HN1.out hl0, HZ3.out]
                    clear HR hl0
                    have z0 := F11.cell 0
                    have z1 := F11.cell 1
                    have z2 := F11.cell 2
                    have z3 := F11.cell 3
                    have zf0 := Has.free F11 0
                    have zf1 := Has.free F11 1
                    have zf2 := Has.free F11 2
                    have zf3 := Has.free F11 3
                    have zz := F11.lt
                    obtain ⟨R9, O9⟩ := found_set (⟨at_, p, z, m⟩ : FndD) F11
                    go_upto_region 35 with fail
                    rw [HXP.out]
                    iterate 30 (first | go_values | go_skip | go_guarded | go_step | go_upon | go_back)
                    refine bodyPost_ret (v := .tuple #[.agg (fndC ⟨at_, p, z, m⟩).toArray, .int .i64 0]) (res_found Try.results11 _ _ b8 ⟨at_, p, z, m⟩ _ rfl rfl R9) rfl ?_
                    exact FndR.mk E11 hb8w O9 e1.out
                  | false =>
                    have HR2 : Hid (R = seekF S cu cg fol z l hp m) := by
                      show _ = _
                      rw [HR.out, seek_down HS0.out HC2.out HI.out HN3.out HN1.out (HLL2.out.1 rfl), HZ3.out]
                    clear HR
                    go_wp2_with fail
                    go_roundw
                    case rel => exact ⟨z, l, hp, m, some X, cap - 1, rfl, rfl, rfl, rfl, hat11, by simp, HLC.out, HLP, by have := HLL.out; omega, hh8, HR2, F11, C11, E11⟩
                    case measure => have := HMR.out; simp [intOf, lenV] at this ⊢; omega
end Go.Proofs.Ytjblimclakfhfaa
