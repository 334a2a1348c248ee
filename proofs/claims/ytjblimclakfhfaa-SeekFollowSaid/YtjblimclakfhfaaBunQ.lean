/- The law SeekFollow, walked. -/
import Derived.Test.YtjblimclakfhfaaBunO
import Derived.Test.YtjblimclakfhfaaBunP
namespace Go.Proofs.Ytjblimclakfhfaa
open Go.ChangeShapes Go.WideShapes Go.ChangeAt Go.RowKit

theorem pathF_fol {c : Nat} {S : TreeD} (h : Tre c S) (m : Mounts S) (hf : (S.nodes.length : Int) = S.last) (hab : ∀ d, (getN S.nodes d).kind = 1 → aboveF S d ≠ 0) (cu cg : Int) (p : List UInt8) : FolOk S (pathF S cu cg p false) (pathF S cu cg p true) := by
  unfold pathF
  split
  · exact follow_seek h m hf hab cu cg (partsN p) 0 (fun q hq => (parts_no hq).2.1) 1 (slashB p) (by decide)
  · rename_i h0
    exact fol_bad h0 h0
theorem above_ne {c : Nat} {S : TreeD} (h : Tre c S) {d : Int} (hk : (getN S.nodes d).kind = 1) : aboveF S d ≠ 0 := by
  obtain ⟨i1, i2, i3⟩ := getN_node hk
  have up : ∀ n ∈ S.nodes, n.kind = 1 → n.up ≠ 0 := fun n hn hk => by
    have := (h.nos.2 n hn).1
    rcases h.ups0 n hn hk with ⟨_, u⟩ | ⟨_, _, q, hq, u, _⟩
    · omega
    · have := (h.nos.2 q hq).1; omega
  unfold aboveF
  rw [if_pos hk]
  split
  · rename_i hr
    rcases rootF_zero h.roots (getN S.nodes d).dev with ⟨e1, _⟩ | ⟨k, hkl, e1, _, e3, e4, e5, _⟩
    · rw [e1] at hr
      have := (h.nos.2 _ i3).1
      omega
    · obtain ⟨j, rfl⟩ : ∃ j, k = j + 1 := ⟨k - 1, by omega⟩
      rw [e3]
      obtain ⟨q, hq, o1, o2, _, _⟩ := h.overs j hkl
      have hg := (mem_getN h.nos hq).1
      rw [o1] at hg
      rw [hg]
      exact up q hq o2
  · exact up _ i3 hk
set_option maxRecDepth 100000 in
set_option maxHeartbeats 16000000 in
theorem seekFollow_any (A : Option Addr) (l : List ItemD) (cap : Nat) (cu cg : Int) (nm : List UInt8) (w : World) (hA : ItemsAt w A l) (hlen : l.length ≤ 9223372036854775807) :
    Calls Try.prog 4 #[.slice A l.length cap, .agg #[.int .i64 cu, .int .i64 cg], .string (bs nm)] w (Ret w (.bool true)) := by
  obtain ⟨W1, hW1⟩ : ∃ W, W = w.alloc (.cells #[.int .i64 cu, .int .i64 cg] 24) := ⟨_, rfl⟩
  have E1 : Ext w W1 := by rw [hW1]; exact (Ext.refl _).alloc _
  have B1 : Has W1 w.heap.size (.cells #[.int .i64 cu, .int .i64 cg] 24) := by rw [hW1]; exact Has.new _ _
  obtain ⟨m, hm⟩ : ∃ m, m = l.length := ⟨_, rfl⟩
  have hlen' := hlen
  rw [← hm] at hlen' ⊢
  have HM := Lib.hid hm
  have KF : Hid (Calls Try.prog 7 #[.slice A m cap] W1 (FewR W1 l)) := by show Calls _ _ _ _ _; rw [HM.out]; exact few14_any A l cap W1 (hA.ext E1) hlen
  clear hm
  have hsz : (bs nm).size = nm.length := bs_size nm
  obtain ⟨q, hq⟩ : ∃ q, q = bs nm := ⟨_, rfl⟩
  rw [← hq] at hsz ⊢
  have HQ := Lib.hid hq
  clear hq
  go_enter Try.func4, Try.ntmps4
  go_upto_region 1 with fail
  rw [← hW1]
  clear hW1
  go_wp2_with fail
  refine KF.out.mono ?_
  rintro e w2 ⟨rfl, ⟨hf, rfl⟩ | ⟨hf, rfl⟩⟩
  case inr =>
    clear hf
    go_wp2_with fail
    refine (awake15 _).mono ?_
    rintro e wz ⟨rfl, bz⟩
    go_wp2_with fail
    go_ret
    exact Ret.mk rfl (E1.trans bz)
  by_cases hnm : 600 < (nm.length : Int)
  case pos =>
    clear hf
    go_wp2_with fail
    refine (awake15 _).mono ?_
    rintro e wz ⟨rfl, bz⟩
    go_wp2_with fail
    go_ret
    exact Ret.mk rfl (E1.trans bz)
  have HF := Lib.hid hf
  have HX1 := Lib.hid E1
  have HB1 := Lib.hid B1
  have hG0 := tre_growAll (b := 60000) (n := 60000) (by decide) HF.out
  have hga := good_all (good_first (b := 60000) (n := 60000) (by decide)) l
  have hl40 := HF.out.2
  have KG : Hid (Calls Try.prog 9 #[.int .i64 60000, .int .i64 60000, .slice A m cap] W1 (GrowAllR W1 60000 60000 l)) := by show Calls _ _ _ _ _; rw [HM.out]; exact growAll_any 60000 60000 A l cap W1 (by decide) HF.out (hA.ext E1)
  clear hf KF B1 E1
  go_wp2_with fail
  refine KG.out.mono ?_
  rintro e w3 ⟨g, f, rfl, ⟨K3, F3⟩, E3⟩
  obtain ⟨B, hB⟩ : ∃ B, B = W1.heap.size := ⟨_, rfl⟩
  rw [← hB] at K3 F3
  obtain ⟨S, hS⟩ : ∃ S, S = growAll (firstT 60000 60000) l := ⟨_, rfl⟩
  rw [← hS] at K3 F3
  have hSl : S.last ≤ 41 := by
    have h2 := hga.2
    rw [hS]
    rw [show growAll (rootT emptyT 0 60000 60000) l = growAll (firstT 60000 60000) l from rfl, show (rootT emptyT 0 60000 60000).last = 1 from rfl] at h2
    omega
  have hT0 : Tre 40 S := by rw [hS]; exact hG0
  have hfull : (S.nodes.length : Int) = S.last := by rw [hS]; exact full_first 60000 60000 l
  have HFULL := Lib.hid hfull
  have HT0 := Lib.hid hT0
  have HK3 := Lib.hid K3
  have HF3 := Lib.hid F3
  have HX3 := Lib.hid (HX1.out.trans E3)
  have HB3 := Lib.hid (HB1.out.ext E3)
  have KK : Hid (∀ u, Ext w3 u → WAt u B g S) := fun u h => HK3.out.ext h
  have KFF : Hid (∀ u, Ext w3 u → FAt u B f S x0) := fun u h => HF3.out.ext h
  have hLL : Hid (S.last ≤ 100000) := by show _ ≤ _; omega
  clear hS hga hG0 hl40 KG hB hT0 hfull K3 F3 E3 hSl
  have HFO : Hid (FolOk S (pathF S cu cg nm false) (pathF S cu cg nm true)) := pathF_fol HT0.out HT0.out.mounts HFULL.out (fun d hk => above_ne HT0.out hk) cu cg nm
  have hnl : nm.length ≤ 1000000 := by omega
  have HNL := Lib.hid hnl
  obtain ⟨R, hR⟩ : ∃ R, R = pathF S cu cg nm false := ⟨_, rfl⟩
  obtain ⟨Q, hQ⟩ : ∃ Q, Q = pathF S cu cg nm true := ⟨_, rfl⟩
  rw [← hR, ← hQ] at HFO
  have K1 : Hid (∀ u : World, Ext w3 u → Calls Try.prog 10 #[.pointer (some ⟨g.bW, 0, none⟩), .agg #[.int .i64 cu, .int .i64 cg], .string q, .bool false] u (Ret u (.tuple #[.agg (fndC R.1).toArray, .int .i64 R.2]))) := by
    show ∀ u, _
    intro u hu
    rw [HQ.out, hR]
    exact ppath15_any B g S cu cg nm false u (KK.out u hu) HT0.out (by decide) HNL.out
  have K2 : Hid (∀ u : World, Ext w3 u → Calls Try.prog 10 #[.pointer (some ⟨g.bW, 0, none⟩), .agg #[.int .i64 cu, .int .i64 cg], .string q, .bool true] u (Ret u (.tuple #[.agg (fndC Q.1).toArray, .int .i64 Q.2]))) := by
    show ∀ u, _
    intro u hu
    rw [HQ.out, hQ]
    exact ppath15_any B g S cu cg nm true u (KK.out u hu) HT0.out (by decide) HNL.out
  have BC := HB3.out
  have x0' : w3.cell? ⟨w.heap.size, 0, none⟩ = some (.int .i64 cu) := BC.cell 0
  have x1' : w3.cell? ⟨w.heap.size, 1, none⟩ = some (.int .i64 cg) := BC.cell 1
  have xz := BC.lt
  clear hR hQ hnl hsz hnm
  go_wp2_with fail
  refine (K1.out _ (Ext.refl _)).mono ?_
  rintro e w4 ⟨rfl, E4⟩
  obtain ⟨W5, hW5⟩ : ∃ W, W = w4.alloc (.cells #[.int .i64 R.1.dir, .string (bs R.1.name), .int .i64 R.1.no, .bool R.1.slash] 33) := ⟨_, rfl⟩
  obtain ⟨b10, hb10⟩ : ∃ b, b = w4.heap.size := ⟨_, rfl⟩
  have N5 : Has W5 b10 (.cells (fndC R.1).toArray 33) := by rw [hW5, hb10]; exact Has.new _ _
  have E45 : Ext w4 W5 := by rw [hW5]; exact (Ext.refl _).alloc _
  have E5 := E4.trans E45
  have x0' := (E5.cell xz).trans x0'
  have x1' := (E5.cell xz).trans x1'
  have xz := (BC.ext E5).lt
  go_upto_region 7 with fail
  rw [← hW5, ← hb10]
  clear hW5 hb10 E4 E45
  go_wp2_with fail
  refine (K2.out _ E5).mono ?_
  rintro e w6 ⟨rfl, E6⟩
  obtain ⟨W7, hW7⟩ : ∃ W, W = w6.alloc (.cells #[.int .i64 Q.1.dir, .string (bs Q.1.name), .int .i64 Q.1.no, .bool Q.1.slash] 33) := ⟨_, rfl⟩
  obtain ⟨b12, hb12⟩ : ∃ b, b = w6.heap.size := ⟨_, rfl⟩
  have M7 : Has W7 b12 (.cells (fndC Q.1).toArray 33) := by rw [hW7, hb12]; exact Has.new _ _
  have E67 : Ext w6 W7 := by rw [hW7]; exact (Ext.refl _).alloc _
  have E7 := (E5.trans E6).trans E67
  have N7 := (N5.ext E6).ext E67
  clear x0' x1' xz
  go_upto_region 8 with fail
  rw [← hW7, ← hb12]
  clear hW7 hb12 E5 E6 E67 N5 K1 K2
  obtain ⟨re, hre⟩ : ∃ e, e = R.2 := ⟨_, rfl⟩
  obtain ⟨qe, hqe⟩ : ∃ e, e = Q.2 := ⟨_, rfl⟩
  rw [← hre, ← hqe]
  by_cases hr0 : re = 0
  case neg =>
    have h1 := HFO.out.bad (by rw [← hre]; exact hr0)
    have t0 : (re == 0) = false := by simpa using hr0
    have t0b : (re != 0) = true := by simpa using hr0
    have t1 : (qe != 0) = true := by have := h1.2; rw [← hqe] at this; simpa using this
    have t1b : (qe == 0) = false := by have := h1.2; rw [← hqe] at this; simpa using this
    rw [h1.1] at N7
    have m0 : W7.cell? ⟨b10, 0, none⟩ = some (.int .i64 0) := N7.cell 0
    have m1 : W7.cell? ⟨b10, 1, none⟩ = some (.string ⟨#[]⟩) := N7.cell 1
    have m2 : W7.cell? ⟨b10, 2, none⟩ = some (.int .i64 0) := N7.cell 2
    have m3 : W7.cell? ⟨b10, 3, none⟩ = some (.bool false) := N7.cell 3
    have mz := N7.lt
    clear h1 hr0 hre hqe
    go_wp2_with fail
    refine (awake15 _).mono ?_
    rintro e wz ⟨rfl, bz⟩
    go_wp2_with fail
    go_ret
    exact Ret.mk rfl (HX3.out.trans (E7.trans bz))
  have t0 : (re == 0) = true := by simpa using hr0
  have t0b : (re != 0) = false := by simpa using hr0
  have HR0 : Hid (R.2 = 0) := by show _ = _; rw [← hre]; exact hr0
  obtain ⟨no, hno⟩ : ∃ no, no = R.1.no := ⟨_, rfl⟩
  obtain ⟨A1, k1, ok1, C1⟩ := tget_fix B g S no W7 (KK.out _ E7)
  obtain ⟨n, hn⟩ : ∃ n, n = getN S.nodes no := ⟨_, rfl⟩
  rw [← hn] at ok1 C1
  have HC1 := Lib.hid C1
  have HNN : Hid (n = getN S.nodes R.1.no) := by show _ = _; rw [hn, hno]
  obtain ⟨is, his⟩ : ∃ is, is = isN S.nodes no := ⟨_, rfl⟩
  rw [← his] at HC1
  have m2' : W7.cell? ⟨b10, 2, none⟩ = some (.int .i64 no) := by rw [hno]; exact N7.cell 2
  obtain ⟨_, _, cd, h3, _⟩ := id (KK.out _ E7)
  have v0 : ∀ u : Gr W7, u.w.cell? ⟨g.bW, 0, none⟩ = some (.pointer (some ⟨g.bT, 0, none⟩)) := Gr.cell h3.lt (h3.cell 0)
  have v1 : ∀ u : Gr W7, u.w.cell? ⟨b10, 2, none⟩ = some (.int .i64 no) := Gr.cell N7.lt m2'
  have HNO := Lib.hid hno
  have HQE := Lib.hid hqe
  clear hr0 hre C1 hn his h3 m2' hno hqe
  go_upto_region 10 with fail
  refine wp_region_nbox W7 10 11 14 69 n A1 k1 _ _ (by kernel_rfl) (by kernel_rfl) rfl rfl rfl rfl (by simp) ((Ext.refl _).drew) ?_
  simp only [List.take_succ_cons, List.take_zero, List.drop_succ_cons, List.drop_zero, List.drop_nil]
  repeat (refine wpQuietR_step (fun K hK => ?_)
          go_simp
          first
            | (refine hK _ ?_; clear hK K)
            | (apply Exists.intro
               refine ⟨fun u => ?_, hK _ ?_⟩
               first
                 | ((with_reducible refine (HC1.out _ u.h).mono ?_); rintro e w'' ⟨rfl, hx⟩; exact ⟨rfl, hx⟩)
               clear hK K))
  refine wpQuietR_nil ?_
  refine wpQuietR_nil ⟨rfl, ?_⟩
  refine wpQuietR_step (fun K hK => ?_)
  go_simp
  refine hK _ ?_
  clear hK K
  refine wpQuietR_nil ?_
  intro w8 b14 E8 hb14 G8
  simp only [Act.put]
  have N8 := N7.ext E8
  have M8 := M7.ext E8
  have E78 := E7.trans E8
  have g2 : w8.cell? ⟨b14, 2, none⟩ = some (.int .i64 n.kind) := G8.cell 2
  have gz := G8.lt
  clear v0 v1 HC1 N7 M7 ok1
  obtain ⟨rn, hrn⟩ : ∃ x, x = bs R.1.name := ⟨_, rfl⟩
  obtain ⟨rd, hrd⟩ : ∃ x, x = R.1.dir := ⟨_, rfl⟩
  have m0 : w8.cell? ⟨b10, 0, none⟩ = some (.int .i64 rd) := by rw [hrd]; exact N8.cell 0
  have m1 : w8.cell? ⟨b10, 1, none⟩ = some (.string rn) := by rw [hrn]; exact N8.cell 1
  have m2 : w8.cell? ⟨b10, 2, none⟩ = some (.int .i64 no) := by rw [HNO.out]; exact N8.cell 2
  have m3 := N8.cell 3
  have mz := N8.lt
  have HRN := Lib.hid hrn
  have HRD := Lib.hid hrd
  go_upto_region 11 with fail
  simp only [List.setIfInBounds_toArray, List.set_cons_zero, List.set_cons_succ]
  go_cut [13, 83] (fun _ v wc => v = .bool false ∧ wc = w8)
  case first =>
    by_cases hk3 : n.kind = 3
    · have t3 : (n.kind != 3) = false := by simpa using hk3
      have t3b : (n.kind == 3) = true := by simpa using hk3
      clear hk3 hrn hrd
      go_wp2_with fail
      go_meet
      exact ⟨rfl, rfl⟩
    · have hs := HFO.out.same HR0.out (by rw [← HNN.out]; exact hk3)
      have t3 : (n.kind != 3) = true := by simpa using hk3
      have t3b : (n.kind == 3) = false := by simpa using hk3
      rw [hs] at M8
      have o0 : w8.cell? ⟨b12, 0, none⟩ = some (.int .i64 rd) := by rw [hrd]; exact M8.cell 0
      have o1 : w8.cell? ⟨b12, 1, none⟩ = some (.string rn) := by rw [hrn]; exact M8.cell 1
      have o2 : w8.cell? ⟨b12, 2, none⟩ = some (.int .i64 no) := by rw [HNO.out]; exact M8.cell 2
      have o3 := M8.cell 3
      have oz := M8.lt
      have hq0 : qe = 0 := by rw [HQE.out, hs]; exact HR0.out
      have hre0 : re = 0 := by simpa using t0
      have t4 : (qe != re) = false := by rw [hq0, hre0]; rfl
      clear hk3 hs hrn hrd hq0 hre0
      go_wp2_with fail
      go_meet
      exact ⟨rfl, rfl⟩
  case rest =>
    obtain ⟨rfl, hwc⟩ := hcut
    obtain rfl : w8 = wc := hwc.symm
    clear hrn hrd g2 gz G8
    by_cases hn0 : R.1.name = []
    · have t5 : (rn.toList == []) = true := by rw [HRN.out, hn0, bs_toList]; rfl
      have t5b : rn.toList.isEmpty = true := by rw [HRN.out, hn0, bs_toList]; rfl
      obtain ⟨h4, h5⟩ := HFO.out.top HR0.out hn0
      rw [← HRD.out] at h4
      rw [← HNO.out] at h5
      have t6 : (rd == 0) = true := by simpa using h4
      have t7 : (no != 0) = true := by simpa using h5
      have t7b : (no == 0) = false := by simpa using h5
      clear hn0 h4 h5
      go_wp2_with fail
      refine (awake15 _).mono ?_
      rintro e wz ⟨rfl, bz⟩
      go_wp2_with fail
      go_ret
      exact Ret.mk rfl (HX3.out.trans (E78.trans bz))
    · have t5 : (rn.toList == []) = false := by rw [HRN.out, bs_toList]; simpa using hn0
      have t5b : rn.toList.isEmpty = false := by
        rw [HRN.out, bs_toList]
        cases hh : R.1.name with
        | nil => exact absurd hh hn0
        | cons a b => rfl
      have h6 : lookN S 0 0 rd R.1.name = no := by rw [HRD.out, HNO.out]; exact HFO.out.look HR0.out hn0
      have H6 := Lib.hid h6
      have KL : Hid (Calls Try.prog 13 #[.pointer (some ⟨f.bF, 0, none⟩), .agg #[.int .i64 0, .int .i64 0], .int .i64 rd, .string rn] w8 (Ret w8 (.tuple #[.int .i64 no, .int .i64 (lookE S 0 0 rd R.1.name)]))) := by
        show Calls _ _ _ _ _
        rw [HRN.out, ← H6.out]
        exact rlook_any B f S x0 0 0 rd R.1.name w8 (KFF.out _ E78) HT0.out (by decide) hLL.out
      clear hn0 h6
      go_wp2_with fail
      refine KL.out.mono ?_
      rintro e w9 ⟨rfl, E9⟩
      have m2b := (E9.cell mz).trans m2
      have mzb := (N8.ext E9).lt
      go_wp2_with fail
      refine (awake15 _).mono ?_
      rintro e wz ⟨rfl, bz⟩
      go_wp2_with fail
      go_ret
      exact Ret.mk rfl (HX3.out.trans ((E78.trans E9).trans bz))
set_option maxRecDepth 100000 in
theorem seekFollow_walk {H : Type} {enc : TypeId × Value → H} (W : World) (base : Nat) (v0 v1 v2 : Value) (d0 d1 d2 : DataW H) (p0 p1 p2 : List MemPlace)
    (k0 : Value.okWide Try.prog W .any base 22 v0) (h0 : DataW.Trod enc Try.prog W 0 (fun _ => true) true 22 v0 d0 p0)
    (k1 : Value.okWide Try.prog W .any base 24 v1) (h1 : DataW.Trod enc Try.prog W 0 (fun _ => true) true 24 v1 d1 p1)
    (k2 : Value.okWide Try.prog W .any base 9 v2) (h2 : DataW.Trod enc Try.prog W 0 (fun _ => true) true 9 v2 d2 p2)
    : Calls Try.prog 4 #[v0, v1, v2] W (Ret W (.bool true)) := by
  obtain ⟨A, l, cap, rfl, hA, _, hl, hc⟩ := open_Items k0 h0
  obtain ⟨x, rfl⟩ := open_Cred k1 h1
  obtain ⟨a2, rfl, rfl, rfl, w2⟩ := Go.ChangeMaps.open_string Try.underlying9 k2 h2
  have := seekFollow_any A l cap x.1 x.2 a2.data.toList W hA (by unfold maxLen at hc; omega)
  rwa [show bs a2.data.toList = a2 from rfl] at this
end Go.Proofs.Ytjblimclakfhfaa
