/- Layer 7 (sizes): the law SizesPlays. -/
import Derived.Test.YtmppjbimdonfmaaDoorSizH
import Derived.Deep.RegionHeld3
namespace Go.Proofs.YtmppjbimdonfmaaDoor
open Go.ChangeShapes Go.WideShapes Go.ChangeAt Go.RowKit

def RowR (w : World) (l : List EntD) (e : Ending) (w' : World) : Prop := ∃ v, e = .returned v ∧ RowV w' v l ∧ Ext w w'
theorem RowV.at_ {w : World} {v : Value} {l : List EntD} (h : RowV w v l) : ∃ A cap, v = .slice A l.length cap ∧ EntsAt w A l := by
  rcases h with ⟨rfl, rfl⟩ | ⟨b, o, cap, rfl, h, _⟩
  · exact ⟨none, 0, rfl, .inl rfl⟩
  · exact ⟨some ⟨b, o, none⟩, cap, rfl, h⟩
theorem sdrop_any (v : Value) (l : List EntD) (nm : List UInt8) (w : World) (h : RowV w v l) (hr : Rise l) (hlen : l.length ≤ 1000) : Calls Tryd.prog 51 #[v, .string (bs nm)] w (RowR w (dropF l nm)) := by
  rcases h with ⟨rfl, rfl⟩ | ⟨b, o, cap, rfl, h, h1, h2⟩
  · exact (drop_none w nm).mono fun e w' ⟨he, hE⟩ => ⟨_, he, .inl ⟨rfl, rfl⟩, hE⟩
  · cases hh : has l nm with
    | false =>
      rw [dropF_not hh]
      exact (sdrop_no b o cap l nm w h hr hlen hh).mono fun e w' ⟨he, hE⟩ => ⟨_, he, .inr ⟨b, o, cap, rfl, h.ext hE, h1, h2⟩, hE⟩
    | true =>
      have hc : spl l (pos l nm) (pos l nm + 1) [] = dropF l nm := by rw [← cutP_dropF l nm hr hh]; unfold spl cutP; simp
      rw [← hc]
      exact (sdrop_yes b o cap l nm w h hr h1 h2 hlen hh).mono fun e w' ⟨v, he, ho, hE⟩ => ⟨v, he, RowV.of ho, hE⟩
theorem sputR_any (v : Value) (l : List EntD) (x : EntD) (w : World) (h : RowV w v l) (hr : Rise l) (hlen : l.length ≤ 1000) : Calls Tryd.prog 53 #[v, lineA x] w (RowR w (putF l x)) :=
  (sput_any v l x w h hr hlen).mono fun e w' ⟨v, he, ho, hE⟩ => ⟨v, he, RowV.of ho, hE⟩
theorem rdropR_any (v : Value) (l : List EntD) (nm : List UInt8) (w : World) (h : RowV w v l) (hlen : l.length ≤ 1000) : Calls Tryd.prog 52 #[v, .string (bs nm)] w (RowR w (dropF l nm)) := by
  obtain ⟨A, cap, rfl, hat⟩ := h.at_
  exact (ldrop_any A l cap nm w hat (by omega)).mono fun e w' ⟨v, he, ho, hE⟩ => ⟨v, he, RowV.of ho, hE⟩
theorem rputR_any (v : Value) (l : List EntD) (x : EntD) (w : World) (h : RowV w v l) (hlen : l.length ≤ 1000) : Calls Tryd.prog 50 #[v, lineA x] w (RowR w (putF l x)) := by
  obtain ⟨A, cap, rfl, hat⟩ := h.at_
  exact (lput_any A l cap x w hat (by omega)).mono fun e w' ⟨v, he, ho, hE⟩ => ⟨v, he, RowV.of ho, hE⟩
def stepP (q : List EntD) (x : EntD) : List EntD := if x.2.2 < 0 then dropF q x.1 else putF q x
def playL (L : List EntD) : List EntD := L.foldl stepP []
theorem playL_snoc (L : List EntD) (x : EntD) : playL (L ++ [x]) = stepP (playL L) x := by unfold playL; rw [List.foldl_append]; rfl
theorem playL_good (L : List EntD) : Rise (playL L) ∧ (playL L).length ≤ L.length := by
  have key : ∀ (L q : List EntD), Rise q → Rise (L.foldl stepP q) ∧ (L.foldl stepP q).length ≤ q.length + L.length := by
    intro L
    induction L with
    | nil => intro q h; exact ⟨h, by simp⟩
    | cons y L ih =>
      intro q h
      have hr : Rise (stepP q y) := by unfold stepP; split; exact rise_dropF _ h; exact rise_putF y h
      have hl : (stepP q y).length ≤ q.length + 1 := by unfold stepP; split; (have := dropF_len q y.1; omega); exact putF_len q y
      obtain ⟨i1, i3⟩ := ih (stepP q y) hr
      exact ⟨i1, by simp only [List.foldl_cons, List.length_cons]; omega⟩
  have := key L [] List.Pairwise.nil
  exact ⟨this.1, by simpa [playL] using this.2⟩
theorem has_mem {l : List EntD} {k : Nat} (hk : k < l.length) : has l l[k].1 = true := by
  unfold has
  rw [List.any_eq_true]
  exact ⟨l[k], List.getElem_mem hk, by simp⟩
theorem pos_mem {l : List EntD} (hr : Rise l) {k : Nat} (hk : k < l.length) : pos l l[k].1 = k := by
  refine (pos_unique l l[k].1 hr k (by omega) (fun j hj hjk => ?_) (fun j hj hjk => ?_)).symm
  · exact List.pairwise_iff_getElem.1 hr j k hj hk hjk
  · by_cases he : k = j
    · subst he; exact bl_irrefl _
    · exact bl_asymm (List.pairwise_iff_getElem.1 hr k j hk hj (by omega))
theorem find_at {l : List EntD} (hr : Rise l) {k : Nat} (hk : k < l.length) : findV l l[k].1 = .tuple #[lineA l[k], .bool true] := by
  unfold findV
  rw [has_mem hk, if_pos rfl, pos_mem hr hk, List.getD_eq_getElem?_getD, List.getElem?_eq_getElem hk]; rfl
theorem find_any2 (l : List EntD) (nm : List UInt8) : ∃ a b : Int, ∃ c : List UInt8, findV l nm = .tuple #[.agg #[.int .i64 a, .int .i64 b, .string (bs c)], .bool (has l nm)] := by
  unfold findV
  cases has l nm with
  | false => exact ⟨0, 0, [], rfl⟩
  | true => exact ⟨_, _, _, rfl⟩
set_option maxRecDepth 100000 in
set_option maxHeartbeats 8000000 in
theorem sizesPlays_any (A : Option Addr) (cap : Nat) (L : List EntD) (l : List UInt8) (w : World) (hat : EntsAt w A L) (hlen : L.length ≤ 9223372036854775807) (hM : HasMax w) :
    Calls Tryd.prog 11 #[.slice A L.length cap, .string (bs l)] w (Ret w (.bool true)) := by
  have hf := few7_any A cap L w hat hlen
  have hA := fun w' (hE : Ext w w') => awake7 w' (hM.ext hE)
  have HAW := Lib.hid hA
  have zl := bs_size l
  cases hfew : few7B L with
  | false =>
    rw [hfew] at hf
    have HF := Lib.hid hf
    clear hf hfew hA
    go_enter Tryd.func11, Tryd.ntmps11
    go_wp2_with fail
    refine (HF.out).mono ?_
    rintro e w1 ⟨rfl, b1⟩
    go_wp2_with fail
    refine (HAW.out _ b1).mono ?_
    rintro e w2 ⟨rfl, b2⟩
    go_wp2_with fail
    go_ret
    exact Ret.mk rfl (b1.trans b2)
  | true =>
    rw [hfew] at hf
    have HF := Lib.hid hf
    obtain ⟨h30, -⟩ := few7_yes hfew
    have HAT := Lib.hid hat
    obtain ⟨n, hn⟩ : ∃ n, n = L.length := ⟨_, rfl⟩
    rw [← hn] at hf HF h30 hlen ⊢
    have HN := Lib.hid hn
    by_cases hl8 : l.length ≤ 300
    · have hl8i : ¬ (300 : Int) < (l.length : Int) := by omega
      clear hf hfew hA hat hn
      go_enter Tryd.func11, Tryd.ntmps11
      go_wp2_with fail
      refine (HF.out).mono ?_
      rintro e w1 ⟨rfl, b1⟩
      go_wp2_with fail
      go_loopw [5, 6, 7] (fun u v i wr => ∃ k : Nat, k ≤ n ∧ i = .int .i64 k ∧ RowV wr u (playL (L.take k)) ∧ RowV wr v (playL (L.take k)) ∧ Ext w1 wr) (fun _ _ i _ => n - (intOf i).toNat)
      case atStart => exact ⟨0, Nat.zero_le _, rfl, .inl ⟨rfl, rfl⟩, .inl ⟨rfl, rfl⟩, Ext.refl _⟩
      case round =>
        obtain ⟨k, hk, rfl, hu, hv, hE⟩ := hrel
        by_cases hlt : (k : Int) < n
        · have hkl : k < L.length := by rw [← HN.out]; omega
          obtain ⟨b, o, rfl, hbb, p0, p1, p2⟩ := HAT.out.at_ (b1.trans hE) k hkl
          have hst : playL (L.take (k + 1)) = stepP (playL (L.take k)) L[k] := by rw [List.take_succ_eq_append_getElem hkl, playL_snoc]
          obtain ⟨g1, g2⟩ := playL_good (L.take k)
          have hql : (playL (L.take k)).length ≤ 30 := by have h2 := List.length_take_le k L; omega
          obtain ⟨x, hx⟩ : ∃ x, x = L[k] := ⟨_, rfl⟩
          rw [← hx] at p0 p1 p2 hst
          obtain ⟨q, hq⟩ : ∃ q, q = playL (L.take k) := ⟨_, rfl⟩
          rw [← hq] at hu hv hst g1 hql
          have HST := Lib.hid hst
          have HU := Lib.hid hu
          have HVV := Lib.hid hv
          have HR := Lib.hid g1
          obtain ⟨nm, sz, tm⟩ := x
          simp only [] at p0 p1 p2
          have hk0 : (0 : Int) ≤ (k : Int) := by omega
          clear hx hq hst g1 g2
          by_cases hz : tm < 0
          · have S0 : wr.drew.cell? ⟨b, o + k * 3 + 2, none⟩ = some (.string (bs nm)) ∧ Ext wr wr.drew := ⟨p2, (Ext.refl _).drew⟩
            have HQ : Hid (playL (L.take (k + 1)) = dropF q nm) := by show _ = _; rw [HST.out]; unfold stepP; rw [if_pos hz]
            have hdl := dropF_len q nm
            go_wp2_with fail
            go_region_held3 (fun w' => w'.cell? ⟨b, o + k * 3 + 2, none⟩ = some (.string (bs nm)) ∧ Ext wr w') ((first | exact S0 | exact S2 | exact S3))
              ((first
                | (go_at_call 51; refine (sdrop_any _ q nm _ (HU.out.ext (Ext.refl _).drew) HR.out (by omega)).mono ?_; rintro e w2 ⟨v2, rfl, ho2, b2⟩; have S2 : w2.cell? ⟨b, o + k * 3 + 2, none⟩ = some (.string (bs nm)) ∧ Ext wr w2 := ⟨(b2.cell (o := o + k * 3 + 2) (show b < wr.drew.heap.size from hbb)).trans p2, (Ext.refl wr).drew.trans b2⟩)
                | (go_at_call 52; refine (rdropR_any _ q nm _ (HVV.out.ext S2.2) (by omega)).mono ?_; rintro e w3 ⟨v3, rfl, ho3, b3⟩; have S3 : w3.cell? ⟨b, o + k * 3 + 2, none⟩ = some (.string (bs nm)) ∧ Ext wr w3 := ⟨(b3.cell (o := o + k * 3 + 2) (by have := S2.2.size; omega)).trans S2.1, S2.2.trans b3⟩)))
            obtain ⟨A2, c2, rfl, t2⟩ := ho2.at_
            obtain ⟨A3, c3, rfl, t3⟩ := ho3.at_
            have hs := same7_any A2 A3 c2 c3 (dropF q nm) w3 (t2.ext b3) t3 (by omega)
            have HS := Lib.hid hs
            have HO2 := Lib.hid (ho2.ext b3)
            have HO3 := Lib.hid ho3
            clear hs ho2 ho3 t2 t3
            go_wp2_with fail
            refine (HS.out).mono ?_
            rintro e w4 ⟨rfl, b4⟩
            go_wp2_with fail
            go_roundw
            case rel => exact ⟨k + 1, by omega, by go_num, by rw [HQ.out]; exact HO2.out.ext b4, by rw [HQ.out]; exact HO3.out.ext b4, (hE.trans S3.2).trans b4⟩
            case measure => simp [intOf]; omega
          · have S0 : (wr.drew.cell? ⟨b, o + k * 3, none⟩ = some (.int .i64 sz) ∧ wr.drew.cell? ⟨b, o + k * 3 + 1, none⟩ = some (.int .i64 tm) ∧ wr.drew.cell? ⟨b, o + k * 3 + 2, none⟩ = some (.string (bs nm))) ∧ Ext wr wr.drew := ⟨⟨p0, p1, p2⟩, (Ext.refl _).drew⟩
            have HQ : Hid (playL (L.take (k + 1)) = putF q (nm, sz, tm)) := by show _ = _; rw [HST.out]; unfold stepP; rw [if_neg hz]
            have hdl := putF_len q (nm, sz, tm)
            go_wp2_with fail
            go_region_held3 (fun w' => (w'.cell? ⟨b, o + k * 3, none⟩ = some (.int .i64 sz) ∧ w'.cell? ⟨b, o + k * 3 + 1, none⟩ = some (.int .i64 tm) ∧ w'.cell? ⟨b, o + k * 3 + 2, none⟩ = some (.string (bs nm))) ∧ Ext wr w') ((first | exact S0 | exact S2 | exact S3))
              ((first
                | (go_at_call 53; refine (sputR_any _ q (nm, sz, tm) _ (HU.out.ext (Ext.refl _).drew) HR.out (by omega)).mono ?_; rintro e w2 ⟨v2, rfl, ho2, b2⟩; have S2 : (w2.cell? ⟨b, o + k * 3, none⟩ = some (.int .i64 sz) ∧ w2.cell? ⟨b, o + k * 3 + 1, none⟩ = some (.int .i64 tm) ∧ w2.cell? ⟨b, o + k * 3 + 2, none⟩ = some (.string (bs nm))) ∧ Ext wr w2 := ⟨⟨(b2.cell (o := o + k * 3) (show b < wr.drew.heap.size from hbb)).trans p0, (b2.cell (o := o + k * 3 + 1) (show b < wr.drew.heap.size from hbb)).trans p1, (b2.cell (o := o + k * 3 + 2) (show b < wr.drew.heap.size from hbb)).trans p2⟩, (Ext.refl wr).drew.trans b2⟩)
                | (go_at_call 50; refine (rputR_any _ q (nm, sz, tm) _ (HVV.out.ext S2.2) (by omega)).mono ?_; rintro e w3 ⟨v3, rfl, ho3, b3⟩; have S3 : (w3.cell? ⟨b, o + k * 3, none⟩ = some (.int .i64 sz) ∧ w3.cell? ⟨b, o + k * 3 + 1, none⟩ = some (.int .i64 tm) ∧ w3.cell? ⟨b, o + k * 3 + 2, none⟩ = some (.string (bs nm))) ∧ Ext wr w3 := ⟨⟨(b3.cell (o := o + k * 3) (by have := S2.2.size; omega)).trans S2.1.1, (b3.cell (o := o + k * 3 + 1) (by have := S2.2.size; omega)).trans S2.1.2.1, (b3.cell (o := o + k * 3 + 2) (by have := S2.2.size; omega)).trans S2.1.2.2⟩, S2.2.trans b3⟩)))
            obtain ⟨A2, c2, rfl, t2⟩ := ho2.at_
            obtain ⟨A3, c3, rfl, t3⟩ := ho3.at_
            have hs := same7_any A2 A3 c2 c3 (putF q (nm, sz, tm)) w3 (t2.ext b3) t3 (by omega)
            have HS := Lib.hid hs
            have HO2 := Lib.hid (ho2.ext b3)
            have HO3 := Lib.hid ho3
            clear hs ho2 ho3 t2 t3
            go_wp2_with fail
            refine (HS.out).mono ?_
            rintro e w4 ⟨rfl, b4⟩
            go_wp2_with fail
            go_roundw
            case rel => exact ⟨k + 1, by omega, by go_num, by rw [HQ.out]; exact HO2.out.ext b4, by rw [HQ.out]; exact HO3.out.ext b4, (hE.trans S3.2).trans b4⟩
            case measure => simp [intOf]; omega
        · obtain rfl : n = k := by omega
          obtain ⟨g1, g2⟩ := playL_good (L.take n)
          have hql : (playL (L.take n)).length ≤ 30 := by have h2 := List.length_take_le n L; omega
          obtain ⟨q, hq⟩ : ∃ q, q = playL (L.take n) := ⟨_, rfl⟩
          rw [← hq] at hu hv g1 hql
          obtain ⟨A2, c2, rfl, t2⟩ := hu.at_
          obtain ⟨A3, c3, rfl, t3⟩ := hv.at_
          have hE0 := b1.trans hE
          obtain ⟨m, hm⟩ : ∃ m, m = q.length := ⟨_, rfl⟩
          have HV3 := Lib.hid hv
          have HFI := Lib.hid (fun (nm : List UInt8) (w' : World) (hE' : Ext wr w') => sfind_any A2 q c2 nm w' (t2.ext hE') g1 (by omega))
          rw [← hm] at HFI hql HV3 ⊢
          have HM := Lib.hid hm
          have HR := Lib.hid g1
          have HT3 := Lib.hid t3
          clear hq hu hv g2 t2 t3 hm g1 hlt hE
          go_wp2_with fail
          go_loopw [8] (fun i wq => ∃ k : Nat, k ≤ m ∧ i = .int .i64 k ∧ Ext wr wq) (fun i _ => m - (intOf i).toNat)
          case atStart => exact ⟨0, Nat.zero_le _, rfl, Ext.refl _⟩
          case round =>
            obtain ⟨k, hk, rfl, hE⟩ := hrel
            by_cases hlt : (k : Int) < m
            · have hkl : k < q.length := by rw [← HM.out]; omega
              obtain ⟨b, o, hA3, hbb, p0, p1, p2⟩ := HT3.out.at_ hE k hkl
              subst hA3
              have hfa := find_at HR.out hkl
              obtain ⟨x, hx⟩ : ∃ x, x = q[k] := ⟨_, rfl⟩
              rw [← hx] at p0 p1 p2 hfa
              have hfi := HFI.out x.1 _ hE
              rw [hfa] at hfi
              obtain ⟨nm, sz, tm⟩ := x
              simp only [] at p0 p1 p2
              dsimp only [lineA] at hfi
              have HFX := Lib.hid hfi
              have hk0 : (0 : Int) ≤ (k : Int) := by omega
              clear hx hfa hfi
              go_wp2_with fail
              refine (HFX.out).mono ?_
              rintro e w2 ⟨rfl, b2⟩
              have hbb2 : b < w2.heap.size := by have := b2.size; omega
              obtain ⟨V, hV⟩ : ∃ V, V = w2.alloc (.cells #[.int .i64 sz, .int .i64 tm, .string (bs nm)] 48) := ⟨_, rfl⟩
              have hC : Has V w2.heap.size (.cells #[.int .i64 sz, .int .i64 tm, .string (bs nm)] 48) := by rw [hV]; exact Has.new _ _
              have EV := b2.alloc (.cells #[.int .i64 sz, .int .i64 tm, .string (bs nm)] 48)
              rw [← hV] at EV
              obtain ⟨c0, c1, c2'⟩ : V.cell? ⟨w2.heap.size, 0, none⟩ = some (.int .i64 sz) ∧ V.cell? ⟨w2.heap.size, 1, none⟩ = some (.int .i64 tm) ∧ V.cell? ⟨w2.heap.size, 2, none⟩ = some (.string (bs nm)) := ⟨hC.cell 0, hC.cell 1, hC.cell 2⟩
              have r0 := (EV.cell (o := o + k * 3) hbb).trans p0
              have r1 := (EV.cell (o := o + k * 3 + 1) hbb).trans p1
              have r2 := (EV.cell (o := o + k * 3 + 2) hbb).trans p2
              have HV := Lib.hid hV
              clear hV p0 p1 p2
              go_wp2_with (rw [← HV.out])
              go_quiet (fail)
              go_wp2_with fail
              go_roundw
              case rel => exact ⟨k + 1, by omega, by go_num, (hE.trans EV).drewN _⟩
              case measure => simp [intOf]; omega
            · obtain rfl : m = k := by omega
              obtain ⟨fa, fb, fc, hfx⟩ := find_any2 q l
              have hfi := HFI.out l _ hE
              rw [hfx] at hfi
              have hrd := fun w' (hE' : Ext _ w') => rdropR_any _ q l w' (HV3.out.ext hE') (by rw [← HM.out]; omega)
              have hcase : (has q l = true ∧ (dropF q l).length < m) ∨ (has q l = false ∧ (dropF q l).length = m) := by
                cases hh : has q l with
                | true => exact .inl ⟨rfl, by rw [HM.out]; exact dropF_len_lt hh⟩
                | false => exact .inr ⟨rfl, by rw [dropF_not hh]; exact HM.out.symm⟩
              obtain ⟨bh, hbh⟩ : ∃ bh, bh = has q l := ⟨_, rfl⟩
              obtain ⟨dl, hdl⟩ : ∃ dl, dl = (dropF q l).length := ⟨_, rfl⟩
              rw [← hbh, ← hdl] at hcase
              rw [← hbh] at hfi
              have HFX := Lib.hid hfi
              have HRD := Lib.hid hrd
              have HDL := Lib.hid hdl
              clear hfx hfi hrd hbh hdl hlt
              go_wp2_with fail
              refine (HFX.out).mono ?_
              rintro e w2 ⟨rfl, b2⟩
              have E2 := hE.trans b2
              obtain ⟨V, hV⟩ : ∃ V, V = w2.alloc (.cells #[.int .i64 fa, .int .i64 fb, .string (bs fc)] 48) := ⟨_, rfl⟩
              have EV := E2.alloc (.cells #[.int .i64 fa, .int .i64 fb, .string (bs fc)] 48)
              rw [← hV] at EV
              have HV := Lib.hid hV
              clear hV
              go_wp2_with (rw [← HV.out])
              refine (HRD.out V EV).mono ?_
              rintro e w4 ⟨v4, rfl, ho4, b4⟩
              obtain ⟨A4, c4, rfl, t4⟩ := ho4.at_
              rw [← HDL.out]
              have E4 := EV.trans b4
              clear ho4 t4
              rcases hcase with ⟨rfl, hd⟩ | ⟨rfl, hd⟩
              · have hd1 : (dl : Int) < (m : Int) := by omega
                go_wp2_with fail
                refine (HAW.out _ (hE0.trans E4)).mono ?_
                rintro e w5 ⟨rfl, b5⟩
                go_wp2_with fail
                go_ret
                exact Ret.mk rfl ((hE0.trans E4).trans b5)
              · have hd1 : ¬ ((dl : Int) < (m : Int)) := by omega
                have hd2 : decide ((dl : Int) < (m : Int)) = false := decide_eq_false hd1
                go_wp2_with fail
                refine (HAW.out _ (hE0.trans E4)).mono ?_
                rintro e w5 ⟨rfl, b5⟩
                go_wp2_with fail
                go_ret
                exact Ret.mk rfl ((hE0.trans E4).trans b5)
    · have hl8i : (300 : Int) < (l.length : Int) := by omega
      clear hf hfew hA hat hn
      go_enter Tryd.func11, Tryd.ntmps11
      go_wp2_with fail
      refine (HF.out).mono ?_
      rintro e w1 ⟨rfl, b1⟩
      go_wp2_with fail
      refine (HAW.out _ b1).mono ?_
      rintro e w2 ⟨rfl, b2⟩
      go_wp2_with fail
      go_ret
      exact Ret.mk rfl (b1.trans b2)
set_option maxRecDepth 100000 in
theorem sizesPlays_walk {H : Type} {enc : TypeId × Value → H} (W : World) (base : Nat) (v0 v1 : Value) (d0 d1 : DataW H) (p0 p1 : List MemPlace)
    (hs : W.ShapedOpen Tryd.prog)
    (k0 : Value.okWide Tryd.prog W .any base 40 v0) (h0 : DataW.Trod enc Tryd.prog W 0 (fun _ => true) true 40 v0 d0 p0)
    (k1 : Value.okWide Tryd.prog W .any base 9 v1) (h1 : DataW.Trod enc Tryd.prog W 0 (fun _ => true) true 9 v1 d1 p1)
    : Calls Tryd.prog 11 #[v0, v1] W (Ret W (.bool true)) := by
  obtain ⟨A, L, cap, rfl, hat, _, hl, hc, hI⟩ := open_lines k0 h0
  obtain ⟨a1, rfl, rfl, rfl, w1⟩ := Go.ChangeMaps.open_string Tryd.underlying9 k1 h1
  rw [← bs_self a1]
  exact sizesPlays_any A cap L _ W hat (by unfold maxLen at hc; omega) (HasMax.of hs)
end Go.Proofs.YtmppjbimdonfmaaDoor
