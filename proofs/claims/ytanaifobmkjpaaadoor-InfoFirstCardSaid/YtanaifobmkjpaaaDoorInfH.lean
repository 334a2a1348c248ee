/- Layer 6 (info): the reference's Parse. -/
import Derived.Test.YtanaifobmkjpaaaDoorInfG
import Derived.Test.YtanaifobmkjpaaaDoorPctG
import Derived.Test.YtanaifobmkjpaaaDoorDateI
import Derived.Test.YtanaifobmkjpaaaDoorDateM
import Derived.Test.YtanaifobmkjpaaaDoorTilP
namespace Go.Proofs.YtanaifobmkjpaaaDoor
open Go.ChangeShapes Go.WideShapes Go.ChangeAt Go.RowKit

/-- What a text tells: path, time, error. -/
def InfZ (l p : Ln) (n e : Int) : Prop := (pathO l = none ∧ p = [] ∧ n = 0 ∧ e = 2) ∨ (∃ m f : Int, pathO l = some p ∧ e = 0 ∧ PrsZ (dayO l) m f ∧ n = if f = 0 then m else -1)
theorem InfZ.same {l p q : Ln} {n m e f : Int} (h : InfZ l p n e) (h' : InfZ l q m f) : p = q ∧ n = m ∧ e = f := by
  rcases h with ⟨h1, rfl, rfl, rfl⟩ | ⟨a, b, h1, rfl, h2, rfl⟩
  · rcases h' with ⟨_, rfl, rfl, rfl⟩ | ⟨_, _, h1', _⟩
    · exact ⟨rfl, rfl, rfl⟩
    · rw [h1] at h1'; cases h1'
  · rcases h' with ⟨h1', _⟩ | ⟨a', b', h1', rfl, h2', rfl⟩
    · rw [h1] at h1'; cases h1'
    · rw [h1] at h1'
      obtain ⟨e1, e2⟩ := h2.same h2'
      rw [e1, e2]
      exact ⟨Option.some.inj h1', rfl, rfl⟩
def InfR (w : World) (l : Ln) (e : Ending) (w' : World) : Prop := ∃ p n er, InfZ l p n er ∧ e = .returned (.tuple #[.string (bs p), .int .i64 n, .int .i64 er]) ∧ Ext w w'
theorem grp_small {n : Nat} : ∀ {L : List Ln}, (∀ t ∈ L, t.length ≤ n) → ∀ t ∈ grp L, t.length ≤ n
  | [], _, t, ht => by simp [grp] at ht
  | a :: r, h, t, ht => by
    have ih := grp_small (n := n) (L := r) (fun t ht => h t (by simp [ht]))
    rw [grp] at ht
    split at ht
    · exact ih t ht
    · split at ht
      · simp at ht
      · rcases List.mem_cons.1 ht with rfl | ht
        · exact Nat.le_trans (trimS_len _ _) (h a (by simp))
        · exact ih t ht
theorem grp_len : ∀ (L : List Ln), (grp L).length ≤ L.length
  | [] => Nat.le_refl _
  | a :: r => by
    have ih := grp_len r
    rw [grp]
    split
    · simp; omega
    · split
      · simp
      · simp; omega
theorem grpO_small {n : Nat} : ∀ {L : List Ln} {G : List Ln}, (∀ t ∈ L, t.length ≤ n) → grpO L = some G → (∀ t ∈ G, t.length ≤ n) ∧ G.length ≤ L.length
  | [], G, _, hg => by simp [grpO] at hg
  | a :: r, G, h, hg => by
    have ih := grpO_small (n := n) (L := r) (G := G) (fun t ht => h t (by simp [ht]))
    rw [grpO] at hg
    split at hg
    · have h1 := ih hg
      exact ⟨h1.1, by simp; omega⟩
    · split at hg
      · injection hg with hg
        subst hg
        exact ⟨grp_small (fun t ht => h t (by simp [ht])), by have := grp_len r; simp; omega⟩
      · cases hg
theorem lineV_small {key t v : Ln} (h : lineV key t = some v) : v.length ≤ t.length := by
  unfold lineV at h
  split at h
  · cases h
  · rename_i k v' hc
    split at h
    · injection h with h
      subst h
      have h1 := (cutB_len hc).1
      have h2 := trimS_len v' bl2
      rw [h1]
      simp; omega
    · cases h
theorem valueF_small {n : Nat} {key v : Ln} : ∀ {G : List Ln}, (∀ t ∈ G, t.length ≤ n) → valueF key G = some v → v.length ≤ n
  | [], _, h => by simp [valueF] at h
  | t :: r, hl, h => by
    rw [valueF_cons] at h
    cases hv : lineV key t with
    | none => rw [hv] at h; exact valueF_small (fun t ht => hl t (by simp [ht])) h
    | some x =>
      rw [hv] at h
      have : x = v := Option.some.inj h
      subst this
      exact Nat.le_trans (lineV_small hv) (hl t (by simp))
theorem decL_len : ∀ {l r : Ln}, decL l = some r → r.length ≤ l.length
  | [], r, h => by simp only [decL, Option.some.injEq] at h; subst h; exact Nat.le_refl _
  | c :: t, r, h => by
    by_cases hc : c = 37
    · subst hc
      match t, h with
      | [], h => rw [decL_short (by simp)] at h; cases h
      | [a], h => rw [decL_short (by simp)] at h; cases h
      | a :: b :: t', h =>
        by_cases hg : digC a < 16 ∧ digC b < 16
        · rw [decL_good t' hg] at h
          obtain ⟨x, hx, rfl⟩ := Option.map_eq_some_iff.1 h
          have := decL_len hx
          simp; omega
        · rw [decL_bad t' hg] at h; cases h
    · rw [decL_cons_plain t hc] at h
      obtain ⟨x, hx, rfl⟩ := Option.map_eq_some_iff.1 h
      have := decL_len hx
      simp; omega
theorem decV_h {s x : Ln} (h : decL s = some x) : decV (bs s).data.toList = .tuple #[.string (bs x), .int .i64 0] := by rw [bs_list]; exact decV_some h
theorem decV_h0 {s : Ln} (h : decL s = none) : decV (bs s).data.toList = .tuple #[.string ⟨#[]⟩, .int .i64 2] := by rw [bs_list]; exact decV_none h
theorem rval_h {A : Option Addr} {cap : Nat} {G : List Ln} {key : Ln} {o : Option Ln} (ho : valueF key G = o) (w : World) (hat : TxtAt w A G) (hn : G.length ≤ 1000000) (hl : ∀ t ∈ G, t.length ≤ 1000000) : Calls Tryd.prog 53 #[.slice A G.length cap, .string (bs key)] w (Ret w (valV o)) := by rw [← ho]; exact rvalue6_any A cap G key w hat hn hl
theorem rdec_h {s : Ln} {v : Value} (h : decV (bs s).data.toList = v) (w : World) (hs : s.length ≤ 1000000) : Calls Tryd.prog 54 #[.string (bs s)] w (Ret w v) := by rw [← h]; exact rdecode_any (bs s) w (by rw [bs_size]; exact hs)
set_option maxRecDepth 100000 in
set_option maxHeartbeats 4000000 in
theorem rparse6_any (l : Ln) (w : World) (hlen : l.length ≤ 100000) : Calls Tryd.prog 26 #[.string (bs l)] w (InfR w l) := by
  have hsm : ∀ t ∈ pcB 10 [] l, t.length ≤ 1000000 := fun t ht => by
    have := pcB_small 10 l [] t ht
    simp at this; omega
  have hpn : (pcB 10 [] l).length ≤ 1000000 := by
    have := pcB_len 10 l []
    omega
  obtain ⟨o, ho⟩ : ∃ o, grpO (pcB 10 [] l) = o := ⟨_, rfl⟩
  have hpath : pathO l = ((o.bind (valueF pathK)).bind decL).bind fun p => if p = [] ∨ 0 ∈ p then none else some p := by unfold pathO; rw [ho]
  have hday : dayO l = (o.bind (valueF dayK)).getD [] := by unfold dayO; rw [ho]
  have hgr := rgroup_any l w (by omega)
  rw [ho] at hgr
  obtain ⟨G, hG⟩ : ∃ G, G = o.getD [] := ⟨_, rfl⟩
  have hGs : (∀ t ∈ G, t.length ≤ 1000000) ∧ G.length ≤ 1000000 := by
    cases o with
    | none => rw [hG]; exact ⟨fun t ht => by simp at ht, by simp⟩
    | some g =>
      obtain ⟨q1, q2⟩ := grpO_small hsm ho
      rw [hG]
      exact ⟨q1, by simp only [Option.getD_some]; omega⟩
  have hbind : ∀ k, o.bind (valueF k) = valueF k G := fun k => by
    cases o with
    | none => rw [hG]; rfl
    | some g => rw [hG]; rfl
  rw [hbind] at hpath hday
  obtain ⟨si, hsi⟩ : ∃ si, si = o.isSome := ⟨_, rfl⟩
  have hsi2 : si = false → valueF pathK G = none := fun h => by
    cases o with
    | none => rw [hG]; rfl
    | some g => rw [hsi] at h; cases h
  have HG : Hid (Calls Tryd.prog 52 #[.string (bs l)] w (fun e w' => ∃ v, e = .returned (.tuple #[v, .bool si]) ∧ OwnT w' w.heap.size v G ∧ Ext w w')) := by
    rw [hsi, hG]; exact hgr
  clear hgr hG hsi ho hbind hsm hpn
  obtain ⟨hGs1, hGs2⟩ := hGs
  have kp : bs pathK = ⟨#[80, 97, 116, 104]⟩ := rfl
  have kd : bs dayK = ⟨#[68, 101, 108, 101, 116, 105, 111, 110, 68, 97, 116, 101]⟩ := rfl
  have z0 : bs [] = ⟨#[]⟩ := rfl
  cases hv : valueF pathK G with
  | none =>
    have HN : Hid (pathO l = none) := by show _ = _; rw [hpath, hv]; rfl
    have hP := fun (A : Option Addr) (cap : Nat) (w' : World) (h : TxtAt w' A G) => rval_h (cap := cap) hv w' h hGs2 hGs1
    have hD := fun w' => rdec_h (s := []) (decV_h (x := []) rfl) w' (by simp)
    simp only [valV, Option.getD_none, Option.isSome_none, kp] at hP
    rw [z0] at hP hD
    have HP := Lib.hid hP
    have HD := Lib.hid hD
    obtain ⟨nG, hnG⟩ : ∃ nG, nG = G.length := ⟨_, rfl⟩
    clear hP hD hv hpath hday kp kd z0 hsi2 hGs1 hGs2 hnG
    cases si
    · go_enter Tryd.func26, Tryd.ntmps26
      go_wp2_with fail
      refine (HG.out).mono ?_
      rintro e w1 ⟨v1, rfl, ho1, b1⟩
      obtain ⟨A, cap, rfl, _, _, t1, _⟩ := ho1.at_
      have HT := Lib.hid t1
      clear ho1 t1
      go_wp2_with fail
      refine (HP.out A cap w1 HT.out).mono ?_
      rintro e w2 ⟨rfl, b2⟩
      have b12 := b1.trans b2
      go_wp2_with fail
      refine (HD.out w2).mono ?_
      rintro e w3 ⟨rfl, b3⟩
      have b13 := b12.trans b3
      go_wp2_with fail
      go_ret3
      exact ⟨[], 0, 2, .inl ⟨HN.out, rfl, rfl, rfl⟩, rfl, b13⟩
    · go_enter Tryd.func26, Tryd.ntmps26
      go_wp2_with fail
      refine (HG.out).mono ?_
      rintro e w1 ⟨v1, rfl, ho1, b1⟩
      obtain ⟨A, cap, rfl, _, _, t1, _⟩ := ho1.at_
      have HT := Lib.hid t1
      clear ho1 t1
      go_wp2_with fail
      refine (HP.out A cap w1 HT.out).mono ?_
      rintro e w2 ⟨rfl, b2⟩
      have b12 := b1.trans b2
      go_wp2_with fail
      refine (HD.out w2).mono ?_
      rintro e w3 ⟨rfl, b3⟩
      have b13 := b12.trans b3
      go_wp2_with fail
      go_ret3
      exact ⟨[], 0, 2, .inl ⟨HN.out, rfl, rfl, rfl⟩, rfl, b13⟩
  | some v =>
    obtain rfl : si = true := by
      cases si
      · rw [hsi2 rfl] at hv; cases hv
      · rfl
    have hvl := valueF_small hGs1 hv
    have hP := fun (A : Option Addr) (cap : Nat) (w' : World) (h : TxtAt w' A G) => rval_h (cap := cap) hv w' h hGs2 hGs1
    simp only [valV, Option.getD_some, Option.isSome_some, kp] at hP
    have HP := Lib.hid hP
    clear hP hsi2
    rw [hv] at hpath
    cases hd : decL v with
    | none =>
      have HN : Hid (pathO l = none) := by show _ = _; rw [hpath]; simp only [Option.bind_some, hd]; rfl
      have hD := fun w' => rdec_h (decV_h0 hd) w' hvl
      have HD := Lib.hid hD
      clear hD hv hpath hday kp kd z0 hGs1 hGs2 hd
      go_enter Tryd.func26, Tryd.ntmps26
      go_wp2_with fail
      refine (HG.out).mono ?_
      rintro e w1 ⟨v1, rfl, ho1, b1⟩
      obtain ⟨A, cap, rfl, _, _, t1, _⟩ := ho1.at_
      have HT := Lib.hid t1
      clear ho1 t1
      go_wp2_with fail
      refine (HP.out A cap w1 HT.out).mono ?_
      rintro e w2 ⟨rfl, b2⟩
      have b12 := b1.trans b2
      go_wp2_with fail
      refine (HD.out w2).mono ?_
      rintro e w3 ⟨rfl, b3⟩
      have b13 := b12.trans b3
      go_wp2_with fail
      go_ret3
      exact ⟨[], 0, 2, .inl ⟨HN.out, rfl, rfl, rfl⟩, rfl, b13⟩
    | some p =>
      have hD := fun w' => rdec_h (decV_h hd) w' hvl
      have HD := Lib.hid hD
      clear hD
      have hpath2 : pathO l = if p = [] ∨ 0 ∈ p then none else some p := by rw [hpath]; simp only [Option.bind_some, hd]
      clear hpath
      by_cases hp0 : p = []
      · subst hp0
        have HN : Hid (pathO l = none) := by show _ = _; rw [hpath2, if_pos (.inl rfl)]
        have hem : (bs []).toList.isEmpty = true := by rw [bs_toList]; rfl
        clear hpath2 hv hday kp kd z0 hGs1 hGs2 hd
        go_enter Tryd.func26, Tryd.ntmps26
        go_wp2_with fail
        refine (HG.out).mono ?_
        rintro e w1 ⟨v1, rfl, ho1, b1⟩
        obtain ⟨A, cap, rfl, _, _, t1, _⟩ := ho1.at_
        have HT := Lib.hid t1
        clear ho1 t1
        go_wp2_with fail
        refine (HP.out A cap w1 HT.out).mono ?_
        rintro e w2 ⟨rfl, b2⟩
        have b12 := b1.trans b2
        go_wp2_with fail
        refine (HD.out w2).mono ?_
        rintro e w3 ⟨rfl, b3⟩
        have b13 := b12.trans b3
        go_wp2_with fail
        go_ret3
        exact ⟨[], 0, 2, .inl ⟨HN.out, rfl, rfl, rfl⟩, rfl, b13⟩
      · have hem : (bs p).toList.isEmpty = false := by rw [bs_toList, List.isEmpty_eq_false_iff]; exact hp0
        have hpl : p.length ≤ 1000000 := Nat.le_trans (decL_len hd) hvl
        obtain ⟨hb, hhb⟩ : ∃ hb, hb = hasB p 0 := ⟨_, rfl⟩
        have HH := Lib.hid (fun w' => rhas_any (bs p) 0 0 (by rfl) (by rw [bs_size]; exact hpl) w')
        simp only [bs_list] at HH
        rw [← hhb] at HH
        cases hb with
        | true =>
          have HN : Hid (pathO l = none) := by show _ = _; rw [hpath2, if_pos (.inr (of_decide_eq_true hhb.symm))]
          clear hpath2 hv hday kp kd z0 hGs1 hGs2 hd hhb hp0
          go_enter Tryd.func26, Tryd.ntmps26
          go_wp2_with fail
          refine (HG.out).mono ?_
          rintro e w1 ⟨v1, rfl, ho1, b1⟩
          obtain ⟨A, cap, rfl, _, _, t1, _⟩ := ho1.at_
          have HT := Lib.hid t1
          clear ho1 t1
          go_wp2_with fail
          refine (HP.out A cap w1 HT.out).mono ?_
          rintro e w2 ⟨rfl, b2⟩
          have b12 := b1.trans b2
          go_wp2_with fail
          refine (HD.out w2).mono ?_
          rintro e w3 ⟨rfl, b3⟩
          have b13 := b12.trans b3
          go_wp2_with fail
          refine (HH.out w3).mono ?_
          rintro e w4 ⟨rfl, b4⟩
          go_wp2_with fail
          go_ret3
          exact ⟨[], 0, 2, .inl ⟨HN.out, rfl, rfl, rfl⟩, rfl, b13.trans b4⟩
        | false =>
          have HS : Hid (pathO l = some p) := by
            show _ = _
            rw [hpath2, if_neg (by
              rintro (h | h)
              · exact hp0 h
              · exact absurd (decide_eq_true h) (by rw [show decide ((0 : UInt8) ∈ p) = false from hhb.symm]; simp))]
          obtain ⟨D, hD⟩ : ∃ D, D = (valueF dayK G).getD [] := ⟨_, rfl⟩
          have HDY : Hid (dayO l = D) := by show _ = _; rw [hday, hD]
          obtain ⟨hs, hhs⟩ : ∃ hs, hs = (valueF dayK G).isSome := ⟨_, rfl⟩
          have hDl : D.length ≤ 1000000 := by
            rw [hD]
            cases hx : valueF dayK G with
            | none => simp
            | some x => exact valueF_small hGs1 hx
          have hP2 := fun (A : Option Addr) (cap : Nat) (w' : World) (h : TxtAt w' A G) => rvalue6_any A cap G dayK w' h hGs2 hGs1
          simp only [valV, kd] at hP2
          rw [← hD, ← hhs] at hP2
          have HP2 := Lib.hid hP2
          have HPR := Lib.hid (fun w' => rparse_any (bs D) w' (by rw [bs_size]; exact hDl))
          simp only [bs_list] at HPR
          clear hpath2 hv hday kp kd z0 hGs1 hGs2 hd hhb hp0 hD hhs hP2
          go_enter Tryd.func26, Tryd.ntmps26
          go_wp2_with fail
          refine (HG.out).mono ?_
          rintro e w1 ⟨v1, rfl, ho1, b1⟩
          obtain ⟨A, cap, rfl, _, _, t1, _⟩ := ho1.at_
          have HT := Lib.hid t1
          clear ho1 t1
          go_wp2_with fail
          refine (HP.out A cap w1 HT.out).mono ?_
          rintro e w2 ⟨rfl, b2⟩
          have b12 := b1.trans b2
          go_wp2_with fail
          refine (HD.out w2).mono ?_
          rintro e w3 ⟨rfl, b3⟩
          have b13 := b12.trans b3
          go_wp2_with fail
          refine (HH.out w3).mono ?_
          rintro e w4 ⟨rfl, b4⟩
          have b14 := b13.trans b4
          go_wp2_with fail
          refine (HP2.out A cap w4 (HT.out.ext ((b2.trans b3).trans b4))).mono ?_
          rintro e w5 ⟨rfl, b5⟩
          have b15 := b14.trans b5
          go_wp2_with fail
          refine (HPR.out w5).mono ?_
          rintro e w6 ⟨m, f, hz, rfl, b6⟩
          have HZ := Lib.hid hz
          clear hz
          by_cases hf : f = 0
          · have q1 : (f == 0) = true := by rw [hf]; rfl
            go_wp2_with fail
            go_ret3
            exact ⟨p, m, 0, .inr ⟨m, f, HS.out, rfl, by rw [HDY.out]; exact HZ.out, by rw [if_pos hf]⟩, rfl, b15.trans b6⟩
          · have q1 : (f == 0) = false := beq_eq_false_iff_ne.2 hf
            go_wp2_with fail
            go_ret3
            exact ⟨p, -1, 0, .inr ⟨m, f, HS.out, rfl, by rw [HDY.out]; exact HZ.out, by rw [if_neg hf]⟩, rfl, b15.trans b6⟩
end Go.Proofs.YtanaifobmkjpaaaDoor
