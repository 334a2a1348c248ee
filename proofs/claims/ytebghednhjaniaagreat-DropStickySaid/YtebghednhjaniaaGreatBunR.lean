/- Layer 18: the reference's Drop, Leave. (Printed by gen_refd.py.) | Layer 18: the reference's Gone. (Printed by gen_refd.py.) -/
import Derived.Test.YtebghednhjaniaaGreatBunU
import Derived.Test.YtebghednhjaniaaGreatBunL
namespace Go.Proofs.YtebghednhjaniaaGreat
open Go.ChangeShapes Go.WideShapes Go.ChangeAt Go.RowKit

attribute [local irreducible] wpLexE wpQuiet
attribute [local go_sem] changeUpon
set_option maxRecDepth 100000 in
set_option maxHeartbeats 1000000 in
theorem rdrop_any (A : Option Addr) (l : List EntD) (cap : Nat) (nm : List UInt8) (w : World) (h : EntsAt w A l) (hlen : l.length ≤ 1000000) : Calls Tryz.prog 110 #[.slice A l.length cap, .string (bs nm)] w (OwnR w (dropF l nm)) := by
  obtain ⟨n, hn⟩ : ∃ n, n = l.length := ⟨_, rfl⟩
  rw [← hn] at hlen ⊢
  have HN := Lib.hid hn
  clear hn
  obtain ⟨i0, hi, hz0, hz1, hz2⟩ := info_parts infoEnt
  go_enter Tryz.func110, Tryz.ntmps110
  go_wp2_with fail
  go_loopw [5, 6] (fun u i wr => ∃ k : Nat, k ≤ n ∧ i = .int .i64 k ∧ OwnE wr w.heap.size u ((l.take k).filter fun x => !(x.1 == nm)) ∧ Ext w wr) (fun _ i _ => n - (intOf i).toNat)
  case atStart => exact ⟨0, Nat.zero_le _, rfl, ⟨rfl, .inl ⟨rfl, rfl⟩⟩, Ext.refl _⟩
  case round =>
    obtain ⟨k, hk, rfl, hown, hE⟩ := hrel
    by_cases hlt : (k : Int) < n
    · have hkl : k < l.length := by have := HN.out; omega
      have hs := filter_snoc hkl fun x => !(x.1 == nm)
      have hfl := filter_len l k fun x => !(x.1 == nm)
      obtain ⟨b, o, rfl, hbw, ca, cb⟩ := h.at_ hE k hkl
      generalize l[k] = x at ca cb hs
      have e1 : ((bs x.1).toList == (bs nm).toList) = (x.1 == nm) := by rw [bs_toList, bs_toList]
      obtain ⟨P, hP⟩ : ∃ P, P = (l.take k).filter fun x => !(x.1 == nm) := ⟨_, rfl⟩
      rw [← hP] at hown hs hfl
      cases hq : (x.1 == nm)
      · rw [hq] at e1
        have hs2 : Hid ((l.take (k + 1)).filter (fun x => !(x.1 == nm)) = P ++ [x]) := by show _ = _; rw [hs, hq]; rfl
        clear hs hq hP
        unfold OwnE at hown
        go_wp2_with (at_builtin; refine wpList_append_own _ rfl _ _ 47 rfl w.heap.size 103 i0 (.agg #[.string ⟨#[]⟩, .int .i64 0]) 2 24 Tryz.underlying47 hi hz0 hz1 hz2 rfl (by decide) _ _ _ rfl (hown.alloc _) ⟨wr.heap.size, 0, none⟩ 1 1 (entCells [x]) rfl rfl (news_one wr x) (entCells_one [x]) (by unfold maxLen; omega) (by omega) (by have := hE.size; simp; omega) ?_)
        intro v' w2 hown2 hgrow _
        obtain ⟨ho2, hE2⟩ := app_one hown hE hown2 hgrow
        clear hown2 hgrow
        have HO2 := Lib.hid ho2
        clear ho2
        go_wp2_with fail
        go_roundw
        case rel => exact ⟨k + 1, by omega, by go_num, by rw [hs2.out]; exact HO2.out, hE2⟩
        case measure => simp [intOf]; omega
      · rw [hq] at e1
        have hs2 : Hid ((l.take (k + 1)).filter (fun x => !(x.1 == nm)) = P) := by show _ = _; rw [hs, hq]; simp
        clear hs hq hP
        go_wp2_with fail
        go_roundw
        case rel => exact ⟨k + 1, by omega, by go_num, by rw [hs2.out]; exact hown, hE⟩
        case measure => simp [intOf]; omega
    · have hkn : k = n := by omega
      have hf : Hid ((l.take k).filter (fun x => !(x.1 == nm)) = dropF l nm) := by show _ = _; rw [hkn, HN.out, List.take_length]; rfl
      clear hkn
      go_wp2_with fail
      go_ret
      exact ⟨_, rfl, by rw [← hf.out]; exact hown, hE⟩
set_option maxRecDepth 100000 in
set_option maxHeartbeats 8000000 in
theorem rleave_any (B : Nat) (g : GhF) (S : TreeD) (X : Xtra) (cu cg dir : Int) (nm : List UInt8) (w : World) (h : FAt w B g S X) (O : Ok S) (hl1 : S.last ≤ 100000) (hnm : nm.length ≤ 1000000) :
    Calls Tryz.prog 48 #[.pointer (some ⟨g.bF, 0, none⟩), .agg #[.int .i64 cu, .int .i64 cg], .int .i64 dir, .string (bs nm)] w (LeaveQ w B S cu cg dir nm) := by
  obtain ⟨W0, hW0⟩ : ∃ W0, W0 = ((w.alloc (.cells #[.int .i64 cu, .int .i64 cg] 40)).alloc (.cells #[.int .i64 0, .int .i64 0, .int .i64 0, .int .i64 0, .int .i64 0, .int .i64 0, .int .i64 0, .int .i64 0, .int .i64 0, .int .i64 0, .string ⟨#[]⟩, .slice none 0 0] 49)).alloc (.cells #[.int .i64 0, .int .i64 0, .int .i64 0, .int .i64 0, .int .i64 0, .int .i64 0, .int .i64 0, .int .i64 0, .int .i64 0, .int .i64 0, .string ⟨#[]⟩, .slice none 0 0] 49) := ⟨_, rfl⟩
  have E0 : Ext w W0 := by rw [hW0]; exact (((Ext.refl _).alloc _).alloc _).alloc _
  obtain ⟨b5, hb5⟩ : ∃ b, b = w.heap.size := ⟨_, rfl⟩
  have C0 : Has W0 b5 (.cells #[.int .i64 cu, .int .i64 cg] 40) := by rw [hW0, hb5]; exact ((Has.new w _).alloc _).alloc _
  have P0 : Has W0 (b5 + 1) (.cells #[.int .i64 nodeZ.no, .int .i64 nodeZ.dev, .int .i64 nodeZ.kind, .int .i64 nodeZ.mode, .int .i64 nodeZ.uid, .int .i64 nodeZ.gid, .int .i64 nodeZ.mtime, .int .i64 nodeZ.ctime, .int .i64 nodeZ.links, .int .i64 nodeZ.up, .string (bs nodeZ.data), .slice none nodeZ.ents.length 0] 49) := by
    rw [hW0, hb5]
    have := (Has.new (w.alloc (.cells #[.int .i64 cu, .int .i64 cg] 40)) (.cells #[.int .i64 nodeZ.no, .int .i64 nodeZ.dev, .int .i64 nodeZ.kind, .int .i64 nodeZ.mode, .int .i64 nodeZ.uid, .int .i64 nodeZ.gid, .int .i64 nodeZ.mtime, .int .i64 nodeZ.ctime, .int .i64 nodeZ.links, .int .i64 nodeZ.up, .string (bs nodeZ.data), .slice none nodeZ.ents.length 0] 49)).alloc (.cells #[.int .i64 0, .int .i64 0, .int .i64 0, .int .i64 0, .int .i64 0, .int .i64 0, .int .i64 0, .int .i64 0, .int .i64 0, .int .i64 0, .string ⟨#[]⟩, .slice none 0 0] 49)
    rwa [World.size_alloc] at this
  have Q0 : Has W0 (b5 + 2) (.cells #[.int .i64 nodeZ.no, .int .i64 nodeZ.dev, .int .i64 nodeZ.kind, .int .i64 nodeZ.mode, .int .i64 nodeZ.uid, .int .i64 nodeZ.gid, .int .i64 nodeZ.mtime, .int .i64 nodeZ.ctime, .int .i64 nodeZ.links, .int .i64 nodeZ.up, .string (bs nodeZ.data), .slice none nodeZ.ents.length 0] 49) := by
    rw [hW0, hb5]
    have := Has.new ((w.alloc (.cells #[.int .i64 cu, .int .i64 cg] 40)).alloc (.cells #[.int .i64 0, .int .i64 0, .int .i64 0, .int .i64 0, .int .i64 0, .int .i64 0, .int .i64 0, .int .i64 0, .int .i64 0, .int .i64 0, .string ⟨#[]⟩, .slice none 0 0] 49)) (.cells #[.int .i64 nodeZ.no, .int .i64 nodeZ.dev, .int .i64 nodeZ.kind, .int .i64 nodeZ.mode, .int .i64 nodeZ.uid, .int .i64 nodeZ.gid, .int .i64 nodeZ.mtime, .int .i64 nodeZ.ctime, .int .i64 nodeZ.links, .int .i64 nodeZ.up, .string (bs nodeZ.data), .slice none nodeZ.ents.length 0] 49)
    rwa [World.size_alloc, World.size_alloc] at this
  have HO := Lib.hid O
  have hcl : S.nodes.length ≤ 100000 := by have := O.live.count; omega
  have HCL := Lib.hid hcl
  clear hcl
  have hm : Hid (leaveE S cu cg dir nm = if ¬ placeE S cu cg dir nm = 0 then placeE S cu cg dir nm else if isN S.nodes (findF (getN S.nodes dir).ents nm) = false then 5
    else if ¬ overF S.devs (findF (getN S.nodes dir).ents nm) = findF (getN S.nodes dir).ents nm then 16
    else if freeB cu (getN S.nodes dir).mode (getN S.nodes dir).uid (getN S.nodes (findF (getN S.nodes dir).ents nm)).uid = false then 4 else 0) := by show _ = _; rfl
  have hp : Hid (placeE S cu cg dir nm = 0 → placeN S cu cg dir nm = getN S.nodes dir ∧ isN S.nodes dir = true) := fun h0 => ⟨placeN_zero h0, (placeE_zero h0).1⟩
  have hlw := h.lt
  have HS : Hid (∀ (v w' : World) (x : Int), Ext w v → Only [b5 + 1, b5 + 2] v w' → leaveE S cu cg dir nm = x → x ≠ 0 → LeaveQ w B S cu cg dir nm (.returned (.tuple #[.agg #[.int .i64 nodeZ.no, .int .i64 nodeZ.dev, .int .i64 nodeZ.kind, .int .i64 nodeZ.mode, .int .i64 nodeZ.uid, .int .i64 nodeZ.gid, .int .i64 nodeZ.mtime, .int .i64 nodeZ.ctime, .int .i64 nodeZ.links, .int .i64 nodeZ.up, .string (bs nodeZ.data), .slice none nodeZ.ents.length 0], .agg #[.int .i64 nodeZ.no, .int .i64 nodeZ.dev, .int .i64 nodeZ.kind, .int .i64 nodeZ.mode, .int .i64 nodeZ.uid, .int .i64 nodeZ.gid, .int .i64 nodeZ.mtime, .int .i64 nodeZ.ctime, .int .i64 nodeZ.links, .int .i64 nodeZ.up, .string (bs nodeZ.data), .slice none nodeZ.ents.length 0], .int .i64 x])) w') := by
    show ∀ (v w' : World) (x : Int), _
    intro v w' x hE hO hx h0
    have e1 : leaveD S cu cg dir nm = nodeZ := by unfold leaveD; rw [if_neg (by rw [hx]; exact h0)]
    have e2 : leaveN S cu cg dir nm = nodeZ := by unfold leaveN; rw [if_neg (by rw [hx]; exact h0)]
    exact ⟨none, 0, none, 0, by rw [e1, e2, hx], by rw [e1]; exact NodeOk.zero _ _, by rw [e2]; exact NodeOk.zero _ _, hO.after hE (by intro b hb; simp only [List.mem_cons, List.not_mem_nil, or_false] at hb; omega)⟩
  have hb5a : b5 ≤ w.heap.size := by omega
  have hb5b : w.heap.size ≤ b5 := by omega
  clear O
  go_enter Tryz.func48, Tryz.ntmps48
  go_upto_region 1 with fail
  rw [← hW0]
  rw [← hb5]
  clear hW0 hb5
  have x0 : W0.cell? ⟨b5, 0, none⟩ = some (.int .i64 cu) := C0.cell 0
  have x1 : W0.cell? ⟨b5, 1, none⟩ = some (.int .i64 cg) := C0.cell 1
  have xz := C0.lt
  go_wp2_with fail
  refine (rplace_any B g S X cu cg dir nm _ (h.ext E0) (by have := HCL.out; omega) HO.out.live.nos hnm).mono ?_
  rintro e w2 ⟨A2, k2, rfl, ok2, b2⟩
  obtain ⟨m, hmm⟩ : ∃ m, m = placeN S cu cg dir nm := ⟨_, rfl⟩
  obtain ⟨x, hx⟩ : ∃ x, x = placeE S cu cg dir nm := ⟨_, rfl⟩
  rw [← hmm] at ok2 hp
  rw [← hx] at hm hp
  rw [← hmm, ← hx]
  obtain ⟨W3, hW3⟩ : ∃ W3, W3 = w2.alloc (.cells #[.int .i64 m.no, .int .i64 m.dev, .int .i64 m.kind, .int .i64 m.mode, .int .i64 m.uid, .int .i64 m.gid, .int .i64 m.mtime, .int .i64 m.ctime, .int .i64 m.links, .int .i64 m.up, .string (bs m.data), .slice A2 m.ents.length k2] 49) := ⟨_, rfl⟩
  obtain ⟨b11, hb11⟩ : ∃ b, b = w2.heap.size := ⟨_, rfl⟩
  have E23 : Ext w2 W3 := by rw [hW3]; exact (Ext.refl _).alloc _
  have M3 : Has W3 b11 (.cells #[.int .i64 m.no, .int .i64 m.dev, .int .i64 m.kind, .int .i64 m.mode, .int .i64 m.uid, .int .i64 m.gid, .int .i64 m.mtime, .int .i64 m.ctime, .int .i64 m.links, .int .i64 m.up, .string (bs m.data), .slice A2 m.ents.length k2] 49) := by rw [hW3, hb11]; exact Has.new _ _
  have E03 : Ext W0 W3 := b2.trans E23
  have C3 := C0.ext E03
  have P3 := P0.ext E03
  have Q3 := Q0.ext E03
  have ok3 := ok2.ext E23
  have E3 := E0.trans E03
  have hb11w : W0.heap.size ≤ b11 := by rw [hb11]; exact b2.size
  have hb52 : b5 + 2 < W0.heap.size := Q0.lt
  clear x0 x1 xz hmm hx C0 P0 Q0
  go_upto_region 2 with fail
  rw [← hW3]
  rw [← hb11]
  clear hW3 hb11
  by_cases hx0 : x = 0
  case neg =>
    have t0 : (x == 0) = false := by simpa using hx0
    have t0b : (x != 0) = true := by simpa using hx0
    have hE : Hid (leaveE S cu cg dir nm = x) := by show _ = _; rw [hm.out, if_pos hx0]
    have HX := Lib.hid hx0
    clear hm hx0
    go_wp2_with (first | (refine wpList_store_node rfl _ _ rfl (b5 + 1) nodeZ none 0 rfl rfl P3 ?_; intro wp Pp Op; have Qp := Op.has Q3 (by rw [List.mem_singleton]; omega)) | (refine wpList_store_node rfl _ _ rfl (b5 + 2) nodeZ none 0 rfl rfl Qp ?_; intro wq Qq Oq; have Pq := Oq.has Pp (by rw [List.mem_singleton]; omega)))
    refine bodyPost_ret (v := .tuple #[.agg #[.int .i64 nodeZ.no, .int .i64 nodeZ.dev, .int .i64 nodeZ.kind, .int .i64 nodeZ.mode, .int .i64 nodeZ.uid, .int .i64 nodeZ.gid, .int .i64 nodeZ.mtime, .int .i64 nodeZ.ctime, .int .i64 nodeZ.links, .int .i64 nodeZ.up, .string (bs nodeZ.data), .slice none nodeZ.ents.length 0], .agg #[.int .i64 nodeZ.no, .int .i64 nodeZ.dev, .int .i64 nodeZ.kind, .int .i64 nodeZ.mode, .int .i64 nodeZ.uid, .int .i64 nodeZ.gid, .int .i64 nodeZ.mtime, .int .i64 nodeZ.ctime, .int .i64 nodeZ.links, .int .i64 nodeZ.up, .string (bs nodeZ.data), .slice none nodeZ.ents.length 0], .int .i64 x]) (res_node2 Tryz.results48 _ _ (b5 + 1) (b5 + 2) nodeZ nodeZ none none 0 0 _ rfl rfl rfl Pq Qq) rfl ?_
    exact HS.out _ _ _ E3 ((Op.mono (by simp)).then (Oq.mono (by simp))) hE.out HX.out
  have t0 : (x == 0) = true := by simpa using hx0
  have t0b : (x != 0) = false := by simpa using hx0
  obtain ⟨hmg, hid⟩ := hp.out hx0
  obtain ⟨no, hno⟩ : ∃ no, no = findF m.ents nm := ⟨_, rfl⟩
  have hm2 : Hid (leaveE S cu cg dir nm = if isN S.nodes no = false then 5 else if ¬ overF S.devs no = no then 16 else if freeB cu m.mode m.uid (getN S.nodes no).uid = false then 4 else 0) := by
    show _ = _; rw [hm.out, if_neg (by simpa using hx0), ← hmg, ← hno]
  have HMG := Lib.hid hmg
  have hen := HO.out.entsN dir
  rw [← hmg] at hen
  have HEN := Lib.hid hen
  have k11 : W3.cell? ⟨b11, 11, none⟩ = some (.slice A2 m.ents.length k2) := M3.cell 11
  have kz := M3.lt
  have hnz : ((getN S.nodes no).no == 0) = !isN S.nodes no := by
    cases hi : isN S.nodes no
    · rw [(isN_false hi).1]; rfl
    · have h1 := (HO.out.live.nos.2 _ (isN_true hi).2.2).1
      simp; omega
  have HNO := Lib.hid hno
  clear hm hp hx0 hmg hid hen
  go_wp2_with fail
  refine (rfind_any A2 m.ents k2 nm _ ok3.ents.ents (by have := HEN.out.2; omega)).mono ?_
  rintro e w3a ⟨rfl, b3a⟩
  rw [← hno]
  clear hno k11 kz
  go_wp2_with fail
  refine (rget_any B g S X no _ (h.ext (E3.trans b3a)) (by have := HCL.out; omega) HO.out.live.nos).mono ?_
  rintro e w3b ⟨A4, k4, rfl, ok4', b3b⟩
  obtain ⟨n, hn⟩ : ∃ n, n = getN S.nodes no := ⟨_, rfl⟩
  obtain ⟨i, hi⟩ : ∃ i, i = isN S.nodes no := ⟨_, rfl⟩
  have hin : isN S.nodes no = true → (getN S.nodes no).no = no := fun h => (isN_true h).2.1
  rw [← hn] at ok4' hm2 hin hnz ⊢
  rw [← hi] at hm2 hin hnz
  have HIN := Lib.hid hin
  have HNN := Lib.hid hn
  have HI := Lib.hid hi
  have HNZ := Lib.hid hnz
  obtain ⟨w4, hw4⟩ : ∃ W, W = w3b.alloc (.cells #[.int .i64 n.no, .int .i64 n.dev, .int .i64 n.kind, .int .i64 n.mode, .int .i64 n.uid, .int .i64 n.gid, .int .i64 n.mtime, .int .i64 n.ctime, .int .i64 n.links, .int .i64 n.up, .string (bs n.data), .slice A4 n.ents.length k4] 49) := ⟨_, rfl⟩
  obtain ⟨b13, hb13e⟩ : ∃ b, b = w3b.heap.size := ⟨_, rfl⟩
  have N4 : Has w4 b13 (.cells #[.int .i64 n.no, .int .i64 n.dev, .int .i64 n.kind, .int .i64 n.mode, .int .i64 n.uid, .int .i64 n.gid, .int .i64 n.mtime, .int .i64 n.ctime, .int .i64 n.links, .int .i64 n.up, .string (bs n.data), .slice A4 n.ents.length k4] 49) := by rw [hw4, hb13e]; exact Has.new _ _
  have E4b : Ext w3b w4 := by rw [hw4]; exact (Ext.refl _).alloc _
  have E34 : Ext W3 w4 := (b3a.trans b3b).trans E4b
  have ok4 := ok4'.ext E4b
  have hb13 : W3.heap.size ≤ b13 := by rw [hb13e]; exact (b3a.trans b3b).size
  clear hn hi hin hnz ok4' E4b
  go_upto_region 5 with fail
  rw [← hw4, ← hb13e]
  clear hw4 hb13e b3a b3b
  have C4 := C3.ext E34
  have P4 := P3.ext E34
  have Q4 := Q3.ext E34
  have M4 := M3.ext E34
  have okm4 := ok3.ext E34
  have okn4 := ok4
  have E4 := E3.trans E34
  have hM3 := M3.lt
  clear C3 P3 Q3 M3 ok3 E3
  have z0 : w4.cell? ⟨b13, 0, none⟩ = some (.int .i64 n.no) := N4.cell 0
  have zz := N4.lt
  cases i
  · have hE : Hid (leaveE S cu cg dir nm = 5) := by show _ = _; rw [hm2.out]; rfl
    have tn : (n.no == 0) = true := HNZ.out
    clear hm2
    go_wp2_with (first | (refine wpList_store_node rfl _ _ rfl (b5 + 1) nodeZ none 0 rfl rfl P4 ?_; intro wp Pp Op; have Qp := Op.has Q4 (by rw [List.mem_singleton]; omega)) | (refine wpList_store_node rfl _ _ rfl (b5 + 2) nodeZ none 0 rfl rfl Qp ?_; intro wq Qq Oq; have Pq := Oq.has Pp (by rw [List.mem_singleton]; omega)))
    refine bodyPost_ret (v := .tuple #[.agg #[.int .i64 nodeZ.no, .int .i64 nodeZ.dev, .int .i64 nodeZ.kind, .int .i64 nodeZ.mode, .int .i64 nodeZ.uid, .int .i64 nodeZ.gid, .int .i64 nodeZ.mtime, .int .i64 nodeZ.ctime, .int .i64 nodeZ.links, .int .i64 nodeZ.up, .string (bs nodeZ.data), .slice none nodeZ.ents.length 0], .agg #[.int .i64 nodeZ.no, .int .i64 nodeZ.dev, .int .i64 nodeZ.kind, .int .i64 nodeZ.mode, .int .i64 nodeZ.uid, .int .i64 nodeZ.gid, .int .i64 nodeZ.mtime, .int .i64 nodeZ.ctime, .int .i64 nodeZ.links, .int .i64 nodeZ.up, .string (bs nodeZ.data), .slice none nodeZ.ents.length 0], .int .i64 5]) (res_node2 Tryz.results48 _ _ (b5 + 1) (b5 + 2) nodeZ nodeZ none none 0 0 _ rfl rfl rfl Pq Qq) rfl ?_
    exact HS.out _ _ _ E4 ((Op.mono (by simp)).then (Oq.mono (by simp))) hE.out (by decide)
  have hnn := HIN.out (by trivial)
  have tn : (n.no == 0) = false := HNZ.out
  rw [hnn] at z0 tn
  have KO : Hid (∀ u : Gr w4, Calls Tryz.prog 105 #[.pointer (some ⟨g.bF, 0, none⟩), .int .i64 no] u.w (Ret u.w (.int .i64 (overF S.devs no)))) := by
    show ∀ u : Gr w4, _
    exact fun u => rover_any B g S X no _ ((h.ext E4).ext u.h) (by have := HO.out.live.eight; omega)
  have y0 := Gr.cell N4.lt z0
  go_upto_region 7 with fail
  clear z0 hnn tn zz
  by_cases ho : overF S.devs no = no
  case neg =>
    have t1 : (overF S.devs no == no) = false := by simpa using ho
    have t1b : (overF S.devs no != no) = true := by simpa using ho
    have hE : Hid (leaveE S cu cg dir nm = 16) := by show _ = _; rw [hm2.out, if_neg (by decide), if_pos ho]
    clear hm2 ho
    refine wp_region_grow w4 (by kernel_rfl) (by kernel_rfl) (Ext.refl _).drew ?_
    repeat (quiet_step (((with_reducible refine (KO.out _).mono ?_); rintro e w'' ⟨rfl, hEx⟩; exact ⟨rfl, ⟨w'', Ext.trans (Gr.h _) hEx⟩, rfl⟩)))
    refine wpQuiet_nil ?_
    rintro w5 ⟨⟨w5', b5'⟩, h5⟩
    dsimp only at h5
    subst h5
    clear y0 KO
    have P5 := P4.ext b5'
    have Q5 := Q4.ext b5'
    go_wp2_with (first | (refine wpList_store_node rfl _ _ rfl (b5 + 1) nodeZ none 0 rfl rfl P5 ?_; intro wp Pp Op; have Qp := Op.has Q5 (by rw [List.mem_singleton]; omega)) | (refine wpList_store_node rfl _ _ rfl (b5 + 2) nodeZ none 0 rfl rfl Qp ?_; intro wq Qq Oq; have Pq := Oq.has Pp (by rw [List.mem_singleton]; omega)))
    refine bodyPost_ret (v := .tuple #[.agg #[.int .i64 nodeZ.no, .int .i64 nodeZ.dev, .int .i64 nodeZ.kind, .int .i64 nodeZ.mode, .int .i64 nodeZ.uid, .int .i64 nodeZ.gid, .int .i64 nodeZ.mtime, .int .i64 nodeZ.ctime, .int .i64 nodeZ.links, .int .i64 nodeZ.up, .string (bs nodeZ.data), .slice none nodeZ.ents.length 0], .agg #[.int .i64 nodeZ.no, .int .i64 nodeZ.dev, .int .i64 nodeZ.kind, .int .i64 nodeZ.mode, .int .i64 nodeZ.uid, .int .i64 nodeZ.gid, .int .i64 nodeZ.mtime, .int .i64 nodeZ.ctime, .int .i64 nodeZ.links, .int .i64 nodeZ.up, .string (bs nodeZ.data), .slice none nodeZ.ents.length 0], .int .i64 16]) (res_node2 Tryz.results48 _ _ (b5 + 1) (b5 + 2) nodeZ nodeZ none none 0 0 _ rfl rfl rfl Pq Qq) rfl ?_
    exact HS.out _ _ _ (E4.trans b5') ((Op.mono (by simp)).then (Oq.mono (by simp))) hE.out (by decide)
  have t1 : (overF S.devs no == no) = true := by simpa using ho
  have t1b : (overF S.devs no != no) = false := by simpa using ho
  have HOV := Lib.hid (show ¬ ¬ overF S.devs no = no by simpa using ho)
  clear ho
  refine wp_region_grow w4 (by kernel_rfl) (by kernel_rfl) (Ext.refl _).drew ?_
  repeat (quiet_step (((with_reducible refine (KO.out _).mono ?_); rintro e w'' ⟨rfl, hEx⟩; exact ⟨rfl, ⟨w'', Ext.trans (Gr.h _) hEx⟩, rfl⟩)))
  refine wpQuiet_nil ?_
  rintro w5 ⟨⟨w5', b5'⟩, h5⟩
  dsimp only at h5
  subst h5
  clear y0 KO
  have P5 := P4.ext b5'
  have Q5 := Q4.ext b5'
  have C5 := C4.ext b5'
  have M5 := M4.ext b5'
  have N5 := N4.ext b5'
  have okm5 := okm4.ext b5'
  have okn5 := okn4.ext b5'
  have E5 := E4.trans b5'
  have x0 : w5.cell? ⟨b5, 0, none⟩ = some (.int .i64 cu) := C5.cell 0
  have x1 : w5.cell? ⟨b5, 1, none⟩ = some (.int .i64 cg) := C5.cell 1
  have xz := C5.lt
  obtain ⟨u, hu⟩ : ∃ u, u = freeB cu m.mode m.uid n.uid := ⟨_, rfl⟩
  have hm3 : Hid (leaveE S cu cg dir nm = if u = false then 4 else 0) := by show _ = _; rw [hm2.out, if_neg (by decide), if_neg HOV.out, hu]
  have HU := Lib.hid hu
  clear hm2 hu P4 Q4 C4 M4 N4 okm4 okn4
  go_wp2_with (first | (refine wpList_load_node rfl _ rfl b11 m A2 k2 rfl M5 ?_) | (refine wpList_load_node rfl _ rfl b13 n A4 k4 rfl N5 ?_))
  refine (rfree_any cu cg _ _ _ m.mode m.uid _ _ _ _ _ _ _ _ _ _ _ n.uid _ _ _ _ _ _ _ _).mono ?_
  rw [← HU.out]
  rintro e w6 ⟨rfl, b6⟩
  have P6 := P5.ext b6
  have Q6 := Q5.ext b6
  have M6 := M5.ext b6
  have N6 := N5.ext b6
  have okm6 := okm5.ext b6
  have okn6 := okn5.ext b6
  have E6 := E5.trans b6
  clear x0 x1 xz P5 Q5 M5 N5 C5
  cases u
  · have hE : Hid (leaveE S cu cg dir nm = 4) := by show _ = _; rw [hm3.out]; rfl
    clear hm3
    go_wp2_with (first | (refine wpList_store_node rfl _ _ rfl (b5 + 1) nodeZ none 0 rfl rfl P6 ?_; intro wp Pp Op; have Qp := Op.has Q6 (by rw [List.mem_singleton]; omega)) | (refine wpList_store_node rfl _ _ rfl (b5 + 2) nodeZ none 0 rfl rfl Qp ?_; intro wq Qq Oq; have Pq := Oq.has Pp (by rw [List.mem_singleton]; omega)))
    refine bodyPost_ret (v := .tuple #[.agg #[.int .i64 nodeZ.no, .int .i64 nodeZ.dev, .int .i64 nodeZ.kind, .int .i64 nodeZ.mode, .int .i64 nodeZ.uid, .int .i64 nodeZ.gid, .int .i64 nodeZ.mtime, .int .i64 nodeZ.ctime, .int .i64 nodeZ.links, .int .i64 nodeZ.up, .string (bs nodeZ.data), .slice none nodeZ.ents.length 0], .agg #[.int .i64 nodeZ.no, .int .i64 nodeZ.dev, .int .i64 nodeZ.kind, .int .i64 nodeZ.mode, .int .i64 nodeZ.uid, .int .i64 nodeZ.gid, .int .i64 nodeZ.mtime, .int .i64 nodeZ.ctime, .int .i64 nodeZ.links, .int .i64 nodeZ.up, .string (bs nodeZ.data), .slice none nodeZ.ents.length 0], .int .i64 4]) (res_node2 Tryz.results48 _ _ (b5 + 1) (b5 + 2) nodeZ nodeZ none none 0 0 _ rfl rfl rfl Pq Qq) rfl ?_
    exact HS.out _ _ _ E6 ((Op.mono (by simp)).then (Oq.mono (by simp))) hE.out (by decide)
  have hE : Hid (leaveE S cu cg dir nm = 0) := by show _ = _; rw [hm3.out]; rfl
  clear hm3
  go_upto_region 11 with fail
  obtain ⟨Ph, hPh⟩ : ∃ Ph : Nat → World → Prop, Ph = ph2 (fun w' => w' = w6.drew) (fun w' => Has w' (b5 + 1) (.cells #[.int .i64 m.no, .int .i64 m.dev, .int .i64 m.kind, .int .i64 m.mode, .int .i64 m.uid, .int .i64 m.gid, .int .i64 m.mtime, .int .i64 m.ctime, .int .i64 m.links, .int .i64 m.up, .string (bs m.data), .slice A2 m.ents.length k2] 49) ∧ Only [b5 + 1] w6.drew w') (fun w' => Has w' (b5 + 1) (.cells #[.int .i64 m.no, .int .i64 m.dev, .int .i64 m.kind, .int .i64 m.mode, .int .i64 m.uid, .int .i64 m.gid, .int .i64 m.mtime, .int .i64 m.ctime, .int .i64 m.links, .int .i64 m.up, .string (bs m.data), .slice A2 m.ents.length k2] 49) ∧ Has w' (b5 + 2) (.cells #[.int .i64 n.no, .int .i64 n.dev, .int .i64 n.kind, .int .i64 n.mode, .int .i64 n.uid, .int .i64 n.gid, .int .i64 n.mtime, .int .i64 n.ctime, .int .i64 n.links, .int .i64 n.up, .string (bs n.data), .slice A4 n.ents.length k4] 49) ∧ Only [b5 + 1, b5 + 2] w6.drew w') := ⟨_, rfl⟩
  have ED : Ext w6 w6.drew := (Ext.refl _).drew
  have HV : Hid (Ph 0 w6.drew) := by show Ph 0 _; rw [hPh]; exact rfl
  have hne : Nonempty (Hp Ph) := ⟨⟨0, _, HV.out⟩⟩
  have uM : ∀ u : Hp Ph, Has u.w b11 (.cells #[.int .i64 m.no, .int .i64 m.dev, .int .i64 m.kind, .int .i64 m.mode, .int .i64 m.uid, .int .i64 m.gid, .int .i64 m.mtime, .int .i64 m.ctime, .int .i64 m.links, .int .i64 m.up, .string (bs m.data), .slice A2 m.ents.length k2] 49) := by
    rw [hPh]
    exact ph2_all (T := fun w' => Has w' b11 (.cells #[.int .i64 m.no, .int .i64 m.dev, .int .i64 m.kind, .int .i64 m.mode, .int .i64 m.uid, .int .i64 m.gid, .int .i64 m.mtime, .int .i64 m.ctime, .int .i64 m.links, .int .i64 m.up, .string (bs m.data), .slice A2 m.ents.length k2] 49)) (fun w' h' => by rw [h']; exact M6.ext ED) (fun w' h' => h'.2.has (M6.ext ED) (by rw [List.mem_singleton]; omega)) (fun w' h' => h'.2.2.has (M6.ext ED) (by simp only [List.mem_cons, List.not_mem_nil, or_false]; omega))
  have uN : ∀ u : Hp Ph, Has u.w b13 (.cells #[.int .i64 n.no, .int .i64 n.dev, .int .i64 n.kind, .int .i64 n.mode, .int .i64 n.uid, .int .i64 n.gid, .int .i64 n.mtime, .int .i64 n.ctime, .int .i64 n.links, .int .i64 n.up, .string (bs n.data), .slice A4 n.ents.length k4] 49) := by
    rw [hPh]
    exact ph2_all (T := fun w' => Has w' b13 (.cells #[.int .i64 n.no, .int .i64 n.dev, .int .i64 n.kind, .int .i64 n.mode, .int .i64 n.uid, .int .i64 n.gid, .int .i64 n.mtime, .int .i64 n.ctime, .int .i64 n.links, .int .i64 n.up, .string (bs n.data), .slice A4 n.ents.length k4] 49)) (fun w' h' => by rw [h']; exact N6.ext ED) (fun w' h' => h'.2.has (N6.ext ED) (by rw [List.mem_singleton]; omega)) (fun w' h' => h'.2.2.has (N6.ext ED) (by simp only [List.mem_cons, List.not_mem_nil, or_false]; omega))
  have my0 : ∀ u : Hp Ph, u.w.cell? ⟨b11, 0, none⟩ = some (.int .i64 m.no) := fun u => (uM u).cell 0
  have my1 : ∀ u : Hp Ph, u.w.cell? ⟨b11, 1, none⟩ = some (.int .i64 m.dev) := fun u => (uM u).cell 1
  have my2 : ∀ u : Hp Ph, u.w.cell? ⟨b11, 2, none⟩ = some (.int .i64 m.kind) := fun u => (uM u).cell 2
  have my3 : ∀ u : Hp Ph, u.w.cell? ⟨b11, 3, none⟩ = some (.int .i64 m.mode) := fun u => (uM u).cell 3
  have my4 : ∀ u : Hp Ph, u.w.cell? ⟨b11, 4, none⟩ = some (.int .i64 m.uid) := fun u => (uM u).cell 4
  have my5 : ∀ u : Hp Ph, u.w.cell? ⟨b11, 5, none⟩ = some (.int .i64 m.gid) := fun u => (uM u).cell 5
  have my6 : ∀ u : Hp Ph, u.w.cell? ⟨b11, 6, none⟩ = some (.int .i64 m.mtime) := fun u => (uM u).cell 6
  have my7 : ∀ u : Hp Ph, u.w.cell? ⟨b11, 7, none⟩ = some (.int .i64 m.ctime) := fun u => (uM u).cell 7
  have my8 : ∀ u : Hp Ph, u.w.cell? ⟨b11, 8, none⟩ = some (.int .i64 m.links) := fun u => (uM u).cell 8
  have my9 : ∀ u : Hp Ph, u.w.cell? ⟨b11, 9, none⟩ = some (.int .i64 m.up) := fun u => (uM u).cell 9
  have my10 : ∀ u : Hp Ph, u.w.cell? ⟨b11, 10, none⟩ = some (.string (bs m.data)) := fun u => (uM u).cell 10
  have my11 : ∀ u : Hp Ph, u.w.cell? ⟨b11, 11, none⟩ = some (.slice A2 m.ents.length k2) := fun u => (uM u).cell 11
  have ny0 : ∀ u : Hp Ph, u.w.cell? ⟨b13, 0, none⟩ = some (.int .i64 n.no) := fun u => (uN u).cell 0
  have ny1 : ∀ u : Hp Ph, u.w.cell? ⟨b13, 1, none⟩ = some (.int .i64 n.dev) := fun u => (uN u).cell 1
  have ny2 : ∀ u : Hp Ph, u.w.cell? ⟨b13, 2, none⟩ = some (.int .i64 n.kind) := fun u => (uN u).cell 2
  have ny3 : ∀ u : Hp Ph, u.w.cell? ⟨b13, 3, none⟩ = some (.int .i64 n.mode) := fun u => (uN u).cell 3
  have ny4 : ∀ u : Hp Ph, u.w.cell? ⟨b13, 4, none⟩ = some (.int .i64 n.uid) := fun u => (uN u).cell 4
  have ny5 : ∀ u : Hp Ph, u.w.cell? ⟨b13, 5, none⟩ = some (.int .i64 n.gid) := fun u => (uN u).cell 5
  have ny6 : ∀ u : Hp Ph, u.w.cell? ⟨b13, 6, none⟩ = some (.int .i64 n.mtime) := fun u => (uN u).cell 6
  have ny7 : ∀ u : Hp Ph, u.w.cell? ⟨b13, 7, none⟩ = some (.int .i64 n.ctime) := fun u => (uN u).cell 7
  have ny8 : ∀ u : Hp Ph, u.w.cell? ⟨b13, 8, none⟩ = some (.int .i64 n.links) := fun u => (uN u).cell 8
  have ny9 : ∀ u : Hp Ph, u.w.cell? ⟨b13, 9, none⟩ = some (.int .i64 n.up) := fun u => (uN u).cell 9
  have ny10 : ∀ u : Hp Ph, u.w.cell? ⟨b13, 10, none⟩ = some (.string (bs n.data)) := fun u => (uN u).cell 10
  have ny11 : ∀ u : Hp Ph, u.w.cell? ⟨b13, 11, none⟩ = some (.slice A4 n.ents.length k4) := fun u => (uN u).cell 11
  have hB0 : Hid (∀ u : Wc (Ph 0), ∃ (m : NodeD) (A' : Option Addr) (c' : Nat), Has u.w (b5 + 1) (.cells #[.int .i64 m.no, .int .i64 m.dev, .int .i64 m.kind, .int .i64 m.mode, .int .i64 m.uid, .int .i64 m.gid, .int .i64 m.mtime, .int .i64 m.ctime, .int .i64 m.links, .int .i64 m.up, .string (bs m.data), .slice A' m.ents.length c'] 49)) := by
    show ∀ u : Wc (Ph 0), _
    rintro ⟨u, hu⟩
    rw [hPh] at hu
    exact ⟨nodeZ, none, 0, by show Has u _ _; rw [show u = w6.drew from hu]; exact P6.ext ED⟩
  have hN0 : Hid (∀ (u : Wc (Ph 0)) (w' : World), Has w' (b5 + 1) (.cells #[.int .i64 m.no, .int .i64 m.dev, .int .i64 m.kind, .int .i64 m.mode, .int .i64 m.uid, .int .i64 m.gid, .int .i64 m.mtime, .int .i64 m.ctime, .int .i64 m.links, .int .i64 m.up, .string (bs m.data), .slice A2 m.ents.length k2] 49) → Only [b5 + 1] u.w w' → Ph 1 w') := by
    show ∀ (u : Wc (Ph 0)) (w' : World), _
    rintro ⟨u, hu⟩ w' h1 h2
    rw [hPh] at hu ⊢
    dsimp only at h2
    rw [show u = w6.drew from hu] at h2
    exact ⟨h1, h2⟩
  have hB1 : Hid (∀ u : Wc (Ph 1), ∃ (m : NodeD) (A' : Option Addr) (c' : Nat), Has u.w (b5 + 2) (.cells #[.int .i64 m.no, .int .i64 m.dev, .int .i64 m.kind, .int .i64 m.mode, .int .i64 m.uid, .int .i64 m.gid, .int .i64 m.mtime, .int .i64 m.ctime, .int .i64 m.links, .int .i64 m.up, .string (bs m.data), .slice A' m.ents.length c'] 49)) := by
    show ∀ u : Wc (Ph 1), _
    rintro ⟨u, hu⟩
    rw [hPh] at hu
    exact ⟨nodeZ, none, 0, hu.2.has (Q6.ext ED) (by rw [List.mem_singleton]; omega)⟩
  have hN1 : Hid (∀ (u : Wc (Ph 1)) (w' : World), Has w' (b5 + 2) (.cells #[.int .i64 n.no, .int .i64 n.dev, .int .i64 n.kind, .int .i64 n.mode, .int .i64 n.uid, .int .i64 n.gid, .int .i64 n.mtime, .int .i64 n.ctime, .int .i64 n.links, .int .i64 n.up, .string (bs n.data), .slice A4 n.ents.length k4] 49) → Only [b5 + 2] u.w w' → Ph 2 w') := by
    show ∀ (u : Wc (Ph 1)) (w' : World), _
    rintro ⟨u, hu⟩ w' h1 h2
    rw [hPh] at hu ⊢
    dsimp only at h2
    exact ⟨h2.has hu.1 (by rw [List.mem_singleton]; omega), h1, (hu.2.mono (by simp)).then (h2.mono (by simp))⟩
  have KQ : Hid (∀ w', Ph 2 w' → Has w' (b5 + 1) (.cells #[.int .i64 m.no, .int .i64 m.dev, .int .i64 m.kind, .int .i64 m.mode, .int .i64 m.uid, .int .i64 m.gid, .int .i64 m.mtime, .int .i64 m.ctime, .int .i64 m.links, .int .i64 m.up, .string (bs m.data), .slice A2 m.ents.length k2] 49) ∧ Has w' (b5 + 2) (.cells #[.int .i64 n.no, .int .i64 n.dev, .int .i64 n.kind, .int .i64 n.mode, .int .i64 n.uid, .int .i64 n.gid, .int .i64 n.mtime, .int .i64 n.ctime, .int .i64 n.links, .int .i64 n.up, .string (bs n.data), .slice A4 n.ents.length k4] 49) ∧ Only [b5 + 1, b5 + 2] w6.drew w') := by
    show ∀ w', _
    intro w' hw
    rw [hPh] at hw
    exact hw
  clear hPh uM uN
  refine wp_region_phase Ph [2, 3] (by kernel_rfl) (by kernel_rfl) (by kernel_rfl) HV.out ?_
  iterate 2 (refine wpLexE_plain (by kernel_rfl) (fun K hK => ?_); go_simp; refine hK _ ?_; clear hK K)
  refine wpLexE_store_node 0 (by kernel_rfl) rfl rfl _ _ rfl (b5 + 1) m A2 k2 rfl rfl hB0.out hN0.out ?_
  refine wpLexE_store_node 1 (by kernel_rfl) rfl rfl _ _ rfl (b5 + 2) n A4 k4 rfl rfl hB1.out hN1.out ?_
  refine wpLexE_plain (by kernel_rfl) (fun K hK => ?_)
  go_simp
  refine hK _ ?_
  clear hK K
  refine wpLexE_nil ?_
  intro w7 hw7
  obtain ⟨P7, Q7, O7⟩ := KQ.out _ hw7
  clear my0 my1 my2 my3 my4 my5 my6 my7 my8 my9 my10 my11 ny0 ny1 ny2 ny3 ny4 ny5 ny6 ny7 ny8 ny9 ny10 ny11 hB0 hN0 hB1 hN1 KQ hw7
  go_wp2_with fail
  refine bodyPost_ret (v := .tuple #[.agg #[.int .i64 m.no, .int .i64 m.dev, .int .i64 m.kind, .int .i64 m.mode, .int .i64 m.uid, .int .i64 m.gid, .int .i64 m.mtime, .int .i64 m.ctime, .int .i64 m.links, .int .i64 m.up, .string (bs m.data), .slice A2 m.ents.length k2], .agg #[.int .i64 n.no, .int .i64 n.dev, .int .i64 n.kind, .int .i64 n.mode, .int .i64 n.uid, .int .i64 n.gid, .int .i64 n.mtime, .int .i64 n.ctime, .int .i64 n.links, .int .i64 n.up, .string (bs n.data), .slice A4 n.ents.length k4], .int .i64 0]) (res_node2 Tryz.results48 _ _ (b5 + 1) (b5 + 2) m n A2 A4 k2 k4 _ rfl rfl rfl P7 Q7) rfl ?_
  have e1 : leaveD S cu cg dir nm = m := by unfold leaveD; rw [if_pos hE.out, HMG.out]
  have e2 : leaveN S cu cg dir nm = n := by unfold leaveN; rw [if_pos hE.out, HNN.out, HNO.out, HMG.out]
  have haP : Apart w6.drew B [b5 + 1, b5 + 2] := by
    intro b hb
    simp only [List.mem_cons, List.not_mem_nil, or_false] at hb
    have := h.1
    rcases hb with rfl | rfl
    · exact ⟨by omega, (P6.ext ED).noTag (by decide)⟩
    · exact ⟨by omega, (Q6.ext ED).noTag (by decide)⟩
  refine ⟨A2, k2, A4, k4, by rw [e1, e2, hE.out], by rw [e1]; exact (okm6.ext ED).only O7 haP, by rw [e2]; exact (okn6.ext ED).only O7 haP, O7.after (E6.trans ED) (by intro b hb; simp only [List.mem_cons, List.not_mem_nil, or_false] at hb; omega)⟩
end Go.Proofs.YtebghednhjaniaaGreat

namespace Go.Proofs.YtebghednhjaniaaGreat
open Go.ChangeShapes Go.WideShapes Go.ChangeAt Go.RowKit

/-- What is no directory has no names. -/
def NoEnts (S : TreeD) : Prop := ∀ n ∈ S.nodes, n.kind ≠ 1 → n.ents = []
set_option maxRecDepth 100000 in
set_option maxHeartbeats 8000000 in
theorem rgone_rmdir (B : Nat) (g : GhF) (S : TreeD) (X : Xtra) (cu cg dir : Int) (nm : List UInt8) (w : World) (h : FAt w B g S X) (O : Ok S) (hl1 : S.last ≤ 1000) (hnm : nm.length ≤ 1000000) :
    Calls Tryz.prog 46 #[.pointer (some ⟨g.bF, 0, none⟩), .agg #[.int .i64 cu, .int .i64 cg], .int .i64 dir, .string (bs nm), .bool true] w (ErF w B g (rmdirT S cu cg X.now dir nm) X (rmdirE S cu cg dir nm)) := by
  obtain ⟨W0, hW0⟩ : ∃ W0, W0 = w.alloc (.cells #[.int .i64 cu, .int .i64 cg] 40) := ⟨_, rfl⟩
  have E0 : Ext w W0 := by rw [hW0]; exact (Ext.refl _).alloc _
  have C0 : Has W0 w.heap.size (.cells #[.int .i64 cu, .int .i64 cg] 40) := by rw [hW0]; exact Has.new w _
  have HO := Lib.hid O
  have hcl : S.nodes.length ≤ 100000 := by have := O.live.count; omega
  have HCL := Lib.hid hcl
  obtain ⟨now, hnow⟩ : ∃ now, now = X.now := ⟨_, rfl⟩
  have HNW := Lib.hid hnow
  rw [← hnow]
  have hm : Hid (rmdirE S cu cg dir nm = if ¬ leaveE S cu cg dir nm = 0 then leaveE S cu cg dir nm else if ¬ (leaveN S cu cg dir nm).kind = 1 then 9 else if 0 < ((leaveN S cu cg dir nm).ents.length : Int) then 10 else 0) := by show _ = _; rfl
  have hm2 : Hid (rmdirT S cu cg now dir nm = if rmdirE S cu cg dir nm = 0 then goneT S now (leaveD S cu cg dir nm) (leaveN S cu cg dir nm) nm else S) := by show _ = _; rfl
  have hz : leaveE S cu cg dir nm = 0 → leaveD S cu cg dir nm = getN S.nodes dir ∧ (leaveD S cu cg dir nm).no = dir ∧ isN S.nodes dir = true ∧ Held S (leaveN S cu cg dir nm) := fun h0 => by
    obtain ⟨z1, z2, _, z4, z5⟩ := leaveE_zero h0
    have hi := (placeE_zero z1).1
    exact ⟨z4, by rw [z4]; exact (isN_true hi).2.1, hi, by rw [z5]; exact O.held z2⟩
  have HS : Hid (∀ (w' : World) (x : Int), Ext w w' → rmdirE S cu cg dir nm = x → x ≠ 0 → ErF w B g (rmdirT S cu cg now dir nm) X (rmdirE S cu cg dir nm) (.returned (.int .i64 x)) w') := by
    show ∀ (w' : World) (x : Int), _
    intro w' x hE hx h0
    rw [hx]
    refine ⟨rfl, g, ?_, Only.of_ext hE, GhF.on_refl _ _⟩
    rw [hm2.out, if_neg (by rw [hx]; exact h0)]
    exact h.ext hE
  clear O hcl hnow
  go_enter Tryz.func46, Tryz.ntmps46
  go_upto_region 1 with fail
  rw [← hW0]
  clear hW0
  have x0 : W0.cell? ⟨w.heap.size, 0, none⟩ = some (.int .i64 cu) := C0.cell 0
  have x1 : W0.cell? ⟨w.heap.size, 1, none⟩ = some (.int .i64 cg) := C0.cell 1
  have xz := C0.lt
  go_wp2_with fail
  refine (rleave_any B g S X cu cg dir nm _ (h.ext E0) HO.out (by omega) hnm).mono ?_
  rintro e w2 ⟨A2, k2, A3, k3, rfl, ok2, okn2, b2⟩
  obtain ⟨m, hmm⟩ : ∃ m, m = leaveD S cu cg dir nm := ⟨_, rfl⟩
  obtain ⟨n, hn⟩ : ∃ n, n = leaveN S cu cg dir nm := ⟨_, rfl⟩
  obtain ⟨x, hx⟩ : ∃ x, x = leaveE S cu cg dir nm := ⟨_, rfl⟩
  rw [← hmm] at ok2 hm2 hz
  rw [← hn] at okn2 hm hm2 hz
  rw [← hx] at hm hz
  rw [← hmm, ← hn, ← hx]
  obtain ⟨W3, hW3⟩ : ∃ W3, W3 = (w2.alloc (.cells #[.int .i64 m.no, .int .i64 m.dev, .int .i64 m.kind, .int .i64 m.mode, .int .i64 m.uid, .int .i64 m.gid, .int .i64 m.mtime, .int .i64 m.ctime, .int .i64 m.links, .int .i64 m.up, .string (bs m.data), .slice A2 m.ents.length k2] 49)).alloc (.cells #[.int .i64 n.no, .int .i64 n.dev, .int .i64 n.kind, .int .i64 n.mode, .int .i64 n.uid, .int .i64 n.gid, .int .i64 n.mtime, .int .i64 n.ctime, .int .i64 n.links, .int .i64 n.up, .string (bs n.data), .slice A3 n.ents.length k3] 49) := ⟨_, rfl⟩
  obtain ⟨b11, hb11⟩ : ∃ b, b = w2.heap.size := ⟨_, rfl⟩
  have E23 : Ext w2 W3 := by rw [hW3]; exact ((Ext.refl _).alloc _).alloc _
  have M3 : Has W3 b11 (.cells #[.int .i64 m.no, .int .i64 m.dev, .int .i64 m.kind, .int .i64 m.mode, .int .i64 m.uid, .int .i64 m.gid, .int .i64 m.mtime, .int .i64 m.ctime, .int .i64 m.links, .int .i64 m.up, .string (bs m.data), .slice A2 m.ents.length k2] 49) := by rw [hW3, hb11]; exact (Has.new _ _).alloc _
  have N3 : Has W3 (b11 + 1) (.cells #[.int .i64 n.no, .int .i64 n.dev, .int .i64 n.kind, .int .i64 n.mode, .int .i64 n.uid, .int .i64 n.gid, .int .i64 n.mtime, .int .i64 n.ctime, .int .i64 n.links, .int .i64 n.up, .string (bs n.data), .slice A3 n.ents.length k3] 49) := by
    rw [hW3, hb11]
    have := Has.new (w2.alloc (.cells #[.int .i64 m.no, .int .i64 m.dev, .int .i64 m.kind, .int .i64 m.mode, .int .i64 m.uid, .int .i64 m.gid, .int .i64 m.mtime, .int .i64 m.ctime, .int .i64 m.links, .int .i64 m.up, .string (bs m.data), .slice A2 m.ents.length k2] 49)) (.cells #[.int .i64 n.no, .int .i64 n.dev, .int .i64 n.kind, .int .i64 n.mode, .int .i64 n.uid, .int .i64 n.gid, .int .i64 n.mtime, .int .i64 n.ctime, .int .i64 n.links, .int .i64 n.up, .string (bs n.data), .slice A3 n.ents.length k3] 49)
    rwa [World.size_alloc] at this
  have E3 : Ext w W3 := E0.trans (b2.trans E23)
  have ok3 := ok2.ext E23
  have okn3 := okn2.ext E23
  have hb11w : w.heap.size ≤ b11 := by rw [hb11]; exact (E0.trans b2).size
  clear x0 x1 xz hmm hn hx C0
  go_upto_region 2 with fail
  rw [← hW3]
  rw [← hb11]
  clear hW3 hb11
  by_cases hx0 : x = 0
  case neg =>
    have t0 : (x == 0) = false := by simpa using hx0
    have t0b : (x != 0) = true := by simpa using hx0
    have hE : Hid (rmdirE S cu cg dir nm = x) := by show _ = _; rw [hm.out, if_pos hx0]
    have HX := Lib.hid hx0
    clear hm hx0 hz
    go_wp2_with fail
    go_ret
    exact HS.out _ _ E3 hE.out HX.out
  have t0 : (x == 0) = true := by simpa using hx0
  have t0b : (x != 0) = false := by simpa using hx0
  obtain ⟨hz1, hz2, hz3, hz4⟩ := hz hx0
  have HX0 := Lib.hid hx0
  have HMG := Lib.hid hz1
  have HMD := Lib.hid hz2
  have HDI := Lib.hid hz3
  have HHN := Lib.hid hz4
  have hen := HO.out.entsN dir
  rw [← hz1] at hen
  have HEN := Lib.hid hen
  have y2 : W3.cell? ⟨b11 + 1, 2, none⟩ = some (.int .i64 n.kind) := N3.cell 2
  obtain ⟨lo, hlo⟩ : ∃ lo, lo = n.ents.length := ⟨_, rfl⟩
  have y11 : W3.cell? ⟨b11 + 1, 11, none⟩ = some (.slice A3 lo k3) := by rw [hlo]; exact N3.cell 11
  have yz := N3.lt
  have HLO := Lib.hid hlo
  clear hz1 hz2 hz3 hz4 hen hlo
  by_cases c1 : n.kind = 1
  case neg =>
    have t1 : (n.kind == 1) = false := by simpa using c1
    have t1b : (n.kind != 1) = true := by simpa using c1
    have hE : Hid (rmdirE S cu cg dir nm = 9) := by show _ = _; rw [hm.out, if_neg (by simpa using hx0), if_pos c1]
    clear hm hx0 c1
    go_wp2_with fail
    go_ret
    exact HS.out _ _ E3 hE.out (by decide)
  have t1 : (n.kind == 1) = true := by simpa using c1
  have t1b : (n.kind != 1) = false := by simpa using c1
  by_cases c2 : 0 < lo
  · have t2 : decide ((0 : Int) < (lo : Int)) = true := decide_eq_true (by omega)
    have hE : Hid (rmdirE S cu cg dir nm = 10) := by show _ = _; rw [hm.out, if_neg (by simpa using hx0), if_neg (by simpa using c1), if_pos (by rw [← HLO.out]; omega)]
    clear hm hx0 c1
    go_wp2_with fail
    go_ret
    exact HS.out _ _ E3 hE.out (by decide)
  have t2 : decide ((0 : Int) < (lo : Int)) = false := decide_eq_false (by omega)
  have hE : Hid (rmdirE S cu cg dir nm = 0) := by show _ = _; rw [hm.out, if_neg (by simpa using hx0), if_neg (by simpa using c1), if_neg (by rw [← HLO.out]; omega)]
  have t2c : lo ≤ 0 := by omega
  clear hm hx0 c1 c2
  have k11 : W3.cell? ⟨b11, 11, none⟩ = some (.slice A2 m.ents.length k2) := M3.cell 11
  have kz := M3.lt
  go_wp2_with fail
  refine (rdrop_any A2 m.ents k2 nm _ ok3.ents.ents (by have := HEN.out.2; omega)).mono ?_
  rintro e w4 ⟨v4, rfl, hown, b4⟩
  obtain ⟨A4, c4, rfl, q1, q2, q3, q4⟩ := hown.entsT (B := B)
  obtain ⟨L4, hL4⟩ : ∃ L, L = dropF m.ents nm := ⟨_, rfl⟩
  rw [← hL4] at q1 q3 ⊢
  have HL4 := Lib.hid hL4
  have E4 := E3.trans b4
  obtain ⟨T, hT⟩ : ∃ T, T = touchT S dir now L4 := ⟨_, rfl⟩
  have HT := Lib.hid hT
  have KT : Hid (Calls Tryz.prog 95 #[.pointer (some ⟨g.bF, 0, none⟩), .int .i64 dir, .slice A4 L4.length c4] w4 (TouchF w4 B g T X)) := by
    show Calls _ _ _ _ _
    rw [hT, HNW.out]
    exact rtouch_any B g S X dir A4 L4 c4 w4 (h.ext E4) (by have := HCL.out; omega) HO.out.live.nos q3 q1 q2 q4
  have hon := HO.out.live.on _ (isN_true HDI.out).2.2
  have hTL : Live T := by
    rw [hT]
    exact HO.out.live.set _ hon.1 hon.2 (fun e => HO.out.live.one (getN S.nodes dir) (isN_true HDI.out).2.2 e)
  have hHT : Held T n := ⟨HHN.out.links, by rw [hT]; exact HHN.out.dev, HHN.out.data, HHN.out.one⟩
  have hTl : T.last ≤ 1000 := by rw [hT]; exact hl1
  have HTL := Lib.hid hTL
  have HHT := Lib.hid hHT
  have N4 := N3.ext b4
  have okn4 := okn3.ext b4
  clear y2 y11 yz k11 kz hown q1 q2 q3 q4 hL4 hT hTL hHT hon N3 okn3 t1 t1b t2
  go_wp2_with fail
  refine KT.out.mono ?_
  rintro e w5 ⟨rfl, K5, O5⟩
  have hng : b11 + 1 ∉ g.list := by
    have hlw := h.lt
    simp only [GhF.list, List.mem_cons, List.not_mem_nil, or_false]
    omega
  have N5 := O5.has N4 hng
  have okn5 := okn4.only O5 (h.ext E4).apart
  clear KT
  go_wp2_with (refine wpList_load_node rfl _ rfl (b11 + 1) n A3 k3 rfl N5 ?_)
  refine (rless_any B g T X n A3 k3 _ K5 HTL.out hTl okn5 HHT.out).mono ?_
  rintro e w6 ⟨rfl, g2, K6, O6, hon6⟩
  go_wp2_with fail
  go_ret
  have e1 : rmdirT S cu cg now dir nm = lessT T X.now n := by rw [hm2.out, if_pos hE.out]; unfold goneT; rw [HMD.out, HT.out, HL4.out, HNW.out]
  have O15 : Only g.list w w5 := Only.pre E4 O5
  refine ⟨by rw [hE.out]; rfl, g2, by rw [e1]; exact K6, O15.then O6, ?_⟩
  refine ⟨hon6.1, fun b hb => ?_⟩
  rcases hon6.2 b hb with k | k
  · exact .inl k
  · exact .inr (by have := O15.size; omega)
set_option maxRecDepth 100000 in
set_option maxHeartbeats 8000000 in
theorem rgone_unlink (B : Nat) (g : GhF) (S : TreeD) (X : Xtra) (cu cg dir : Int) (nm : List UInt8) (w : World) (h : FAt w B g S X) (O : Ok S) (hl1 : S.last ≤ 1000) (hnm : nm.length ≤ 1000000) (hne : NoEnts S) :
    Calls Tryz.prog 46 #[.pointer (some ⟨g.bF, 0, none⟩), .agg #[.int .i64 cu, .int .i64 cg], .int .i64 dir, .string (bs nm), .bool false] w (ErF w B g (unlinkT S cu cg X.now dir nm) X (unlinkE S cu cg dir nm)) := by
  obtain ⟨W0, hW0⟩ : ∃ W0, W0 = w.alloc (.cells #[.int .i64 cu, .int .i64 cg] 40) := ⟨_, rfl⟩
  have E0 : Ext w W0 := by rw [hW0]; exact (Ext.refl _).alloc _
  have C0 : Has W0 w.heap.size (.cells #[.int .i64 cu, .int .i64 cg] 40) := by rw [hW0]; exact Has.new w _
  have HO := Lib.hid O
  have hcl : S.nodes.length ≤ 100000 := by have := O.live.count; omega
  have HCL := Lib.hid hcl
  obtain ⟨now, hnow⟩ : ∃ now, now = X.now := ⟨_, rfl⟩
  have HNW := Lib.hid hnow
  rw [← hnow]
  have hm : Hid (unlinkE S cu cg dir nm = if ¬ leaveE S cu cg dir nm = 0 then leaveE S cu cg dir nm else if (leaveN S cu cg dir nm).kind = 1 then 8 else 0) := by show _ = _; rfl
  have hbare : leaveE S cu cg dir nm = 0 → (leaveN S cu cg dir nm).kind ≠ 1 → (leaveN S cu cg dir nm).ents = [] := fun h0 hk => by
    obtain ⟨_, z2, _, _, z5⟩ := leaveE_zero h0
    rw [z5] at hk ⊢
    exact hne _ (isN_true z2).2.2 hk
  have hm2 : Hid (unlinkT S cu cg now dir nm = if unlinkE S cu cg dir nm = 0 then goneT S now (leaveD S cu cg dir nm) (leaveN S cu cg dir nm) nm else S) := by show _ = _; rfl
  have hz : leaveE S cu cg dir nm = 0 → leaveD S cu cg dir nm = getN S.nodes dir ∧ (leaveD S cu cg dir nm).no = dir ∧ isN S.nodes dir = true ∧ Held S (leaveN S cu cg dir nm) := fun h0 => by
    obtain ⟨z1, z2, _, z4, z5⟩ := leaveE_zero h0
    have hi := (placeE_zero z1).1
    exact ⟨z4, by rw [z4]; exact (isN_true hi).2.1, hi, by rw [z5]; exact O.held z2⟩
  have HS : Hid (∀ (w' : World) (x : Int), Ext w w' → unlinkE S cu cg dir nm = x → x ≠ 0 → ErF w B g (unlinkT S cu cg now dir nm) X (unlinkE S cu cg dir nm) (.returned (.int .i64 x)) w') := by
    show ∀ (w' : World) (x : Int), _
    intro w' x hE hx h0
    rw [hx]
    refine ⟨rfl, g, ?_, Only.of_ext hE, GhF.on_refl _ _⟩
    rw [hm2.out, if_neg (by rw [hx]; exact h0)]
    exact h.ext hE
  clear O hcl hnow
  go_enter Tryz.func46, Tryz.ntmps46
  go_upto_region 1 with fail
  rw [← hW0]
  clear hW0
  have x0 : W0.cell? ⟨w.heap.size, 0, none⟩ = some (.int .i64 cu) := C0.cell 0
  have x1 : W0.cell? ⟨w.heap.size, 1, none⟩ = some (.int .i64 cg) := C0.cell 1
  have xz := C0.lt
  go_wp2_with fail
  refine (rleave_any B g S X cu cg dir nm _ (h.ext E0) HO.out (by omega) hnm).mono ?_
  rintro e w2 ⟨A2, k2, A3, k3, rfl, ok2, okn2, b2⟩
  obtain ⟨m, hmm⟩ : ∃ m, m = leaveD S cu cg dir nm := ⟨_, rfl⟩
  obtain ⟨n, hn⟩ : ∃ n, n = leaveN S cu cg dir nm := ⟨_, rfl⟩
  obtain ⟨x, hx⟩ : ∃ x, x = leaveE S cu cg dir nm := ⟨_, rfl⟩
  rw [← hmm] at ok2 hm2 hz
  rw [← hn] at okn2 hm hm2 hz hbare
  rw [← hx] at hm hz hbare
  rw [← hmm, ← hn, ← hx]
  obtain ⟨W3, hW3⟩ : ∃ W3, W3 = (w2.alloc (.cells #[.int .i64 m.no, .int .i64 m.dev, .int .i64 m.kind, .int .i64 m.mode, .int .i64 m.uid, .int .i64 m.gid, .int .i64 m.mtime, .int .i64 m.ctime, .int .i64 m.links, .int .i64 m.up, .string (bs m.data), .slice A2 m.ents.length k2] 49)).alloc (.cells #[.int .i64 n.no, .int .i64 n.dev, .int .i64 n.kind, .int .i64 n.mode, .int .i64 n.uid, .int .i64 n.gid, .int .i64 n.mtime, .int .i64 n.ctime, .int .i64 n.links, .int .i64 n.up, .string (bs n.data), .slice A3 n.ents.length k3] 49) := ⟨_, rfl⟩
  obtain ⟨b11, hb11⟩ : ∃ b, b = w2.heap.size := ⟨_, rfl⟩
  have E23 : Ext w2 W3 := by rw [hW3]; exact ((Ext.refl _).alloc _).alloc _
  have M3 : Has W3 b11 (.cells #[.int .i64 m.no, .int .i64 m.dev, .int .i64 m.kind, .int .i64 m.mode, .int .i64 m.uid, .int .i64 m.gid, .int .i64 m.mtime, .int .i64 m.ctime, .int .i64 m.links, .int .i64 m.up, .string (bs m.data), .slice A2 m.ents.length k2] 49) := by rw [hW3, hb11]; exact (Has.new _ _).alloc _
  have N3 : Has W3 (b11 + 1) (.cells #[.int .i64 n.no, .int .i64 n.dev, .int .i64 n.kind, .int .i64 n.mode, .int .i64 n.uid, .int .i64 n.gid, .int .i64 n.mtime, .int .i64 n.ctime, .int .i64 n.links, .int .i64 n.up, .string (bs n.data), .slice A3 n.ents.length k3] 49) := by
    rw [hW3, hb11]
    have := Has.new (w2.alloc (.cells #[.int .i64 m.no, .int .i64 m.dev, .int .i64 m.kind, .int .i64 m.mode, .int .i64 m.uid, .int .i64 m.gid, .int .i64 m.mtime, .int .i64 m.ctime, .int .i64 m.links, .int .i64 m.up, .string (bs m.data), .slice A2 m.ents.length k2] 49)) (.cells #[.int .i64 n.no, .int .i64 n.dev, .int .i64 n.kind, .int .i64 n.mode, .int .i64 n.uid, .int .i64 n.gid, .int .i64 n.mtime, .int .i64 n.ctime, .int .i64 n.links, .int .i64 n.up, .string (bs n.data), .slice A3 n.ents.length k3] 49)
    rwa [World.size_alloc] at this
  have E3 : Ext w W3 := E0.trans (b2.trans E23)
  have ok3 := ok2.ext E23
  have okn3 := okn2.ext E23
  have hb11w : w.heap.size ≤ b11 := by rw [hb11]; exact (E0.trans b2).size
  clear x0 x1 xz hmm hn hx C0
  go_upto_region 2 with fail
  rw [← hW3]
  rw [← hb11]
  clear hW3 hb11
  by_cases hx0 : x = 0
  case neg =>
    have t0 : (x == 0) = false := by simpa using hx0
    have t0b : (x != 0) = true := by simpa using hx0
    have hE : Hid (unlinkE S cu cg dir nm = x) := by show _ = _; rw [hm.out, if_pos hx0]
    have HX := Lib.hid hx0
    clear hm hx0 hz hbare
    go_wp2_with fail
    go_ret
    exact HS.out _ _ E3 hE.out HX.out
  have t0 : (x == 0) = true := by simpa using hx0
  have t0b : (x != 0) = false := by simpa using hx0
  obtain ⟨hz1, hz2, hz3, hz4⟩ := hz hx0
  have HX0 := Lib.hid hx0
  have HMG := Lib.hid hz1
  have HMD := Lib.hid hz2
  have HDI := Lib.hid hz3
  have HHN := Lib.hid hz4
  have hen := HO.out.entsN dir
  rw [← hz1] at hen
  have HEN := Lib.hid hen
  have y2 : W3.cell? ⟨b11 + 1, 2, none⟩ = some (.int .i64 n.kind) := N3.cell 2
  obtain ⟨lo, hlo⟩ : ∃ lo, lo = n.ents.length := ⟨_, rfl⟩
  have y11 : W3.cell? ⟨b11 + 1, 11, none⟩ = some (.slice A3 lo k3) := by rw [hlo]; exact N3.cell 11
  have yz := N3.lt
  have HLO := Lib.hid hlo
  by_cases c1 : n.kind = 1
  · have t1 : (n.kind == 1) = true := by simpa using c1
    have t1b : (n.kind != 1) = false := by simpa using c1
    have hE : Hid (unlinkE S cu cg dir nm = 8) := by show _ = _; rw [hm.out, if_neg (by simpa using hx0), if_pos c1]
    clear hm hx0 c1 hbare hz1 hz2 hz3 hz4 hen hlo
    go_wp2_with fail
    go_ret
    exact HS.out _ _ E3 hE.out (by decide)
  have t1 : (n.kind == 1) = false := by simpa using c1
  have t1b : (n.kind != 1) = true := by simpa using c1
  have hl0 : lo ≤ 0 := by rw [hlo, hbare hx0 c1]; exact Nat.le_refl _
  have t2 : decide ((0 : Int) < (lo : Int)) = false := decide_eq_false (by omega)
  have hE : Hid (unlinkE S cu cg dir nm = 0) := by show _ = _; rw [hm.out, if_neg (by simpa using hx0), if_neg c1]
  clear hm hx0 c1 hbare hz1 hz2 hz3 hz4 hen hlo
  have k11 : W3.cell? ⟨b11, 11, none⟩ = some (.slice A2 m.ents.length k2) := M3.cell 11
  have kz := M3.lt
  go_wp2_with fail
  refine (rdrop_any A2 m.ents k2 nm _ ok3.ents.ents (by have := HEN.out.2; omega)).mono ?_
  rintro e w4 ⟨v4, rfl, hown, b4⟩
  obtain ⟨A4, c4, rfl, q1, q2, q3, q4⟩ := hown.entsT (B := B)
  obtain ⟨L4, hL4⟩ : ∃ L, L = dropF m.ents nm := ⟨_, rfl⟩
  rw [← hL4] at q1 q3 ⊢
  have HL4 := Lib.hid hL4
  have E4 := E3.trans b4
  obtain ⟨T, hT⟩ : ∃ T, T = touchT S dir now L4 := ⟨_, rfl⟩
  have HT := Lib.hid hT
  have KT : Hid (Calls Tryz.prog 95 #[.pointer (some ⟨g.bF, 0, none⟩), .int .i64 dir, .slice A4 L4.length c4] w4 (TouchF w4 B g T X)) := by
    show Calls _ _ _ _ _
    rw [hT, HNW.out]
    exact rtouch_any B g S X dir A4 L4 c4 w4 (h.ext E4) (by have := HCL.out; omega) HO.out.live.nos q3 q1 q2 q4
  have hon := HO.out.live.on _ (isN_true HDI.out).2.2
  have hTL : Live T := by
    rw [hT]
    exact HO.out.live.set _ hon.1 hon.2 (fun e => HO.out.live.one (getN S.nodes dir) (isN_true HDI.out).2.2 e)
  have hHT : Held T n := ⟨HHN.out.links, by rw [hT]; exact HHN.out.dev, HHN.out.data, HHN.out.one⟩
  have hTl : T.last ≤ 1000 := by rw [hT]; exact hl1
  have HTL := Lib.hid hTL
  have HHT := Lib.hid hHT
  have N4 := N3.ext b4
  have okn4 := okn3.ext b4
  clear y2 y11 yz k11 kz hown q1 q2 q3 q4 hL4 hT hTL hHT hon N3 okn3 t1 t1b t2
  go_wp2_with fail
  refine KT.out.mono ?_
  rintro e w5 ⟨rfl, K5, O5⟩
  have hng : b11 + 1 ∉ g.list := by
    have hlw := h.lt
    simp only [GhF.list, List.mem_cons, List.not_mem_nil, or_false]
    omega
  have N5 := O5.has N4 hng
  have okn5 := okn4.only O5 (h.ext E4).apart
  clear KT
  go_wp2_with (refine wpList_load_node rfl _ rfl (b11 + 1) n A3 k3 rfl N5 ?_)
  refine (rless_any B g T X n A3 k3 _ K5 HTL.out hTl okn5 HHT.out).mono ?_
  rintro e w6 ⟨rfl, g2, K6, O6, hon6⟩
  go_wp2_with fail
  go_ret
  have e1 : unlinkT S cu cg now dir nm = lessT T X.now n := by rw [hm2.out, if_pos hE.out]; unfold goneT; rw [HMD.out, HT.out, HL4.out, HNW.out]
  have O15 : Only g.list w w5 := Only.pre E4 O5
  refine ⟨by rw [hE.out]; rfl, g2, by rw [e1]; exact K6, O15.then O6, ?_⟩
  refine ⟨hon6.1, fun b hb => ?_⟩
  rcases hon6.2 b hb with k | k
  · exact .inl k
  · exact .inr (by have := O15.size; omega)
end Go.Proofs.YtebghednhjaniaaGreat
