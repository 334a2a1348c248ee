/- Plain: what is made, and taken away again. | The law DropBack, walked. (Printed by gen_baca.py.) -/
import Derived.Test.YtebghednhjaniaaBunL
import Derived.Test.YtebghednhjaniaaBunK
import Derived.Test.YtebghednhjaniaaBunD
import Derived.Test.YtebghednhjaniaaBunG
namespace Go.Proofs.Ytebghednhjaniaa

theorem split_rise {l : List EntD} {nm : List UInt8} (hr : Rise l) (hx : ∀ x ∈ l, x.1 ≠ nm) : lessF l nm ++ moreF l nm = l := by
  induction l with
  | nil => rfl
  | cons x l ih =>
    obtain ⟨h1, h2⟩ := rise_cons.1 hr
    have hi := ih h2 fun y hy => hx y (List.mem_cons_of_mem _ hy)
    unfold lessF moreF at hi ⊢
    rcases bl_tri x.1 nm with g | g | g
    · have g2 := bl_asymm g
      rw [List.filter_cons_of_pos (by simpa using g), List.filter_cons_of_neg (by rw [g2]; decide), List.cons_append, hi]
    · exact absurd g (hx x (List.mem_cons_self ..))
    · have g2 := bl_asymm g
      have e1 : (l.filter fun x => bl x.1 nm) = [] := filter_none fun y hy => bl_asymm (bl_trans g (h1 y hy))
      have e2 : (l.filter fun x => bl nm x.1) = l := filter_all fun y hy => bl_trans g (h1 y hy)
      rw [List.filter_cons_of_neg (by rw [g2]; decide), List.filter_cons_of_pos (by simpa using g), e1, e2]; rfl
theorem drop_put {l : List EntD} {nm : List UInt8} (no : Int) (hr : Rise l) (hx : ∀ x ∈ l, x.1 ≠ nm) : dropF (putF l (nm, no)) nm = l := by
  have e0 := split_rise hr hx
  unfold dropF putF
  rw [List.filter_append, List.filter_append]
  have e1 : (lessF l nm).filter (fun x => !(x.1 == nm)) = lessF l nm := filter_all fun x h => by
    have := hx x (List.mem_filter.1 h).1
    simpa using this
  have e2 : (moreF l nm).filter (fun x => !(x.1 == nm)) = moreF l nm := filter_all fun x h => by
    have := hx x (List.mem_filter.1 h).1
    simpa using this
  have e3 : [((nm, no) : EntD)].filter (fun x => !(x.1 == nm)) = [] := by simp
  show (lessF l nm).filter _ ++ _ ++ (moreF l nm).filter _ = l
  rw [e1, e2, e3, List.append_nil, e0]
theorem setN_setN {ns : List NodeD} {a b : NodeD} (h : a.no = b.no) : setN (setN ns a) b = setN ns b := by
  unfold setN
  rw [List.map_map]
  apply List.map_congr_left
  intro m _
  simp only [Function.comp]
  by_cases e : m.no = b.no
  · have e1 : (m.no == a.no) = true := by rw [h]; simpa using e
    have e2 : (m.no == b.no) = true := by simpa using e
    have e3 : (a.no == b.no) = true := by simpa using h
    rw [if_pos e1, if_pos e2, if_pos e3]
  · have e1 : ¬ (m.no == a.no) = true := by rw [h]; simpa using e
    have e2 : ¬ (m.no == b.no) = true := by simpa using e
    rw [if_neg e1, if_neg e2]
theorem setN_snoc {ns : List NodeD} {n b : NodeD} (h : n.no ≠ b.no) : setN (ns ++ [n]) b = setN ns b ++ [n] := by
  unfold setN
  rw [List.map_append, List.map_cons, List.map_nil, if_neg (by simpa using h)]
theorem dropN_snoc {ns : List NodeD} {n : NodeD} {last : Int} (hu : NosUp ns last) (h : last < n.no) : dropN (ns ++ [n]) n.no = ns := by
  unfold dropN
  rw [List.filter_append, List.filter_eq_self.2 (fun m hm => by have := (hu.2 m hm).2; have : m.no ≠ n.no := by omega
                                                                simpa using this)]
  simp
theorem dev_setQ {ds : List DevD} {d : Int} (q : SpaceD) (hd : hasD ds d = true) : (devN (setQ ds d q) d).q = q := by
  unfold hasD at hd
  rw [Bool.and_eq_true, decide_eq_true_eq, decide_eq_true_eq] at hd
  have hk : (d - 1).toNat < ds.length := by omega
  unfold devN setQ
  rw [List.getD_eq_getElem?_getD, List.getElem?_modify, List.getElem?_eq_getElem hk]
  simp
theorem take_back {q : SpaceD} {b : Int} (h : takeE q b 1 = 0) : takeQ (takeQ q b 1) (-b) (-1) = q := by
  unfold takeQ
  rw [if_pos h]
  have h2 : takeE (moreQ q b 1) (-b) (-1) = 0 := by
    unfold takeE at h ⊢
    split at h
    · rename_i h1
      obtain ⟨h1, h3⟩ := h1
      rw [fineF_iff] at h1
      split at h
      · cases h
      · split at h
        · cases h
        · split at h
          · cases h
          · have f2 : fineF (moreQ q b 1) = true := by
              rw [fineF_iff]
              unfold Fine moreQ at *
              simp only
              omega
            unfold inR at h3
            unfold Fine at h1
            rw [if_pos ⟨f2, by unfold inR; omega⟩]
            unfold moreQ
            simp only
            rw [if_neg (by omega), if_neg (by omega), if_neg (by omega)]
    · cases h
  rw [if_pos h2]
  unfold moreQ
  simp only
  cases q
  simp only [SpaceD.mk.injEq, and_true]
  constructor <;> omega
theorem over_new {c : Nat} {S : TreeD} (h : Tre c S) {ds : List DevD} (hds : ds.map (·.over) = S.devs.map (·.over)) : overF ds (S.last + 1) = S.last + 1 := by
  unfold overF
  split
  · rename_i h1
    have : ds.find? (fun d => d.over == S.last + 1) = none := by
      rw [List.find?_eq_none]
      intro d hd he
      have hm : d.over ∈ S.devs.map (·.over) := by rw [← hds]; exact List.mem_map_of_mem hd
      rw [List.mem_map] at hm
      obtain ⟨d', hd', e'⟩ := hm
      have he' : d'.over = S.last + 1 := by rw [e']; simpa using he
      obtain ⟨k, hk, rfl⟩ := List.getElem_of_mem hd'
      have hl := h.last
      cases k with
      | zero => rw [h.over0 hk] at he'; omega
      | succ k =>
        obtain ⟨m, hm, e, _⟩ := h.overs k hk
        have := (h.nos.2 m hm).2
        omega
    rw [this]
  · rfl
theorem overs_setQ (ds : List DevD) (d : Int) (q : SpaceD) : (setQ ds d q).map (·.over) = ds.map (·.over) := by
  unfold setQ
  apply List.ext_getElem?
  intro i
  rw [List.getElem?_map, List.getElem?_map, List.getElem?_modify]
  cases ds[i]? with
  | none => rfl
  | some x =>
    show some _ = some _
    split <;> rfl
/-- What is made can be taken away by whoever made it; what is left. -/
theorem back {c : Nat} {S : TreeD} (h : Tre c S) {cu cg dir : Int} {nm : List UInt8} {n : NodeD} (h0 : comeE S cu cg 3 dir nm n = 0) (he : n.ents = []) :
    leaveE (comeT S cu cg 3 dir nm n) cu cg dir nm = 0 ∧ (leaveN (comeT S cu cg 3 dir nm n) cu cg dir nm).kind = n.kind ∧ (leaveN (comeT S cu cg 3 dir nm n) cu cg dir nm).ents = [] ∧
    (goneT (comeT S cu cg 3 dir nm n) 4 (leaveD (comeT S cu cg 3 dir nm n) cu cg dir nm) (leaveN (comeT S cu cg 3 dir nm n) cu cg dir nm) nm).nodes = setN S.nodes { getN S.nodes dir with mtime := 4, ctime := 4 } ∧
    useF (goneT (comeT S cu cg 3 dir nm n) 4 (leaveD (comeT S cu cg 3 dir nm n) cu cg dir nm) (leaveN (comeT S cu cg 3 dir nm n) cu cg dir nm) nm).devs (getN S.nodes dir).dev = useF S.devs (getN S.nodes dir).dev := by
  obtain ⟨hp, hf, hmk⟩ := comeE_zero h0
  obtain ⟨hi, hkd, hc⟩ := placeE_zero hp
  obtain ⟨_, hno, hmem⟩ := isN_true hi
  have hon := (h.on _ hmem).1
  have hlt := (h.nos.2 _ hmem).2
  rw [hno] at hlt
  have hx := putF_find (fun x hx => (h.pos _ hmem x hx).1) hf
  obtain ⟨N, hN⟩ : ∃ N : NodeD, N = { newN S cu cg 3 dir n with no := S.last + 1 } := ⟨_, rfl⟩
  obtain ⟨b, hb⟩ : ∃ b, b = blocksF n.kind n.data.length := ⟨_, rfl⟩
  obtain ⟨d, hd⟩ : ∃ d, d = (getN S.nodes dir).dev := ⟨_, rfl⟩
  obtain ⟨D1, hD1⟩ : ∃ D1 : NodeD, D1 = { getN S.nodes dir with ents := putF (getN S.nodes dir).ents (nm, S.last + 1), mtime := 3, ctime := 3 } := ⟨_, rfl⟩
  obtain ⟨D2, hD2⟩ : ∃ D2 : NodeD, D2 = { getN S.nodes dir with mtime := 4, ctime := 4 } := ⟨_, rfl⟩
  have hNno : N.no = S.last + 1 := by rw [hN]
  have hD1no : D1.no = dir := by rw [hD1]; exact hno
  have hD2no : D2.no = dir := by rw [hD2]; exact hno
  have hte : takeE (devN S.devs d).q b 1 = 0 := by
    unfold makeE at hmk
    split at hmk
    · cases hmk
    · rw [hd, hb]; exact hmk
  have hM : makeT S (newN S cu cg 3 dir n) = ⟨S.nodes ++ [N], setQ S.devs d (takeQ (devN S.devs d).q b 1), S.last + 1⟩ := by
    unfold makeT
    rw [if_pos hmk, hN, hd, hb]; rfl
  have hT : comeT S cu cg 3 dir nm n = ⟨setN S.nodes D1 ++ [N], setQ S.devs d (takeQ (devN S.devs d).q b 1), S.last + 1⟩ := by
    unfold comeT
    rw [if_pos h0]
    have e1 := (getN_make h.nos (newN S cu cg 3 dir n) hi).1
    unfold touchT touchN
    rw [e1, hM]
    unfold setT
    rw [← hD1, setN_snoc (by rw [hNno, hD1no]; omega)]
  rw [hT]
  obtain ⟨T1, hT1⟩ : ∃ T1 : TreeD, T1 = ⟨setN S.nodes D1 ++ [N], setQ S.devs d (takeQ (devN S.devs d).q b 1), S.last + 1⟩ := ⟨_, rfl⟩
  rw [← hT1]
  have hu1 : NosUp T1.nodes T1.last := by rw [hT1]; exact (h.nos.set D1).add N hNno (by have := h.last; omega)
  have gN : getN T1.nodes (S.last + 1) = N ∧ isN T1.nodes (S.last + 1) = true := by
    have := mem_getN hu1 (n := N) (by rw [hT1]; exact List.mem_append_right _ (List.mem_singleton.2 rfl))
    rw [hNno] at this; exact this
  have gD : getN T1.nodes dir = D1 ∧ isN T1.nodes dir = true := by
    have hm := set_has (n := D1) hmem
    rw [if_pos (by rw [hno, hD1no])] at hm
    have := mem_getN hu1 (n := D1) (by rw [hT1]; exact List.mem_append_left _ hm)
    rw [hD1no] at this; exact this
  have hfd : findF D1.ents nm = S.last + 1 := by rw [hD1]; exact findF_put _ _ _
  have hpl : placeE T1 cu cg dir nm = 0 := by
    have e : placeE T1 cu cg dir nm = placeE S cu cg dir nm := by
      unfold placeE
      rw [gD.2, gD.1, hi, hD1]
    rw [e]; exact hp
  have hov : overF T1.devs (S.last + 1) = S.last + 1 := over_new h (by rw [hT1]; exact overs_setQ _ _ _)
  have hNu : N.uid = cu := by rw [hN]; rfl
  have hlv : leaveE T1 cu cg dir nm = 0 := by
    unfold leaveE
    rw [hpl, gD.1, hfd, gN.2, hov, gN.1, hNu]
    have : freeB cu D1.mode D1.uid cu = true := by
      unfold freeB ownsB
      simp
    rw [this]
    simp
  have eN : leaveN T1 cu cg dir nm = N := by unfold leaveN; rw [if_pos hlv, gD.1, hfd, gN.1]
  have eD : leaveD T1 cu cg dir nm = D1 := by unfold leaveD; rw [if_pos hlv, gD.1]
  rw [eN, eD]
  refine ⟨hlv, by rw [hN]; rfl, by rw [hN]; exact he, ?_⟩
  have hto : touchT T1 D1.no 4 (dropF D1.ents nm) = ⟨setN S.nodes D2 ++ [N], setQ S.devs d (takeQ (devN S.devs d).q b 1), S.last + 1⟩ := by
    rw [hD1no]
    unfold touchT touchN
    rw [gD.1]
    have e : dropF D1.ents nm = (getN S.nodes dir).ents := by rw [hD1]; exact drop_put _ (h.rise _ hmem) hx
    rw [e]
    have e2 : ({ D1 with ents := (getN S.nodes dir).ents, mtime := 4, ctime := 4 } : NodeD) = D2 := by rw [hD1, hD2]
    rw [e2, hT1]
    unfold setT
    rw [setN_snoc (by rw [hNno, hD2no]; omega), setN_setN (by rw [hD1no, hD2no])]
  obtain ⟨T2, hT2⟩ : ∃ T2 : TreeD, T2 = ⟨setN S.nodes D2 ++ [N], setQ S.devs d (takeQ (devN S.devs d).q b 1), S.last + 1⟩ := ⟨_, rfl⟩
  have hu2 : NosUp T2.nodes T2.last := by rw [hT2]; exact (h.nos.set D2).add N hNno (by have := h.last; omega)
  have gN2 : getN T2.nodes (S.last + 1) = N ∧ isN T2.nodes (S.last + 1) = true := by
    have := mem_getN hu2 (n := N) (by rw [hT2]; exact List.mem_append_right _ (List.mem_singleton.2 rfl))
    rw [hNno] at this; exact this
  have hNd : N.dev = d := by rw [hN, hd]; rfl
  have hrt : rootF T2.devs N.dev ≠ S.last + 1 := by
    rw [hT2, hNd]
    show rootF (setQ S.devs d _) d ≠ _
    rw [rootQ]
    have : rootF S.devs d ≤ S.last := by
      rcases rootF_zero h.roots d with ⟨e1, _⟩ | ⟨k, hk, _, _, _, e4, _⟩
      · rw [e1]; have := h.last; omega
      · rw [e4]
        obtain ⟨m, hm, e, _⟩ := h.rootsIn k hk
        rw [← e]; exact (h.nos.2 m hm).2
    omega
  have hkb : killB T2 (S.last + 1) = true := by
    unfold killB
    rw [gN2.2, gN2.1]
    simpa using hrt
  have hle : goneT T1 4 D1 N nm = killT T2 (S.last + 1) := by
    unfold goneT
    rw [hto, ← hT2]
    unfold lessT
    have hl1 : N.links = 1 := by rw [hN]; rfl
    rw [if_pos (by omega)]
    have := kill_set hu2 (n := lessN 4 N) (by show killB T2 N.no = true; rw [hNno]; exact hkb) (by show isN T2.nodes N.no = true; rw [hNno]; exact gN2.2) (by show N.dev = (getN T2.nodes N.no).dev; rw [hNno, gN2.1]) (by show N.kind = (getN T2.nodes N.no).kind; rw [hNno, gN2.1]) (by show N.data = (getN T2.nodes N.no).data; rw [hNno, gN2.1])
    have e2 : (lessN 4 N).no = S.last + 1 := hNno
    rw [e2] at this
    rw [hNno]; exact this
  rw [hle]
  unfold killT
  rw [if_pos hkb]
  refine ⟨?_, ?_⟩
  · have := dropN_snoc (n := N) (h.nos.set D2) (by rw [hNno]; omega)
    rw [hNno] at this
    show dropN T2.nodes (S.last + 1) = _
    rw [hT2, ← hD2]; exact this
  · show useF (killQ T2 (getN T2.nodes (S.last + 1))) (getN S.nodes dir).dev = _
    rw [gN2.1, ← hd]
    unfold killQ useF
    have hh : ∀ q, hasD (setQ T2.devs N.dev q) d = true := fun q => by
      rw [hasD_len (setQ_len _ _ _), hT2, hasD_len (setQ_len _ _ _), hd]; exact hon
    rw [← hd] at hon
    rw [if_pos (hh _), if_pos hon, hNd]
    have hh2 : hasD T2.devs d = true := by rw [hT2, hasD_len (setQ_len _ _ _)]; exact hon
    rw [dev_setQ _ hh2]
    have e5 : (devN T2.devs d).q = takeQ (devN S.devs d).q b 1 := by rw [hT2]; exact dev_setQ _ hon
    have e6 : blocksF N.kind N.data.length = b := by rw [hN, hb]; rfl
    rw [e5, e6]
    exact take_back hte
end Go.Proofs.Ytebghednhjaniaa

namespace Go.Proofs.Ytebghednhjaniaa
open Go.ChangeShapes Go.WideShapes Go.ChangeAt Go.RowKit

attribute [local irreducible] wpQuiet
/-- What is left where a node came and went. -/
def Left (S T : TreeD) (dir e x : Int) : Prop := e = 0 → x = 0 ∧ T.nodes = setN S.nodes { getN S.nodes dir with mtime := 4, ctime := 4 } ∧ useF T.devs (getN S.nodes dir).dev = useF S.devs (getN S.nodes dir).dev ∧ Live T ∧ hasD S.devs (getN S.nodes dir).dev = true ∧ isN S.nodes dir = true
theorem tre_dirZ {c : Nat} {S : TreeD} (h : Tre c S) (cu cg now dir : Int) (nm : List UInt8) : Tre (c + 1) (comeT S cu cg now dir nm (dirZ 0 dir)) :=
  tre_comeT h (n := dirZ 0 dir) rfl (Nat.zero_le _) (fun _ => rfl) ⟨Int.le_refl 0, by show (0 : Int) ≤ 1023; decide⟩
theorem tre_fileZ {c : Nat} {S : TreeD} (h : Tre c S) (cu cg now dir : Int) (nm data : List UInt8) (hd : data.length ≤ 1048576) : Tre (c + 1) (comeT S cu cg now dir nm (fileZ 0 data)) :=
  tre_comeT h (n := fileZ 0 data) rfl hd (fun hk => absurd hk (by show ¬ ((2 : Int) = 1); decide)) ⟨Int.le_refl 0, by show (0 : Int) ≤ 1023; decide⟩
theorem left_dir {c : Nat} {S : TreeD} (h : Tre c S) (cu cg dir : Int) (nm : List UInt8) :
    Left S (rmdirT (preT (dirP 0) S (comeT S cu cg 3 dir nm (dirZ 0 dir))) cu cg 4 dir nm) dir (preE (dirP 0) (comeE S cu cg 3 dir nm (dirZ 0 dir))) (rmdirE (preT (dirP 0) S (comeT S cu cg 3 dir nm (dirZ 0 dir))) cu cg dir nm) := by
  intro h0
  obtain ⟨h1, h2⟩ := preE_zero h0
  have hT : preT (dirP 0) S (comeT S cu cg 3 dir nm (dirZ 0 dir)) = comeT S cu cg 3 dir nm (dirZ 0 dir) := by unfold preT; rw [if_neg (by rw [h1]; simp)]
  rw [hT]
  obtain ⟨b1, b2, b3, b4, b5⟩ := back h h2 rfl
  have hE : rmdirE (comeT S cu cg 3 dir nm (dirZ 0 dir)) cu cg dir nm = 0 := by
    unfold rmdirE
    rw [b1, b2, b3]
    simp [dirZ]
  have hL : Live (rmdirT (comeT S cu cg 3 dir nm (dirZ 0 dir)) cu cg 4 dir nm) := (tre_rmdir (tre_dirZ h cu cg 3 dir nm) cu cg 4 dir nm).live
  unfold rmdirT at hL ⊢
  rw [if_pos hE] at hL ⊢
  have hp := placeE_zero (comeE_zero h2).1
  exact ⟨hE, b4, b5, hL, (h.on _ (isN_true hp.1).2.2).1, hp.1⟩
theorem left_file {c : Nat} {S : TreeD} (h : Tre c S) (cu cg dir : Int) (nm data : List UInt8) (hd : data.length ≤ 1048576) :
    Left S (unlinkT (preT (fileP 0 data.length) S (comeT S cu cg 3 dir nm (fileZ 0 data))) cu cg 4 dir nm) dir (preE (fileP 0 data.length) (comeE S cu cg 3 dir nm (fileZ 0 data))) (unlinkE (preT (fileP 0 data.length) S (comeT S cu cg 3 dir nm (fileZ 0 data))) cu cg dir nm) := by
  intro h0
  obtain ⟨h1, h2⟩ := preE_zero h0
  have hT : preT (fileP 0 data.length) S (comeT S cu cg 3 dir nm (fileZ 0 data)) = comeT S cu cg 3 dir nm (fileZ 0 data) := by unfold preT; rw [if_neg (by rw [h1]; simp)]
  rw [hT]
  obtain ⟨b1, b2, b3, b4, b5⟩ := back h h2 rfl
  have hE : unlinkE (comeT S cu cg 3 dir nm (fileZ 0 data)) cu cg dir nm = 0 := by
    unfold unlinkE
    rw [b1, b2]
    simp [fileZ]
  have hL : Live (unlinkT (comeT S cu cg 3 dir nm (fileZ 0 data)) cu cg 4 dir nm) := (tre_unlink (tre_fileZ h cu cg 3 dir nm data hd) cu cg 4 dir nm).live
  unfold unlinkT at hL ⊢
  rw [if_pos hE] at hL ⊢
  have hp := placeE_zero (comeE_zero h2).1
  exact ⟨hE, b4, b5, hL, (h.on _ (isN_true hp.1).2.2).1, hp.1⟩
def BackR (w : World) (B : Nat) (g : GhW) (S : TreeD) (dir e x : Int) (w' : World) : Prop := ∃ T, WAt w' B g T ∧ Only g.list w w' ∧ Left S T dir e x
set_option maxRecDepth 100000 in
set_option maxHeartbeats 16000000 in
theorem dropBack_any (A : Option Addr) (l : List ItemD) (cap : Nat) (x : ActD) (w : World) (hA : ItemsAt w A l) (hlen : l.length ≤ 9223372036854775807) :
    Calls Try.prog 13 #[.slice A l.length cap, .agg #[.int .i64 x.kind, .int .i64 x.uid, .int .i64 x.gid, .int .i64 x.dir, .int .i64 x.no, .int .i64 x.n, .string (bs x.name), .string (bs x.text), .int .i64 x.to_, .string (bs x.as_)]] w (Ret w (.bool true)) := by
  obtain ⟨W1, hW1⟩ : ∃ W, W = w.alloc (.cells #[.int .i64 x.kind, .int .i64 x.uid, .int .i64 x.gid, .int .i64 x.dir, .int .i64 x.no, .int .i64 x.n, .string (bs x.name), .string (bs x.text), .int .i64 x.to_, .string (bs x.as_)] 64) := ⟨_, rfl⟩
  have E1 : Ext w W1 := by rw [hW1]; exact (Ext.refl _).alloc _
  have B1 : Has W1 w.heap.size (.cells #[.int .i64 x.kind, .int .i64 x.uid, .int .i64 x.gid, .int .i64 x.dir, .int .i64 x.no, .int .i64 x.n, .string (bs x.name), .string (bs x.text), .int .i64 x.to_, .string (bs x.as_)] 64) := by rw [hW1]; exact Has.new _ _
  have xc := fun i => B1.cell i
  have c0 := xc 0
  have c1 := xc 1
  have c2 := xc 2
  have c3 := xc 3
  have c4 := xc 4
  have c5 := xc 5
  have c6 := xc 6
  have c7 := xc 7
  have c8 := xc 8
  have c9 := xc 9
  simp only [List.getElem?_toArray, List.getElem?_cons_zero, List.getElem?_cons_succ] at c0 c1 c2 c3 c4 c5 c6 c7 c8 c9
  have xz := B1.lt
  obtain ⟨m, hm⟩ : ∃ m, m = l.length := ⟨_, rfl⟩
  have hlen' := hlen
  rw [← hm] at hlen' ⊢
  have HM := Lib.hid hm
  have KF : Hid (Calls Try.prog 29 #[.slice A m cap] W1 (FewR W1 l)) := by show Calls _ _ _ _ _; rw [HM.out]; exact few14_any A l cap W1 (hA.ext E1) hlen
  clear hm xc
  go_enter Try.func13, Try.ntmps13
  go_upto_region 1 with fail
  rw [← hW1]
  clear hW1
  go_wp2_with fail
  refine KF.out.mono ?_
  rintro e w2 ⟨rfl, ⟨hf, rfl⟩ | ⟨hf, rfl⟩⟩
  case inr =>
    clear hf c0 c1 c2 c3 c4 c5 c6 c7 c8 c9
    go_wp2_with fail
    refine (awake18 _).mono ?_
    rintro e wz ⟨rfl, bz⟩
    go_wp2_with fail
    go_ret
    exact Ret.mk rfl ((E1).trans bz)
  have HF := Lib.hid hf
  clear hf KF
  go_wp2_with fail
  have hX2 := Has.new W1 (.cells #[.int .i64 x.kind, .int .i64 x.uid, .int .i64 x.gid, .int .i64 x.dir, .int .i64 x.no, .int .i64 x.n, .string (bs x.name), .string (bs x.text), .int .i64 x.to_, .string (bs x.as_)] 64)
  obtain ⟨W2, hW2⟩ : ∃ W2, W2 = W1.alloc (.cells #[.int .i64 x.kind, .int .i64 x.uid, .int .i64 x.gid, .int .i64 x.dir, .int .i64 x.no, .int .i64 x.n, .string (bs x.name), .string (bs x.text), .int .i64 x.to_, .string (bs x.as_)] 64) := ⟨_, rfl⟩
  rw [← hW2] at hX2 ⊢
  have E2 : Ext W1 W2 := by rw [hW2]; exact (Ext.refl _).alloc _
  have B2 := B1.ext E2
  have EW2 : Ext w W2 := E1.trans E2
  have hacts : ActsAt W2 (some ⟨W1.heap.size, 0, none⟩) [x] := by
    refine .inr ⟨_, 0, rfl, hX2.lt, fun k hk => ?_⟩
    have : k = 0 := by simpa using hk
    subst this
    exact ⟨hX2.cell 0, hX2.cell 1, hX2.cell 2, hX2.cell 3, hX2.cell 4, hX2.cell 5, hX2.cell 6, hX2.cell 7, hX2.cell 8, hX2.cell 9⟩
  clear hW2 hX2 c0 c1 c2 c3 c4 c5 c6 c7 c8 c9 xz
  refine (fewA_any (some ⟨W1.heap.size, 0, none⟩) [x] 1 W2 hacts (by simp)).mono ?_
  rintro e w3 ⟨rfl, ⟨hfx, rfl⟩ | ⟨_, rfl⟩⟩
  case inr =>
    go_wp2_with fail
    refine (awake18 _).mono ?_
    rintro e wz ⟨rfl, bz⟩
    go_wp2_with fail
    go_ret
    exact Ret.mk rfl ((EW2).trans bz)
  have hsx := hfx.1 x (List.mem_singleton.2 rfl)
  have HSX := Lib.hid hsx
  have HB2 := Lib.hid B2
  have HX1 := Lib.hid EW2
  have hG0 := tre_growAll (b := 300) (n := 60) (by decide) HF.out
  have hga := good_all (good_first (b := 300) (n := 60) (by decide)) l
  have hl40 := HF.out.2
  have KG : Hid (Calls Try.prog 19 #[.int .i64 300, .int .i64 60, .slice A m cap] W2 (GrowAllR W2 300 60 l)) := by show Calls _ _ _ _ _; rw [HM.out]; exact growAll_any 300 60 A l cap W2 (by decide) HF.out (hA.ext EW2)
  clear hacts hfx hsx
  go_wp2_with fail
  refine KG.out.mono ?_
  rintro e w3 ⟨g, f, rfl, ⟨K3, F3⟩, E3⟩
  obtain ⟨B, hB⟩ : ∃ B, B = W2.heap.size := ⟨_, rfl⟩
  rw [← hB] at K3 F3
  obtain ⟨S, hS⟩ : ∃ S, S = growAll (firstT 300 60) l := ⟨_, rfl⟩
  rw [← hS] at K3 F3
  have hSl : S.last ≤ 41 := by
    have h2 := hga.2
    rw [hS]
    rw [show growAll (rootT emptyT 0 300 60) l = growAll (firstT 300 60) l from rfl, show (rootT emptyT 0 300 60).last = 1 from rfl] at h2
    omega
  have hT0 : Tre 40 S := by rw [hS]; exact hG0
  have hS1 := hT0.last
  have HB := Lib.hid hB
  have HE3 := Lib.hid E3
  have HT0 := Lib.hid hT0
  have HK3 := Lib.hid K3
  have HF3 := Lib.hid F3
  clear hS hga hG0 hl40 KG hB hT0
  have X3 := HX1.out.trans HE3.out
  have B3 := HB2.out.ext HE3.out
  have c3 : w3.cell? ⟨w.heap.size, 3, none⟩ = some (.int .i64 x.dir) := B3.cell 3
  obtain ⟨dir, hdir⟩ : ∃ dir, dir = nearF S.last x.dir := ⟨_, rfl⟩
  have KN : Hid (∀ u : Gr w3, Calls Try.prog 54 #[.pointer (some ⟨f.bF, 0, none⟩), .int .i64 x.dir] u.w (Ret u.w (.int .i64 dir))) := by
    show ∀ u : Gr w3, _
    intro u
    rw [hdir]
    exact near_any B f S x0 x.dir _ (HF3.out.ext u.h) (by omega) (by omega)
  clear hdir
  go_wp2_with fail
  refine (KN.out ⟨w3, Ext.refl _⟩).mono ?_
  rintro e w4 ⟨rfl, E34⟩
  have X4 := X3.trans E34
  have B4 := B3.ext E34
  have HK4 := Lib.hid (HK3.out.ext E34)
  have HF4 := Lib.hid (HF3.out.ext E34)
  have HX4 := Lib.hid X4
  have hnb : w.heap.size ∉ g.list ++ f.list := Mix.notin HK3.out HF3.out (.inl (by rw [HB.out]; have := HB2.out.lt; omega))
  have HNB := Lib.hid hnb
  have hgB : Hid (∀ b ∈ g.list ++ f.list, w.heap.size ≤ b) := by
    refine Lib.hid fun b hb => ?_
    have h1 : B ≤ b := by
      rcases List.mem_append.1 hb with hb | hb
      · exact (HK3.out.apart b hb).1
      · exact (HF3.out.apart b hb).1
    have := HX1.out.size
    have := HB.out
    omega
  have HB4 := Lib.hid B4
  have k0' : w4.cell? ⟨w.heap.size, 0, none⟩ = some (.int .i64 x.kind) := B4.cell 0
  have k1' : w4.cell? ⟨w.heap.size, 1, none⟩ = some (.int .i64 x.uid) := B4.cell 1
  have k2' : w4.cell? ⟨w.heap.size, 2, none⟩ = some (.int .i64 x.gid) := B4.cell 2
  have k5' : w4.cell? ⟨w.heap.size, 6, none⟩ = some (.string (bs x.name)) := B4.cell 6
  have k6' : w4.cell? ⟨w.heap.size, 7, none⟩ = some (.string (bs x.text)) := B4.cell 7
  have kz := B4.lt
  have HOK := Lib.hid (HT0.out.ok (by decide))
  clear c3 KN X4 B4 hnb B3 X3
  go_upto_if 39 with fail
  go_cut [9, 10] (fun ve vg wc => ∃ e x : Int, ve = .int .i64 e ∧ vg = .int .i64 x ∧ BackR w4 B g S dir e x wc)
  case first =>
    by_cases q0 : x.kind = 0
    · have t0 : (x.kind == 0) = true := by simpa using q0
      clear q0
      go_wp2_with fail
      refine (pdir_any B g S x.uid x.gid 3 dir x.name 0 _ HK4.out HOK.out (by omega)).mono ?_
      rintro e w5 ⟨rfl, K5, O5⟩
      obtain ⟨T1, hT1⟩ : ∃ T1, T1 = preT (dirP 0) S (comeT S x.uid x.gid 3 dir x.name (dirZ 0 dir)) := ⟨_, rfl⟩
      have hT1t : Tre 41 T1 := by
        rw [hT1]
        unfold preT
        split
        · exact tre_mono HT0.out (by decide)
        · exact tre_dirZ HT0.out ..
      rw [← hT1] at K5
      have B5 := O5.has HB4.out (fun hb => HNB.out (List.mem_append_left _ hb))
      have HLF := Lib.hid (left_dir HT0.out x.uid x.gid dir x.name)
      rw [← hT1] at HLF
      have HO1 := Lib.hid (hT1t.ok (by decide))
      have k1'' : w5.cell? ⟨w.heap.size, 1, none⟩ = some (.int .i64 x.uid) := B5.cell 1
      have k2'' : w5.cell? ⟨w.heap.size, 2, none⟩ = some (.int .i64 x.gid) := B5.cell 2
      have k5'' : w5.cell? ⟨w.heap.size, 6, none⟩ = some (.string (bs x.name)) := B5.cell 6
      have kz'' := B5.lt
      have HO5 := Lib.hid O5
      clear k0' k1' k2' k5' k6' kz hT1 hT1t B5 O5
      go_wp2_with fail
      refine (prmdir_any B g T1 x.uid x.gid 4 dir x.name _ K5 HO1.out).mono ?_
      rintro e w6 ⟨rfl, K6, O6⟩
      clear k1'' k2'' k5'' kz''
      go_wp2_with fail
      go_meet
      exact ⟨_, _, rfl, rfl, _, K6, HO5.out.then O6, HLF.out⟩
    · have t0 : (x.kind == 0) = false := by simpa using q0
      clear q0
      go_wp2_with fail
      refine (pfile_any B g S x.uid x.gid 3 dir x.name 0 x.text _ HK4.out HOK.out (by omega) (by have := HSX.out.2.2; omega)).mono ?_
      rintro e w5 ⟨rfl, K5, O5⟩
      have htx : x.text.length ≤ 1048576 := by have := HSX.out.2.2; omega
      obtain ⟨T1, hT1⟩ : ∃ T1, T1 = preT (fileP 0 x.text.length) S (comeT S x.uid x.gid 3 dir x.name (fileZ 0 x.text)) := ⟨_, rfl⟩
      have hT1t : Tre 41 T1 := by
        rw [hT1]
        unfold preT
        split
        · exact tre_mono HT0.out (by decide)
        · exact tre_fileZ HT0.out _ _ _ _ _ _ htx
      rw [← hT1] at K5
      have B5 := O5.has HB4.out (fun hb => HNB.out (List.mem_append_left _ hb))
      have HLF := Lib.hid (left_file HT0.out x.uid x.gid dir x.name x.text htx)
      rw [← hT1] at HLF
      have HO1 := Lib.hid (hT1t.ok (by decide))
      have k1'' : w5.cell? ⟨w.heap.size, 1, none⟩ = some (.int .i64 x.uid) := B5.cell 1
      have k2'' : w5.cell? ⟨w.heap.size, 2, none⟩ = some (.int .i64 x.gid) := B5.cell 2
      have k5'' : w5.cell? ⟨w.heap.size, 6, none⟩ = some (.string (bs x.name)) := B5.cell 6
      have kz'' := B5.lt
      have HO5 := Lib.hid O5
      clear k0' k1' k2' k5' k6' kz hT1 hT1t B5 O5 htx
      go_wp2_with fail
      refine (punlink_any B g T1 x.uid x.gid 4 dir x.name _ K5 HO1.out).mono ?_
      rintro e w6 ⟨rfl, K6, O6⟩
      clear k1'' k2'' k5'' kz''
      go_wp2_with fail
      go_meet
      exact ⟨_, _, rfl, rfl, _, K6, HO5.out.then O6, HLF.out⟩
  case rest =>
  obtain ⟨e, y, rfl, rfl, T, K5, O5, hleft⟩ := hcut
  obtain ⟨w5, hw5⟩ : ∃ w5, w5 = wc := ⟨_, rfl⟩
  rw [← hw5] at K5 O5 ⊢
  have F5 := FAt.byW HF4.out HK4.out O5
  have X5 : Ext w w5 := O5.after HX4.out (fun b hb => hgB.out b (List.mem_append_left _ hb))
  clear hw5 k0' k1' k2' k5' k6' kz O5
  by_cases he : e = 0
  case neg =>
    have t1 : (e != 0) = true := by simpa using he
    have HX5 := Lib.hid X5
    clear he K5 F5 hleft X5
    go_wp2_with fail
    refine (awake18 _).mono ?_
    rintro e wz ⟨rfl, bz⟩
    go_wp2_with fail
    go_ret
    exact Ret.mk rfl (HX5.out.trans bz)
  have t1 : (e != 0) = false := by simpa using he
  obtain ⟨hy, hTn, hTu, hTL, hdv, hi0⟩ := hleft he
  have HY := Lib.hid hy
  have HTN := Lib.hid hTn
  have HTU := Lib.hid hTu
  have HTL := Lib.hid hTL
  have HDV := Lib.hid hdv
  have HI0 := Lib.hid hi0
  clear he hleft hy hTn hTu hTL hdv hi0
  go_wp2_with fail
  refine (rget_any B f S x0 dir _ F5 (by have := HT0.out.count; omega) HT0.out.nos).mono ?_
  rintro e w6 ⟨A0, k0, rfl, ok0, E56⟩
  obtain ⟨m0, hm0⟩ : ∃ m0, m0 = getN S.nodes dir := ⟨_, rfl⟩
  rw [← hm0] at ok0 ⊢
  rw [← hm0] at HTN HTU HDV
  obtain ⟨D2, hD2⟩ : ∃ D2 : NodeD, D2 = { m0 with mtime := 4, ctime := 4 } := ⟨_, rfl⟩
  rw [← hD2] at HTN
  obtain ⟨b11, hb11⟩ : ∃ b, b = w6.heap.size := ⟨_, rfl⟩
  have N6 : Has (w6.alloc (.cells #[.int .i64 m0.no, .int .i64 m0.dev, .int .i64 m0.kind, .int .i64 m0.mode, .int .i64 m0.uid, .int .i64 m0.gid, .int .i64 m0.mtime, .int .i64 m0.ctime, .int .i64 m0.links, .int .i64 m0.up, .string (bs m0.data), .slice A0 m0.ents.length k0] 100)) b11 (.cells #[.int .i64 m0.no, .int .i64 m0.dev, .int .i64 m0.kind, .int .i64 m0.mode, .int .i64 m0.uid, .int .i64 m0.gid, .int .i64 m0.mtime, .int .i64 m0.ctime, .int .i64 m0.links, .int .i64 m0.up, .string (bs m0.data), .slice A0 m0.ents.length k0] 100) := by rw [hb11]; exact Has.new _ _
  have E6 : Ext w6 (w6.alloc (.cells #[.int .i64 m0.no, .int .i64 m0.dev, .int .i64 m0.kind, .int .i64 m0.mode, .int .i64 m0.uid, .int .i64 m0.gid, .int .i64 m0.mtime, .int .i64 m0.ctime, .int .i64 m0.links, .int .i64 m0.up, .string (bs m0.data), .slice A0 m0.ents.length k0] 100)) := (Ext.refl _).alloc _
  obtain ⟨w7, hw7⟩ : ∃ w7, w7 = w6.alloc (.cells #[.int .i64 m0.no, .int .i64 m0.dev, .int .i64 m0.kind, .int .i64 m0.mode, .int .i64 m0.uid, .int .i64 m0.gid, .int .i64 m0.mtime, .int .i64 m0.ctime, .int .i64 m0.links, .int .i64 m0.up, .string (bs m0.data), .slice A0 m0.ents.length k0] 100) := ⟨_, rfl⟩
  rw [← hw7] at N6 E6
  have E57 := E56.trans E6
  have K7 := K5.ext E57
  have F7 := F5.ext E57
  have ok7 := ok0.ext E6
  have X7 := X5.trans E57
  have hb11B : w5.heap.size ≤ b11 := by rw [hb11]; exact E56.size
  have HM0 := Lib.hid hm0
  have HD2 := Lib.hid hD2
  clear hm0 hD2 ok0 E56 E6
  go_upto_region 16 with fail
  rw [← hw7, ← hb11]
  clear hw7 hb11
  have y6 : w7.cell? ⟨b11, 6, none⟩ = some (.int .i64 m0.mtime) := N6.cell 6
  have y7 : w7.cell? ⟨b11, 7, none⟩ = some (.int .i64 m0.ctime) := N6.cell 7
  have yf : ∀ i, w7.frozen? ⟨b11, i, none⟩ = false := fun i => (N6.free i).trans (by simp)
  have yz := N6.lt
  go_upto_region 18 with fail
  obtain ⟨w8, hw8⟩ : ∃ w8, w8 = (w7.setCell ⟨b11, 6, none⟩ (.int .i64 4)).setCell ⟨b11, 7, none⟩ (.int .i64 4) := ⟨_, rfl⟩
  rw [← hw8]
  have O8 : Only [b11] w7 w8 := by rw [hw8]; exact (Only.setCell _ _ _ _).then (Only.setCell _ _ _ _)
  have N8 : Has w8 b11 (.cells #[.int .i64 D2.no, .int .i64 D2.dev, .int .i64 D2.kind, .int .i64 D2.mode, .int .i64 D2.uid, .int .i64 D2.gid, .int .i64 D2.mtime, .int .i64 D2.ctime, .int .i64 D2.links, .int .i64 D2.up, .string (bs D2.data), .slice A0 D2.ents.length k0] 100) := by rw [hw8, HD2.out]; exact (N6.setCell 6 _).setCell 7 _
  have hb11g : b11 ∉ g.list ++ f.list := fun hb => by
    have h1 := K5.lt
    have h2 := F5.lt
    simp only [GhW.list, GhF.list, List.mem_append, List.mem_cons, List.not_mem_nil, or_false] at hb
    omega
  have HNB11 := Lib.hid hb11g
  have hap : Apart w7 B [b11] := by
    intro b hb
    rw [List.mem_singleton] at hb
    subst hb
    exact ⟨by have := HB.out; have := HE3.out.size; have h1 := K5.lt; have := (K5.apart _ (by simp : g.bW ∈ g.list)).1; omega, N6.noTag (by decide)⟩
  have K8 : WAt w8 B g T := K7.only O8 hap (fun b hb he => by rw [List.mem_singleton] at he; subst he; exact HNB11.out (List.mem_append_left _ hb))
  have F8 : FAt w8 B f S x0 := F7.only O8 hap (fun b hb he => by rw [List.mem_singleton] at he; subst he; exact HNB11.out (List.mem_append_right _ hb))
  have ok8 : NodeOk w8 B D2 A0 k0 := (ok7.only O8 hap).same (by rw [HD2.out])
  have X8 : Ext w w8 := O8.after X7 (by intro b hb; rw [List.mem_singleton] at hb; have := X5.size; omega)
  clear hw8 O8 N6 hap K7 F7 ok7 X7 y6 y7 yf yz K5 F5 X5 E57 hb11B hb11g
  go_wp2_with (refine wpList_load_node rfl _ rfl b11 D2 A0 k0 rfl N8 ?_)
  refine (rset_any B f S x0 D2 A0 k0 _ F8 (by have := HT0.out.count; omega) HT0.out.nos ok8).mono ?_
  rintro e w9 ⟨rfl, F9, O9⟩
  have K9 := K8.byF F8 O9
  have N9 := O9.has N8 (fun hb => HNB11.out (List.mem_append_right _ hb))
  have X9 : Ext w w9 := O9.after X8 (fun b hb => hgB.out b (List.mem_append_right _ hb))
  have hTnn : T.nodes = (setT S D2).nodes := HTN.out
  have HTS := Lib.hid hTnn
  obtain ⟨L, hL⟩ : ∃ L : Nat, S.last = L := ⟨S.last.toNat, by omega⟩
  have c2 : w9.cell? ⟨f.bF, 2, none⟩ = some (.int .i64 L) := by
    obtain ⟨_, cn, ce, kF, _⟩ := id F9
    have := kF.cell 2
    rw [← hL]; exact this
  have HLS := Lib.hid hL
  have HL41 : Hid (L ≤ 41) := Lib.hid (by omega)
  have HK9 := Lib.hid K9
  have HF9 := Lib.hid F9
  have HN9 := Lib.hid N9
  have HX9 := Lib.hid X9
  have hzF : f.bF < w9.heap.size := F9.lt.1
  have HC2 := Lib.hid c2
  have HZF := Lib.hid hzF
  clear F8 O9 K8 N8 X8 ok8 hTnn hL c2 K9 F9 N9 X9 hzF hSl hS1
  go_wp2_with fail
  go_loopw [12] (fun i wr => ∃ k : Nat, i = .int .i64 k ∧ 1 ≤ k ∧ k ≤ L + 1 ∧ Ext w9 wr) (fun i _ => L + 1 - (intOf i).toNat)
  case atStart => exact ⟨1, rfl, Nat.le_refl _, by omega, Ext.refl _⟩
  case round =>
    obtain ⟨k, rfl, hk1, hk2, hE⟩ := hrel
    have HE := Lib.hid hE
    have c2 : wr.cell? ⟨f.bF, 2, none⟩ = some (.int .i64 L) := (hE.cell HZF.out).trans HC2.out
    have cz : f.bF < wr.heap.size := by have := HZF.out; have := hE.size; omega
    clear hE
    by_cases hlt : (k : Int) ≤ L
    · have tk : decide ((k : Int) ≤ (L : Int)) = true := decide_eq_true hlt
      have hk3 : k ≤ 41 := by have := HL41.out; omega
      have K := HK9.out.ext HE.out
      obtain ⟨_, _, cd, hWr, _⟩ := id K
      have v0 : wr.cell? ⟨g.bW, 0, none⟩ = some (.pointer (some ⟨g.bT, 0, none⟩)) := hWr.cell 0
      have vz := hWr.lt
      clear hWr
      go_wp2_with fail
      refine (tget_any B g.bT g.bM T.nodes T.last k _ K.2.1).mono ?_
      rintro e w10 ⟨A5, k5, rfl, ok5, b5⟩
      obtain ⟨n5, hn5⟩ : ∃ n5, n5 = getN T.nodes k := ⟨_, rfl⟩
      obtain ⟨i5, hi5⟩ : ∃ i5, i5 = isN T.nodes k := ⟨_, rfl⟩
      rw [← hn5] at ok5
      rw [← hn5, ← hi5]
      obtain ⟨w11, hw11⟩ : ∃ W, W = w10.alloc (.cells #[.int .i64 n5.no, .int .i64 n5.dev, .int .i64 n5.kind, .int .i64 n5.mode, .int .i64 n5.uid, .int .i64 n5.gid, .int .i64 n5.mtime, .int .i64 n5.ctime, .int .i64 n5.links, .int .i64 n5.up, .string (bs n5.data), .slice A5 n5.ents.length k5] 100) := ⟨_, rfl⟩
      obtain ⟨b13, hb13⟩ : ∃ b, b = w10.heap.size := ⟨_, rfl⟩
      have N11 : Has w11 b13 (.cells #[.int .i64 n5.no, .int .i64 n5.dev, .int .i64 n5.kind, .int .i64 n5.mode, .int .i64 n5.uid, .int .i64 n5.gid, .int .i64 n5.mtime, .int .i64 n5.ctime, .int .i64 n5.links, .int .i64 n5.up, .string (bs n5.data), .slice A5 n5.ents.length k5] 100) := by rw [hw11, hb13]; exact Has.new _ _
      have E11 : Ext w10 w11 := by rw [hw11]; exact (Ext.refl _).alloc _
      have EX := HE.out.trans (b5.trans E11)
      have ok11 := ok5.ext E11
      have HEX := Lib.hid EX
      have HN5 := Lib.hid hn5
      clear hn5 hi5 ok5 E11 EX c2 cz v0 vz K
      go_upto_region 23 with fail
      rw [← hw11, ← hb13]
      clear hw11 hb13
      obtain ⟨Ar, cr, okr, Cr⟩ := rget_fix B f (setT S D2) x0 k w11 (HF9.out.ext HEX.out) (by show ((setN S.nodes D2).length) ≤ _; rw [setN_len]; have := HT0.out.count; have := HLS.out; have := HL41.out; omega) (HT0.out.nos.set D2)
      rw [← HTS.out, ← HN5.out] at okr Cr
      have hne : n5.ents.length ≤ 1000000 := by
        have h1 : n5 = getN (setN S.nodes D2) k := by rw [HN5.out, HTN.out]
        by_cases hkd : (k : Int) = D2.no
        · have hin : isN S.nodes D2.no = true := by rw [HD2.out]; show isN S.nodes m0.no = true; rw [HM0.out, (isN_true HI0.out).2.1]; exact HI0.out
          have := set_self (n := D2) HT0.out.nos hin
          rw [h1, hkd]
          rw [show getN (setN S.nodes D2) D2.no = D2 from this, HD2.out]
          show m0.ents.length ≤ _
          have := (HT0.out.getN dir).2
          rw [HM0.out]; omega
        · rw [h1, show getN (setN S.nodes D2) k = getN S.nodes k from (setN_get hkd).1]
          have := (HT0.out.getN k).2
          omega
      have KG' : Hid (∀ u : World, Ext w11 u → Calls Try.prog 55 #[.pointer (some ⟨f.bF, 0, none⟩), .int .i64 k] u (Ret u (.agg #[.int .i64 n5.no, .int .i64 n5.dev, .int .i64 n5.kind, .int .i64 n5.mode, .int .i64 n5.uid, .int .i64 n5.gid, .int .i64 n5.mtime, .int .i64 n5.ctime, .int .i64 n5.links, .int .i64 n5.up, .string (bs n5.data), .slice Ar n5.ents.length cr]))) := by
        show ∀ u, _
        exact Cr
      have KS : Hid (∀ u : Gr w11, Calls Try.prog 58 #[.agg #[.int .i64 n5.no, .int .i64 n5.dev, .int .i64 n5.kind, .int .i64 n5.mode, .int .i64 n5.uid, .int .i64 n5.gid, .int .i64 n5.mtime, .int .i64 n5.ctime, .int .i64 n5.links, .int .i64 n5.up, .string (bs n5.data), .slice A5 n5.ents.length k5], .agg #[.int .i64 n5.no, .int .i64 n5.dev, .int .i64 n5.kind, .int .i64 n5.mode, .int .i64 n5.uid, .int .i64 n5.gid, .int .i64 n5.mtime, .int .i64 n5.ctime, .int .i64 n5.links, .int .i64 n5.up, .string (bs n5.data), .slice Ar n5.ents.length cr]] u.w (Ret u.w (.bool true))) := by
        show ∀ u : Gr w11, _
        intro u
        exact same_node n5 A5 Ar k5 cr u.w (ok11.ext u.h).ents.ents (okr.ext u.h).ents.ents hne
      obtain ⟨x0', x1', x2', x3', x4', x5', x6', x7', x8', x9', x10', x11'⟩ := N11.node12
      have zb := N11.lt
      have u0 := Gr.cell zb x0'
      have u1 := Gr.cell zb x1'
      have u2 := Gr.cell zb x2'
      have u3 := Gr.cell zb x3'
      have u4 := Gr.cell zb x4'
      have u5 := Gr.cell zb x5'
      have u6 := Gr.cell zb x6'
      have u7 := Gr.cell zb x7'
      have u8 := Gr.cell zb x8'
      have u9 := Gr.cell zb x9'
      have u10 := Gr.cell zb x10'
      have u11 := Gr.cell zb x11'
      clear x0' x1' x2' x3' x4' x5' x6' x7' x8' x9' x10' x11' Cr okr hne zb
      refine wp_region_grow w11 (by kernel_rfl) (by kernel_rfl) (Ext.refl _).drew ?_
      repeat (quiet_step (first
        | ((with_reducible refine (KG'.out _ (Gr.h _)).mono ?_); rintro e w'' ⟨rfl, hEx⟩; exact ⟨rfl, ⟨w'', Ext.trans (Gr.h _) hEx⟩, rfl⟩)
        | ((with_reducible refine (KS.out _).mono ?_); rintro e w'' ⟨rfl, hEx⟩; exact ⟨rfl, ⟨w'', Ext.trans (Gr.h _) hEx⟩, rfl⟩)))
      refine wpQuiet_nil ?_
      rintro w12 ⟨⟨wy, E12⟩, h12⟩
      dsimp only at h12
      subst h12
      have HEY := Lib.hid (HEX.out.trans E12)
      clear u0 u1 u2 u3 u4 u5 u6 u7 u8 u9 u10 u11 KS KG' N11 ok11 E12 b5
      go_wp2_with fail
      go_roundw
      case rel => exact ⟨k + 1, by go_num, by omega, by omega, HEY.out⟩
      case measure => simp [intOf]; omega
    · have tk : decide ((k : Int) ≤ (L : Int)) = false := decide_eq_false hlt
      have HXr := Lib.hid (HX9.out.trans HE.out)
      have K := HK9.out.ext HE.out
      have F := HF9.out.ext HE.out
      have N := HN9.out.ext HE.out
      have hTL := HTL.out
      obtain ⟨_, _, cd, hWr, _⟩ := id K
      have v0 : ∀ u : Gr wr, u.w.cell? ⟨g.bW, 0, none⟩ = some (.pointer (some ⟨g.bT, 0, none⟩)) := Gr.cell hWr.lt (hWr.cell 0)
      obtain ⟨M, hM⟩ : ∃ M, M = (setT S D2).nodes.length := ⟨_, rfl⟩
      have KL : Hid (∀ u : Gr wr, Calls Try.prog 27 #[.pointer (some ⟨g.bT, 0, none⟩)] u.w (Ret u.w (.int .i64 M))) := by
        show ∀ u : Gr wr, _
        intro u
        have := tlen_any B g.bT g.bM T.nodes T.last _ (K.ext u.h).2.1
        rw [HTS.out] at this
        rw [hM]; exact this
      obtain ⟨d, hdl, e1, e2, e3, e4, e5, e6⟩ : ∃ (d : Nat) (hd : d < S.devs.length), m0.dev = d + 1 ∧ hasD S.devs m0.dev = true ∧ devN S.devs m0.dev = S.devs[d] ∧ rootF S.devs m0.dev = S.devs[d].root ∧ 0 < S.devs[d].root ∧ Fine S.devs[d].q := by
        rcases rootF_zero HT0.out.roots m0.dev with ⟨_, e2⟩ | ⟨k, hk, h⟩
        · rw [HDV.out] at e2; cases e2
        · exact ⟨k, hk, h⟩
      obtain ⟨q, hq⟩ : ∃ q, q = useF T.devs m0.dev := ⟨_, rfl⟩
      have hv : q = S.devs[d].q := by rw [hq, HTU.out]; unfold useF; rw [e2, e3]; rfl
      have HQ := Lib.hid hq
      have KU : Hid (∀ u : Gr wr, Calls Try.prog 28 #[.pointer (some ⟨g.bW, 0, none⟩), .int .i64 m0.dev] u.w (Ret u.w (.agg #[.int .i64 q.blocks, .int .i64 q.nodes, .int .i64 q.mostB, .int .i64 q.mostN]))) := by
        show ∀ u : Gr wr, _
        intro u
        rw [HQ.out]
        exact puse_any B g T _ _ (K.ext u.h) hTL.devs hTL.eight hTL.roots
      have KW : Hid (∀ u : Gr wr, Calls Try.prog 63 #[] u.w (Ret u.w (.bool true))) := by
        show ∀ u : Gr wr, _
        exact fun u => awake18 u.w
      obtain ⟨D, hD⟩ : ∃ D, D = S.devs.length := ⟨_, rfl⟩
      have HD := Lib.hid hD
      have hlF := F.lt
      obtain ⟨_, cn, cer, kF, _, kD⟩ := id F
      have f0 : wr.cell? ⟨f.bF, 0, none⟩ = some (.slice (some ⟨f.bN, 0, none⟩) M cn) := by rw [hM]; exact kF.cell 0
      have f1 : wr.cell? ⟨f.bF, 1, none⟩ = some (.slice (some ⟨f.bE, 0, none⟩) D cer) := by rw [HD.out]; exact kF.cell 1
      have kD' : RowD wr B 56 (.slice (some ⟨f.bE, 0, none⟩) S.devs.length cer) S.devs := kD
      obtain ⟨d0, d1, d2, d3, d4, d5⟩ := RowD.at_ kD' d hdl
      rw [← hv] at d2 d3 d4 d5
      have y0 : (0 : Int) ≤ (d : Int) := Int.natCast_nonneg _
      have y1 : (d : Int) < (D : Int) := by omega
      have y2 : m0.dev - 1 = d := by omega
      have y3 : IntKind.i64.wrap (d : Int) = d := wrap_i64_in (by omega) (by have := HT0.out.eight; omega)
      have ty : (y == 0) = true := by rw [HY.out]; rfl
      have x0 := Gr.cell kF.lt f0
      have x1 := Gr.cell kF.lt f1
      have x2 := Gr.cell hlF.2.2 d2
      have x3 := Gr.cell hlF.2.2 d3
      have x4 := Gr.cell hlF.2.2 d4
      have x5 := Gr.cell hlF.2.2 d5
      have v1' : wr.cell? ⟨b11, 1, none⟩ = some (.int .i64 m0.dev) := by
        have := N.cell 1
        rw [HD2.out] at this; exact this
      have v1 := Gr.cell N.lt v1'
      have tMM : ((M : Int) == (M : Int)) = true := by simp
      clear v1' kF kD kD' d0 d1 d2 d3 d4 d5 f0 f1 hq hv hD e1 e2 e3 e4 e5 e6 hlF hM N F K hWr hTL hdl
      go_wp2_with fail
      refine wp_region_grow wr (by kernel_rfl) (by kernel_rfl) (Ext.refl _).drew ?_
      repeat (quiet_step (first
        | ((with_reducible refine (KL.out _).mono ?_); rintro e w'' ⟨rfl, hEx⟩; exact ⟨rfl, ⟨w'', Ext.trans (Gr.h _) hEx⟩, rfl⟩)
        | ((with_reducible refine (KW.out _).mono ?_); rintro e w'' ⟨rfl, hEx⟩; exact ⟨rfl, ⟨w'', Ext.trans (Gr.h _) hEx⟩, rfl⟩)
        | ((with_reducible refine (KU.out _).mono ?_); rintro e w'' ⟨rfl, hEx⟩; exact ⟨rfl, ⟨w'', Ext.trans (Gr.h _) hEx⟩, rfl⟩)))
      refine wpQuiet_nil ?_
      rintro w12 ⟨⟨wy, E12⟩, h12⟩
      dsimp only at h12
      subst h12
      clear x0 x1 x2 x3 x4 x5 v0 v1 KL KU KW
      go_wp2_with fail
      go_ret
      exact Ret.mk rfl (HXr.out.trans E12)
set_option maxRecDepth 100000 in
theorem dropBack_walk {H : Type} {enc : TypeId × Value → H} (W : World) (base : Nat) (v0 v1 : Value) (d0 d1 : DataW H) (p0 p1 : List MemPlace)
    (k0 : Value.okWide Try.prog W .any base 24 v0) (h0 : DataW.Trod enc Try.prog W 0 (fun _ => true) true 24 v0 d0 p0)
    (k1 : Value.okWide Try.prog W .any base 64 v1) (h1 : DataW.Trod enc Try.prog W 0 (fun _ => true) true 64 v1 d1 p1)
    : Calls Try.prog 13 #[v0, v1] W (Ret W (.bool true)) := by
  obtain ⟨A, l, cap, rfl, hA, _, hl, hc⟩ := open_Items k0 h0
  obtain ⟨x, rfl⟩ := open_Act k1 h1
  exact dropBack_any A l cap x W hA (by unfold maxLen at hc; omega)
end Go.Proofs.Ytebghednhjaniaa
