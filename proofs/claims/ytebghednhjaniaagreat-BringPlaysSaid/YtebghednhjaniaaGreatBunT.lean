/- Law 17's do: a call of both. (Printed by gen_plays.py.) | Two small numbers as an argument. | The law BringPlays, walked. (Printed by gen_ply.py.) -/
import Derived.Test.YtebghednhjaniaaGreatBunU
import Derived.Test.YtebghednhjaniaaGreatBunG
import Derived.Test.YtebghednhjaniaaGreatBunD
import Derived.Test.YtebghednhjaniaaGreatBunI
import Derived.IntWalk
namespace Go.Proofs.YtebghednhjaniaaGreat
open Go.ChangeShapes Go.WideShapes Go.ChangeAt Go.RowKit

attribute [local irreducible] wpLexE wpQuiet
attribute [local go_sem] changeUpon
def do17T (S : TreeD) (now : Int) (x : ActD) : TreeD :=
  if x.kind = 0 then preT (dirP x.n) S (comeT S x.uid x.gid now (nearF S.last x.dir) x.name (dirZ x.n (nearF S.last x.dir)))
  else if x.kind = 1 then preT (fileP x.n x.text.length) S (comeT S x.uid x.gid now (nearF S.last x.dir) x.name (fileZ x.n x.text))
  else if x.kind = 2 then preT (symP x.text) S (comeT S x.uid x.gid now (nearF S.last x.dir) x.name (symZ x.text))
  else if x.kind = 3 then hardT S x.uid x.gid now (nearF S.last x.no) (nearF S.last x.dir) x.name
  else S
set_option maxRecDepth 100000 in
set_option maxHeartbeats 8000000 in
theorem do17_any {c : Nat} (B : Nat) (g : GhW) (f : GhF) (S : TreeD) (X : Xtra) (x : ActD) (w : World) (h : Two w B g f S X) (HTr : Tre c S) (hcc : c ≤ 100000) (hl : S.last ≤ 1000) (hx : shortA x) :
    Calls Tryz.prog 12 #[.pointer (some ⟨g.bW, 0, none⟩), .pointer (some ⟨f.bF, 0, none⟩), .agg #[.int .i64 x.kind, .int .i64 x.uid, .int .i64 x.gid, .int .i64 x.dir, .int .i64 x.no, .int .i64 x.n, .string (bs x.name), .string (bs x.text), .int .i64 x.to_, .string (bs x.as_)]] w (DoR w B g f (do17T S X.now x) X) := by
  obtain ⟨W1, hW1⟩ : ∃ W1, W1 = w.alloc (.cells #[.int .i64 x.kind, .int .i64 x.uid, .int .i64 x.gid, .int .i64 x.dir, .int .i64 x.no, .int .i64 x.n, .string (bs x.name), .string (bs x.text), .int .i64 x.to_, .string (bs x.as_)] 42) := ⟨_, rfl⟩
  have E1 : Ext w W1 := by rw [hW1]; exact (Ext.refl _).alloc _
  have B1 : Has W1 w.heap.size (.cells #[.int .i64 x.kind, .int .i64 x.uid, .int .i64 x.gid, .int .i64 x.dir, .int .i64 x.no, .int .i64 x.n, .string (bs x.name), .string (bs x.text), .int .i64 x.to_, .string (bs x.as_)] 42) := by rw [hW1]; exact Has.new _ _
  obtain ⟨b1, hb1⟩ : ∃ b, b = w.heap.size := ⟨_, rfl⟩
  have hlW := h.1.lt
  have hlF := h.2.lt
  have hnb : b1 ∉ g.list ++ f.list := by
    intro hb
    simp only [List.mem_append, GhW.list, GhF.list, List.mem_cons, List.not_mem_nil, or_false] at hb
    omega
  have M1 : Mix W1 B g f S S X W1 := Mix.start (h.1.ext E1) (h.2.ext E1)
  have hl1 := HTr.last
  have HTT := Lib.hid HTr
  have HOK := Lib.hid (HTr.ok hcc)
  have HXX := Lib.hid hx
  have hnm1 := hx.1
  have hnm2 := hx.2.1
  have htx := hx.2.2
  have hD := Lib.hid (rfl : do17T S X.now x = do17T S X.now x)
  have F1 := Lib.hid (h.2.ext E1)
  obtain ⟨p, hp⟩ : ∃ p, p = nearF S.last x.dir := ⟨_, rfl⟩
  obtain ⟨q, hq⟩ : ∃ q, q = nearF S.last x.no := ⟨_, rfl⟩
  have KN : Hid (∀ u : Gr W1, Calls Tryz.prog 16 #[.pointer (some ⟨f.bF, 0, none⟩), .int .i64 x.dir] u.w (Ret u.w (.int .i64 p))) := by
    show ∀ u : Gr W1, _
    intro u
    rw [hp]
    exact near_any B f S X x.dir _ (F1.out.ext u.h) (by omega) (by omega)
  have KM : Hid (∀ u : Gr W1, Calls Tryz.prog 16 #[.pointer (some ⟨f.bF, 0, none⟩), .int .i64 x.no] u.w (Ret u.w (.int .i64 q))) := by
    show ∀ u : Gr W1, _
    intro u
    rw [hq]
    exact near_any B f S X x.no _ (F1.out.ext u.h) (by omega) (by omega)
  have yk : ∀ u : Gr W1, u.w.cell? ⟨w.heap.size, 3, none⟩ = some (.int .i64 x.dir) := Gr.cell B1.lt (B1.cell 3)
  have ym : ∀ u : Gr W1, u.w.cell? ⟨w.heap.size, 4, none⟩ = some (.int .i64 x.no) := Gr.cell B1.lt (B1.cell 4)
  have HP := Lib.hid hp
  have HQ := Lib.hid hq
  have hsz := B1.lt
  rw [← hb1] at B1
  clear HTr hx hp hq
  go_enter Tryz.func12, Tryz.ntmps12
  go_upto_region 1 with fail
  rw [← hW1]
  clear hW1
  refine wp_region_grow W1 (by kernel_rfl) (by kernel_rfl) (Ext.refl _).drew ?_
  repeat (quiet_step (first
    | ((with_reducible refine (KN.out _).mono ?_); rintro e w'' ⟨rfl, hEx⟩; exact ⟨rfl, ⟨w'', Ext.trans (Gr.h _) hEx⟩, rfl⟩)
    | ((with_reducible refine (KM.out _).mono ?_); rintro e w'' ⟨rfl, hEx⟩; exact ⟨rfl, ⟨w'', Ext.trans (Gr.h _) hEx⟩, rfl⟩)))
  refine wpQuiet_nil ?_
  rintro w2 ⟨⟨wy, b2⟩, h2⟩
  dsimp only at h2
  subst h2
  clear yk ym KN KM
  have M2 := M1.ext b2
  have B2 := B1.ext b2
  have HB1 := Lib.hid B1
  have HB2 := Lib.hid B2
  have HE1 := Lib.hid E1
  have c2 : w2.cell? ⟨b1, 0, none⟩ = some (.int .i64 x.kind) := B2.cell 0
  have z2 := B2.lt
  have HNB := Lib.hid hnb
  clear B1 E1 hsz B2
  rw [← hb1]
  clear hb1
  by_cases c0 : x.kind = 0
  · have t0 : (x.kind == 0) = true := by simpa using c0
    have HK0 := Lib.hid c0
    clear c0
    obtain ⟨T, hT2⟩ : ∃ T, T = preT (dirP x.n) S (comeT S x.uid x.gid X.now p x.name (dirZ x.n p)) := ⟨_, rfl⟩
    obtain ⟨e0, he0⟩ : ∃ e0, e0 = preE (dirP x.n) (comeE S x.uid x.gid X.now p x.name (dirZ x.n p)) := ⟨_, rfl⟩
    obtain ⟨a0, ha0⟩ : ∃ a0, a0 = preN (dirP x.n) (comeN S x.uid x.gid X.now p x.name (dirZ x.n p)) := ⟨_, rfl⟩
    have HA0 := Lib.hid ha0
    have HT2 := Lib.hid hT2
    have HE0 := Lib.hid he0
    clear hT2 he0 ha0
    go_upto_region 4 with fail
    obtain ⟨Ph, hPh⟩ : ∃ Ph, Ph = ph2 (Mix W1 B g f S S X) (Mix W1 B g f T S X) (Mix W1 B g f T T X) := ⟨_, rfl⟩
    have HV : Hid (Ph 0 w2.drew) := by show Ph 0 _; rw [hPh]; exact M2.ext (Ext.refl _).drew
    have hne : Nonempty (Hp Ph) := ⟨⟨0, _, HV.out⟩⟩
    have ux : ∀ u : Hp Ph, Has u.w b1 (.cells #[.int .i64 x.kind, .int .i64 x.uid, .int .i64 x.gid, .int .i64 x.dir, .int .i64 x.no, .int .i64 x.n, .string (bs x.name), .string (bs x.text), .int .i64 x.to_, .string (bs x.as_)] 42) := by
      rw [hPh]
      have hk : ∀ (T S : TreeD) (w' : World), Mix W1 B g f T S X w' → Has w' b1 (.cells #[.int .i64 x.kind, .int .i64 x.uid, .int .i64 x.gid, .int .i64 x.dir, .int .i64 x.no, .int .i64 x.n, .string (bs x.name), .string (bs x.text), .int .i64 x.to_, .string (bs x.as_)] 42) := fun T S w' h' => h'.has HB1.out HNB.out
      exact ph2_all (T := fun w' => Has w' b1 (.cells #[.int .i64 x.kind, .int .i64 x.uid, .int .i64 x.gid, .int .i64 x.dir, .int .i64 x.no, .int .i64 x.n, .string (bs x.name), .string (bs x.text), .int .i64 x.to_, .string (bs x.as_)] 42)) (hk _ _) (hk _ _) (hk _ _)
    have KQ : Hid (∀ w', Ph 1 w' → Mix W1 B g f T S X w') := by show ∀ w', _; intro w' hw; rw [hPh] at hw; exact hw
    have un : ∀ u : Hp Ph, u.w.cell? ⟨f.bF, 3, none⟩ = some (.int .i64 X.now) := by
      rw [hPh]
      exact ph2_all (T := fun w' => w'.cell? ⟨f.bF, 3, none⟩ = some (.int .i64 X.now)) (fun _ h' => Mix.now h') (fun _ h' => Mix.now h') (fun _ h' => Mix.now h')
    have P0 : Ph 0 = Mix W1 B g f S S X := by rw [hPh]; rfl
    have P1 : Ph 1 = Mix W1 B g f T S X := by rw [hPh]; rfl
    have P2 : Ph 2 = Mix W1 B g f T T X := by rw [hPh]; rfl
    have u1 : ∀ u : Hp Ph, u.w.cell? ⟨b1, 1, none⟩ = some (.int .i64 x.uid) := fun u => (ux u).cell 1
    have u2 : ∀ u : Hp Ph, u.w.cell? ⟨b1, 2, none⟩ = some (.int .i64 x.gid) := fun u => (ux u).cell 2
    have u5 : ∀ u : Hp Ph, u.w.cell? ⟨b1, 5, none⟩ = some (.int .i64 x.n) := fun u => (ux u).cell 5
    have u6 : ∀ u : Hp Ph, u.w.cell? ⟨b1, 6, none⟩ = some (.string (bs x.name)) := fun u => (ux u).cell 6
    have KC0 : Hid (∀ u : Wc (Ph 0), Calls Tryz.prog 30 #[.pointer (some ⟨g.bW, 0, none⟩), .agg #[.int .i64 x.uid, .int .i64 x.gid], .int .i64 X.now, .int .i64 p, .string (bs x.name), .int .i64 x.n] u.w (fun e w' => e = .returned (.tuple #[.int .i64 a0, .int .i64 e0]) ∧ Ph 1 w')) := by
      show ∀ u : Wc (Ph 0), _
      rintro ⟨u, hu⟩
      dsimp only
      rw [P0] at hu
      rw [P1]
      refine Mix.callW (T := S) hu fun g1 hg hK => ?_
      rw [HT2.out, HA0.out, HE0.out, ← hg]
      exact (pdir_any B g1 S x.uid x.gid X.now p x.name x.n _ hK HOK.out (by omega)).mono fun _ _ hh => hh.to
    clear hPh P0 P1 P2 ux M2 z2
    refine wp_region_phase Ph [12] (by kernel_rfl) (by kernel_rfl) (by kernel_rfl) HV.out ?_
    repeat (first
      | (refine wpLexE_plain (by kernel_rfl) (fun K hK => ?_)
         go_simp
         refine hK _ ?_
         clear hK K)
      | (refine wpLexE_change 0 (by kernel_rfl) rfl (fun K hK => ?_)
         go_simp
         apply Exists.intro
         refine ⟨KC0.out, hK _ ?_⟩
         clear hK K))
    refine wpLexE_nil ?_
    intro w5 hw5
    have M5 := KQ.out _ hw5
    clear u1 u2 u5 u6 un KC0 HV hw5
    have B5 := M5.has HB1.out HNB.out
    have v1 : w5.cell? ⟨b1, 1, none⟩ = some (.int .i64 x.uid) := B5.cell 1
    have v2 : w5.cell? ⟨b1, 2, none⟩ = some (.int .i64 x.gid) := B5.cell 2
    have v5 : w5.cell? ⟨b1, 5, none⟩ = some (.int .i64 x.n) := B5.cell 5
    have v6 : w5.cell? ⟨b1, 6, none⟩ = some (.string (bs x.name)) := B5.cell 6
    have vz := B5.lt
    have KD : Hid (Calls Tryz.prog 36 #[.pointer (some ⟨f.bF, 0, none⟩), .agg #[.int .i64 x.uid, .int .i64 x.gid], .int .i64 p, .string (bs x.name), .int .i64 x.n] w5 (fun e w' => e = .returned (.tuple #[.int .i64 a0, .int .i64 e0]) ∧ Mix W1 B g f T T X w')) := by
      show Calls _ _ _ _ _
      refine Mix.callF (S := S) (X := X) M5 fun g1 hg hK => ?_
      rw [HT2.out, HA0.out, HE0.out, ← hg]
      exact (rdir_any B g1 S X x.uid x.gid p x.name x.n _ hK HOK.out (by omega) (by omega)).mono fun _ _ hh => hh
    clear B5 M5
    go_wp2_with fail
    refine KD.out.mono ?_
    rintro e w6 ⟨rfl, M6⟩
    have HM6 := Lib.hid M6
    clear v1 v2 v5 v6 vz KD M6
    go_wp2_with fail
    go_ret
    exact ⟨rfl, by
      (unfold do17T; rw [if_pos HK0.out]; try rw [← HP.out]); (try rw [← HQ.out])
      rw [← HT2.out]; exact HM6.out.base HE1.out⟩
  have t0 : (x.kind == 0) = false := by simpa using c0
  have HK0 := Lib.hid c0
  clear c0
  by_cases c1 : x.kind = 1
  · have t1 : (x.kind == 1) = true := by simpa using c1
    have HK1 := Lib.hid c1
    clear c1
    obtain ⟨T, hT2⟩ : ∃ T, T = preT (fileP x.n x.text.length) S (comeT S x.uid x.gid X.now p x.name (fileZ x.n x.text)) := ⟨_, rfl⟩
    obtain ⟨e0, he0⟩ : ∃ e0, e0 = preE (fileP x.n x.text.length) (comeE S x.uid x.gid X.now p x.name (fileZ x.n x.text)) := ⟨_, rfl⟩
    obtain ⟨a0, ha0⟩ : ∃ a0, a0 = preN (fileP x.n x.text.length) (comeN S x.uid x.gid X.now p x.name (fileZ x.n x.text)) := ⟨_, rfl⟩
    have HA0 := Lib.hid ha0
    have HT2 := Lib.hid hT2
    have HE0 := Lib.hid he0
    clear hT2 he0 ha0
    go_upto_region 8 with fail
    obtain ⟨Ph, hPh⟩ : ∃ Ph, Ph = ph2 (Mix W1 B g f S S X) (Mix W1 B g f T S X) (Mix W1 B g f T T X) := ⟨_, rfl⟩
    have HV : Hid (Ph 0 w2.drew) := by show Ph 0 _; rw [hPh]; exact M2.ext (Ext.refl _).drew
    have hne : Nonempty (Hp Ph) := ⟨⟨0, _, HV.out⟩⟩
    have ux : ∀ u : Hp Ph, Has u.w b1 (.cells #[.int .i64 x.kind, .int .i64 x.uid, .int .i64 x.gid, .int .i64 x.dir, .int .i64 x.no, .int .i64 x.n, .string (bs x.name), .string (bs x.text), .int .i64 x.to_, .string (bs x.as_)] 42) := by
      rw [hPh]
      have hk : ∀ (T S : TreeD) (w' : World), Mix W1 B g f T S X w' → Has w' b1 (.cells #[.int .i64 x.kind, .int .i64 x.uid, .int .i64 x.gid, .int .i64 x.dir, .int .i64 x.no, .int .i64 x.n, .string (bs x.name), .string (bs x.text), .int .i64 x.to_, .string (bs x.as_)] 42) := fun T S w' h' => h'.has HB1.out HNB.out
      exact ph2_all (T := fun w' => Has w' b1 (.cells #[.int .i64 x.kind, .int .i64 x.uid, .int .i64 x.gid, .int .i64 x.dir, .int .i64 x.no, .int .i64 x.n, .string (bs x.name), .string (bs x.text), .int .i64 x.to_, .string (bs x.as_)] 42)) (hk _ _) (hk _ _) (hk _ _)
    have KQ : Hid (∀ w', Ph 1 w' → Mix W1 B g f T S X w') := by show ∀ w', _; intro w' hw; rw [hPh] at hw; exact hw
    have un : ∀ u : Hp Ph, u.w.cell? ⟨f.bF, 3, none⟩ = some (.int .i64 X.now) := by
      rw [hPh]
      exact ph2_all (T := fun w' => w'.cell? ⟨f.bF, 3, none⟩ = some (.int .i64 X.now)) (fun _ h' => Mix.now h') (fun _ h' => Mix.now h') (fun _ h' => Mix.now h')
    have P0 : Ph 0 = Mix W1 B g f S S X := by rw [hPh]; rfl
    have P1 : Ph 1 = Mix W1 B g f T S X := by rw [hPh]; rfl
    have P2 : Ph 2 = Mix W1 B g f T T X := by rw [hPh]; rfl
    have u1 : ∀ u : Hp Ph, u.w.cell? ⟨b1, 1, none⟩ = some (.int .i64 x.uid) := fun u => (ux u).cell 1
    have u2 : ∀ u : Hp Ph, u.w.cell? ⟨b1, 2, none⟩ = some (.int .i64 x.gid) := fun u => (ux u).cell 2
    have u5 : ∀ u : Hp Ph, u.w.cell? ⟨b1, 5, none⟩ = some (.int .i64 x.n) := fun u => (ux u).cell 5
    have u6 : ∀ u : Hp Ph, u.w.cell? ⟨b1, 6, none⟩ = some (.string (bs x.name)) := fun u => (ux u).cell 6
    have u7 : ∀ u : Hp Ph, u.w.cell? ⟨b1, 7, none⟩ = some (.string (bs x.text)) := fun u => (ux u).cell 7
    have KC0 : Hid (∀ u : Wc (Ph 0), Calls Tryz.prog 31 #[.pointer (some ⟨g.bW, 0, none⟩), .agg #[.int .i64 x.uid, .int .i64 x.gid], .int .i64 X.now, .int .i64 p, .string (bs x.name), .int .i64 x.n, .string (bs x.text)] u.w (fun e w' => e = .returned (.tuple #[.int .i64 a0, .int .i64 e0]) ∧ Ph 1 w')) := by
      show ∀ u : Wc (Ph 0), _
      rintro ⟨u, hu⟩
      dsimp only
      rw [P0] at hu
      rw [P1]
      refine Mix.callW (T := S) hu fun g1 hg hK => ?_
      rw [HT2.out, HA0.out, HE0.out, ← hg]
      exact (pfile_any B g1 S x.uid x.gid X.now p x.name x.n x.text _ hK HOK.out (by omega) (by omega)).mono fun _ _ hh => hh.to
    clear hPh P0 P1 P2 ux M2 z2
    refine wp_region_phase Ph [14] (by kernel_rfl) (by kernel_rfl) (by kernel_rfl) HV.out ?_
    repeat (first
      | (refine wpLexE_plain (by kernel_rfl) (fun K hK => ?_)
         go_simp
         refine hK _ ?_
         clear hK K)
      | (refine wpLexE_change 0 (by kernel_rfl) rfl (fun K hK => ?_)
         go_simp
         apply Exists.intro
         refine ⟨KC0.out, hK _ ?_⟩
         clear hK K))
    refine wpLexE_nil ?_
    intro w5 hw5
    have M5 := KQ.out _ hw5
    clear u1 u2 u5 u6 u7 un KC0 HV hw5
    have B5 := M5.has HB1.out HNB.out
    have v1 : w5.cell? ⟨b1, 1, none⟩ = some (.int .i64 x.uid) := B5.cell 1
    have v2 : w5.cell? ⟨b1, 2, none⟩ = some (.int .i64 x.gid) := B5.cell 2
    have v5 : w5.cell? ⟨b1, 5, none⟩ = some (.int .i64 x.n) := B5.cell 5
    have v6 : w5.cell? ⟨b1, 6, none⟩ = some (.string (bs x.name)) := B5.cell 6
    have v7 : w5.cell? ⟨b1, 7, none⟩ = some (.string (bs x.text)) := B5.cell 7
    have vz := B5.lt
    have KD : Hid (Calls Tryz.prog 37 #[.pointer (some ⟨f.bF, 0, none⟩), .agg #[.int .i64 x.uid, .int .i64 x.gid], .int .i64 p, .string (bs x.name), .int .i64 x.n, .string (bs x.text)] w5 (fun e w' => e = .returned (.tuple #[.int .i64 a0, .int .i64 e0]) ∧ Mix W1 B g f T T X w')) := by
      show Calls _ _ _ _ _
      refine Mix.callF (S := S) (X := X) M5 fun g1 hg hK => ?_
      rw [HT2.out, HA0.out, HE0.out, ← hg]
      exact (rfile_any B g1 S X x.uid x.gid p x.name x.n x.text _ hK HOK.out (by omega) (by omega) (by omega)).mono fun _ _ hh => hh
    clear B5 M5
    go_wp2_with fail
    refine KD.out.mono ?_
    rintro e w6 ⟨rfl, M6⟩
    have HM6 := Lib.hid M6
    clear v1 v2 v5 v6 v7 vz KD M6
    go_wp2_with fail
    go_ret
    exact ⟨rfl, by
      (unfold do17T; rw [if_neg HK0.out, if_pos HK1.out]; try rw [← HP.out]); (try rw [← HQ.out])
      rw [← HT2.out]; exact HM6.out.base HE1.out⟩
  have t1 : (x.kind == 1) = false := by simpa using c1
  have HK1 := Lib.hid c1
  clear c1
  by_cases c2 : x.kind = 2
  · have t2 : (x.kind == 2) = true := by simpa using c2
    have HK2 := Lib.hid c2
    clear c2
    obtain ⟨T, hT2⟩ : ∃ T, T = preT (symP x.text) S (comeT S x.uid x.gid X.now p x.name (symZ x.text)) := ⟨_, rfl⟩
    obtain ⟨e0, he0⟩ : ∃ e0, e0 = preE (symP x.text) (comeE S x.uid x.gid X.now p x.name (symZ x.text)) := ⟨_, rfl⟩
    obtain ⟨a0, ha0⟩ : ∃ a0, a0 = preN (symP x.text) (comeN S x.uid x.gid X.now p x.name (symZ x.text)) := ⟨_, rfl⟩
    have HA0 := Lib.hid ha0
    have HT2 := Lib.hid hT2
    have HE0 := Lib.hid he0
    clear hT2 he0 ha0
    go_upto_region 12 with fail
    obtain ⟨Ph, hPh⟩ : ∃ Ph, Ph = ph2 (Mix W1 B g f S S X) (Mix W1 B g f T S X) (Mix W1 B g f T T X) := ⟨_, rfl⟩
    have HV : Hid (Ph 0 w2.drew) := by show Ph 0 _; rw [hPh]; exact M2.ext (Ext.refl _).drew
    have hne : Nonempty (Hp Ph) := ⟨⟨0, _, HV.out⟩⟩
    have ux : ∀ u : Hp Ph, Has u.w b1 (.cells #[.int .i64 x.kind, .int .i64 x.uid, .int .i64 x.gid, .int .i64 x.dir, .int .i64 x.no, .int .i64 x.n, .string (bs x.name), .string (bs x.text), .int .i64 x.to_, .string (bs x.as_)] 42) := by
      rw [hPh]
      have hk : ∀ (T S : TreeD) (w' : World), Mix W1 B g f T S X w' → Has w' b1 (.cells #[.int .i64 x.kind, .int .i64 x.uid, .int .i64 x.gid, .int .i64 x.dir, .int .i64 x.no, .int .i64 x.n, .string (bs x.name), .string (bs x.text), .int .i64 x.to_, .string (bs x.as_)] 42) := fun T S w' h' => h'.has HB1.out HNB.out
      exact ph2_all (T := fun w' => Has w' b1 (.cells #[.int .i64 x.kind, .int .i64 x.uid, .int .i64 x.gid, .int .i64 x.dir, .int .i64 x.no, .int .i64 x.n, .string (bs x.name), .string (bs x.text), .int .i64 x.to_, .string (bs x.as_)] 42)) (hk _ _) (hk _ _) (hk _ _)
    have KQ : Hid (∀ w', Ph 1 w' → Mix W1 B g f T S X w') := by show ∀ w', _; intro w' hw; rw [hPh] at hw; exact hw
    have un : ∀ u : Hp Ph, u.w.cell? ⟨f.bF, 3, none⟩ = some (.int .i64 X.now) := by
      rw [hPh]
      exact ph2_all (T := fun w' => w'.cell? ⟨f.bF, 3, none⟩ = some (.int .i64 X.now)) (fun _ h' => Mix.now h') (fun _ h' => Mix.now h') (fun _ h' => Mix.now h')
    have P0 : Ph 0 = Mix W1 B g f S S X := by rw [hPh]; rfl
    have P1 : Ph 1 = Mix W1 B g f T S X := by rw [hPh]; rfl
    have P2 : Ph 2 = Mix W1 B g f T T X := by rw [hPh]; rfl
    have u1 : ∀ u : Hp Ph, u.w.cell? ⟨b1, 1, none⟩ = some (.int .i64 x.uid) := fun u => (ux u).cell 1
    have u2 : ∀ u : Hp Ph, u.w.cell? ⟨b1, 2, none⟩ = some (.int .i64 x.gid) := fun u => (ux u).cell 2
    have u6 : ∀ u : Hp Ph, u.w.cell? ⟨b1, 6, none⟩ = some (.string (bs x.name)) := fun u => (ux u).cell 6
    have u7 : ∀ u : Hp Ph, u.w.cell? ⟨b1, 7, none⟩ = some (.string (bs x.text)) := fun u => (ux u).cell 7
    have KC0 : Hid (∀ u : Wc (Ph 0), Calls Tryz.prog 38 #[.pointer (some ⟨g.bW, 0, none⟩), .agg #[.int .i64 x.uid, .int .i64 x.gid], .int .i64 X.now, .int .i64 p, .string (bs x.name), .string (bs x.text)] u.w (fun e w' => e = .returned (.tuple #[.int .i64 a0, .int .i64 e0]) ∧ Ph 1 w')) := by
      show ∀ u : Wc (Ph 0), _
      rintro ⟨u, hu⟩
      dsimp only
      rw [P0] at hu
      rw [P1]
      refine Mix.callW (T := S) hu fun g1 hg hK => ?_
      rw [HT2.out, HA0.out, HE0.out, ← hg]
      exact (psym_any B g1 S x.uid x.gid X.now p x.name x.text _ hK HOK.out (by omega) (by omega)).mono fun _ _ hh => hh.to
    clear hPh P0 P1 P2 ux M2 z2
    refine wp_region_phase Ph [12] (by kernel_rfl) (by kernel_rfl) (by kernel_rfl) HV.out ?_
    repeat (first
      | (refine wpLexE_plain (by kernel_rfl) (fun K hK => ?_)
         go_simp
         refine hK _ ?_
         clear hK K)
      | (refine wpLexE_change 0 (by kernel_rfl) rfl (fun K hK => ?_)
         go_simp
         apply Exists.intro
         refine ⟨KC0.out, hK _ ?_⟩
         clear hK K))
    refine wpLexE_nil ?_
    intro w5 hw5
    have M5 := KQ.out _ hw5
    clear u1 u2 u6 u7 un KC0 HV hw5
    have B5 := M5.has HB1.out HNB.out
    have v1 : w5.cell? ⟨b1, 1, none⟩ = some (.int .i64 x.uid) := B5.cell 1
    have v2 : w5.cell? ⟨b1, 2, none⟩ = some (.int .i64 x.gid) := B5.cell 2
    have v6 : w5.cell? ⟨b1, 6, none⟩ = some (.string (bs x.name)) := B5.cell 6
    have v7 : w5.cell? ⟨b1, 7, none⟩ = some (.string (bs x.text)) := B5.cell 7
    have vz := B5.lt
    have KD : Hid (Calls Tryz.prog 39 #[.pointer (some ⟨f.bF, 0, none⟩), .agg #[.int .i64 x.uid, .int .i64 x.gid], .int .i64 p, .string (bs x.name), .string (bs x.text)] w5 (fun e w' => e = .returned (.tuple #[.int .i64 a0, .int .i64 e0]) ∧ Mix W1 B g f T T X w')) := by
      show Calls _ _ _ _ _
      refine Mix.callF (S := S) (X := X) M5 fun g1 hg hK => ?_
      rw [HT2.out, HA0.out, HE0.out, ← hg]
      exact (rsym_any B g1 S X x.uid x.gid p x.name x.text _ hK HOK.out (by omega) (by omega) (by omega)).mono fun _ _ hh => hh
    clear B5 M5
    go_wp2_with fail
    refine KD.out.mono ?_
    rintro e w6 ⟨rfl, M6⟩
    have HM6 := Lib.hid M6
    clear v1 v2 v6 v7 vz KD M6
    go_wp2_with fail
    go_ret
    exact ⟨rfl, by
      (unfold do17T; rw [if_neg HK0.out, if_neg HK1.out, if_pos HK2.out]; try rw [← HP.out]); (try rw [← HQ.out])
      rw [← HT2.out]; exact HM6.out.base HE1.out⟩
  have t2 : (x.kind == 2) = false := by simpa using c2
  have HK2 := Lib.hid c2
  clear c2
  by_cases c3 : x.kind = 3
  · have t3 : (x.kind == 3) = true := by simpa using c3
    have HK3 := Lib.hid c3
    clear c3
    obtain ⟨T, hT2⟩ : ∃ T, T = hardT S x.uid x.gid X.now q p x.name := ⟨_, rfl⟩
    obtain ⟨e0, he0⟩ : ∃ e0, e0 = hardE S x.uid x.gid q p x.name := ⟨_, rfl⟩
    have HT2 := Lib.hid hT2
    have HE0 := Lib.hid he0
    clear hT2 he0
    go_upto_region 16 with fail
    obtain ⟨Ph, hPh⟩ : ∃ Ph, Ph = ph2 (Mix W1 B g f S S X) (Mix W1 B g f T S X) (Mix W1 B g f T T X) := ⟨_, rfl⟩
    have HV : Hid (Ph 0 w2.drew) := by show Ph 0 _; rw [hPh]; exact M2.ext (Ext.refl _).drew
    have hne : Nonempty (Hp Ph) := ⟨⟨0, _, HV.out⟩⟩
    have ux : ∀ u : Hp Ph, Has u.w b1 (.cells #[.int .i64 x.kind, .int .i64 x.uid, .int .i64 x.gid, .int .i64 x.dir, .int .i64 x.no, .int .i64 x.n, .string (bs x.name), .string (bs x.text), .int .i64 x.to_, .string (bs x.as_)] 42) := by
      rw [hPh]
      have hk : ∀ (T S : TreeD) (w' : World), Mix W1 B g f T S X w' → Has w' b1 (.cells #[.int .i64 x.kind, .int .i64 x.uid, .int .i64 x.gid, .int .i64 x.dir, .int .i64 x.no, .int .i64 x.n, .string (bs x.name), .string (bs x.text), .int .i64 x.to_, .string (bs x.as_)] 42) := fun T S w' h' => h'.has HB1.out HNB.out
      exact ph2_all (T := fun w' => Has w' b1 (.cells #[.int .i64 x.kind, .int .i64 x.uid, .int .i64 x.gid, .int .i64 x.dir, .int .i64 x.no, .int .i64 x.n, .string (bs x.name), .string (bs x.text), .int .i64 x.to_, .string (bs x.as_)] 42)) (hk _ _) (hk _ _) (hk _ _)
    have KQ : Hid (∀ w', Ph 2 w' → Mix W1 B g f T T X w') := by show ∀ w', _; intro w' hw; rw [hPh] at hw; exact hw
    have un : ∀ u : Hp Ph, u.w.cell? ⟨f.bF, 3, none⟩ = some (.int .i64 X.now) := by
      rw [hPh]
      exact ph2_all (T := fun w' => w'.cell? ⟨f.bF, 3, none⟩ = some (.int .i64 X.now)) (fun _ h' => Mix.now h') (fun _ h' => Mix.now h') (fun _ h' => Mix.now h')
    have P0 : Ph 0 = Mix W1 B g f S S X := by rw [hPh]; rfl
    have P1 : Ph 1 = Mix W1 B g f T S X := by rw [hPh]; rfl
    have P2 : Ph 2 = Mix W1 B g f T T X := by rw [hPh]; rfl
    have u1 : ∀ u : Hp Ph, u.w.cell? ⟨b1, 1, none⟩ = some (.int .i64 x.uid) := fun u => (ux u).cell 1
    have u2 : ∀ u : Hp Ph, u.w.cell? ⟨b1, 2, none⟩ = some (.int .i64 x.gid) := fun u => (ux u).cell 2
    have u6 : ∀ u : Hp Ph, u.w.cell? ⟨b1, 6, none⟩ = some (.string (bs x.name)) := fun u => (ux u).cell 6
    have KC0 : Hid (∀ u : Wc (Ph 0), Calls Tryz.prog 32 #[.pointer (some ⟨g.bW, 0, none⟩), .agg #[.int .i64 x.uid, .int .i64 x.gid], .int .i64 X.now, .int .i64 q, .int .i64 p, .string (bs x.name)] u.w (fun e w' => e = .returned (.int .i64 e0) ∧ Ph 1 w')) := by
      show ∀ u : Wc (Ph 0), _
      rintro ⟨u, hu⟩
      dsimp only
      rw [P0] at hu
      rw [P1]
      refine Mix.callW (T := S) hu fun g1 hg hK => ?_
      rw [HT2.out, HE0.out, ← hg]
      exact (phard_any B g1 S x.uid x.gid X.now q p x.name _ hK HOK.out).mono fun _ _ hh => hh.to
    have KC1 : Hid (∀ u : Wc (Ph 1), Calls Tryz.prog 40 #[.pointer (some ⟨f.bF, 0, none⟩), .agg #[.int .i64 x.uid, .int .i64 x.gid], .int .i64 q, .int .i64 p, .string (bs x.name)] u.w (fun e w' => e = .returned (.int .i64 e0) ∧ Ph 2 w')) := by
      show ∀ u : Wc (Ph 1), _
      rintro ⟨u, hu⟩
      dsimp only
      rw [P1] at hu
      rw [P2]
      refine Mix.callF (S := S) (X := X) hu fun g1 hg hK => ?_
      rw [HT2.out, HE0.out, ← hg]
      exact (rhard_any B g1 S X x.uid x.gid q p x.name _ hK HOK.out (by omega) (by omega)).mono fun _ _ hh => hh
    clear hPh P0 P1 P2 ux M2 z2
    refine wp_region_phase Ph [11, 19] (by kernel_rfl) (by kernel_rfl) (by kernel_rfl) HV.out ?_
    repeat (first
      | (refine wpLexE_plain (by kernel_rfl) (fun K hK => ?_)
         go_simp
         refine hK _ ?_
         clear hK K)
      | (refine wpLexE_change 0 (by kernel_rfl) rfl (fun K hK => ?_)
         go_simp
         apply Exists.intro
         refine ⟨KC0.out, hK _ ?_⟩
         clear hK K)
      | (refine wpLexE_change 1 (by kernel_rfl) rfl (fun K hK => ?_)
         go_simp
         apply Exists.intro
         refine ⟨KC1.out, hK _ ?_⟩
         clear hK K))
    refine wpLexE_nil ?_
    intro w5 hw5
    have M5 := KQ.out _ hw5
    clear u1 u2 u6 un KC0 KC1 HV hw5
    go_wp2_with fail
    go_ret
    exact ⟨rfl, by
      (unfold do17T; rw [if_neg HK0.out, if_neg HK1.out, if_neg HK2.out, if_pos HK3.out]; try rw [← HP.out]); (try rw [← HQ.out])
      rw [← HT2.out]; exact M5.base HE1.out⟩
  have t3 : (x.kind == 3) = false := by simpa using c3
  have HK3 := Lib.hid c3
  clear c3
  obtain ⟨g1, f1, hg1, hf1, hK1, hF1, hO1⟩ := id M2
  have v1 : w2.cell? ⟨b1, 1, none⟩ = some (.int .i64 x.uid) := HB2.out.cell 1
  have v2 : w2.cell? ⟨b1, 2, none⟩ = some (.int .i64 x.gid) := HB2.out.cell 2
  have v6 : w2.cell? ⟨b1, 6, none⟩ = some (.string (bs x.name)) := HB2.out.cell 6
  have HM2 := Lib.hid M2
  have KP : Hid (Calls Tryz.prog 41 #[.pointer (some ⟨g.bW, 0, none⟩), .agg #[.int .i64 x.uid, .int .i64 x.gid], .int .i64 p, .string (bs x.name)] w2 (PlaceQ w2 B S x.uid x.gid p x.name)) := by
    show Calls _ _ _ _ _
    rw [← hg1.1]
    exact pplace_any B g1 S x.uid x.gid p x.name w2 hK1 HOK.out.live.devs
  have KR : Hid (∀ w', Ext w2 w' → Calls Tryz.prog 42 #[.pointer (some ⟨f.bF, 0, none⟩), .agg #[.int .i64 x.uid, .int .i64 x.gid], .int .i64 p, .string (bs x.name)] w' (PlaceQ w' B S x.uid x.gid p x.name)) := by
    show ∀ w', _
    intro w' hw
    rw [← hf1.1]
    exact rplace_any B f1 S X x.uid x.gid p x.name w' (hF1.ext hw) (by have := HOK.out.live.count; omega) HOK.out.live.nos (by omega)
  clear M2 hg1 hf1 hK1 hF1 hO1 g1 f1
  go_wp2_with fail
  refine KP.out.mono ?_
  rintro e w3 ⟨A3, k3, rfl, _, b3⟩
  obtain ⟨n, hn⟩ : ∃ n, n = placeN S x.uid x.gid p x.name := ⟨_, rfl⟩
  obtain ⟨e0, he0⟩ : ∃ e0, e0 = placeE S x.uid x.gid p x.name := ⟨_, rfl⟩
  rw [← hn, ← he0]
  obtain ⟨w4, hw4⟩ : ∃ W, W = w3.alloc (.cells #[.int .i64 n.no, .int .i64 n.dev, .int .i64 n.kind, .int .i64 n.mode, .int .i64 n.uid, .int .i64 n.gid, .int .i64 n.mtime, .int .i64 n.ctime, .int .i64 n.links, .int .i64 n.up, .string (bs n.data), .slice A3 n.ents.length k3] 49) := ⟨_, rfl⟩
  obtain ⟨b4, hb4⟩ : ∃ b, b = w3.heap.size := ⟨_, rfl⟩
  have N4 : Has w4 b4 (.cells #[.int .i64 n.no, .int .i64 n.dev, .int .i64 n.kind, .int .i64 n.mode, .int .i64 n.uid, .int .i64 n.gid, .int .i64 n.mtime, .int .i64 n.ctime, .int .i64 n.links, .int .i64 n.up, .string (bs n.data), .slice A3 n.ents.length k3] 49) := by rw [hw4, hb4]; exact Has.new _ _
  have E24 : Ext w2 w4 := b3.trans (by rw [hw4]; exact (Ext.refl _).alloc _)
  have B4 := HB2.out.ext E24
  have HN := Lib.hid hn
  have HE0 := Lib.hid he0
  clear v1 v2 v6 z2 KP b3 hn he0
  go_upto_region 18 with fail
  rw [← hw4, ← hb4]
  clear hw4 hb4
  have v1 : w4.cell? ⟨b1, 1, none⟩ = some (.int .i64 x.uid) := B4.cell 1
  have v2 : w4.cell? ⟨b1, 2, none⟩ = some (.int .i64 x.gid) := B4.cell 2
  have v6 : w4.cell? ⟨b1, 6, none⟩ = some (.string (bs x.name)) := B4.cell 6
  have vz := B4.lt
  go_wp2_with fail
  refine (KR.out w4 E24).mono ?_
  rintro e w5 ⟨A5, k5, rfl, _, b5⟩
  rw [← HN.out, ← HE0.out]
  obtain ⟨w6, hw6⟩ : ∃ W, W = w5.alloc (.cells #[.int .i64 n.no, .int .i64 n.dev, .int .i64 n.kind, .int .i64 n.mode, .int .i64 n.uid, .int .i64 n.gid, .int .i64 n.mtime, .int .i64 n.ctime, .int .i64 n.links, .int .i64 n.up, .string (bs n.data), .slice A5 n.ents.length k5] 49) := ⟨_, rfl⟩
  obtain ⟨b6, hb6⟩ : ∃ b, b = w5.heap.size := ⟨_, rfl⟩
  have N6 : Has w6 b6 (.cells #[.int .i64 n.no, .int .i64 n.dev, .int .i64 n.kind, .int .i64 n.mode, .int .i64 n.uid, .int .i64 n.gid, .int .i64 n.mtime, .int .i64 n.ctime, .int .i64 n.links, .int .i64 n.up, .string (bs n.data), .slice A5 n.ents.length k5] 49) := by rw [hw6, hb6]; exact Has.new _ _
  have E46 : Ext w4 w6 := b5.trans (by rw [hw6]; exact (Ext.refl _).alloc _)
  have N46 := N4.ext E46
  have HM6 := Lib.hid (HM2.out.ext (E24.trans E46))
  clear v1 v2 v6 vz b5 B4 N4 KR
  go_upto_region 19 with fail
  rw [← hw6, ← hb6]
  clear hw6 hb6 E46
  have k4 : w6.cell? ⟨b4, 0, none⟩ = some (.int .i64 n.no) := N46.cell 0
  have k6 : w6.cell? ⟨b6, 0, none⟩ = some (.int .i64 n.no) := N6.cell 0
  have k4z := N46.lt
  have k6z := N6.lt
  go_wp2_with fail
  go_ret
  exact ⟨rfl, by
    (unfold do17T; rw [if_neg HK0.out, if_neg HK1.out, if_neg HK2.out, if_neg HK3.out]; try rw [← HP.out]); (try rw [← HQ.out])
    exact HM6.out.base HE1.out⟩
end Go.Proofs.YtebghednhjaniaaGreat

namespace Go.Proofs.YtebghednhjaniaaGreat
open Go.ChangeShapes Go.WideShapes Go.ChangeAt Go.RowKit

theorem okWide_array {P : Program} {w : World} {r : Reach} {base : Nat} {t e : TypeId} {n : Nat} {v : Value} (ht : P.underlying t = some (.array n e)) (h : Value.okWide P w r base t v) : ∃ cs, v = .agg cs ∧ cs.size = P.cellsOf t := by
  simp only [Value.okWide, ht] at h
  obtain ⟨cs, h1, h2, _⟩ := h
  exact ⟨cs, h1, h2⟩
section
variable {H : Type} {enc : TypeId × Value → H} {w : World} {base : Nat} {spare : Nat → Bool} {held : Bool}
theorem opnU16 : Tryz.prog.cellsOf 22 = 1 := by kernel_rfl
theorem opnQ_size : Tryz.prog.cellsOf 23 = 2 := by kernel_rfl
set_option maxRecDepth 100000 in
theorem open_Q {r : Reach} {b0 : Nat} {v : Value} {d : DataW H} {p : List MemPlace} (hv : Value.okWide Tryz.prog w r b0 23 v) (h : DataW.Trod enc Tryz.prog w base spare held 23 v d p) :
    ∃ a b : Int, v = .agg #[.int .u16 a, .int .u16 b] ∧ 0 ≤ a ∧ a ≤ 65535 ∧ 0 ≤ b ∧ b ≤ 65535 := by
  obtain ⟨cs, rfl, hsz⟩ := okWide_array Tryz.underlying23 hv
  obtain ⟨fuel, hf⟩ := h
  obtain ⟨xs, m, _, _, hl, hxl, hg⟩ := DataW.trod_array Tryz.underlying23 hf
  have hcs : (Value.agg cs).cells.toList = cs.toList := rfl
  rw [opnQ_size] at hsz
  rw [hcs] at hg
  match hc : cs.toList, hxl2 : xs, hxl with
  | [a0, a1], [y0, y1], _ =>
    rw [hc] at hg
    have f0 : DataW.trod enc Tryz.prog w base spare held m 22 (List.take (Tryz.prog.cellsOf 22) (List.drop (0 * Tryz.prog.cellsOf 22) [a0, a1])) = some y0 := hg 0 (by decide)
    have f1 : DataW.trod enc Tryz.prog w base spare held m 22 (List.take (Tryz.prog.cellsOf 22) (List.drop (1 * Tryz.prog.cellsOf 22) [a0, a1])) = some y1 := hg 1 (by decide)
    rw [opnU16] at f0 f1
    obtain ⟨k0, h0, _, w0⟩ := DataW.trod_int Tryz.underlying22 f0
    obtain ⟨k1, h1, _, w1⟩ := DataW.trod_int Tryz.underlying22 f1
    have e0 : a0 = .int .u16 k0 := by simpa using h0
    have e1 : a1 = .int .u16 k1 := by simpa using h1
    have b0 := bounds_u16 w0
    have b1 := bounds_u16 w1
    refine ⟨k0, k1, ?_, b0.1, b0.2, b1.1, b1.2⟩
    rw [← e0, ← e1, show cs = #[a0, a1] from Array.toList_inj.1 hc]
  | [], _, _ => rw [← Array.length_toList, hc] at hsz; simp at hsz
  | [_], _, _ => rw [← Array.length_toList, hc] at hsz; simp at hsz
  | _ :: _ :: _ :: _, _, _ => rw [← Array.length_toList, hc] at hsz; simp at hsz
end
end Go.Proofs.YtebghednhjaniaaGreat

namespace Go.Proofs.YtebghednhjaniaaGreat
open Go.ChangeShapes Go.WideShapes Go.ChangeAt Go.RowKit

theorem tre_pre {c : Nat} {S T : TreeD} {p : Int} (h : Tre c S) (hT : p = 0 → Tre (c + 1) T) : Tre (c + 1) (preT p S T) := by
  unfold preT
  split
  · exact tre_mono h (by omega)
  · rename_i h0; exact hT (Decidable.not_not.1 h0)
theorem come_last (S : TreeD) (cu cg now dir : Int) (nm : List UInt8) (n : NodeD) : (comeT S cu cg now dir nm n).last ≤ S.last + 1 := by
  unfold comeT
  split
  · show (makeT S _).last ≤ _
    unfold makeT
    split
    · exact Int.le_refl _
    · omega
  · omega
theorem pre_last {S T : TreeD} {p : Int} (h : T.last ≤ S.last + 1) : (preT p S T).last ≤ S.last + 1 := by
  unfold preT
  split
  · omega
  · exact h
theorem tre_do17 {c : Nat} {S : TreeD} (h : Tre c S) (now : Int) (x : ActD) (hx : shortA x) : Tre (c + 1) (do17T S now x) ∧ (do17T S now x).last ≤ S.last + 1 := by
  have htx := hx.2.2
  unfold do17T
  split
  · refine ⟨tre_pre h fun h0 => tre_comeT h rfl (by show ([] : List UInt8).length ≤ _; simp) (fun _ => rfl) ?_, pre_last (come_last ..)⟩
    unfold dirP at h0
    split at h0
    · cases h0
    · show 0 ≤ x.n ∧ x.n ≤ 1023
      omega
  · split
    · refine ⟨tre_pre h fun h0 => tre_comeT h rfl (by show x.text.length ≤ _; omega) (fun hk => by cases hk) ?_, pre_last (come_last ..)⟩
      unfold fileP at h0
      split at h0
      · cases h0
      · show 0 ≤ x.n ∧ x.n ≤ 1023
        omega
    · split
      · exact ⟨tre_pre h fun h0 => tre_comeT h rfl (by show x.text.length ≤ _; omega) (fun hk => by cases hk) ⟨by show (0 : Int) ≤ 511; decide, by show (511 : Int) ≤ 1023; decide⟩, pre_last (come_last ..)⟩
      · split
        · refine ⟨tre_hard h .., ?_⟩
          unfold hardT
          split
          · show S.last ≤ _; omega
          · omega
        · exact ⟨tre_mono h (by omega), by omega⟩
set_option maxRecDepth 100000 in
set_option maxHeartbeats 8000000 in
theorem bringPlays_any (q0 q1 : Int) (A : Option Addr) (l : List ItemD) (cap : Nat) (A2 : Option Addr) (acts : List ActD) (cap2 : Nat) (w0 : World) (hA0 : ItemsAt w0 A l) (hlen : l.length ≤ 9223372036854775807) (hA20 : ActsAt w0 A2 acts) (hlen2 : acts.length ≤ 9223372036854775807) (hq0 : 0 ≤ q0) (_hq0' : q0 ≤ 65535) (hq1 : 0 ≤ q1) (_hq1' : q1 ≤ 65535) :
    Calls Tryz.prog 3 #[.agg #[.int .u16 q0, .int .u16 q1], .slice A l.length cap, .slice A2 acts.length cap2] w0 (Ret w0 (.bool true)) := by
  obtain ⟨w, hw⟩ : ∃ w, w = w0.alloc (.cells #[.int .u16 q0, .int .u16 q1] 23) := ⟨_, rfl⟩
  have E00 : Ext w0 w := by rw [hw]; exact (Ext.refl _).alloc _
  have Bq : Has w w0.heap.size (.cells #[.int .u16 q0, .int .u16 q1] 23) := by rw [hw]; exact Has.new _ _
  have cq0 : w.cell? ⟨w0.heap.size, 0, none⟩ = some (.int .u16 q0) := Bq.cell 0
  have cq1 : w.cell? ⟨w0.heap.size, 1, none⟩ = some (.int .u16 q1) := Bq.cell 1
  have zq := Bq.lt
  have hA := hA0.ext E00
  have hA2 := hA20.ext E00
  have HE00 := Lib.hid E00
  clear hA0 hA20 E00 Bq
  obtain ⟨m, hm⟩ : ∃ m, m = l.length := ⟨_, rfl⟩
  obtain ⟨n, hn⟩ : ∃ n, n = acts.length := ⟨_, rfl⟩
  have hlen' := hlen
  have hlen2' := hlen2
  rw [← hm] at hlen' ⊢
  rw [← hn] at hlen2' ⊢
  have HM := Lib.hid hm
  have HN := Lib.hid hn
  have KF : Hid (Calls Tryz.prog 8 #[.slice A m cap] w (FewR w l)) := by show Calls _ _ _ _ _; rw [HM.out]; exact few14_any A l cap w hA hlen
  have KA : Hid (Calls Tryz.prog 9 #[.slice A2 n cap2] w (FewAR w acts)) := by show Calls _ _ _ _ _; rw [HN.out]; exact fewA_any A2 acts cap2 w hA2 hlen2
  clear hm hn
  go_enter Tryz.func3, Tryz.ntmps3
  go_upto_region 1 with fail
  rw [← hw]
  clear hw
  go_wp2_with fail
  refine KF.out.mono ?_
  rintro e w1 ⟨rfl, ⟨hf, rfl⟩ | ⟨hf, rfl⟩⟩
  case inr =>
    go_wp2_with fail
    refine (awake17 _).mono ?_
    rintro e w3 ⟨rfl, b3⟩
    go_wp2_with fail
    go_ret
    exact Ret.mk rfl (HE00.out.trans b3)
  have HF := Lib.hid hf
  clear hf
  go_wp2_with fail
  refine KA.out.mono ?_
  rintro e w1 ⟨rfl, ⟨hf, rfl⟩ | ⟨hf, rfl⟩⟩
  case inr =>
    go_wp2_with fail
    refine (awake17 _).mono ?_
    rintro e w3 ⟨rfl, b3⟩
    go_wp2_with fail
    go_ret
    exact Ret.mk rfl (HE00.out.trans b3)
  have HFA := Lib.hid hf
  obtain ⟨aa, haa⟩ : ∃ aa, aa = q0 % 200 := ⟨_, rfl⟩
  obtain ⟨cc, hcc⟩ : ∃ cc, cc = q1 % 60 := ⟨_, rfl⟩
  have m0 : q0.tmod 200 = aa := by rw [haa]; exact Int.tmod_eq_emod_of_nonneg hq0
  have m1 : q1.tmod 60 = cc := by rw [hcc]; exact Int.tmod_eq_emod_of_nonneg hq1
  have y0 : IntKind.u16.wrap aa = aa := IntWalk.u16_in _ ⟨by omega, by omega⟩
  have y1 : IntKind.u16.wrap cc = cc := IntWalk.u16_in _ ⟨by omega, by omega⟩
  have y2 : IntKind.i64.wrap aa = aa := wrap_i64_in (by omega) (by omega)
  have y3 : IntKind.i64.wrap cc = cc := wrap_i64_in (by omega) (by omega)
  have y4 : IntKind.i64.wrap (aa + 1) = aa + 1 := wrap_i64_in (by omega) (by omega)
  have y5 : IntKind.i64.wrap (cc + 1) = cc + 1 := wrap_i64_in (by omega) (by omega)
  have hlim : limitsF (aa + 1) (cc + 1) = true := by unfold limitsF; simp only [Bool.and_eq_true, decide_eq_true_eq]; omega
  have HLIM := Lib.hid hlim
  clear haa hcc hlim
  have hn30 : n ≤ 30 := by rw [HN.out]; exact hf.2
  have hG0 := tre_growAll (b := aa + 1) (n := cc + 1) HLIM.out HF.out
  have hga := good_all (good_first (b := aa + 1) (n := cc + 1) HLIM.out) l
  have hl40 := HF.out.2
  have KG : Hid (Calls Tryz.prog 11 #[.int .i64 (aa + 1), .int .i64 (cc + 1), .slice A m cap] w (GrowAllR w (aa + 1) (cc + 1) l)) := by show Calls _ _ _ _ _; rw [HM.out]; exact growAll_any (aa + 1) (cc + 1) A l cap w HLIM.out HF.out hA
  clear hf KF KA
  go_wp2_with fail
  clear m0 m1 y0 y1 y2 y3 y4 y5 cq0 cq1 zq
  refine KG.out.mono ?_
  rintro e w3 ⟨g, f, rfl, ⟨K3, F3⟩, E3⟩
  obtain ⟨B, hB⟩ : ∃ B, B = w.heap.size := ⟨_, rfl⟩
  rw [← hB] at K3 F3
  obtain ⟨S, hS⟩ : ∃ S, S = growAll (firstT (aa + 1) (cc + 1)) l := ⟨_, rfl⟩
  rw [← hS] at K3 F3
  have hSl : S.last ≤ 41 := by
    have h2 := hga.2
    rw [hS]
    rw [show growAll (rootT emptyT 0 (aa + 1) (cc + 1)) l = growAll (firstT (aa + 1) (cc + 1)) l from rfl, show (rootT emptyT 0 (aa + 1) (cc + 1)).last = 1 from rfl] at h2
    omega
  have hT0 : Tre 40 S := by rw [hS]; exact hG0
  have HB := Lib.hid hB
  have HE3 := Lib.hid E3
  have HT0 := Lib.hid hT0
  have HK3 := Lib.hid K3
  have HF3 := Lib.hid F3
  clear hS hga hG0 hl40 KG hB hT0 hlen hlen'
  go_wp2_with fail
  go_loopw [10] (fun i wr => ∃ (k : Nat) (T : TreeD) (X : Xtra), i = .int .i64 k ∧ k ≤ n ∧ Tre (40 + k) T ∧ T.last ≤ S.last + k ∧ Mix w3 B g f T T X wr) (fun i _ => n - (intOf i).toNat)
  case atStart => exact ⟨0, S, _, rfl, Nat.zero_le _, HT0.out, by omega, Mix.start K3 F3⟩
  case round =>
    obtain ⟨k, T, X, rfl, hk, hT, hTl, hM⟩ := hrel
    have HT := Lib.hid hT
    have HM1 := Lib.hid hM
    have HTL := Lib.hid hTl
    have hsF := hM.lt.2
    have hnow := hM.now
    have hfr : wr.frozen? ⟨f.bF, 3, none⟩ = false := by
      obtain ⟨g1, f1, h1, h2, h3, ⟨_, cn, ce, kF, _⟩, h5⟩ := hM
      rw [← h2.1]; exact kF.free 3
    clear hT hM hTl
    by_cases hlt : (k : Int) < n
    · have hkl : k < acts.length := by have := HN.out; omega
      have y5 : IntKind.i64.wrap (5 * (k : Int)) = 5 * (k : Int) := wrap_i64_in (by omega) (by omega)
      have y0 : (0 : Int) ≤ (k : Int) := Int.natCast_nonneg _
      go_upto_region 10 with fail
      obtain ⟨W1, hW1⟩ : ∃ W1, W1 = wr.setCell ⟨f.bF, 3, none⟩ (.int .i64 (5 * (k : Int))) := ⟨_, rfl⟩
      rw [← hW1]
      have M1 : Mix w3 B g f T T { X with now := 5 * (k : Int) } W1 := by rw [hW1]; exact HM1.out.setNow _
      have X1 : Ext w W1 := M1.after HE3.out (by rw [HB.out]; exact Nat.le_refl _) HK3.out HF3.out
      obtain ⟨bI, o, rfl, hbw, i0, i1, i2, i3, i4, i5, i6, i7, i8, i9⟩ := hA2.at_ X1 k hkl
      have hsh := HFA.out.1 _ (List.getElem_mem hkl)
      obtain ⟨x, hx⟩ : ∃ x, x = acts[k] := ⟨_, rfl⟩
      rw [← hx] at i0 i1 i2 i3 i4 i5 i6 i7 i8 i9 hsh
      have HSH := Lib.hid hsh
      have HM2 := Lib.hid M1
      clear hx hsh hW1 hnow hfr hsF y5 M1
      go_wp2_with fail
      obtain ⟨g1, f1, h1, h2, h3, h4, h5⟩ := id HM2.out
      have hbb : B ≤ W1.heap.size := by have := (h3.apart _ (by simp : g1.bW ∈ g1.list)).1; have := h3.lt.1; omega
      have KD := do17_any B g1 f1 T { X with now := 5 * (k : Int) } x W1 ⟨h3, h4⟩ HT.out (by omega) (by have := HTL.out; omega) HSH.out
      rw [h1.1, h2.1] at KD
      refine KD.mono ?_
      rintro e w5 ⟨rfl, M5⟩
      obtain ⟨T5, hT5⟩ : ∃ T5, T5 = do17T T (5 * (k : Int)) x := ⟨_, rfl⟩
      rw [← hT5] at M5
      have hall := tre_do17 HT.out (5 * (k : Int)) x HSH.out
      rw [← hT5] at hall
      have hT5' : Tre (40 + (k + 1)) T5 := hall.1
      have hT5l : T5.last ≤ S.last + (k + 1 : Nat) := by have := hall.2; have := HTL.out; omega
      clear hall
      have M6 : Mix w3 B g f T5 T5 { X with now := 5 * (k : Int) } w5 := by
        obtain ⟨g2, f2, a1, a2, a3, a4, a5⟩ := M5
        refine ⟨g2, f2, GhW.on_trans h1 a1 h5.size, GhF.on_trans h2 a2 h5.size, a3, a4, h5.trans a5 (fun b hb => ?_)⟩
        rcases List.mem_append.1 hb with hb | hb
        · rcases h1.2 b hb with e | e
          · exact .inl (List.mem_append_left _ e)
          · exact .inr e
        · rcases h2.2 b hb with e | e
          · exact .inl (List.mem_append_right _ e)
          · exact .inr e
      have HM6 := Lib.hid M6
      have HT5 := Lib.hid hT5'
      have HT5L := Lib.hid hT5l
      clear M6 hT5' hT5 hT5l M5 KD h1 h2 h3 h4 h5 i0 i1 i2 i3 i4 i5 i6 i7 i8 i9 hbb
      go_wp2_with fail
      obtain ⟨g2, f2, a1, a2, a3, a4, a5⟩ := id HM6.out
      have KA := alike_any B g2 f2 T5 _ w5 a3 a4 (HT5.out.fit (by omega) (by have := HT5L.out; omega))
      rw [a1.1, a2.1] at KA
      refine KA.mono ?_
      rintro e w6 ⟨rfl, b6⟩
      have M7 := Lib.hid (HM6.out.ext b6)
      clear KA a1 a2 a3 a4 a5 b6
      go_wp2_with fail
      go_roundw
      case rel => exact ⟨k + 1, T5, _, by go_num, by omega, HT5.out, HT5L.out, M7.out⟩
      case measure => simp [intOf]; omega
    · have X1 : Ext w wr := HM1.out.after HE3.out (by rw [HB.out]; exact Nat.le_refl _) HK3.out HF3.out
      clear hnow hfr hsF
      go_wp2_with fail
      refine (awake17 _).mono ?_
      rintro e w4 ⟨rfl, b4⟩
      go_wp2_with fail
      go_ret
      exact Ret.mk rfl ((HE00.out.trans X1).trans b4)
set_option maxRecDepth 100000 in
theorem bringPlays_walk {H : Type} {enc : TypeId × Value → H} (W : World) (base : Nat) (v0 v1 v2 : Value) (d0 d1 d2 : DataW H) (p0 p1 p2 : List MemPlace)
    (k0 : Value.okWide Tryz.prog W .any base 23 v0) (h0 : DataW.Trod enc Tryz.prog W 0 (fun _ => true) true 23 v0 d0 p0)
    (k1 : Value.okWide Tryz.prog W .any base 24 v1) (h1 : DataW.Trod enc Tryz.prog W 0 (fun _ => true) true 24 v1 d1 p1)
    (k2 : Value.okWide Tryz.prog W .any base 25 v2) (h2 : DataW.Trod enc Tryz.prog W 0 (fun _ => true) true 25 v2 d2 p2)
    : Calls Tryz.prog 3 #[v0, v1, v2] W (Ret W (.bool true)) := by
  obtain ⟨a, b, rfl, ha, ha', hb, hb'⟩ := open_Q k0 h0
  obtain ⟨A, l, cap, rfl, hA, _, hl, hc⟩ := open_Items k1 h1
  obtain ⟨A2, l2, cap2, rfl, hA2, _, hl2, hc2⟩ := open_Acts k2 h2
  exact bringPlays_any a b A l cap A2 l2 cap2 W hA (by unfold maxLen at hc; omega) hA2 (by unfold maxLen at hc2; omega) ha ha' hb hb'
end Go.Proofs.YtebghednhjaniaaGreat
