/- Law 18's do: a call of both. (Printed by gen_plays.py.) | The law DropPlays, walked. (Printed by gen_ply.py.) -/
import Derived.Test.YtebghednhjaniaaGreatBunR
import Derived.Test.YtebghednhjaniaaGreatBunG
import Derived.Test.YtebghednhjaniaaGreatBunD
import Derived.Test.YtebghednhjaniaaGreatBunL
import Derived.Test.YtebghednhjaniaaGreatBunM
namespace Go.Proofs.YtebghednhjaniaaGreat
open Go.ChangeShapes Go.WideShapes Go.ChangeAt Go.RowKit

attribute [local irreducible] wpLexE wpQuiet
attribute [local go_sem] changeUpon
def do18T (S : TreeD) (now : Int) (x : ActD) : TreeD :=
  if x.kind = 0 then unlinkT S x.uid x.gid now (nearF S.last x.dir) x.name
  else if x.kind = 1 then rmdirT S x.uid x.gid now (nearF S.last x.dir) x.name
  else if x.kind = 2 then hardT S x.uid x.gid now (nearF S.last x.no) (nearF S.last x.dir) x.name
  else S
set_option maxRecDepth 100000 in
set_option maxHeartbeats 8000000 in
theorem do18_any {c : Nat} (B : Nat) (g : GhW) (f : GhF) (S : TreeD) (X : Xtra) (x : ActD) (w : World) (h : Two w B g f S X) (HTr : Tre c S) (hcc : c ≤ 100000) (hl : S.last ≤ 1000) (hx : shortA x) (hNE : NoEnts S) :
    Calls Tryz.prog 15 #[.pointer (some ⟨g.bW, 0, none⟩), .pointer (some ⟨f.bF, 0, none⟩), .agg #[.int .i64 x.kind, .int .i64 x.uid, .int .i64 x.gid, .int .i64 x.dir, .int .i64 x.no, .int .i64 x.n, .string (bs x.name), .string (bs x.text), .int .i64 x.to_, .string (bs x.as_)]] w (DoR w B g f (do18T S X.now x) X) := by
  obtain ⟨W1, hW1⟩ : ∃ W1, W1 = w.alloc (.cells #[.int .i64 x.kind, .int .i64 x.uid, .int .i64 x.gid, .int .i64 x.dir, .int .i64 x.no, .int .i64 x.n, .string (bs x.name), .string (bs x.text), .int .i64 x.to_, .string (bs x.as_)] 42) := ⟨_, rfl⟩
  have E1 : Ext w W1 := by rw [hW1]; exact (Ext.refl _).alloc _
  have B1 : Has W1 w.heap.size (.cells #[.int .i64 x.kind, .int .i64 x.uid, .int .i64 x.gid, .int .i64 x.dir, .int .i64 x.no, .int .i64 x.n, .string (bs x.name), .string (bs x.text), .int .i64 x.to_, .string (bs x.as_)] 42) := by rw [hW1]; exact Has.new _ _
  obtain ⟨b1, hb1⟩ : ∃ b, b = w.heap.size := ⟨_, rfl⟩
  have hlW := h.1.lt
  have hlF := h.2.lt
  have hnb : b1 ∉ g.list ++ f.list := by
    intro hb
    simp only [List.mem_append, GhW.list, GhF.list, List.mem_cons, List.not_mem_nil, or_false] at hb
    omega
  have M1 : Mix W1 B g f S S X W1 := Mix.start (h.1.ext E1) (h.2.ext E1)
  have hl1 := HTr.last
  have HTT := Lib.hid HTr
  have HOK := Lib.hid (HTr.ok hcc)
  have HXX := Lib.hid hx
  have hnm1 := hx.1
  have hnm2 := hx.2.1
  have htx := hx.2.2
  have hD := Lib.hid (rfl : do18T S X.now x = do18T S X.now x)
  have F1 := Lib.hid (h.2.ext E1)
  obtain ⟨p, hp⟩ : ∃ p, p = nearF S.last x.dir := ⟨_, rfl⟩
  obtain ⟨q, hq⟩ : ∃ q, q = nearF S.last x.no := ⟨_, rfl⟩
  have KN : Hid (∀ u : Gr W1, Calls Tryz.prog 16 #[.pointer (some ⟨f.bF, 0, none⟩), .int .i64 x.dir] u.w (Ret u.w (.int .i64 p))) := by
    show ∀ u : Gr W1, _
    intro u
    rw [hp]
    exact near_any B f S X x.dir _ (F1.out.ext u.h) (by omega) (by omega)
  have KM : Hid (∀ u : Gr W1, Calls Tryz.prog 16 #[.pointer (some ⟨f.bF, 0, none⟩), .int .i64 x.no] u.w (Ret u.w (.int .i64 q))) := by
    show ∀ u : Gr W1, _
    intro u
    rw [hq]
    exact near_any B f S X x.no _ (F1.out.ext u.h) (by omega) (by omega)
  have yk : ∀ u : Gr W1, u.w.cell? ⟨w.heap.size, 3, none⟩ = some (.int .i64 x.dir) := Gr.cell B1.lt (B1.cell 3)
  have ym : ∀ u : Gr W1, u.w.cell? ⟨w.heap.size, 4, none⟩ = some (.int .i64 x.no) := Gr.cell B1.lt (B1.cell 4)
  have HP := Lib.hid hp
  have HQ := Lib.hid hq
  have hsz := B1.lt
  rw [← hb1] at B1
  clear HTr hx hp hq
  go_enter Tryz.func15, Tryz.ntmps15
  go_upto_region 1 with fail
  rw [← hW1]
  clear hW1
  refine wp_region_grow W1 (by kernel_rfl) (by kernel_rfl) (Ext.refl _).drew ?_
  repeat (quiet_step (first
    | ((with_reducible refine (KN.out _).mono ?_); rintro e w'' ⟨rfl, hEx⟩; exact ⟨rfl, ⟨w'', Ext.trans (Gr.h _) hEx⟩, rfl⟩)
    | ((with_reducible refine (KM.out _).mono ?_); rintro e w'' ⟨rfl, hEx⟩; exact ⟨rfl, ⟨w'', Ext.trans (Gr.h _) hEx⟩, rfl⟩)))
  refine wpQuiet_nil ?_
  rintro w2 ⟨⟨wy, b2⟩, h2⟩
  dsimp only at h2
  subst h2
  clear yk ym KN KM
  have M2 := M1.ext b2
  have B2 := B1.ext b2
  have HB1 := Lib.hid B1
  have HB2 := Lib.hid B2
  have HE1 := Lib.hid E1
  have c2 : w2.cell? ⟨b1, 0, none⟩ = some (.int .i64 x.kind) := B2.cell 0
  have z2 := B2.lt
  have HNB := Lib.hid hnb
  clear B1 E1 hsz B2
  rw [← hb1]
  clear hb1
  by_cases c0 : x.kind = 0
  · have t0 : (x.kind == 0) = true := by simpa using c0
    have HK0 := Lib.hid c0
    clear c0
    obtain ⟨T, hT2⟩ : ∃ T, T = unlinkT S x.uid x.gid X.now p x.name := ⟨_, rfl⟩
    obtain ⟨e0, he0⟩ : ∃ e0, e0 = unlinkE S x.uid x.gid p x.name := ⟨_, rfl⟩
    have HT2 := Lib.hid hT2
    have HE0 := Lib.hid he0
    clear hT2 he0
    go_upto_region 4 with fail
    obtain ⟨Ph, hPh⟩ : ∃ Ph, Ph = ph2 (Mix W1 B g f S S X) (Mix W1 B g f T S X) (Mix W1 B g f T T X) := ⟨_, rfl⟩
    have HV : Hid (Ph 0 w2.drew) := by show Ph 0 _; rw [hPh]; exact M2.ext (Ext.refl _).drew
    have hne : Nonempty (Hp Ph) := ⟨⟨0, _, HV.out⟩⟩
    have ux : ∀ u : Hp Ph, Has u.w b1 (.cells #[.int .i64 x.kind, .int .i64 x.uid, .int .i64 x.gid, .int .i64 x.dir, .int .i64 x.no, .int .i64 x.n, .string (bs x.name), .string (bs x.text), .int .i64 x.to_, .string (bs x.as_)] 42) := by
      rw [hPh]
      have hk : ∀ (T S : TreeD) (w' : World), Mix W1 B g f T S X w' → Has w' b1 (.cells #[.int .i64 x.kind, .int .i64 x.uid, .int .i64 x.gid, .int .i64 x.dir, .int .i64 x.no, .int .i64 x.n, .string (bs x.name), .string (bs x.text), .int .i64 x.to_, .string (bs x.as_)] 42) := fun T S w' h' => h'.has HB1.out HNB.out
      exact ph2_all (T := fun w' => Has w' b1 (.cells #[.int .i64 x.kind, .int .i64 x.uid, .int .i64 x.gid, .int .i64 x.dir, .int .i64 x.no, .int .i64 x.n, .string (bs x.name), .string (bs x.text), .int .i64 x.to_, .string (bs x.as_)] 42)) (hk _ _) (hk _ _) (hk _ _)
    have KQ : Hid (∀ w', Ph 2 w' → Mix W1 B g f T T X w') := by show ∀ w', _; intro w' hw; rw [hPh] at hw; exact hw
    have un : ∀ u : Hp Ph, u.w.cell? ⟨f.bF, 3, none⟩ = some (.int .i64 X.now) := by
      rw [hPh]
      exact ph2_all (T := fun w' => w'.cell? ⟨f.bF, 3, none⟩ = some (.int .i64 X.now)) (fun _ h' => Mix.now h') (fun _ h' => Mix.now h') (fun _ h' => Mix.now h')
    have P0 : Ph 0 = Mix W1 B g f S S X := by rw [hPh]; rfl
    have P1 : Ph 1 = Mix W1 B g f T S X := by rw [hPh]; rfl
    have P2 : Ph 2 = Mix W1 B g f T T X := by rw [hPh]; rfl
    have u1 : ∀ u : Hp Ph, u.w.cell? ⟨b1, 1, none⟩ = some (.int .i64 x.uid) := fun u => (ux u).cell 1
    have u2 : ∀ u : Hp Ph, u.w.cell? ⟨b1, 2, none⟩ = some (.int .i64 x.gid) := fun u => (ux u).cell 2
    have u6 : ∀ u : Hp Ph, u.w.cell? ⟨b1, 6, none⟩ = some (.string (bs x.name)) := fun u => (ux u).cell 6
    have KC0 : Hid (∀ u : Wc (Ph 0), Calls Tryz.prog 19 #[.pointer (some ⟨g.bW, 0, none⟩), .agg #[.int .i64 x.uid, .int .i64 x.gid], .int .i64 X.now, .int .i64 p, .string (bs x.name)] u.w (fun e w' => e = .returned (.int .i64 e0) ∧ Ph 1 w')) := by
      show ∀ u : Wc (Ph 0), _
      rintro ⟨u, hu⟩
      dsimp only
      rw [P0] at hu
      rw [P1]
      refine Mix.callW (T := S) hu fun g1 hg hK => ?_
      rw [HT2.out, HE0.out, ← hg]
      exact (punlink_any B g1 S x.uid x.gid X.now p x.name _ hK HOK.out).mono fun _ _ hh => hh.to
    have KC1 : Hid (∀ u : Wc (Ph 1), Calls Tryz.prog 46 #[.pointer (some ⟨f.bF, 0, none⟩), .agg #[.int .i64 x.uid, .int .i64 x.gid], .int .i64 p, .string (bs x.name), .bool false] u.w (fun e w' => e = .returned (.int .i64 e0) ∧ Ph 2 w')) := by
      show ∀ u : Wc (Ph 1), _
      rintro ⟨u, hu⟩
      dsimp only
      rw [P1] at hu
      rw [P2]
      refine Mix.callF (S := S) (X := X) hu fun g1 hg hK => ?_
      rw [HT2.out, HE0.out, ← hg]
      exact (rgone_unlink B g1 S X x.uid x.gid p x.name _ hK HOK.out (by omega) (by omega) hNE).mono fun _ _ hh => hh
    clear hPh P0 P1 P2 ux M2 z2
    refine wp_region_phase Ph [10, 17] (by kernel_rfl) (by kernel_rfl) (by kernel_rfl) HV.out ?_
    repeat (first
      | (refine wpLexE_plain (by kernel_rfl) (fun K hK => ?_)
         go_simp
         refine hK _ ?_
         clear hK K)
      | (refine wpLexE_change 0 (by kernel_rfl) rfl (fun K hK => ?_)
         go_simp
         apply Exists.intro
         refine ⟨KC0.out, hK _ ?_⟩
         clear hK K)
      | (refine wpLexE_change 1 (by kernel_rfl) rfl (fun K hK => ?_)
         go_simp
         apply Exists.intro
         refine ⟨KC1.out, hK _ ?_⟩
         clear hK K))
    refine wpLexE_nil ?_
    intro w5 hw5
    have M5 := KQ.out _ hw5
    clear u1 u2 u6 un KC0 KC1 HV hw5
    go_wp2_with fail
    go_ret
    exact ⟨rfl, by
      (unfold do18T; rw [if_pos HK0.out]; try rw [← HP.out]); (try rw [← HQ.out])
      rw [← HT2.out]; exact M5.base HE1.out⟩
  have t0 : (x.kind == 0) = false := by simpa using c0
  have HK0 := Lib.hid c0
  clear c0
  by_cases c1 : x.kind = 1
  · have t1 : (x.kind == 1) = true := by simpa using c1
    have HK1 := Lib.hid c1
    clear c1
    obtain ⟨T, hT2⟩ : ∃ T, T = rmdirT S x.uid x.gid X.now p x.name := ⟨_, rfl⟩
    obtain ⟨e0, he0⟩ : ∃ e0, e0 = rmdirE S x.uid x.gid p x.name := ⟨_, rfl⟩
    have HT2 := Lib.hid hT2
    have HE0 := Lib.hid he0
    clear hT2 he0
    go_upto_region 6 with fail
    obtain ⟨Ph, hPh⟩ : ∃ Ph, Ph = ph2 (Mix W1 B g f S S X) (Mix W1 B g f T S X) (Mix W1 B g f T T X) := ⟨_, rfl⟩
    have HV : Hid (Ph 0 w2.drew) := by show Ph 0 _; rw [hPh]; exact M2.ext (Ext.refl _).drew
    have hne : Nonempty (Hp Ph) := ⟨⟨0, _, HV.out⟩⟩
    have ux : ∀ u : Hp Ph, Has u.w b1 (.cells #[.int .i64 x.kind, .int .i64 x.uid, .int .i64 x.gid, .int .i64 x.dir, .int .i64 x.no, .int .i64 x.n, .string (bs x.name), .string (bs x.text), .int .i64 x.to_, .string (bs x.as_)] 42) := by
      rw [hPh]
      have hk : ∀ (T S : TreeD) (w' : World), Mix W1 B g f T S X w' → Has w' b1 (.cells #[.int .i64 x.kind, .int .i64 x.uid, .int .i64 x.gid, .int .i64 x.dir, .int .i64 x.no, .int .i64 x.n, .string (bs x.name), .string (bs x.text), .int .i64 x.to_, .string (bs x.as_)] 42) := fun T S w' h' => h'.has HB1.out HNB.out
      exact ph2_all (T := fun w' => Has w' b1 (.cells #[.int .i64 x.kind, .int .i64 x.uid, .int .i64 x.gid, .int .i64 x.dir, .int .i64 x.no, .int .i64 x.n, .string (bs x.name), .string (bs x.text), .int .i64 x.to_, .string (bs x.as_)] 42)) (hk _ _) (hk _ _) (hk _ _)
    have KQ : Hid (∀ w', Ph 2 w' → Mix W1 B g f T T X w') := by show ∀ w', _; intro w' hw; rw [hPh] at hw; exact hw
    have un : ∀ u : Hp Ph, u.w.cell? ⟨f.bF, 3, none⟩ = some (.int .i64 X.now) := by
      rw [hPh]
      exact ph2_all (T := fun w' => w'.cell? ⟨f.bF, 3, none⟩ = some (.int .i64 X.now)) (fun _ h' => Mix.now h') (fun _ h' => Mix.now h') (fun _ h' => Mix.now h')
    have P0 : Ph 0 = Mix W1 B g f S S X := by rw [hPh]; rfl
    have P1 : Ph 1 = Mix W1 B g f T S X := by rw [hPh]; rfl
    have P2 : Ph 2 = Mix W1 B g f T T X := by rw [hPh]; rfl
    have u1 : ∀ u : Hp Ph, u.w.cell? ⟨b1, 1, none⟩ = some (.int .i64 x.uid) := fun u => (ux u).cell 1
    have u2 : ∀ u : Hp Ph, u.w.cell? ⟨b1, 2, none⟩ = some (.int .i64 x.gid) := fun u => (ux u).cell 2
    have u6 : ∀ u : Hp Ph, u.w.cell? ⟨b1, 6, none⟩ = some (.string (bs x.name)) := fun u => (ux u).cell 6
    have KC0 : Hid (∀ u : Wc (Ph 0), Calls Tryz.prog 20 #[.pointer (some ⟨g.bW, 0, none⟩), .agg #[.int .i64 x.uid, .int .i64 x.gid], .int .i64 X.now, .int .i64 p, .string (bs x.name)] u.w (fun e w' => e = .returned (.int .i64 e0) ∧ Ph 1 w')) := by
      show ∀ u : Wc (Ph 0), _
      rintro ⟨u, hu⟩
      dsimp only
      rw [P0] at hu
      rw [P1]
      refine Mix.callW (T := S) hu fun g1 hg hK => ?_
      rw [HT2.out, HE0.out, ← hg]
      exact (prmdir_any B g1 S x.uid x.gid X.now p x.name _ hK HOK.out).mono fun _ _ hh => hh.to
    have KC1 : Hid (∀ u : Wc (Ph 1), Calls Tryz.prog 46 #[.pointer (some ⟨f.bF, 0, none⟩), .agg #[.int .i64 x.uid, .int .i64 x.gid], .int .i64 p, .string (bs x.name), .bool true] u.w (fun e w' => e = .returned (.int .i64 e0) ∧ Ph 2 w')) := by
      show ∀ u : Wc (Ph 1), _
      rintro ⟨u, hu⟩
      dsimp only
      rw [P1] at hu
      rw [P2]
      refine Mix.callF (S := S) (X := X) hu fun g1 hg hK => ?_
      rw [HT2.out, HE0.out, ← hg]
      exact (rgone_rmdir B g1 S X x.uid x.gid p x.name _ hK HOK.out (by omega) (by omega)).mono fun _ _ hh => hh
    clear hPh P0 P1 P2 ux M2 z2
    refine wp_region_phase Ph [10, 17] (by kernel_rfl) (by kernel_rfl) (by kernel_rfl) HV.out ?_
    repeat (first
      | (refine wpLexE_plain (by kernel_rfl) (fun K hK => ?_)
         go_simp
         refine hK _ ?_
         clear hK K)
      | (refine wpLexE_change 0 (by kernel_rfl) rfl (fun K hK => ?_)
         go_simp
         apply Exists.intro
         refine ⟨KC0.out, hK _ ?_⟩
         clear hK K)
      | (refine wpLexE_change 1 (by kernel_rfl) rfl (fun K hK => ?_)
         go_simp
         apply Exists.intro
         refine ⟨KC1.out, hK _ ?_⟩
         clear hK K))
    refine wpLexE_nil ?_
    intro w5 hw5
    have M5 := KQ.out _ hw5
    clear u1 u2 u6 un KC0 KC1 HV hw5
    go_wp2_with fail
    go_ret
    exact ⟨rfl, by
      (unfold do18T; rw [if_neg HK0.out, if_pos HK1.out]; try rw [← HP.out]); (try rw [← HQ.out])
      rw [← HT2.out]; exact M5.base HE1.out⟩
  have t1 : (x.kind == 1) = false := by simpa using c1
  have HK1 := Lib.hid c1
  clear c1
  by_cases c2 : x.kind = 2
  · have t2 : (x.kind == 2) = true := by simpa using c2
    have HK2 := Lib.hid c2
    clear c2
    obtain ⟨T, hT2⟩ : ∃ T, T = hardT S x.uid x.gid X.now q p x.name := ⟨_, rfl⟩
    obtain ⟨e0, he0⟩ : ∃ e0, e0 = hardE S x.uid x.gid q p x.name := ⟨_, rfl⟩
    have HT2 := Lib.hid hT2
    have HE0 := Lib.hid he0
    clear hT2 he0
    go_upto_region 8 with fail
    obtain ⟨Ph, hPh⟩ : ∃ Ph, Ph = ph2 (Mix W1 B g f S S X) (Mix W1 B g f T S X) (Mix W1 B g f T T X) := ⟨_, rfl⟩
    have HV : Hid (Ph 0 w2.drew) := by show Ph 0 _; rw [hPh]; exact M2.ext (Ext.refl _).drew
    have hne : Nonempty (Hp Ph) := ⟨⟨0, _, HV.out⟩⟩
    have ux : ∀ u : Hp Ph, Has u.w b1 (.cells #[.int .i64 x.kind, .int .i64 x.uid, .int .i64 x.gid, .int .i64 x.dir, .int .i64 x.no, .int .i64 x.n, .string (bs x.name), .string (bs x.text), .int .i64 x.to_, .string (bs x.as_)] 42) := by
      rw [hPh]
      have hk : ∀ (T S : TreeD) (w' : World), Mix W1 B g f T S X w' → Has w' b1 (.cells #[.int .i64 x.kind, .int .i64 x.uid, .int .i64 x.gid, .int .i64 x.dir, .int .i64 x.no, .int .i64 x.n, .string (bs x.name), .string (bs x.text), .int .i64 x.to_, .string (bs x.as_)] 42) := fun T S w' h' => h'.has HB1.out HNB.out
      exact ph2_all (T := fun w' => Has w' b1 (.cells #[.int .i64 x.kind, .int .i64 x.uid, .int .i64 x.gid, .int .i64 x.dir, .int .i64 x.no, .int .i64 x.n, .string (bs x.name), .string (bs x.text), .int .i64 x.to_, .string (bs x.as_)] 42)) (hk _ _) (hk _ _) (hk _ _)
    have KQ : Hid (∀ w', Ph 2 w' → Mix W1 B g f T T X w') := by show ∀ w', _; intro w' hw; rw [hPh] at hw; exact hw
    have un : ∀ u : Hp Ph, u.w.cell? ⟨f.bF, 3, none⟩ = some (.int .i64 X.now) := by
      rw [hPh]
      exact ph2_all (T := fun w' => w'.cell? ⟨f.bF, 3, none⟩ = some (.int .i64 X.now)) (fun _ h' => Mix.now h') (fun _ h' => Mix.now h') (fun _ h' => Mix.now h')
    have P0 : Ph 0 = Mix W1 B g f S S X := by rw [hPh]; rfl
    have P1 : Ph 1 = Mix W1 B g f T S X := by rw [hPh]; rfl
    have P2 : Ph 2 = Mix W1 B g f T T X := by rw [hPh]; rfl
    have u1 : ∀ u : Hp Ph, u.w.cell? ⟨b1, 1, none⟩ = some (.int .i64 x.uid) := fun u => (ux u).cell 1
    have u2 : ∀ u : Hp Ph, u.w.cell? ⟨b1, 2, none⟩ = some (.int .i64 x.gid) := fun u => (ux u).cell 2
    have u6 : ∀ u : Hp Ph, u.w.cell? ⟨b1, 6, none⟩ = some (.string (bs x.name)) := fun u => (ux u).cell 6
    have KC0 : Hid (∀ u : Wc (Ph 0), Calls Tryz.prog 32 #[.pointer (some ⟨g.bW, 0, none⟩), .agg #[.int .i64 x.uid, .int .i64 x.gid], .int .i64 X.now, .int .i64 q, .int .i64 p, .string (bs x.name)] u.w (fun e w' => e = .returned (.int .i64 e0) ∧ Ph 1 w')) := by
      show ∀ u : Wc (Ph 0), _
      rintro ⟨u, hu⟩
      dsimp only
      rw [P0] at hu
      rw [P1]
      refine Mix.callW (T := S) hu fun g1 hg hK => ?_
      rw [HT2.out, HE0.out, ← hg]
      exact (phard_any B g1 S x.uid x.gid X.now q p x.name _ hK HOK.out).mono fun _ _ hh => hh.to
    have KC1 : Hid (∀ u : Wc (Ph 1), Calls Tryz.prog 40 #[.pointer (some ⟨f.bF, 0, none⟩), .agg #[.int .i64 x.uid, .int .i64 x.gid], .int .i64 q, .int .i64 p, .string (bs x.name)] u.w (fun e w' => e = .returned (.int .i64 e0) ∧ Ph 2 w')) := by
      show ∀ u : Wc (Ph 1), _
      rintro ⟨u, hu⟩
      dsimp only
      rw [P1] at hu
      rw [P2]
      refine Mix.callF (S := S) (X := X) hu fun g1 hg hK => ?_
      rw [HT2.out, HE0.out, ← hg]
      exact (rhard_any B g1 S X x.uid x.gid q p x.name _ hK HOK.out (by omega) (by omega)).mono fun _ _ hh => hh
    clear hPh P0 P1 P2 ux M2 z2
    refine wp_region_phase Ph [11, 19] (by kernel_rfl) (by kernel_rfl) (by kernel_rfl) HV.out ?_
    repeat (first
      | (refine wpLexE_plain (by kernel_rfl) (fun K hK => ?_)
         go_simp
         refine hK _ ?_
         clear hK K)
      | (refine wpLexE_change 0 (by kernel_rfl) rfl (fun K hK => ?_)
         go_simp
         apply Exists.intro
         refine ⟨KC0.out, hK _ ?_⟩
         clear hK K)
      | (refine wpLexE_change 1 (by kernel_rfl) rfl (fun K hK => ?_)
         go_simp
         apply Exists.intro
         refine ⟨KC1.out, hK _ ?_⟩
         clear hK K))
    refine wpLexE_nil ?_
    intro w5 hw5
    have M5 := KQ.out _ hw5
    clear u1 u2 u6 un KC0 KC1 HV hw5
    go_wp2_with fail
    go_ret
    exact ⟨rfl, by
      (unfold do18T; rw [if_neg HK0.out, if_neg HK1.out, if_pos HK2.out]; try rw [← HP.out]); (try rw [← HQ.out])
      rw [← HT2.out]; exact M5.base HE1.out⟩
  have t2 : (x.kind == 2) = false := by simpa using c2
  have HK2 := Lib.hid c2
  clear c2
  obtain ⟨g1, f1, hg1, hf1, hK1, hF1, hO1⟩ := id M2
  have v1 : w2.cell? ⟨b1, 1, none⟩ = some (.int .i64 x.uid) := HB2.out.cell 1
  have v2 : w2.cell? ⟨b1, 2, none⟩ = some (.int .i64 x.gid) := HB2.out.cell 2
  have v6 : w2.cell? ⟨b1, 6, none⟩ = some (.string (bs x.name)) := HB2.out.cell 6
  have HM2 := Lib.hid M2
  have KP : Hid (Calls Tryz.prog 47 #[.pointer (some ⟨g.bW, 0, none⟩), .agg #[.int .i64 x.uid, .int .i64 x.gid], .int .i64 p, .string (bs x.name)] w2 (LeaveQ w2 B S x.uid x.gid p x.name)) := by
    show Calls _ _ _ _ _
    rw [← hg1.1]
    exact pleave_any B g1 S x.uid x.gid p x.name w2 hK1 HOK.out
  have KR : Hid (∀ w', Ext w2 w' → Calls Tryz.prog 48 #[.pointer (some ⟨f.bF, 0, none⟩), .agg #[.int .i64 x.uid, .int .i64 x.gid], .int .i64 p, .string (bs x.name)] w' (LeaveQ w' B S x.uid x.gid p x.name)) := by
    show ∀ w', _
    intro w' hw
    rw [← hf1.1]
    exact rleave_any B f1 S X x.uid x.gid p x.name w' (hF1.ext hw) HOK.out (by omega) (by omega)
  clear M2 hg1 hf1 hK1 hF1 hO1 g1 f1
  go_wp2_with fail
  refine KP.out.mono ?_
  rintro e w3 ⟨A3, k3, A4, k4, rfl, _, _, b3⟩
  obtain ⟨m, hm⟩ : ∃ m, m = leaveD S x.uid x.gid p x.name := ⟨_, rfl⟩
  obtain ⟨n, hn⟩ : ∃ n, n = leaveN S x.uid x.gid p x.name := ⟨_, rfl⟩
  obtain ⟨e0, he0⟩ : ∃ e0, e0 = leaveE S x.uid x.gid p x.name := ⟨_, rfl⟩
  rw [← hm, ← hn, ← he0]
  obtain ⟨w4, hw4⟩ : ∃ W, W = (w3.alloc (.cells #[.int .i64 m.no, .int .i64 m.dev, .int .i64 m.kind, .int .i64 m.mode, .int .i64 m.uid, .int .i64 m.gid, .int .i64 m.mtime, .int .i64 m.ctime, .int .i64 m.links, .int .i64 m.up, .string (bs m.data), .slice A3 m.ents.length k3] 49)).alloc (.cells #[.int .i64 n.no, .int .i64 n.dev, .int .i64 n.kind, .int .i64 n.mode, .int .i64 n.uid, .int .i64 n.gid, .int .i64 n.mtime, .int .i64 n.ctime, .int .i64 n.links, .int .i64 n.up, .string (bs n.data), .slice A4 n.ents.length k4] 49) := ⟨_, rfl⟩
  obtain ⟨b4, hb4⟩ : ∃ b, b = w3.heap.size := ⟨_, rfl⟩
  have D4 : Has w4 b4 (.cells #[.int .i64 m.no, .int .i64 m.dev, .int .i64 m.kind, .int .i64 m.mode, .int .i64 m.uid, .int .i64 m.gid, .int .i64 m.mtime, .int .i64 m.ctime, .int .i64 m.links, .int .i64 m.up, .string (bs m.data), .slice A3 m.ents.length k3] 49) := by rw [hw4, hb4]; exact (Has.new _ _).alloc _
  have N4 : Has w4 (b4 + 1) (.cells #[.int .i64 n.no, .int .i64 n.dev, .int .i64 n.kind, .int .i64 n.mode, .int .i64 n.uid, .int .i64 n.gid, .int .i64 n.mtime, .int .i64 n.ctime, .int .i64 n.links, .int .i64 n.up, .string (bs n.data), .slice A4 n.ents.length k4] 49) := by
    rw [hw4, hb4]
    have := Has.new (w3.alloc (.cells #[.int .i64 m.no, .int .i64 m.dev, .int .i64 m.kind, .int .i64 m.mode, .int .i64 m.uid, .int .i64 m.gid, .int .i64 m.mtime, .int .i64 m.ctime, .int .i64 m.links, .int .i64 m.up, .string (bs m.data), .slice A3 m.ents.length k3] 49)) (.cells #[.int .i64 n.no, .int .i64 n.dev, .int .i64 n.kind, .int .i64 n.mode, .int .i64 n.uid, .int .i64 n.gid, .int .i64 n.mtime, .int .i64 n.ctime, .int .i64 n.links, .int .i64 n.up, .string (bs n.data), .slice A4 n.ents.length k4] 49)
    rwa [World.size_alloc] at this
  have E24 : Ext w2 w4 := b3.trans (by rw [hw4]; exact ((Ext.refl _).alloc _).alloc _)
  have B4 := HB2.out.ext E24
  have HM := Lib.hid hm
  have HN := Lib.hid hn
  have HE0 := Lib.hid he0
  clear v1 v2 v6 z2 KP b3 hm hn he0
  go_upto_region 10 with fail
  rw [← hw4, ← hb4]
  clear hw4 hb4
  have v1 : w4.cell? ⟨b1, 1, none⟩ = some (.int .i64 x.uid) := B4.cell 1
  have v2 : w4.cell? ⟨b1, 2, none⟩ = some (.int .i64 x.gid) := B4.cell 2
  have v6 : w4.cell? ⟨b1, 6, none⟩ = some (.string (bs x.name)) := B4.cell 6
  have vz := B4.lt
  go_wp2_with fail
  refine (KR.out w4 E24).mono ?_
  rintro e w5 ⟨A5, k5, A6, k6, rfl, _, _, b5⟩
  rw [← HM.out, ← HN.out, ← HE0.out]
  obtain ⟨w6, hw6⟩ : ∃ W, W = (w5.alloc (.cells #[.int .i64 m.no, .int .i64 m.dev, .int .i64 m.kind, .int .i64 m.mode, .int .i64 m.uid, .int .i64 m.gid, .int .i64 m.mtime, .int .i64 m.ctime, .int .i64 m.links, .int .i64 m.up, .string (bs m.data), .slice A5 m.ents.length k5] 49)).alloc (.cells #[.int .i64 n.no, .int .i64 n.dev, .int .i64 n.kind, .int .i64 n.mode, .int .i64 n.uid, .int .i64 n.gid, .int .i64 n.mtime, .int .i64 n.ctime, .int .i64 n.links, .int .i64 n.up, .string (bs n.data), .slice A6 n.ents.length k6] 49) := ⟨_, rfl⟩
  obtain ⟨b6, hb6⟩ : ∃ b, b = w5.heap.size := ⟨_, rfl⟩
  have D6 : Has w6 b6 (.cells #[.int .i64 m.no, .int .i64 m.dev, .int .i64 m.kind, .int .i64 m.mode, .int .i64 m.uid, .int .i64 m.gid, .int .i64 m.mtime, .int .i64 m.ctime, .int .i64 m.links, .int .i64 m.up, .string (bs m.data), .slice A5 m.ents.length k5] 49) := by rw [hw6, hb6]; exact (Has.new _ _).alloc _
  have N6 : Has w6 (b6 + 1) (.cells #[.int .i64 n.no, .int .i64 n.dev, .int .i64 n.kind, .int .i64 n.mode, .int .i64 n.uid, .int .i64 n.gid, .int .i64 n.mtime, .int .i64 n.ctime, .int .i64 n.links, .int .i64 n.up, .string (bs n.data), .slice A6 n.ents.length k6] 49) := by
    rw [hw6, hb6]
    have := Has.new (w5.alloc (.cells #[.int .i64 m.no, .int .i64 m.dev, .int .i64 m.kind, .int .i64 m.mode, .int .i64 m.uid, .int .i64 m.gid, .int .i64 m.mtime, .int .i64 m.ctime, .int .i64 m.links, .int .i64 m.up, .string (bs m.data), .slice A5 m.ents.length k5] 49)) (.cells #[.int .i64 n.no, .int .i64 n.dev, .int .i64 n.kind, .int .i64 n.mode, .int .i64 n.uid, .int .i64 n.gid, .int .i64 n.mtime, .int .i64 n.ctime, .int .i64 n.links, .int .i64 n.up, .string (bs n.data), .slice A6 n.ents.length k6] 49)
    rwa [World.size_alloc] at this
  have E46 : Ext w4 w6 := b5.trans (by rw [hw6]; exact ((Ext.refl _).alloc _).alloc _)
  have D46 := D4.ext E46
  have N46 := N4.ext E46
  have HM6 := Lib.hid (HM2.out.ext (E24.trans E46))
  clear v1 v2 v6 vz b5 B4 D4 N4 KR
  go_upto_region 11 with fail
  rw [← hw6, ← hb6]
  clear hw6 hb6 E46
  have q1 : w6.cell? ⟨b4, 0, none⟩ = some (.int .i64 m.no) := D46.cell 0
  have q2 : w6.cell? ⟨b4 + 1, 0, none⟩ = some (.int .i64 n.no) := N46.cell 0
  have q3 : w6.cell? ⟨b6, 0, none⟩ = some (.int .i64 m.no) := D6.cell 0
  have q4 : w6.cell? ⟨b6 + 1, 0, none⟩ = some (.int .i64 n.no) := N6.cell 0
  have z1 := N46.lt
  have z2 := N6.lt
  have z3 := D46.lt
  have z4 := D6.lt
  go_wp2_with fail
  go_ret
  exact ⟨rfl, by
    (unfold do18T; rw [if_neg HK0.out, if_neg HK1.out, if_neg HK2.out]; try rw [← HP.out]); (try rw [← HQ.out])
    exact HM6.out.base HE1.out⟩
end Go.Proofs.YtebghednhjaniaaGreat

namespace Go.Proofs.YtebghednhjaniaaGreat
open Go.ChangeShapes Go.WideShapes Go.ChangeAt Go.RowKit

theorem noEnts_kill {S : TreeD} (h : NoEnts S) (no : Int) : NoEnts (killT S no) := by
  unfold killT
  split
  · exact fun m hm => h m (mem_drop hm).1
  · exact h
theorem noEnts_set {S : TreeD} (h : NoEnts S) {n : NodeD} (hn : n.kind ≠ 1 → n.ents = []) : NoEnts (setT S n) := fun m hm hk => by
  rcases mem_setT hm with ⟨hm, _⟩ | rfl
  · exact h m hm hk
  · exact hn hk
theorem noEnts_less {S : TreeD} (h : NoEnts S) (now : Int) {n : NodeD} (hn : n.kind ≠ 1 → n.ents = []) : NoEnts (lessT S now n) := by
  unfold lessT
  split
  · exact noEnts_kill (noEnts_set (n := lessN now n) h hn) _
  · exact noEnts_set (n := lessN now n) h hn
theorem noEnts_touch {S : TreeD} (h : NoEnts S) {dir now : Int} {l : List EntD} (hk : (getN S.nodes dir).kind = 1) : NoEnts (touchT S dir now l) := noEnts_set h fun hn => absurd hk hn
theorem noEnts_getN {S : TreeD} (h : NoEnts S) (no : Int) (hi : isN S.nodes no = true) : (getN S.nodes no).kind ≠ 1 → (getN S.nodes no).ents = [] := h _ (isN_true hi).2.2
theorem noEnts_gone {S : TreeD} (h : NoEnts S) {cu cg now dir : Int} {nm : List UInt8} (hl : leaveE S cu cg dir nm = 0) : NoEnts (goneT S now (leaveD S cu cg dir nm) (leaveN S cu cg dir nm) nm) := by
  obtain ⟨z1, z2, _, z4, z5⟩ := leaveE_zero hl
  obtain ⟨hi, hk, _⟩ := placeE_zero z1
  unfold goneT
  rw [z4, z5, (isN_true hi).2.1]
  exact noEnts_less (noEnts_touch h hk) now (noEnts_getN h _ z2)
theorem noEnts_hard {c : Nat} {S : TreeD} (_hT : Tre c S) (h : NoEnts S) (cu cg now no dir : Int) (nm : List UInt8) : NoEnts (hardT S cu cg now no dir nm) := by
  unfold hardT
  split
  · rename_i h0
    obtain ⟨z1, z2, z3, _⟩ := hardE_zero h0
    obtain ⟨hi, hk, _⟩ := placeE_zero z1
    have h1 : NoEnts (setT S (hardN S now no)) := noEnts_set h (noEnts_getN h no z2)
    refine noEnts_touch h1 ?_
    have hne : dir ≠ (hardN S now no).no := by
      intro e
      have e2 : (hardN S now no).no = no := (isN_true z2).2.1
      rw [e2] at e
      rw [e] at hk
      exact z3 hk
    rw [(setN_get hne).1]
    exact hk
  · exact h
theorem tre_do18 {c : Nat} {S : TreeD} (h : Tre c S) (hn : NoEnts S) (now : Int) (x : ActD) : Tre (c + 1) (do18T S now x) ∧ (do18T S now x).last ≤ S.last + 1 ∧ NoEnts (do18T S now x) := by
  have kl : ∀ (S : TreeD) (no : Int), (killT S no).last = S.last := fun S no => by unfold killT; split <;> rfl
  have ll : ∀ (S : TreeD) (now : Int) (n : NodeD), (lessT S now n).last = S.last := fun S now n => by
    unfold lessT
    split
    · rw [kl]; rfl
    · rfl
  have gl : ∀ (S : TreeD) (now : Int) (d n : NodeD) (nm : List UInt8), (goneT S now d n nm).last = S.last := fun S now d n nm => by unfold goneT; rw [ll]; rfl
  unfold do18T
  split
  · refine ⟨tre_mono (tre_unlink h ..) (by omega), ?_⟩
    unfold unlinkT
    split
    · rename_i h0
      refine ⟨by rw [gl]; omega, noEnts_gone hn ?_⟩
      unfold unlinkE at h0
      split at h0
      · rename_i h1; exact absurd h0 h1
      · rename_i h1; exact Decidable.not_not.1 h1
    · exact ⟨by omega, hn⟩
  · split
    · refine ⟨tre_mono (tre_rmdir h ..) (by omega), ?_⟩
      unfold rmdirT
      split
      · rename_i h0
        refine ⟨by rw [gl]; omega, noEnts_gone hn ?_⟩
        unfold rmdirE at h0
        split at h0
        · rename_i h1; exact absurd h0 h1
        · rename_i h1; exact Decidable.not_not.1 h1
      · exact ⟨by omega, hn⟩
    · split
      · refine ⟨tre_hard h .., ?_, noEnts_hard h hn _ _ _ _ _ _⟩
        unfold hardT
        split
        · show S.last ≤ _; omega
        · omega
      · exact ⟨tre_mono h (by omega), by omega, hn⟩
theorem noEnts_grow {c : Nat} {S : TreeD} (_h : Tre c S) (hl : NoEnts S) (it : ItemD) : NoEnts (growT S it) := by
  have happ : ∀ (S' : TreeD) (n : NodeD), S'.nodes = S.nodes ++ [n] → n.ents = [] → NoEnts S' := fun S' n e hn m hm hk => by
    rw [e] at hm
    rcases List.mem_append.1 hm with hm | hm
    · exact hl m hm hk
    · rw [List.mem_singleton] at hm; subst hm; exact hn
  unfold growT
  split
  · unfold mountT
    split
    · exact happ _ (rootNode S) rfl rfl
    · exact hl
  · split
    · rename_i hc
      split
      · rename_i h0
        have hkd : (getN S.nodes (atI S it)).kind = 1 := by
          unfold comesI at hc
          simp only [Bool.and_eq_true, decide_eq_true_eq] at hc
          exact hc.1.1.1.1
        refine noEnts_set ?_ (fun hk => absurd hkd hk)
        unfold makeT
        rw [if_pos h0]
        exact happ _ _ rfl rfl
      · exact hl
    · exact hl
theorem noEnts_all {c : Nat} {S : TreeD} (h : Tre c S) (hl : NoEnts S) (l : List ItemD) (hs : ∀ x ∈ l, shortI x) : NoEnts (growAll S l) := by
  unfold growAll
  induction l generalizing S c with
  | nil => exact hl
  | cons x l ih => rw [List.foldl_cons]; exact ih (tre_grow h x (hs x (List.mem_cons_self ..))) (noEnts_grow h hl x) fun y hy => hs y (List.mem_cons_of_mem _ hy)
theorem noEnts_first {b n : Int} (hb : limitsF b n = true) {l : List ItemD} (hf : FewI l) : NoEnts (growAll (rootT emptyT 0 b n) l) := by
  refine noEnts_all (tre_first hb) ?_ l hf.1
  intro m hm _
  have hm' : m ∈ [rootNode emptyT] := hm
  rw [List.mem_singleton] at hm'
  subst hm'
  rfl
set_option maxRecDepth 100000 in
set_option maxHeartbeats 8000000 in
theorem dropPlays_any (A : Option Addr) (l : List ItemD) (cap : Nat) (A2 : Option Addr) (acts : List ActD) (cap2 : Nat) (w : World) (hA : ItemsAt w A l) (hlen : l.length ≤ 9223372036854775807) (hA2 : ActsAt w A2 acts) (hlen2 : acts.length ≤ 9223372036854775807) :
    Calls Tryz.prog 4 #[.slice A l.length cap, .slice A2 acts.length cap2] w (Ret w (.bool true)) := by
  obtain ⟨m, hm⟩ : ∃ m, m = l.length := ⟨_, rfl⟩
  obtain ⟨n, hn⟩ : ∃ n, n = acts.length := ⟨_, rfl⟩
  have hlen' := hlen
  have hlen2' := hlen2
  rw [← hm] at hlen' ⊢
  rw [← hn] at hlen2' ⊢
  have HM := Lib.hid hm
  have HN := Lib.hid hn
  have KF : Hid (Calls Tryz.prog 8 #[.slice A m cap] w (FewR w l)) := by show Calls _ _ _ _ _; rw [HM.out]; exact few14_any A l cap w hA hlen
  have KA : Hid (Calls Tryz.prog 9 #[.slice A2 n cap2] w (FewAR w acts)) := by show Calls _ _ _ _ _; rw [HN.out]; exact fewA_any A2 acts cap2 w hA2 hlen2
  clear hm hn
  go_enter Tryz.func4, Tryz.ntmps4
  go_wp2_with fail
  refine KF.out.mono ?_
  rintro e w1 ⟨rfl, ⟨hf, rfl⟩ | ⟨hf, rfl⟩⟩
  case inr =>
    go_wp2_with fail
    refine (awake18 _).mono ?_
    rintro e w3 ⟨rfl, b3⟩
    go_wp2_with fail
    go_ret
    exact Ret.mk rfl b3
  have HF := Lib.hid hf
  clear hf
  go_wp2_with fail
  refine KA.out.mono ?_
  rintro e w1 ⟨rfl, ⟨hf, rfl⟩ | ⟨hf, rfl⟩⟩
  case inr =>
    go_wp2_with fail
    refine (awake18 _).mono ?_
    rintro e w3 ⟨rfl, b3⟩
    go_wp2_with fail
    go_ret
    exact Ret.mk rfl b3
  have HFA := Lib.hid hf
  have hn30 : n ≤ 30 := by rw [HN.out]; exact hf.2
  have hG0 := tre_growAll (b := 300) (n := 60) (by decide) HF.out
  have hga := good_all (good_first (b := 300) (n := 60) (by decide)) l
  have hl40 := HF.out.2
  have KG : Hid (Calls Tryz.prog 11 #[.int .i64 300, .int .i64 60, .slice A m cap] w (GrowAllR w 300 60 l)) := by show Calls _ _ _ _ _; rw [HM.out]; exact growAll_any 300 60 A l cap w (by decide) HF.out hA
  clear hf KF KA
  go_wp2_with fail
  refine KG.out.mono ?_
  rintro e w3 ⟨g, f, rfl, ⟨K3, F3⟩, E3⟩
  obtain ⟨B, hB⟩ : ∃ B, B = w.heap.size := ⟨_, rfl⟩
  rw [← hB] at K3 F3
  obtain ⟨S, hS⟩ : ∃ S, S = growAll (firstT 300 60) l := ⟨_, rfl⟩
  rw [← hS] at K3 F3
  have hSl : S.last ≤ 41 := by
    have h2 := hga.2
    rw [hS]
    rw [show growAll (rootT emptyT 0 300 60) l = growAll (firstT 300 60) l from rfl, show (rootT emptyT 0 300 60).last = 1 from rfl] at h2
    omega
  have hT0 : Tre 40 S := by rw [hS]; exact hG0
  have HB := Lib.hid hB
  have HE3 := Lib.hid E3
  have HT0 := Lib.hid hT0
  have hne0 : NoEnts S := by rw [hS]; exact noEnts_first (by decide) HF.out
  have HNE0 := Lib.hid hne0
  clear hne0
  have HK3 := Lib.hid K3
  have HF3 := Lib.hid F3
  clear hS hga hG0 hl40 KG hB hT0 hlen hlen'
  go_wp2_with fail
  go_loopw [8] (fun i wr => ∃ (k : Nat) (T : TreeD) (X : Xtra), i = .int .i64 k ∧ k ≤ n ∧ Tre (40 + k) T ∧ T.last ≤ S.last + k ∧ NoEnts T ∧ Mix w3 B g f T T X wr) (fun i _ => n - (intOf i).toNat)
  case atStart => exact ⟨0, S, _, rfl, Nat.zero_le _, HT0.out, by omega, HNE0.out, Mix.start K3 F3⟩
  case round =>
    obtain ⟨k, T, X, rfl, hk, hT, hTl, hNE, hM⟩ := hrel
    have HT := Lib.hid hT
    have HM1 := Lib.hid hM
    have HTL := Lib.hid hTl
    have HNE := Lib.hid hNE
    clear hNE
    have hsF := hM.lt.2
    have hnow := hM.now
    have hfr : wr.frozen? ⟨f.bF, 3, none⟩ = false := by
      obtain ⟨g1, f1, h1, h2, h3, ⟨_, cn, ce, kF, _⟩, h5⟩ := hM
      rw [← h2.1]; exact kF.free 3
    clear hT hM hTl
    by_cases hlt : (k : Int) < n
    · have hkl : k < acts.length := by have := HN.out; omega
      have y5 : IntKind.i64.wrap (5 * (k : Int)) = 5 * (k : Int) := wrap_i64_in (by omega) (by omega)
      have y0 : (0 : Int) ≤ (k : Int) := Int.natCast_nonneg _
      go_upto_region 10 with fail
      obtain ⟨W1, hW1⟩ : ∃ W1, W1 = wr.setCell ⟨f.bF, 3, none⟩ (.int .i64 (5 * (k : Int))) := ⟨_, rfl⟩
      rw [← hW1]
      have M1 : Mix w3 B g f T T { X with now := 5 * (k : Int) } W1 := by rw [hW1]; exact HM1.out.setNow _
      have X1 : Ext w W1 := M1.after HE3.out (by rw [HB.out]; exact Nat.le_refl _) HK3.out HF3.out
      obtain ⟨bI, o, rfl, hbw, i0, i1, i2, i3, i4, i5, i6, i7, i8, i9⟩ := hA2.at_ X1 k hkl
      have hsh := HFA.out.1 _ (List.getElem_mem hkl)
      obtain ⟨x, hx⟩ : ∃ x, x = acts[k] := ⟨_, rfl⟩
      rw [← hx] at i0 i1 i2 i3 i4 i5 i6 i7 i8 i9 hsh
      have HSH := Lib.hid hsh
      have HM2 := Lib.hid M1
      clear hx hsh hW1 hnow hfr hsF y5 M1
      go_wp2_with fail
      obtain ⟨g1, f1, h1, h2, h3, h4, h5⟩ := id HM2.out
      have hbb : B ≤ W1.heap.size := by have := (h3.apart _ (by simp : g1.bW ∈ g1.list)).1; have := h3.lt.1; omega
      have KD := do18_any B g1 f1 T { X with now := 5 * (k : Int) } x W1 ⟨h3, h4⟩ HT.out (by omega) (by have := HTL.out; omega) HSH.out HNE.out
      rw [h1.1, h2.1] at KD
      refine KD.mono ?_
      rintro e w5 ⟨rfl, M5⟩
      obtain ⟨T5, hT5⟩ : ∃ T5, T5 = do18T T (5 * (k : Int)) x := ⟨_, rfl⟩
      rw [← hT5] at M5
      have hall := tre_do18 HT.out HNE.out (5 * (k : Int)) x
      rw [← hT5] at hall
      have hT5' : Tre (40 + (k + 1)) T5 := hall.1
      have hT5l : T5.last ≤ S.last + (k + 1 : Nat) := by have := hall.2.1; have := HTL.out; omega
      have HNE5 := Lib.hid hall.2.2
      clear hall
      have M6 : Mix w3 B g f T5 T5 { X with now := 5 * (k : Int) } w5 := by
        obtain ⟨g2, f2, a1, a2, a3, a4, a5⟩ := M5
        refine ⟨g2, f2, GhW.on_trans h1 a1 h5.size, GhF.on_trans h2 a2 h5.size, a3, a4, h5.trans a5 (fun b hb => ?_)⟩
        rcases List.mem_append.1 hb with hb | hb
        · rcases h1.2 b hb with e | e
          · exact .inl (List.mem_append_left _ e)
          · exact .inr e
        · rcases h2.2 b hb with e | e
          · exact .inl (List.mem_append_right _ e)
          · exact .inr e
      have HM6 := Lib.hid M6
      have HT5 := Lib.hid hT5'
      have HT5L := Lib.hid hT5l
      clear M6 hT5' hT5 hT5l M5 KD h1 h2 h3 h4 h5 i0 i1 i2 i3 i4 i5 i6 i7 i8 i9 hbb
      go_wp2_with fail
      obtain ⟨g2, f2, a1, a2, a3, a4, a5⟩ := id HM6.out
      have KA := alike_any B g2 f2 T5 _ w5 a3 a4 (HT5.out.fit (by omega) (by have := HT5L.out; omega))
      rw [a1.1, a2.1] at KA
      refine KA.mono ?_
      rintro e w6 ⟨rfl, b6⟩
      have M7 := Lib.hid (HM6.out.ext b6)
      clear KA a1 a2 a3 a4 a5 b6
      go_wp2_with fail
      go_roundw
      case rel => exact ⟨k + 1, T5, _, by go_num, by omega, HT5.out, HT5L.out, HNE5.out, M7.out⟩
      case measure => simp [intOf]; omega
    · have X1 : Ext w wr := HM1.out.after HE3.out (by rw [HB.out]; exact Nat.le_refl _) HK3.out HF3.out
      clear hnow hfr hsF
      go_wp2_with fail
      refine (awake18 _).mono ?_
      rintro e w4 ⟨rfl, b4⟩
      go_wp2_with fail
      go_ret
      exact Ret.mk rfl (X1.trans b4)
set_option maxRecDepth 100000 in
theorem dropPlays_walk {H : Type} {enc : TypeId × Value → H} (W : World) (base : Nat) (v0 v1 : Value) (d0 d1 : DataW H) (p0 p1 : List MemPlace)
    (k0 : Value.okWide Tryz.prog W .any base 24 v0) (h0 : DataW.Trod enc Tryz.prog W 0 (fun _ => true) true 24 v0 d0 p0)
    (k1 : Value.okWide Tryz.prog W .any base 25 v1) (h1 : DataW.Trod enc Tryz.prog W 0 (fun _ => true) true 25 v1 d1 p1)
    : Calls Tryz.prog 4 #[v0, v1] W (Ret W (.bool true)) := by
  obtain ⟨A, l, cap, rfl, hA, _, hl, hc⟩ := open_Items k0 h0
  obtain ⟨A2, l2, cap2, rfl, hA2, _, hl2, hc2⟩ := open_Acts k1 h1
  exact dropPlays_any A l cap A2 l2 cap2 W hA (by unfold maxLen at hc; omega) hA2 (by unfold maxLen at hc2; omega)
end Go.Proofs.YtebghednhjaniaaGreat
