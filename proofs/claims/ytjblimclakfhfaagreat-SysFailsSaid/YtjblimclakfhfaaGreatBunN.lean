/- Law 21's change: a change of both file systems. (Printed by gen_sysx.py.) | Layer 21: the chapter's example. | Layer 21: Plan and Count of a file system that is there; the law SysFails, walked. -/
import Derived.Test.YtjblimclakfhfaaGreatBunM
import Derived.Test.YtjblimclakfhfaaGreatBunC
import Derived.Test.YtjblimclakfhfaaGreatBunK
import Derived.Test.YtjblimclakfhfaaGreatBunL
import Derived.OpenShut
namespace Go.Proofs.YtjblimclakfhfaaGreat
open Go.ChangeShapes Go.WideShapes Go.ChangeAt Go.RowKit

attribute [local irreducible] wpQuiet
def actC (S : TreeD) (x : ActD) : Chg :=
  if x.kind = 0 then .mkdir (nearF S.last x.dir) x.name x.n else
  if x.kind = 1 then .create (nearF S.last x.dir) x.name x.n x.text else
  if x.kind = 2 then .symlink (nearF S.last x.dir) x.name x.text else
  if x.kind = 3 then .link (nearF S.last x.no) (nearF S.last x.dir) x.name else
  if x.kind = 4 then .unlink (nearF S.last x.dir) x.name else
  if x.kind = 5 then .rmdir (nearF S.last x.dir) x.name else
  if x.kind = 6 then .rename (nearF S.last x.dir) x.name (nearF S.last x.to_) x.as_ else
  if x.kind = 7 then .chmod (nearF S.last x.no) x.n else
  if x.kind = 8 then .chown (nearF S.last x.no) x.n x.to_ else
  if x.kind = 9 then .utime (nearF S.last x.no) x.n else
  .write (nearF S.last x.no) x.text
theorem Sane.go {c : Nat} {s : SysD} (h : Sane c s) : Sane (c + 1) (goS s) := by
  have h0 := h.last
  have h1 := h.c0
  have h2 := h.c1
  unfold goS
  split
  · exact h.mono (by omega)
  · exact ⟨tre_mono h.tre (by omega), h.noe, by show s.t.last ≤ _; omega, by show 0 ≤ s.count + 1; omega, by show s.count + 1 ≤ _; omega, h.plan⟩
theorem chS_go {s : SysD} {cu cg : Int} {x : Chg} (h : goE s = 0) : { goS s with t := chgT (goS s).t cu cg (goS s).now x } = chS s cu cg x ∧ (goS s).t = s.t ∧ (goS s).now = s.now ∧ chE s cu cg x = chgE s.t cu cg s.now x ∧ chN s cu cg x = chgN s.t cu cg s.now x := by
  have e := (goS_alive h).2
  unfold chS chE chN
  rw [if_neg (by rw [h]; decide), if_neg (by rw [h]; decide), if_neg (by rw [h]; decide), e]
  exact ⟨rfl, rfl, rfl, rfl, rfl⟩
theorem chS_no {s : SysD} {cu cg : Int} {x : Chg} (h : goE s ≠ 0) : chS s cu cg x = goS s ∧ chE s cu cg x = goE s ∧ chN s cu cg x = 0 := by
  unfold chS chE chN
  rw [if_pos h, if_pos h, if_pos h]
  exact ⟨rfl, rfl, rfl⟩
set_option maxRecDepth 100000 in
set_option maxHeartbeats 16000000 in
theorem change21_any {c : Nat} (B b : Nat) (g : GhW) (f : GhF) (s : SysD) (x : ActD) (w : World) (hP : PS w B b g s) (hR : RS w B f s) (hs : Sane c s) (hc : c ≤ 800) (hd : s.dead = false) (hx : shortA x) :
    Calls Tryz.prog 15 #[.pointer (some ⟨b, 0, none⟩), .pointer (some ⟨f.bF, 0, none⟩), .agg #[.int .i64 x.kind, .int .i64 x.uid, .int .i64 x.gid, .int .i64 x.dir, .int .i64 x.no, .int .i64 x.n, .string (bs x.name), .string (bs x.text), .int .i64 x.to_, .string (bs x.as_)]] w (fun e w' => e = .returned (.bool true) ∧ Duo w B b g f (chS s x.uid x.gid (actC s.t x)) (chS s x.uid x.gid (actC s.t x)) w') := by
  obtain ⟨W1, hW1⟩ : ∃ W1, W1 = w.alloc (.cells #[.int .i64 x.kind, .int .i64 x.uid, .int .i64 x.gid, .int .i64 x.dir, .int .i64 x.no, .int .i64 x.n, .string (bs x.name), .string (bs x.text), .int .i64 x.to_, .string (bs x.as_)] 26) := ⟨_, rfl⟩
  have E1 : Ext w W1 := by rw [hW1]; exact (Ext.refl _).alloc _
  obtain ⟨b1, hb1⟩ : ∃ b, b = w.heap.size := ⟨_, rfl⟩
  have B1 : Has W1 b1 (.cells #[.int .i64 x.kind, .int .i64 x.uid, .int .i64 x.gid, .int .i64 x.dir, .int .i64 x.no, .int .i64 x.n, .string (bs x.name), .string (bs x.text), .int .i64 x.to_, .string (bs x.as_)] 26) := by rw [hW1, hb1]; exact Has.new _ _
  have hl1 := hP.lt
  have hl2 := hR.lt
  have hnb : b1 ∉ b :: (g.list ++ f.list) := by
    intro hb
    rcases List.mem_cons.1 hb with e | hb
    · have := hl1 b (List.mem_cons_self ..); omega
    · rcases List.mem_append.1 hb with hb | hb
      · have := hl1 b1 (List.mem_cons_of_mem _ hb); omega
      · have := hl2 b1 hb; omega
  have D1 : Duo W1 B b g f s s W1 := Duo.start (hP.ext E1) (hR.ext E1)
  have hlast := hs.lastP (by omega : c ≤ 900)
  have hl3 := hs.tre.last
  have hnm : x.name.length ≤ 1000000 := by have := hx.1; omega
  have has : x.as_.length ≤ 1000000 := by have := hx.2.1; omega
  have htx : x.text.length ≤ 1000000000 := by have := hx.2.2; omega
  have hty : x.text.length ≤ 1000000 := by have := hx.2.2; omega
  obtain ⟨XX, F1⟩ := (hR.ext E1).fat
  obtain ⟨p, hp⟩ : ∃ p, p = nearF s.t.last x.dir := ⟨_, rfl⟩
  obtain ⟨q, hq⟩ : ∃ q, q = nearF s.t.last x.no := ⟨_, rfl⟩
  obtain ⟨r, hr⟩ : ∃ r, r = nearF s.t.last x.to_ := ⟨_, rfl⟩
  have KN : Hid (∀ u : Gr W1, Calls Tryz.prog 53 #[.pointer (some ⟨f.bF, 0, none⟩), .int .i64 x.dir] u.w (Ret u.w (.int .i64 p))) := by
    show ∀ u : Gr W1, _
    intro u
    rw [hp]
    exact near_any B f s.t XX x.dir _ (F1.ext u.h) (by omega) (by omega)
  have KM : Hid (∀ u : Gr W1, Calls Tryz.prog 53 #[.pointer (some ⟨f.bF, 0, none⟩), .int .i64 x.no] u.w (Ret u.w (.int .i64 q))) := by
    show ∀ u : Gr W1, _
    intro u
    rw [hq]
    exact near_any B f s.t XX x.no _ (F1.ext u.h) (by omega) (by omega)
  have KO : Hid (∀ u : Gr W1, Calls Tryz.prog 53 #[.pointer (some ⟨f.bF, 0, none⟩), .int .i64 x.to_] u.w (Ret u.w (.int .i64 r))) := by
    show ∀ u : Gr W1, _
    intro u
    rw [hr]
    exact near_any B f s.t XX x.to_ _ (F1.ext u.h) (by omega) (by omega)
  have yk : ∀ u : Gr W1, u.w.cell? ⟨b1, 3, none⟩ = some (.int .i64 x.dir) := Gr.cell B1.lt (B1.cell 3)
  have ym : ∀ u : Gr W1, u.w.cell? ⟨b1, 4, none⟩ = some (.int .i64 x.no) := Gr.cell B1.lt (B1.cell 4)
  have yo : ∀ u : Gr W1, u.w.cell? ⟨b1, 8, none⟩ = some (.int .i64 x.to_) := Gr.cell B1.lt (B1.cell 8)
  have HP := Lib.hid hp
  have HQ := Lib.hid hq
  have HR := Lib.hid hr
  have HS := Lib.hid hs
  have HC := Lib.hid hc
  have HD := Lib.hid hd
  obtain ⟨z, hz⟩ : ∃ z, z = goE s := ⟨_, rfl⟩
  have HZ := Lib.hid hz
  have HNM := Lib.hid hnm
  have HAS := Lib.hid has
  have HTX := Lib.hid htx
  have HTY := Lib.hid hty
  clear hp hq hr hP hR hs hc hd hx hz hnm has htx hty F1 hlast hl3 hl1 hl2
  go_enter Tryz.func15, Tryz.ntmps15
  go_upto_region 1 with fail
  rw [← hW1, ← hb1]
  clear hW1 hb1
  refine wp_region_grow W1 (by kernel_rfl) (by kernel_rfl) (Ext.refl _).drew ?_
  repeat (quiet_step (first
    | ((with_reducible refine (KN.out _).mono ?_); rintro e w'' ⟨rfl, hEx⟩; exact ⟨rfl, ⟨w'', Ext.trans (Gr.h _) hEx⟩, rfl⟩)
    | ((with_reducible refine (KM.out _).mono ?_); rintro e w'' ⟨rfl, hEx⟩; exact ⟨rfl, ⟨w'', Ext.trans (Gr.h _) hEx⟩, rfl⟩)
    | ((with_reducible refine (KO.out _).mono ?_); rintro e w'' ⟨rfl, hEx⟩; exact ⟨rfl, ⟨w'', Ext.trans (Gr.h _) hEx⟩, rfl⟩)))
  refine wpQuiet_nil ?_
  rintro w2 ⟨⟨wy, b2⟩, h2⟩
  dsimp only at h2
  subst h2
  clear yk ym yo KN KM KO
  have D2 := D1.ext b2
  have HB1 := Lib.hid B1
  have HNB := Lib.hid hnb
  have HE1 := Lib.hid E1
  have KG : Hid (Calls Tryz.prog 54 #[.pointer (some ⟨f.bF, 0, none⟩)] w2 (fun e w' => e = .returned (.int .i64 z) ∧ Duo W1 B b g f s (goS s) w')) := by
    show Calls _ _ _ _ _
    refine D2.callR fun f1 hf h1 => ?_
    rw [← hf, HZ.out]
    exact (h1.goes HS.out (by have := HC.out; omega)).mono fun e w' hh => ⟨hh.1, f1, hh.2.1, hh.2.2, GhF.on_refl _ _⟩
  clear B1 E1 hnb D1 D2 b2
  go_wp2_with fail
  refine KG.out.mono ?_
  rintro e w3 ⟨rfl, D3⟩
  have HD3 := Lib.hid D3
  have B3 := D3.has HB1.out HNB.out
  have c0 := B3.cell 0
  have c1 := B3.cell 1
  have c2 := B3.cell 2
  have c5 := B3.cell 5
  have c6 := B3.cell 6
  have c7 := B3.cell 7
  have c8 := B3.cell 8
  have c9 := B3.cell 9
  have cz := B3.lt
  clear KG D3 B3
  by_cases k0 : x.kind = 0
  · have t0 : (x.kind == 0) = true := by simpa using k0
    have HA : Hid (actC s.t x = .mkdir p x.name x.n) := by
      show _ = _
      unfold actC
      rw [if_pos k0]
      (try rw [← HP.out]); (try rw [← HQ.out]); (try rw [← HR.out])
    clear k0
    obtain ⟨E, hE⟩ : ∃ E, E = chE s x.uid x.gid (.mkdir p x.name x.n) := ⟨_, rfl⟩
    obtain ⟨N, hN⟩ : ∃ N, N = chN s x.uid x.gid (.mkdir p x.name x.n) := ⟨_, rfl⟩
    obtain ⟨T, hT⟩ : ∃ T, T = chS s x.uid x.gid (.mkdir p x.name x.n) := ⟨_, rfl⟩
    have KP : Hid (Calls Tryz.prog 45 #[.pointer (some ⟨b, 0, none⟩), .agg #[.int .i64 x.uid, .int .i64 x.gid], .int .i64 p, .string (bs x.name), .int .i64 x.n] w3 (fun e w' => e = .returned (.tuple #[.int .i64 N, .int .i64 E]) ∧ Duo W1 B b g f T (goS s) w')) := by
      show Calls _ _ _ _ _
      refine HD3.out.callP fun g1 hg h1 => ?_
      rw [hE, hT, hN]
      exact h1.mkdir HS.out (by have := HC.out; omega) HD.out x.uid x.gid p x.name x.n 
    have HTT := Lib.hid hT
    have HEE := Lib.hid hE
    have HNN := Lib.hid hN
    clear hT hE hN
    go_wp2_with fail
    refine KP.out.mono ?_
    rintro e w4 ⟨rfl, D4⟩
    clear c0 c1 c2 c5 c6 c7 c8 c9 cz KP
    have HD4 := Lib.hid D4
    have B4 := D4.has HB1.out HNB.out
    have c1 := B4.cell 1
    have c2 := B4.cell 2
    have c5 := B4.cell 5
    have c6 := B4.cell 6
    have c7 := B4.cell 7
    have c8 := B4.cell 8
    have c9 := B4.cell 9
    have cz := B4.lt
    clear D4 B4
    by_cases hz0 : z = 0
    · have tz : (z == 0) = true := by simpa using hz0
      have hg0 : goE s = 0 := HZ.out ▸ hz0
      have key := chS_go (cu := x.uid) (cg := x.gid) (x := .mkdir p x.name x.n) hg0
      have KR : Hid (Calls Tryz.prog 55 #[.pointer (some ⟨f.bF, 0, none⟩), .agg #[.int .i64 x.uid, .int .i64 x.gid], .int .i64 p, .string (bs x.name), .int .i64 x.n] w4 (fun e w' => e = .returned (.tuple #[.int .i64 N, .int .i64 E]) ∧ Duo W1 B b g f T T w')) := by
        show Calls _ _ _ _ _
        refine HD4.out.callR fun f1 hf h1 => ?_
        have h2 := h1.mkdir HS.out.go (by have := HC.out; omega) x.uid x.gid p x.name x.n HNM.out
        rw [key.1, key.2.1, key.2.2.1, ← key.2.2.2.1, ← key.2.2.2.2, ← HEE.out, ← HNN.out, ← HTT.out] at h2
        rw [← hf]
        exact h2
      clear hz0 hg0 key
      go_wp2_with fail
      refine KR.out.mono ?_
      rintro e w5 ⟨rfl, D5⟩
      clear c1 c2 c5 c6 c7 c8 c9 cz KR
      have HD5 := Lib.hid D5
      clear D5
      go_wp2_with fail
      go_ret
      exact ⟨rfl, by rw [HA.out, ← HTT.out]; exact HD5.out.base HE1.out⟩
    · have tz : (z == 0) = false := by simpa using hz0
      have key := chS_no (cu := x.uid) (cg := x.gid) (x := .mkdir p x.name x.n) (s := s) (by rw [← HZ.out]; exact hz0)
      have e1 : T = goS s := HTT.out.trans key.1
      have e2 : E = z := HEE.out.trans (key.2.1.trans HZ.out.symm)
      have e3 : N = 0 := HNN.out.trans key.2.2
      have HE1' := Lib.hid e1
      subst e2
      subst e3
      clear key hz0 e1
      go_wp2_with fail
      go_ret
      have := HD4.out
      rw [← HE1'.out] at this
      exact ⟨rfl, by rw [HA.out, ← HTT.out]; exact this.base HE1.out⟩
  have t0 : (x.kind == 0) = false := by simpa using k0
  by_cases k1 : x.kind = 1
  · have t1 : (x.kind == 1) = true := by simpa using k1
    have HA : Hid (actC s.t x = .create p x.name x.n x.text) := by
      show _ = _
      unfold actC
      rw [if_neg k0, if_pos k1]
      (try rw [← HP.out]); (try rw [← HQ.out]); (try rw [← HR.out])
    clear k1
    obtain ⟨E, hE⟩ : ∃ E, E = chE s x.uid x.gid (.create p x.name x.n x.text) := ⟨_, rfl⟩
    obtain ⟨N, hN⟩ : ∃ N, N = chN s x.uid x.gid (.create p x.name x.n x.text) := ⟨_, rfl⟩
    obtain ⟨T, hT⟩ : ∃ T, T = chS s x.uid x.gid (.create p x.name x.n x.text) := ⟨_, rfl⟩
    have KP : Hid (Calls Tryz.prog 56 #[.pointer (some ⟨b, 0, none⟩), .agg #[.int .i64 x.uid, .int .i64 x.gid], .int .i64 p, .string (bs x.name), .int .i64 x.n, .string (bs x.text)] w3 (fun e w' => e = .returned (.tuple #[.int .i64 N, .int .i64 E]) ∧ Duo W1 B b g f T (goS s) w')) := by
      show Calls _ _ _ _ _
      refine HD3.out.callP fun g1 hg h1 => ?_
      rw [hE, hT, hN]
      exact h1.create HS.out (by have := HC.out; omega) HD.out x.uid x.gid p x.name x.n x.text HTX.out
    have HTT := Lib.hid hT
    have HEE := Lib.hid hE
    have HNN := Lib.hid hN
    clear hT hE hN
    go_wp2_with fail
    refine KP.out.mono ?_
    rintro e w4 ⟨rfl, D4⟩
    clear c0 c1 c2 c5 c6 c7 c8 c9 cz KP
    have HD4 := Lib.hid D4
    have B4 := D4.has HB1.out HNB.out
    have c1 := B4.cell 1
    have c2 := B4.cell 2
    have c5 := B4.cell 5
    have c6 := B4.cell 6
    have c7 := B4.cell 7
    have c8 := B4.cell 8
    have c9 := B4.cell 9
    have cz := B4.lt
    clear D4 B4
    by_cases hz0 : z = 0
    · have tz : (z == 0) = true := by simpa using hz0
      have hg0 : goE s = 0 := HZ.out ▸ hz0
      have key := chS_go (cu := x.uid) (cg := x.gid) (x := .create p x.name x.n x.text) hg0
      have KR : Hid (Calls Tryz.prog 57 #[.pointer (some ⟨f.bF, 0, none⟩), .agg #[.int .i64 x.uid, .int .i64 x.gid], .int .i64 p, .string (bs x.name), .int .i64 x.n, .string (bs x.text)] w4 (fun e w' => e = .returned (.tuple #[.int .i64 N, .int .i64 E]) ∧ Duo W1 B b g f T T w')) := by
        show Calls _ _ _ _ _
        refine HD4.out.callR fun f1 hf h1 => ?_
        have h2 := h1.create HS.out.go (by have := HC.out; omega) x.uid x.gid p x.name x.n x.text HNM.out HTX.out
        rw [key.1, key.2.1, key.2.2.1, ← key.2.2.2.1, ← key.2.2.2.2, ← HEE.out, ← HNN.out, ← HTT.out] at h2
        rw [← hf]
        exact h2
      clear hz0 hg0 key
      go_wp2_with fail
      refine KR.out.mono ?_
      rintro e w5 ⟨rfl, D5⟩
      clear c1 c2 c5 c6 c7 c8 c9 cz KR
      have HD5 := Lib.hid D5
      clear D5
      go_wp2_with fail
      go_ret
      exact ⟨rfl, by rw [HA.out, ← HTT.out]; exact HD5.out.base HE1.out⟩
    · have tz : (z == 0) = false := by simpa using hz0
      have key := chS_no (cu := x.uid) (cg := x.gid) (x := .create p x.name x.n x.text) (s := s) (by rw [← HZ.out]; exact hz0)
      have e1 : T = goS s := HTT.out.trans key.1
      have e2 : E = z := HEE.out.trans (key.2.1.trans HZ.out.symm)
      have e3 : N = 0 := HNN.out.trans key.2.2
      have HE1' := Lib.hid e1
      subst e2
      subst e3
      clear key hz0 e1
      go_wp2_with fail
      go_ret
      have := HD4.out
      rw [← HE1'.out] at this
      exact ⟨rfl, by rw [HA.out, ← HTT.out]; exact this.base HE1.out⟩
  have t1 : (x.kind == 1) = false := by simpa using k1
  by_cases k2 : x.kind = 2
  · have t2 : (x.kind == 2) = true := by simpa using k2
    have HA : Hid (actC s.t x = .symlink p x.name x.text) := by
      show _ = _
      unfold actC
      rw [if_neg k0, if_neg k1, if_pos k2]
      (try rw [← HP.out]); (try rw [← HQ.out]); (try rw [← HR.out])
    clear k2
    obtain ⟨E, hE⟩ : ∃ E, E = chE s x.uid x.gid (.symlink p x.name x.text) := ⟨_, rfl⟩
    obtain ⟨N, hN⟩ : ∃ N, N = chN s x.uid x.gid (.symlink p x.name x.text) := ⟨_, rfl⟩
    obtain ⟨T, hT⟩ : ∃ T, T = chS s x.uid x.gid (.symlink p x.name x.text) := ⟨_, rfl⟩
    have KP : Hid (Calls Tryz.prog 58 #[.pointer (some ⟨b, 0, none⟩), .agg #[.int .i64 x.uid, .int .i64 x.gid], .int .i64 p, .string (bs x.name), .string (bs x.text)] w3 (fun e w' => e = .returned (.tuple #[.int .i64 N, .int .i64 E]) ∧ Duo W1 B b g f T (goS s) w')) := by
      show Calls _ _ _ _ _
      refine HD3.out.callP fun g1 hg h1 => ?_
      rw [hE, hT, hN]
      exact h1.symlink HS.out (by have := HC.out; omega) HD.out x.uid x.gid p x.name x.text HTX.out
    have HTT := Lib.hid hT
    have HEE := Lib.hid hE
    have HNN := Lib.hid hN
    clear hT hE hN
    go_wp2_with fail
    refine KP.out.mono ?_
    rintro e w4 ⟨rfl, D4⟩
    clear c0 c1 c2 c5 c6 c7 c8 c9 cz KP
    have HD4 := Lib.hid D4
    have B4 := D4.has HB1.out HNB.out
    have c1 := B4.cell 1
    have c2 := B4.cell 2
    have c5 := B4.cell 5
    have c6 := B4.cell 6
    have c7 := B4.cell 7
    have c8 := B4.cell 8
    have c9 := B4.cell 9
    have cz := B4.lt
    clear D4 B4
    by_cases hz0 : z = 0
    · have tz : (z == 0) = true := by simpa using hz0
      have hg0 : goE s = 0 := HZ.out ▸ hz0
      have key := chS_go (cu := x.uid) (cg := x.gid) (x := .symlink p x.name x.text) hg0
      have KR : Hid (Calls Tryz.prog 59 #[.pointer (some ⟨f.bF, 0, none⟩), .agg #[.int .i64 x.uid, .int .i64 x.gid], .int .i64 p, .string (bs x.name), .string (bs x.text)] w4 (fun e w' => e = .returned (.tuple #[.int .i64 N, .int .i64 E]) ∧ Duo W1 B b g f T T w')) := by
        show Calls _ _ _ _ _
        refine HD4.out.callR fun f1 hf h1 => ?_
        have h2 := h1.symlink HS.out.go (by have := HC.out; omega) x.uid x.gid p x.name x.text HNM.out HTY.out
        rw [key.1, key.2.1, key.2.2.1, ← key.2.2.2.1, ← key.2.2.2.2, ← HEE.out, ← HNN.out, ← HTT.out] at h2
        rw [← hf]
        exact h2
      clear hz0 hg0 key
      go_wp2_with fail
      refine KR.out.mono ?_
      rintro e w5 ⟨rfl, D5⟩
      clear c1 c2 c5 c6 c7 c8 c9 cz KR
      have HD5 := Lib.hid D5
      clear D5
      go_wp2_with fail
      go_ret
      exact ⟨rfl, by rw [HA.out, ← HTT.out]; exact HD5.out.base HE1.out⟩
    · have tz : (z == 0) = false := by simpa using hz0
      have key := chS_no (cu := x.uid) (cg := x.gid) (x := .symlink p x.name x.text) (s := s) (by rw [← HZ.out]; exact hz0)
      have e1 : T = goS s := HTT.out.trans key.1
      have e2 : E = z := HEE.out.trans (key.2.1.trans HZ.out.symm)
      have e3 : N = 0 := HNN.out.trans key.2.2
      have HE1' := Lib.hid e1
      subst e2
      subst e3
      clear key hz0 e1
      go_wp2_with fail
      go_ret
      have := HD4.out
      rw [← HE1'.out] at this
      exact ⟨rfl, by rw [HA.out, ← HTT.out]; exact this.base HE1.out⟩
  have t2 : (x.kind == 2) = false := by simpa using k2
  by_cases k3 : x.kind = 3
  · have t3 : (x.kind == 3) = true := by simpa using k3
    have HA : Hid (actC s.t x = .link q p x.name) := by
      show _ = _
      unfold actC
      rw [if_neg k0, if_neg k1, if_neg k2, if_pos k3]
      (try rw [← HP.out]); (try rw [← HQ.out]); (try rw [← HR.out])
    clear k3
    obtain ⟨E, hE⟩ : ∃ E, E = chE s x.uid x.gid (.link q p x.name) := ⟨_, rfl⟩
    obtain ⟨T, hT⟩ : ∃ T, T = chS s x.uid x.gid (.link q p x.name) := ⟨_, rfl⟩
    have KP : Hid (Calls Tryz.prog 60 #[.pointer (some ⟨b, 0, none⟩), .agg #[.int .i64 x.uid, .int .i64 x.gid], .int .i64 q, .int .i64 p, .string (bs x.name)] w3 (fun e w' => e = .returned (.int .i64 E) ∧ Duo W1 B b g f T (goS s) w')) := by
      show Calls _ _ _ _ _
      refine HD3.out.callP fun g1 hg h1 => ?_
      rw [hE, hT]
      exact h1.link HS.out (by have := HC.out; omega) HD.out x.uid x.gid q p x.name 
    have HTT := Lib.hid hT
    have HEE := Lib.hid hE
    clear hT hE
    go_wp2_with fail
    refine KP.out.mono ?_
    rintro e w4 ⟨rfl, D4⟩
    clear c0 c1 c2 c5 c6 c7 c8 c9 cz KP
    have HD4 := Lib.hid D4
    have B4 := D4.has HB1.out HNB.out
    have c1 := B4.cell 1
    have c2 := B4.cell 2
    have c5 := B4.cell 5
    have c6 := B4.cell 6
    have c7 := B4.cell 7
    have c8 := B4.cell 8
    have c9 := B4.cell 9
    have cz := B4.lt
    clear D4 B4
    by_cases hz0 : z = 0
    · have tz : (z == 0) = true := by simpa using hz0
      have hg0 : goE s = 0 := HZ.out ▸ hz0
      have key := chS_go (cu := x.uid) (cg := x.gid) (x := .link q p x.name) hg0
      have KR : Hid (Calls Tryz.prog 61 #[.pointer (some ⟨f.bF, 0, none⟩), .agg #[.int .i64 x.uid, .int .i64 x.gid], .int .i64 q, .int .i64 p, .string (bs x.name)] w4 (fun e w' => e = .returned (.int .i64 E) ∧ Duo W1 B b g f T T w')) := by
        show Calls _ _ _ _ _
        refine HD4.out.callR fun f1 hf h1 => ?_
        have h2 := h1.link HS.out.go (by have := HC.out; omega) x.uid x.gid q p x.name HNM.out
        rw [key.1, key.2.1, key.2.2.1, ← key.2.2.2.1, ← HEE.out, ← HTT.out] at h2
        rw [← hf]
        exact h2
      clear hz0 hg0 key
      go_wp2_with fail
      refine KR.out.mono ?_
      rintro e w5 ⟨rfl, D5⟩
      clear c1 c2 c5 c6 c7 c8 c9 cz KR
      have HD5 := Lib.hid D5
      clear D5
      go_wp2_with fail
      go_ret
      exact ⟨rfl, by rw [HA.out, ← HTT.out]; exact HD5.out.base HE1.out⟩
    · have tz : (z == 0) = false := by simpa using hz0
      have key := chS_no (cu := x.uid) (cg := x.gid) (x := .link q p x.name) (s := s) (by rw [← HZ.out]; exact hz0)
      have e1 : T = goS s := HTT.out.trans key.1
      have e2 : E = z := HEE.out.trans (key.2.1.trans HZ.out.symm)
      have HE1' := Lib.hid e1
      subst e2
      clear key hz0 e1
      go_wp2_with fail
      go_ret
      have := HD4.out
      rw [← HE1'.out] at this
      exact ⟨rfl, by rw [HA.out, ← HTT.out]; exact this.base HE1.out⟩
  have t3 : (x.kind == 3) = false := by simpa using k3
  by_cases k4 : x.kind = 4
  · have t4 : (x.kind == 4) = true := by simpa using k4
    have HA : Hid (actC s.t x = .unlink p x.name) := by
      show _ = _
      unfold actC
      rw [if_neg k0, if_neg k1, if_neg k2, if_neg k3, if_pos k4]
      (try rw [← HP.out]); (try rw [← HQ.out]); (try rw [← HR.out])
    clear k4
    obtain ⟨E, hE⟩ : ∃ E, E = chE s x.uid x.gid (.unlink p x.name) := ⟨_, rfl⟩
    obtain ⟨T, hT⟩ : ∃ T, T = chS s x.uid x.gid (.unlink p x.name) := ⟨_, rfl⟩
    have KP : Hid (Calls Tryz.prog 62 #[.pointer (some ⟨b, 0, none⟩), .agg #[.int .i64 x.uid, .int .i64 x.gid], .int .i64 p, .string (bs x.name)] w3 (fun e w' => e = .returned (.int .i64 E) ∧ Duo W1 B b g f T (goS s) w')) := by
      show Calls _ _ _ _ _
      refine HD3.out.callP fun g1 hg h1 => ?_
      rw [hE, hT]
      exact h1.unlink HS.out (by have := HC.out; omega) HD.out x.uid x.gid p x.name 
    have HTT := Lib.hid hT
    have HEE := Lib.hid hE
    clear hT hE
    go_wp2_with fail
    refine KP.out.mono ?_
    rintro e w4 ⟨rfl, D4⟩
    clear c0 c1 c2 c5 c6 c7 c8 c9 cz KP
    have HD4 := Lib.hid D4
    have B4 := D4.has HB1.out HNB.out
    have c1 := B4.cell 1
    have c2 := B4.cell 2
    have c5 := B4.cell 5
    have c6 := B4.cell 6
    have c7 := B4.cell 7
    have c8 := B4.cell 8
    have c9 := B4.cell 9
    have cz := B4.lt
    clear D4 B4
    by_cases hz0 : z = 0
    · have tz : (z == 0) = true := by simpa using hz0
      have hg0 : goE s = 0 := HZ.out ▸ hz0
      have key := chS_go (cu := x.uid) (cg := x.gid) (x := .unlink p x.name) hg0
      have KR : Hid (Calls Tryz.prog 63 #[.pointer (some ⟨f.bF, 0, none⟩), .agg #[.int .i64 x.uid, .int .i64 x.gid], .int .i64 p, .string (bs x.name), .bool false] w4 (fun e w' => e = .returned (.int .i64 E) ∧ Duo W1 B b g f T T w')) := by
        show Calls _ _ _ _ _
        refine HD4.out.callR fun f1 hf h1 => ?_
        have h2 := h1.unlink HS.out.go (by have := HC.out; omega) x.uid x.gid p x.name HNM.out
        rw [key.1, key.2.1, key.2.2.1, ← key.2.2.2.1, ← HEE.out, ← HTT.out] at h2
        rw [← hf]
        exact h2
      clear hz0 hg0 key
      go_wp2_with fail
      refine KR.out.mono ?_
      rintro e w5 ⟨rfl, D5⟩
      clear c1 c2 c5 c6 c7 c8 c9 cz KR
      have HD5 := Lib.hid D5
      clear D5
      go_wp2_with fail
      go_ret
      exact ⟨rfl, by rw [HA.out, ← HTT.out]; exact HD5.out.base HE1.out⟩
    · have tz : (z == 0) = false := by simpa using hz0
      have key := chS_no (cu := x.uid) (cg := x.gid) (x := .unlink p x.name) (s := s) (by rw [← HZ.out]; exact hz0)
      have e1 : T = goS s := HTT.out.trans key.1
      have e2 : E = z := HEE.out.trans (key.2.1.trans HZ.out.symm)
      have HE1' := Lib.hid e1
      subst e2
      clear key hz0 e1
      go_wp2_with fail
      go_ret
      have := HD4.out
      rw [← HE1'.out] at this
      exact ⟨rfl, by rw [HA.out, ← HTT.out]; exact this.base HE1.out⟩
  have t4 : (x.kind == 4) = false := by simpa using k4
  by_cases k5 : x.kind = 5
  · have t5 : (x.kind == 5) = true := by simpa using k5
    have HA : Hid (actC s.t x = .rmdir p x.name) := by
      show _ = _
      unfold actC
      rw [if_neg k0, if_neg k1, if_neg k2, if_neg k3, if_neg k4, if_pos k5]
      (try rw [← HP.out]); (try rw [← HQ.out]); (try rw [← HR.out])
    clear k5
    obtain ⟨E, hE⟩ : ∃ E, E = chE s x.uid x.gid (.rmdir p x.name) := ⟨_, rfl⟩
    obtain ⟨T, hT⟩ : ∃ T, T = chS s x.uid x.gid (.rmdir p x.name) := ⟨_, rfl⟩
    have KP : Hid (Calls Tryz.prog 64 #[.pointer (some ⟨b, 0, none⟩), .agg #[.int .i64 x.uid, .int .i64 x.gid], .int .i64 p, .string (bs x.name)] w3 (fun e w' => e = .returned (.int .i64 E) ∧ Duo W1 B b g f T (goS s) w')) := by
      show Calls _ _ _ _ _
      refine HD3.out.callP fun g1 hg h1 => ?_
      rw [hE, hT]
      exact h1.rmdir HS.out (by have := HC.out; omega) HD.out x.uid x.gid p x.name 
    have HTT := Lib.hid hT
    have HEE := Lib.hid hE
    clear hT hE
    go_wp2_with fail
    refine KP.out.mono ?_
    rintro e w4 ⟨rfl, D4⟩
    clear c0 c1 c2 c5 c6 c7 c8 c9 cz KP
    have HD4 := Lib.hid D4
    have B4 := D4.has HB1.out HNB.out
    have c1 := B4.cell 1
    have c2 := B4.cell 2
    have c5 := B4.cell 5
    have c6 := B4.cell 6
    have c7 := B4.cell 7
    have c8 := B4.cell 8
    have c9 := B4.cell 9
    have cz := B4.lt
    clear D4 B4
    by_cases hz0 : z = 0
    · have tz : (z == 0) = true := by simpa using hz0
      have hg0 : goE s = 0 := HZ.out ▸ hz0
      have key := chS_go (cu := x.uid) (cg := x.gid) (x := .rmdir p x.name) hg0
      have KR : Hid (Calls Tryz.prog 63 #[.pointer (some ⟨f.bF, 0, none⟩), .agg #[.int .i64 x.uid, .int .i64 x.gid], .int .i64 p, .string (bs x.name), .bool true] w4 (fun e w' => e = .returned (.int .i64 E) ∧ Duo W1 B b g f T T w')) := by
        show Calls _ _ _ _ _
        refine HD4.out.callR fun f1 hf h1 => ?_
        have h2 := h1.rmdir HS.out.go (by have := HC.out; omega) x.uid x.gid p x.name HNM.out
        rw [key.1, key.2.1, key.2.2.1, ← key.2.2.2.1, ← HEE.out, ← HTT.out] at h2
        rw [← hf]
        exact h2
      clear hz0 hg0 key
      go_wp2_with fail
      refine KR.out.mono ?_
      rintro e w5 ⟨rfl, D5⟩
      clear c1 c2 c5 c6 c7 c8 c9 cz KR
      have HD5 := Lib.hid D5
      clear D5
      go_wp2_with fail
      go_ret
      exact ⟨rfl, by rw [HA.out, ← HTT.out]; exact HD5.out.base HE1.out⟩
    · have tz : (z == 0) = false := by simpa using hz0
      have key := chS_no (cu := x.uid) (cg := x.gid) (x := .rmdir p x.name) (s := s) (by rw [← HZ.out]; exact hz0)
      have e1 : T = goS s := HTT.out.trans key.1
      have e2 : E = z := HEE.out.trans (key.2.1.trans HZ.out.symm)
      have HE1' := Lib.hid e1
      subst e2
      clear key hz0 e1
      go_wp2_with fail
      go_ret
      have := HD4.out
      rw [← HE1'.out] at this
      exact ⟨rfl, by rw [HA.out, ← HTT.out]; exact this.base HE1.out⟩
  have t5 : (x.kind == 5) = false := by simpa using k5
  by_cases k6 : x.kind = 6
  · have t6 : (x.kind == 6) = true := by simpa using k6
    have HA : Hid (actC s.t x = .rename p x.name r x.as_) := by
      show _ = _
      unfold actC
      rw [if_neg k0, if_neg k1, if_neg k2, if_neg k3, if_neg k4, if_neg k5, if_pos k6]
      (try rw [← HP.out]); (try rw [← HQ.out]); (try rw [← HR.out])
    clear k6
    obtain ⟨E, hE⟩ : ∃ E, E = chE s x.uid x.gid (.rename p x.name r x.as_) := ⟨_, rfl⟩
    obtain ⟨T, hT⟩ : ∃ T, T = chS s x.uid x.gid (.rename p x.name r x.as_) := ⟨_, rfl⟩
    have KP : Hid (Calls Tryz.prog 65 #[.pointer (some ⟨b, 0, none⟩), .agg #[.int .i64 x.uid, .int .i64 x.gid], .int .i64 p, .string (bs x.name), .int .i64 r, .string (bs x.as_)] w3 (fun e w' => e = .returned (.int .i64 E) ∧ Duo W1 B b g f T (goS s) w')) := by
      show Calls _ _ _ _ _
      refine HD3.out.callP fun g1 hg h1 => ?_
      rw [hE, hT]
      exact h1.rename HS.out (by have := HC.out; omega) HD.out x.uid x.gid p x.name r x.as_ 
    have HTT := Lib.hid hT
    have HEE := Lib.hid hE
    clear hT hE
    go_wp2_with fail
    refine KP.out.mono ?_
    rintro e w4 ⟨rfl, D4⟩
    clear c0 c1 c2 c5 c6 c7 c8 c9 cz KP
    have HD4 := Lib.hid D4
    have B4 := D4.has HB1.out HNB.out
    have c1 := B4.cell 1
    have c2 := B4.cell 2
    have c5 := B4.cell 5
    have c6 := B4.cell 6
    have c7 := B4.cell 7
    have c8 := B4.cell 8
    have c9 := B4.cell 9
    have cz := B4.lt
    clear D4 B4
    by_cases hz0 : z = 0
    · have tz : (z == 0) = true := by simpa using hz0
      have hg0 : goE s = 0 := HZ.out ▸ hz0
      have key := chS_go (cu := x.uid) (cg := x.gid) (x := .rename p x.name r x.as_) hg0
      have KR : Hid (Calls Tryz.prog 66 #[.pointer (some ⟨f.bF, 0, none⟩), .agg #[.int .i64 x.uid, .int .i64 x.gid], .int .i64 p, .string (bs x.name), .int .i64 r, .string (bs x.as_)] w4 (fun e w' => e = .returned (.int .i64 E) ∧ Duo W1 B b g f T T w')) := by
        show Calls _ _ _ _ _
        refine HD4.out.callR fun f1 hf h1 => ?_
        have h2 := h1.rename HS.out.go (by have := HC.out; omega) x.uid x.gid p x.name r x.as_ HNM.out HAS.out
        rw [key.1, key.2.1, key.2.2.1, ← key.2.2.2.1, ← HEE.out, ← HTT.out] at h2
        rw [← hf]
        exact h2
      clear hz0 hg0 key
      go_wp2_with fail
      refine KR.out.mono ?_
      rintro e w5 ⟨rfl, D5⟩
      clear c1 c2 c5 c6 c7 c8 c9 cz KR
      have HD5 := Lib.hid D5
      clear D5
      go_wp2_with fail
      go_ret
      exact ⟨rfl, by rw [HA.out, ← HTT.out]; exact HD5.out.base HE1.out⟩
    · have tz : (z == 0) = false := by simpa using hz0
      have key := chS_no (cu := x.uid) (cg := x.gid) (x := .rename p x.name r x.as_) (s := s) (by rw [← HZ.out]; exact hz0)
      have e1 : T = goS s := HTT.out.trans key.1
      have e2 : E = z := HEE.out.trans (key.2.1.trans HZ.out.symm)
      have HE1' := Lib.hid e1
      subst e2
      clear key hz0 e1
      go_wp2_with fail
      go_ret
      have := HD4.out
      rw [← HE1'.out] at this
      exact ⟨rfl, by rw [HA.out, ← HTT.out]; exact this.base HE1.out⟩
  have t6 : (x.kind == 6) = false := by simpa using k6
  by_cases k7 : x.kind = 7
  · have t7 : (x.kind == 7) = true := by simpa using k7
    have HA : Hid (actC s.t x = .chmod q x.n) := by
      show _ = _
      unfold actC
      rw [if_neg k0, if_neg k1, if_neg k2, if_neg k3, if_neg k4, if_neg k5, if_neg k6, if_pos k7]
      (try rw [← HP.out]); (try rw [← HQ.out]); (try rw [← HR.out])
    clear k7
    obtain ⟨E, hE⟩ : ∃ E, E = chE s x.uid x.gid (.chmod q x.n) := ⟨_, rfl⟩
    obtain ⟨T, hT⟩ : ∃ T, T = chS s x.uid x.gid (.chmod q x.n) := ⟨_, rfl⟩
    have KP : Hid (Calls Tryz.prog 67 #[.pointer (some ⟨b, 0, none⟩), .agg #[.int .i64 x.uid, .int .i64 x.gid], .int .i64 q, .int .i64 x.n] w3 (fun e w' => e = .returned (.int .i64 E) ∧ Duo W1 B b g f T (goS s) w')) := by
      show Calls _ _ _ _ _
      refine HD3.out.callP fun g1 hg h1 => ?_
      rw [hE, hT]
      exact h1.chmod HS.out (by have := HC.out; omega) HD.out x.uid x.gid q x.n 
    have HTT := Lib.hid hT
    have HEE := Lib.hid hE
    clear hT hE
    go_wp2_with fail
    refine KP.out.mono ?_
    rintro e w4 ⟨rfl, D4⟩
    clear c0 c1 c2 c5 c6 c7 c8 c9 cz KP
    have HD4 := Lib.hid D4
    have B4 := D4.has HB1.out HNB.out
    have c1 := B4.cell 1
    have c2 := B4.cell 2
    have c5 := B4.cell 5
    have c6 := B4.cell 6
    have c7 := B4.cell 7
    have c8 := B4.cell 8
    have c9 := B4.cell 9
    have cz := B4.lt
    clear D4 B4
    by_cases hz0 : z = 0
    · have tz : (z == 0) = true := by simpa using hz0
      have hg0 : goE s = 0 := HZ.out ▸ hz0
      have key := chS_go (cu := x.uid) (cg := x.gid) (x := .chmod q x.n) hg0
      have KR : Hid (Calls Tryz.prog 68 #[.pointer (some ⟨f.bF, 0, none⟩), .agg #[.int .i64 x.uid, .int .i64 x.gid], .int .i64 q, .int .i64 x.n] w4 (fun e w' => e = .returned (.int .i64 E) ∧ Duo W1 B b g f T T w')) := by
        show Calls _ _ _ _ _
        refine HD4.out.callR fun f1 hf h1 => ?_
        have h2 := h1.chmod HS.out.go (by have := HC.out; omega) x.uid x.gid q x.n 
        rw [key.1, key.2.1, key.2.2.1, ← key.2.2.2.1, ← HEE.out, ← HTT.out] at h2
        rw [← hf]
        exact h2
      clear hz0 hg0 key
      go_wp2_with fail
      refine KR.out.mono ?_
      rintro e w5 ⟨rfl, D5⟩
      clear c1 c2 c5 c6 c7 c8 c9 cz KR
      have HD5 := Lib.hid D5
      clear D5
      go_wp2_with fail
      go_ret
      exact ⟨rfl, by rw [HA.out, ← HTT.out]; exact HD5.out.base HE1.out⟩
    · have tz : (z == 0) = false := by simpa using hz0
      have key := chS_no (cu := x.uid) (cg := x.gid) (x := .chmod q x.n) (s := s) (by rw [← HZ.out]; exact hz0)
      have e1 : T = goS s := HTT.out.trans key.1
      have e2 : E = z := HEE.out.trans (key.2.1.trans HZ.out.symm)
      have HE1' := Lib.hid e1
      subst e2
      clear key hz0 e1
      go_wp2_with fail
      go_ret
      have := HD4.out
      rw [← HE1'.out] at this
      exact ⟨rfl, by rw [HA.out, ← HTT.out]; exact this.base HE1.out⟩
  have t7 : (x.kind == 7) = false := by simpa using k7
  by_cases k8 : x.kind = 8
  · have t8 : (x.kind == 8) = true := by simpa using k8
    have HA : Hid (actC s.t x = .chown q x.n x.to_) := by
      show _ = _
      unfold actC
      rw [if_neg k0, if_neg k1, if_neg k2, if_neg k3, if_neg k4, if_neg k5, if_neg k6, if_neg k7, if_pos k8]
      (try rw [← HP.out]); (try rw [← HQ.out]); (try rw [← HR.out])
    clear k8
    obtain ⟨E, hE⟩ : ∃ E, E = chE s x.uid x.gid (.chown q x.n x.to_) := ⟨_, rfl⟩
    obtain ⟨T, hT⟩ : ∃ T, T = chS s x.uid x.gid (.chown q x.n x.to_) := ⟨_, rfl⟩
    have KP : Hid (Calls Tryz.prog 69 #[.pointer (some ⟨b, 0, none⟩), .agg #[.int .i64 x.uid, .int .i64 x.gid], .int .i64 q, .int .i64 x.n, .int .i64 x.to_] w3 (fun e w' => e = .returned (.int .i64 E) ∧ Duo W1 B b g f T (goS s) w')) := by
      show Calls _ _ _ _ _
      refine HD3.out.callP fun g1 hg h1 => ?_
      rw [hE, hT]
      exact h1.chown HS.out (by have := HC.out; omega) HD.out x.uid x.gid q x.n x.to_ 
    have HTT := Lib.hid hT
    have HEE := Lib.hid hE
    clear hT hE
    go_wp2_with fail
    refine KP.out.mono ?_
    rintro e w4 ⟨rfl, D4⟩
    clear c0 c1 c2 c5 c6 c7 c8 c9 cz KP
    have HD4 := Lib.hid D4
    have B4 := D4.has HB1.out HNB.out
    have c1 := B4.cell 1
    have c2 := B4.cell 2
    have c5 := B4.cell 5
    have c6 := B4.cell 6
    have c7 := B4.cell 7
    have c8 := B4.cell 8
    have c9 := B4.cell 9
    have cz := B4.lt
    clear D4 B4
    by_cases hz0 : z = 0
    · have tz : (z == 0) = true := by simpa using hz0
      have hg0 : goE s = 0 := HZ.out ▸ hz0
      have key := chS_go (cu := x.uid) (cg := x.gid) (x := .chown q x.n x.to_) hg0
      have KR : Hid (Calls Tryz.prog 70 #[.pointer (some ⟨f.bF, 0, none⟩), .agg #[.int .i64 x.uid, .int .i64 x.gid], .int .i64 q, .int .i64 x.n, .int .i64 x.to_] w4 (fun e w' => e = .returned (.int .i64 E) ∧ Duo W1 B b g f T T w')) := by
        show Calls _ _ _ _ _
        refine HD4.out.callR fun f1 hf h1 => ?_
        have h2 := h1.chown HS.out.go (by have := HC.out; omega) x.uid x.gid q x.n x.to_ 
        rw [key.1, key.2.1, key.2.2.1, ← key.2.2.2.1, ← HEE.out, ← HTT.out] at h2
        rw [← hf]
        exact h2
      clear hz0 hg0 key
      go_wp2_with fail
      refine KR.out.mono ?_
      rintro e w5 ⟨rfl, D5⟩
      clear c1 c2 c5 c6 c7 c8 c9 cz KR
      have HD5 := Lib.hid D5
      clear D5
      go_wp2_with fail
      go_ret
      exact ⟨rfl, by rw [HA.out, ← HTT.out]; exact HD5.out.base HE1.out⟩
    · have tz : (z == 0) = false := by simpa using hz0
      have key := chS_no (cu := x.uid) (cg := x.gid) (x := .chown q x.n x.to_) (s := s) (by rw [← HZ.out]; exact hz0)
      have e1 : T = goS s := HTT.out.trans key.1
      have e2 : E = z := HEE.out.trans (key.2.1.trans HZ.out.symm)
      have HE1' := Lib.hid e1
      subst e2
      clear key hz0 e1
      go_wp2_with fail
      go_ret
      have := HD4.out
      rw [← HE1'.out] at this
      exact ⟨rfl, by rw [HA.out, ← HTT.out]; exact this.base HE1.out⟩
  have t8 : (x.kind == 8) = false := by simpa using k8
  by_cases k9 : x.kind = 9
  · have t9 : (x.kind == 9) = true := by simpa using k9
    have HA : Hid (actC s.t x = .utime q x.n) := by
      show _ = _
      unfold actC
      rw [if_neg k0, if_neg k1, if_neg k2, if_neg k3, if_neg k4, if_neg k5, if_neg k6, if_neg k7, if_neg k8, if_pos k9]
      (try rw [← HP.out]); (try rw [← HQ.out]); (try rw [← HR.out])
    clear k9
    obtain ⟨E, hE⟩ : ∃ E, E = chE s x.uid x.gid (.utime q x.n) := ⟨_, rfl⟩
    obtain ⟨T, hT⟩ : ∃ T, T = chS s x.uid x.gid (.utime q x.n) := ⟨_, rfl⟩
    have KP : Hid (Calls Tryz.prog 71 #[.pointer (some ⟨b, 0, none⟩), .agg #[.int .i64 x.uid, .int .i64 x.gid], .int .i64 q, .int .i64 x.n] w3 (fun e w' => e = .returned (.int .i64 E) ∧ Duo W1 B b g f T (goS s) w')) := by
      show Calls _ _ _ _ _
      refine HD3.out.callP fun g1 hg h1 => ?_
      rw [hE, hT]
      exact h1.utime HS.out (by have := HC.out; omega) HD.out x.uid x.gid q x.n 
    have HTT := Lib.hid hT
    have HEE := Lib.hid hE
    clear hT hE
    go_wp2_with fail
    refine KP.out.mono ?_
    rintro e w4 ⟨rfl, D4⟩
    clear c0 c1 c2 c5 c6 c7 c8 c9 cz KP
    have HD4 := Lib.hid D4
    have B4 := D4.has HB1.out HNB.out
    have c1 := B4.cell 1
    have c2 := B4.cell 2
    have c5 := B4.cell 5
    have c6 := B4.cell 6
    have c7 := B4.cell 7
    have c8 := B4.cell 8
    have c9 := B4.cell 9
    have cz := B4.lt
    clear D4 B4
    by_cases hz0 : z = 0
    · have tz : (z == 0) = true := by simpa using hz0
      have hg0 : goE s = 0 := HZ.out ▸ hz0
      have key := chS_go (cu := x.uid) (cg := x.gid) (x := .utime q x.n) hg0
      have KR : Hid (Calls Tryz.prog 72 #[.pointer (some ⟨f.bF, 0, none⟩), .agg #[.int .i64 x.uid, .int .i64 x.gid], .int .i64 q, .int .i64 x.n] w4 (fun e w' => e = .returned (.int .i64 E) ∧ Duo W1 B b g f T T w')) := by
        show Calls _ _ _ _ _
        refine HD4.out.callR fun f1 hf h1 => ?_
        have h2 := h1.utime HS.out.go (by have := HC.out; omega) x.uid x.gid q x.n 
        rw [key.1, key.2.1, key.2.2.1, ← key.2.2.2.1, ← HEE.out, ← HTT.out] at h2
        rw [← hf]
        exact h2
      clear hz0 hg0 key
      go_wp2_with fail
      refine KR.out.mono ?_
      rintro e w5 ⟨rfl, D5⟩
      clear c1 c2 c5 c6 c7 c8 c9 cz KR
      have HD5 := Lib.hid D5
      clear D5
      go_wp2_with fail
      go_ret
      exact ⟨rfl, by rw [HA.out, ← HTT.out]; exact HD5.out.base HE1.out⟩
    · have tz : (z == 0) = false := by simpa using hz0
      have key := chS_no (cu := x.uid) (cg := x.gid) (x := .utime q x.n) (s := s) (by rw [← HZ.out]; exact hz0)
      have e1 : T = goS s := HTT.out.trans key.1
      have e2 : E = z := HEE.out.trans (key.2.1.trans HZ.out.symm)
      have HE1' := Lib.hid e1
      subst e2
      clear key hz0 e1
      go_wp2_with fail
      go_ret
      have := HD4.out
      rw [← HE1'.out] at this
      exact ⟨rfl, by rw [HA.out, ← HTT.out]; exact this.base HE1.out⟩
  have t9 : (x.kind == 9) = false := by simpa using k9
  have HA : Hid (actC s.t x = .write q x.text) := by
    show _ = _
    unfold actC
    rw [if_neg k0, if_neg k1, if_neg k2, if_neg k3, if_neg k4, if_neg k5, if_neg k6, if_neg k7, if_neg k8, if_neg k9]
    (try rw [← HP.out]); (try rw [← HQ.out]); (try rw [← HR.out])
  obtain ⟨E, hE⟩ : ∃ E, E = chE s x.uid x.gid (.write q x.text) := ⟨_, rfl⟩
  obtain ⟨T, hT⟩ : ∃ T, T = chS s x.uid x.gid (.write q x.text) := ⟨_, rfl⟩
  have KP : Hid (Calls Tryz.prog 73 #[.pointer (some ⟨b, 0, none⟩), .agg #[.int .i64 x.uid, .int .i64 x.gid], .int .i64 q, .string (bs x.text)] w3 (fun e w' => e = .returned (.int .i64 E) ∧ Duo W1 B b g f T (goS s) w')) := by
    show Calls _ _ _ _ _
    refine HD3.out.callP fun g1 hg h1 => ?_
    rw [hE, hT]
    exact h1.write HS.out (by have := HC.out; omega) HD.out x.uid x.gid q x.text HTX.out
  have HTT := Lib.hid hT
  have HEE := Lib.hid hE
  clear hT hE
  go_wp2_with fail
  refine KP.out.mono ?_
  rintro e w4 ⟨rfl, D4⟩
  clear c0 c1 c2 c5 c6 c7 c8 c9 cz KP
  have HD4 := Lib.hid D4
  have B4 := D4.has HB1.out HNB.out
  have c1 := B4.cell 1
  have c2 := B4.cell 2
  have c5 := B4.cell 5
  have c6 := B4.cell 6
  have c7 := B4.cell 7
  have c8 := B4.cell 8
  have c9 := B4.cell 9
  have cz := B4.lt
  clear D4 B4
  by_cases hz0 : z = 0
  · have tz : (z == 0) = true := by simpa using hz0
    have hg0 : goE s = 0 := HZ.out ▸ hz0
    have key := chS_go (cu := x.uid) (cg := x.gid) (x := .write q x.text) hg0
    have KR : Hid (Calls Tryz.prog 74 #[.pointer (some ⟨f.bF, 0, none⟩), .agg #[.int .i64 x.uid, .int .i64 x.gid], .int .i64 q, .string (bs x.text)] w4 (fun e w' => e = .returned (.int .i64 E) ∧ Duo W1 B b g f T T w')) := by
      show Calls _ _ _ _ _
      refine HD4.out.callR fun f1 hf h1 => ?_
      have h2 := h1.write HS.out.go (by have := HC.out; omega) x.uid x.gid q x.text HTX.out
      rw [key.1, key.2.1, key.2.2.1, ← key.2.2.2.1, ← HEE.out, ← HTT.out] at h2
      rw [← hf]
      exact h2
    clear hz0 hg0 key
    go_wp2_with fail
    refine KR.out.mono ?_
    rintro e w5 ⟨rfl, D5⟩
    clear c1 c2 c5 c6 c7 c8 c9 cz KR
    have HD5 := Lib.hid D5
    clear D5
    go_wp2_with fail
    go_ret
    exact ⟨rfl, by rw [HA.out, ← HTT.out]; exact HD5.out.base HE1.out⟩
  · have tz : (z == 0) = false := by simpa using hz0
    have key := chS_no (cu := x.uid) (cg := x.gid) (x := .write q x.text) (s := s) (by rw [← HZ.out]; exact hz0)
    have e1 : T = goS s := HTT.out.trans key.1
    have e2 : E = z := HEE.out.trans (key.2.1.trans HZ.out.symm)
    have HE1' := Lib.hid e1
    subst e2
    clear key hz0 e1
    go_wp2_with fail
    go_ret
    have := HD4.out
    rw [← HE1'.out] at this
    exact ⟨rfl, by rw [HA.out, ← HTT.out]; exact this.base HE1.out⟩
end Go.Proofs.YtjblimclakfhfaaGreat

namespace Go.Proofs.YtjblimclakfhfaaGreat
open Go.ChangeShapes Go.WideShapes Go.ChangeAt Go.RowKit

def l21 : List (Int × Int) := [(1, 19), (3, 20)]
def b21a : TreeD := rootT emptyT 0 9 9
def b21b : TreeD := preT (dirP 0) b21a (comeT b21a 0 0 0 1 [100] (dirZ 0 1))
theorem b21_1 : preE (dirP 0) (comeE b21a 0 0 0 1 [100] (dirZ 0 1)) = 0 ∧ preN (dirP 0) (comeN b21a 0 0 0 1 [100] (dirZ 0 1)) = 2 := ⟨by kernel_rfl, by kernel_rfl⟩
theorem b21_2 : statE b21b 1 = 0 := by kernel_rfl
theorem b21_3 : 0 < b21b.devs.length := by
  have : b21b.devs.length = 1 := by kernel_rfl
  omega
theorem b21_4 : b21a.last ≤ 100000 ∧ b21b.last ≤ 100000 := by
  have h1 : b21a.last = 1 := by kernel_rfl
  have h2 : b21b.last = 2 := by kernel_rfl
  omega
theorem b21_5 : Ok b21a ∧ Ok b21b := by
  have h0 : Tre 0 b21a := b17_tre.1
  refine ⟨h0.ok (by decide), ?_⟩
  have h1 : Tre 1 b21b := by
    unfold b21b preT
    split
    · exact tre_mono h0 (by decide)
    · exact tre_comeT h0 rfl (by decide) (fun _ => rfl) ⟨by decide, by decide⟩
  exact h1.ok (by decide)
set_option maxRecDepth 100000 in
set_option maxHeartbeats 8000000 in
theorem awake21 (w : World) : Calls Tryz.prog 13 #[] w (Ret w (.bool true)) := by
  have OA := Lib.hid b21_5.1
  have OB := Lib.hid b21_5.2
  go_enter Tryz.func13, Tryz.ntmps13
  go_wp2_with fail
  refine (newS 9 9 w (by decide)).mono ?_
  rintro e w1 ⟨g, B, s, hB, hBs, rfl, K1, S1, hs, E1⟩
  have K1 : WAt w1 B g b21a := K1
  obtain ⟨W2, hW2⟩ : ∃ W, W = w1.alloc (.cells #[.int .i64 1, .int .i64 19, .int .i64 3, .int .i64 20] 38) := ⟨_, rfl⟩
  obtain ⟨bl, hbl⟩ : ∃ b, b = w1.heap.size := ⟨_, rfl⟩
  have N2 : Has W2 bl (.cells #[.int .i64 1, .int .i64 19, .int .i64 3, .int .i64 20] 38) := by rw [hW2, hbl]; exact Has.new _ _
  have E2 : Ext w1 W2 := by rw [hW2]; exact (Ext.refl _).alloc _
  have K2 := K1.ext E2
  have S2 := S1.ext E2
  have X2 := E1.trans E2
  have gl : ∀ x ∈ g.list, x < W2.heap.size := fun x hx => by
    have h1 := K2.lt
    simp only [GhW.list, List.mem_cons, List.not_mem_nil, or_false] at hx
    omega
  have gB : ∀ x ∈ g.list, w.heap.size ≤ x := fun x hx => by have := (K2.apart x hx).1; omega
  have sw : ∀ x ∈ s :: g.list, w.heap.size ≤ x := fun x hx => by
    rcases List.mem_cons.1 hx with rfl | hx
    · omega
    · exact gB x hx
  have HSW := Lib.hid sw
  clear K1 S1 E1 E2 sw gB
  go_wp2_with fail
  rw [← hW2, ← hbl]
  clear hW2 hbl
  refine (plan2 1 19 3 20 _ S2 N2).mono ?_
  rintro e w3 ⟨⟨v, rfl⟩, A, cap, S3, P3, F3, L3, O3⟩
  have K3 := K2.offS S2 hBs hs O3
  have X3 := O3.after X2 (fun x hx => HSW.out x (by simp at hx; subst hx; simp))
  have hAg : ∀ x ∈ s :: g.list, PlanOff A x := fun x hx y hy => by
    rcases List.mem_cons.1 hx with rfl | hx
    · exact F3 y hy
    · have h1 := L3 y hy
      have h2 := gl x hx
      omega
  have HAG := Lib.hid hAg
  have PO : PlanOff A s := F3
  clear K2 S2 O3 X2 N2 gl hAg L3
  go_wp2_with fail
  refine (mkdirS (x := 19) l21 _ B b21a 0 0 1 [100] 0 S3 P3 PO (by decide) (by decide) (by decide) K3 hs hBs OA.out b21_4.1 (by decide) (by decide)).mono ?_
  rintro e w4 ⟨rfl, S4, O4⟩
  have S4 : SAt w4 s g 0 1 A 2 cap false := S4
  have K4 := K3.offS S3 hBs hs O4
  have P4 := P3.only O4 (fun x hx => HAG.out x (by simp at hx; subst hx; simp))
  have X4 := O4.after X3 (fun x hx => HSW.out x (by simp at hx; subst hx; simp))
  clear K3 S3 O4 X3 P3
  go_wp2_with fail
  refine (mkdirY l21 _ B b21a 0 0 1 [100] 0 S4 P4 PO (by decide) (by decide) (by decide) K4 hs hBs OA.out b21_4.1 (by decide)).mono ?_
  rw [b21_1.1, b21_1.2]
  rintro e w5 ⟨rfl, K5, S5, O5⟩
  have S5 : SAt w5 s g 0 2 A 2 cap false := S5
  have K5 : WAt w5 B g b21b := K5
  have P5 := P4.only O5 HAG.out
  have X5 := O5.after X4 HSW.out
  clear K4 S4 O5 X4 P4
  go_wp2_with fail
  refine (mkdirS (x := 20) l21 _ B b21b 0 0 1 [101] 0 S5 P5 PO (by decide) (by decide) (by decide) K5 hs hBs OB.out b21_4.2 (by decide) (by decide)).mono ?_
  rintro e w6 ⟨rfl, S6, O6⟩
  have S6 : SAt w6 s g 0 3 A 2 cap true := S6
  have K6 := K5.offS S5 hBs hs O6
  have X6 := O6.after X5 (fun x hx => HSW.out x (by simp at hx; subst hx; simp))
  clear K5 S5 O6 X5 P5 PO F3
  go_wp2_with fail
  refine (statDead _ S6).mono ?_
  rintro e w7 ⟨rfl, b7⟩
  have E7 := b7.alloc (.cells #[.int .i64 nodeZ.no, .int .i64 nodeZ.dev, .int .i64 nodeZ.kind, .int .i64 nodeZ.mode, .int .i64 nodeZ.uid, .int .i64 nodeZ.gid, .int .i64 nodeZ.links, .int .i64 nodeZ.data.length, .int .i64 nodeZ.mtime, .int .i64 nodeZ.ctime] 94)
  have S7 := S6.ext E7
  have K7 := K6.ext E7
  have X7 := X6.trans E7
  unfold statV
  clear K6 S6 X6 E7 b7
  go_wp2_with fail
  refine (deadS _ S7).mono ?_
  rintro e w8 ⟨rfl, b8⟩
  have S8 := S7.ext b8
  have K8 := K7.ext b8
  have X8 := X7.trans b8
  clear K7 S7 X7 b8
  go_wp2_with fail
  refine (wakeS _ S8).mono ?_
  rintro e w9 ⟨⟨v9, rfl⟩, S9, O9⟩
  have K9 := K8.offS S8 hBs hs O9
  have X9 := O9.after X8 (fun x hx => HSW.out x (by simp at hx; subst hx; simp))
  clear K8 S8 X8 O9
  go_wp2_with fail
  refine (statLive (no := 1) _ S9 K9 b21_3).mono ?_
  rintro e w10 ⟨rfl, b10⟩
  rw [b21_2]
  obtain ⟨m, hm⟩ : ∃ m, m = getN b21b.nodes 1 := ⟨_, rfl⟩
  rw [← hm]
  unfold statV
  have E10 := b10.alloc (.cells #[.int .i64 m.no, .int .i64 m.dev, .int .i64 m.kind, .int .i64 m.mode, .int .i64 m.uid, .int .i64 m.gid, .int .i64 m.links, .int .i64 m.data.length, .int .i64 m.mtime, .int .i64 m.ctime] 94)
  have S10 := S9.ext E10
  have X10 := X9.trans E10
  clear K9 S9 X9 E10 b10 hm
  go_wp2_with fail
  refine (tickS 5 _ S10 (by decide) (by decide) (by decide)).mono ?_
  rintro e w11 ⟨rfl, S11, O11⟩
  have X11 := O11.after X10 (fun x hx => HSW.out x (by simp at hx; subst hx; simp))
  clear S10 X10 O11
  go_wp2_with fail
  refine (nowS _ S11).mono ?_
  rintro e w12 ⟨rfl, b12⟩
  have S12 := S11.ext b12
  have X12 := X11.trans b12
  clear S11 X11 b12
  go_wp2_with fail
  refine (tickN (-1) _ S12 (by decide)).mono ?_
  rintro e w13 ⟨rfl, b13⟩
  go_wp2_with fail
  go_ret
  exact Ret.mk rfl (X12.trans b13)
end Go.Proofs.YtjblimclakfhfaaGreat

namespace Go.Proofs.YtjblimclakfhfaaGreat
open Go.ChangeShapes Go.WideShapes Go.ChangeAt Go.RowKit

set_option maxRecDepth 100000 in
theorem countS {b : Nat} {g : GhW} {now count : Int} {A : Option Addr} {len cap : Nat} {dead : Bool} (w : World) (h : SAt w b g now count A len cap dead) : Calls Tryz.prog 18 #[.pointer (some ⟨b, 0, none⟩)] w (Ret w (.int .i64 count)) := by
  go_enter Tryz.func18, Tryz.ntmps18
  go_wp2_with fail
  refine (noneS _ h).mono ?_
  rintro e w1 ⟨rfl, b1⟩
  have h1 := h.ext b1
  have c1 := Has.cell h1 2
  have z := Has.lt h1
  go_wp2_with fail
  go_ret
  exact Ret.mk rfl b1
theorem PS.plan_ {w : World} {B b : Nat} {g : GhW} {s : SysD} (h : PS w B b g s) (A0 : Option Addr) (l : List (Int × Int)) (cap0 : Nat) (hp : PlanAt w A0 l) (hA : A0 = none → cap0 = 0) (ho : l ≠ [] → PlanOff A0 b) (hl : l.length ≤ 1000000) :
    Calls Tryz.prog 16 #[.pointer (some ⟨b, 0, none⟩), .slice A0 l.length cap0] w (fun e w' => (∃ v, e = .returned v) ∧ PS w' B b g { s with plan := l, count := 0 } ∧ Only [b] w w') := by
  obtain ⟨A, cap, h⟩ := h
  have hn := h.notin
  obtain ⟨h1, h2, h3, h4, h5⟩ := h
  refine (planAny A0 l cap0 w h2 hp hA ho hl).mono ?_
  rintro e w' ⟨hv, A', cap', k1, k2, k3, k4, O⟩
  refine ⟨hv, ⟨A', cap', h1.offS h2 h5 hn O, k1, ?_, k3, h5⟩, O⟩
  rcases k2 with k2 | ⟨b2, o2, e2, hb2, hc2⟩
  · exact .inl k2
  · exact .inr ⟨b2, o2, e2, hb2, .inr (k4 _ e2), hc2⟩
/-- The reference's plan is set, and its count. -/
theorem RS.setPlan {w : World} {B : Nat} {f : GhF} {s : SysD} (h : RS w B f s) (A0 : Option Addr) (l : List (Int × Int)) (cap0 : Nat) (hp : PlanT w B A0 l) :
    RS ((w.setCell ⟨f.bF, 5, none⟩ (.slice A0 l.length cap0)).setCell ⟨f.bF, 4, none⟩ (.int .i64 0)) B f { s with plan := l, count := 0 } ∧ Only [f.bF] w ((w.setCell ⟨f.bF, 5, none⟩ (.slice A0 l.length cap0)).setCell ⟨f.bF, 4, none⟩ (.int .i64 0)) := by
  obtain ⟨A, cap, h1, h2⟩ := h
  have hF := h1.free2
  have k1 := h1.setX 5 (.slice A0 l.length cap0) (xtra s.now s.count A0 l.length cap0 s.dead) (fun _ _ => rfl)
  have k2 := k1.setX 4 (.int .i64 0) (xtra s.now 0 A0 l.length cap0 s.dead) (fun _ _ => rfl)
  have O : Only [f.bF] w ((w.setCell ⟨f.bF, 5, none⟩ (.slice A0 l.length cap0)).setCell ⟨f.bF, 4, none⟩ (.int .i64 0)) := (Only.setCell _ _ _ _).then (Only.setCell _ _ _ _)
  exact ⟨⟨A0, cap0, k2, hp.only O fun x hx => hF x (by simp at hx; subst hx; simp)⟩, O⟩
theorem Duo.planP {w0 w : World} {B b : Nat} {g : GhW} {f : GhF} {s r : SysD} (h : Duo w0 B b g f s r w) (A0 : Option Addr) (l : List (Int × Int)) (cap0 : Nat) (hp : PlanAt w A0 l) (hA : A0 = none → cap0 = 0) (ho : l ≠ [] → PlanOff A0 b) (hl : l.length ≤ 1000000) :
    Calls Tryz.prog 16 #[.pointer (some ⟨b, 0, none⟩), .slice A0 l.length cap0] w (fun e w' => (∃ v, e = .returned v) ∧ Duo w0 B b g f { s with plan := l, count := 0 } r w') := by
  obtain ⟨g1, f1, h1, h2, h3, h4, h5⟩ := h
  refine (h3.plan_ A0 l cap0 hp hA ho hl).mono ?_
  rintro e w' ⟨hv, k, O⟩
  exact ⟨hv, Duo.prog h1 h2 h3 h4 h5 k (O.mono (by simp))⟩
theorem Duo.planR {w0 w : World} {B b : Nat} {g : GhW} {f : GhF} {s r : SysD} (h : Duo w0 B b g f s r w) (A0 : Option Addr) (l : List (Int × Int)) (cap0 : Nat) (hp : PlanT w B A0 l) :
    Duo w0 B b g f s { r with plan := l, count := 0 } ((w.setCell ⟨f.bF, 5, none⟩ (.slice A0 l.length cap0)).setCell ⟨f.bF, 4, none⟩ (.int .i64 0)) := by
  obtain ⟨g1, f1, h1, h2, h3, h4, h5⟩ := h
  have k := h4.setPlan A0 l cap0 hp
  rw [h2.1] at k
  exact Duo.refc h1 h2 h3 h4 h5 ⟨f1, k.1, k.2.mono (by intro x hx; simp at hx; subst hx; rw [← h2.1]; simp), GhF.on_refl _ _⟩
theorem chS_noplan {s : SysD} (hp : s.plan = []) (hd : s.dead = false) (cu cg : Int) (x : Chg) : (chS s cu cg x).plan = [] ∧ (chS s cu cg x).dead = false := by
  have h0 : goE s = 0 := by rw [goE_plan hd, hp]; rfl
  unfold chS
  rw [if_neg (by rw [h0]; decide), (goS_alive h0).2]
  exact ⟨hp, hd⟩
theorem sane_first {b n : Int} (hl : limitsF b n = true) : Sane 0 ⟨rootT emptyT 0 b n, 0, 0, [], false⟩ :=
  ⟨tre_first hl, fun m hm hk => by
    have hm' : m ∈ [rootNode emptyT] := hm
    rw [List.mem_singleton] at hm'
    subst hm'
    rfl, by show (1 : Int) ≤ _; omega, Int.le_refl _, Int.le_refl _, Nat.zero_le _⟩
set_option maxRecDepth 100000 in
set_option maxHeartbeats 16000000 in
theorem sysFails_any (A : Option Addr) (acts : List ActD) (cap : Nat) (x : ActD) (why : Int) (w : World) (hA : ActsAt w A acts) (hlen : acts.length ≤ 9223372036854775807) (hy0 : 0 ≤ why) (_hy1 : why ≤ 255) :
    Calls Tryz.prog 3 #[.slice A acts.length cap, .agg #[.int .i64 x.kind, .int .i64 x.uid, .int .i64 x.gid, .int .i64 x.dir, .int .i64 x.no, .int .i64 x.n, .string (bs x.name), .string (bs x.text), .int .i64 x.to_, .string (bs x.as_)], .int .u8 why] w (Ret w (.bool true)) := by
  obtain ⟨W1, hW1⟩ : ∃ W, W = w.alloc (.cells #[.int .i64 x.kind, .int .i64 x.uid, .int .i64 x.gid, .int .i64 x.dir, .int .i64 x.no, .int .i64 x.n, .string (bs x.name), .string (bs x.text), .int .i64 x.to_, .string (bs x.as_)] 26) := ⟨_, rfl⟩
  obtain ⟨b1, hb1⟩ : ∃ b, b = w.heap.size := ⟨_, rfl⟩
  have E1 : Ext w W1 := by rw [hW1]; exact (Ext.refl _).alloc _
  have B1 : Has W1 b1 (.cells #[.int .i64 x.kind, .int .i64 x.uid, .int .i64 x.gid, .int .i64 x.dir, .int .i64 x.no, .int .i64 x.n, .string (bs x.name), .string (bs x.text), .int .i64 x.to_, .string (bs x.as_)] 26) := by rw [hW1, hb1]; exact Has.new _ _
  have hb1w : w.heap.size ≤ b1 := by omega
  obtain ⟨n, hn⟩ : ∃ n, n = acts.length := ⟨_, rfl⟩
  have hlen' := hlen
  rw [← hn] at hlen' ⊢
  have HN := Lib.hid hn
  clear hn
  go_enter Tryz.func3, Tryz.ntmps3
  go_upto_region 1 with fail
  rw [← hW1, ← hb1]
  clear hW1 hb1
  go_wp2_with fail
  refine (newS 300 60 W1 (by decide)).mono ?_
  rintro e w2 ⟨g, B, s0, hB, hbs, rfl, K2, S2, hsn, E2⟩
  have P2 : PS w2 B s0 g ⟨rootT emptyT 0 300 60, 0, 0, [], false⟩ := ⟨none, 0, K2, S2, .inl rfl, (fun x hx => by cases hx), hbs⟩
  have hb1B : b1 < B := by have := B1.lt; omega
  have HP2 := Lib.hid P2
  have B2 := B1.ext E2
  have HB2 := Lib.hid B2
  have HX2 := Lib.hid (E1.trans E2)
  have HA00 := Lib.hid hA
  have HA2 := Lib.hid (hA.ext (E1.trans E2))
  have hBw : B ≤ w2.heap.size := by have := P2.lt s0 (List.mem_cons_self ..); omega
  have KF : Hid (Calls Tryz.prog 12 #[.slice A n cap] w2 (FewAR w2 acts)) := by show Calls _ _ _ _ _; rw [HN.out]; exact fewA_any A acts cap w2 HA2.out hlen
  clear hA E1 E2 B1 K2 S2 P2 hsn
  go_wp2_with fail
  refine KF.out.mono ?_
  rintro e w3 ⟨rfl, ⟨hf, rfl⟩ | ⟨hf, rfl⟩⟩
  case inr =>
    clear hf
    go_wp2_with fail
    refine (awake21 _).mono ?_
    rintro e wz ⟨rfl, bz⟩
    go_wp2_with fail
    go_ret
    exact Ret.mk rfl (HX2.out.trans bz)
  have HF := Lib.hid hf
  have xc := fun i => B2.cell i
  have c0 := xc 0
  have c1 := xc 1
  have c2 := xc 2
  have c3 := xc 3
  have c4 := xc 4
  have c5 := xc 5
  have c6 := xc 6
  have c7 := xc 7
  have c8 := xc 8
  have c9 := xc 9
  simp only [List.getElem?_toArray, List.getElem?_cons_zero, List.getElem?_cons_succ] at c0 c1 c2 c3 c4 c5 c6 c7 c8 c9
  have cz := B2.lt
  clear hf KF xc B2
  go_wp2_with fail
  have hX3 := Has.new w2 (.cells #[.int .i64 x.kind, .int .i64 x.uid, .int .i64 x.gid, .int .i64 x.dir, .int .i64 x.no, .int .i64 x.n, .string (bs x.name), .string (bs x.text), .int .i64 x.to_, .string (bs x.as_)] 26)
  obtain ⟨W3, hW3⟩ : ∃ W3, W3 = w2.alloc (.cells #[.int .i64 x.kind, .int .i64 x.uid, .int .i64 x.gid, .int .i64 x.dir, .int .i64 x.no, .int .i64 x.n, .string (bs x.name), .string (bs x.text), .int .i64 x.to_, .string (bs x.as_)] 26) := ⟨_, rfl⟩
  obtain ⟨b3, hb3⟩ : ∃ b3, b3 = w2.heap.size := ⟨_, rfl⟩
  rw [← hW3, ← hb3] at hX3
  rw [← hW3, ← hb3]
  have E3 : Ext w2 W3 := by rw [hW3]; exact (Ext.refl _).alloc _
  have hacts : ActsAt W3 (some ⟨b3, 0, none⟩) [x] := by
    refine .inr ⟨_, 0, rfl, hX3.lt, fun k hk => ?_⟩
    have : k = 0 := by simpa using hk
    subst this
    exact ⟨hX3.cell 0, hX3.cell 1, hX3.cell 2, hX3.cell 3, hX3.cell 4, hX3.cell 5, hX3.cell 6, hX3.cell 7, hX3.cell 8, hX3.cell 9⟩
  clear hW3 hb3 hX3 c0 c1 c2 c3 c4 c5 c6 c7 c8 c9 cz
  refine (fewA_any (some ⟨b3, 0, none⟩) [x] 1 W3 hacts (by simp)).mono ?_
  rintro e w4 ⟨rfl, ⟨hfx, rfl⟩ | ⟨_, rfl⟩⟩
  case inr =>
    have HX2 := Lib.hid (HX2.out.trans E3)
    go_wp2_with fail
    refine (awake21 _).mono ?_
    rintro e wz ⟨rfl, bz⟩
    go_wp2_with fail
    go_ret
    exact Ret.mk rfl (HX2.out.trans bz)
  have HSX := Lib.hid (hfx.1 x (List.mem_singleton.2 rfl))
  have HE3 := Lib.hid E3
  have hB3 : B ≤ W3.heap.size := by have := E3.size; omega
  clear hacts hfx E3
  go_wp2_with fail
  refine (rnew_any B 300 60 W3 hB3 (by decide)).mono ?_
  rintro e w4 ⟨f, rfl, F4, E4⟩
  have R4 : RS w4 B f ⟨rootT emptyT 0 300 60, 0, 0, [], false⟩ := ⟨none, 0, F4, .inl rfl⟩
  have P4 := HP2.out.ext (HE3.out.trans E4)
  have D4 : Duo w4 B s0 g f ⟨rootT emptyT 0 300 60, 0, 0, [], false⟩ ⟨rootT emptyT 0 300 60, 0, 0, [], false⟩ w4 := Duo.start P4 R4
  have HP4 := Lib.hid P4
  have HR4 := Lib.hid R4
  have HD4 := Lib.hid D4
  have HX4 := Lib.hid (HX2.out.trans (HE3.out.trans E4))
  have HB4 := Lib.hid (HB2.out.ext (HE3.out.trans E4))
  have HA4 := Lib.hid (HA2.out.ext (HE3.out.trans E4))
  have hwB : w.heap.size ≤ B := by omega
  have hnb : Hid (b1 ∉ s0 :: (g.list ++ f.list)) := by
    show _ ∉ _
    intro hb
    rcases List.mem_cons.1 hb with e | hb
    · omega
    · rcases List.mem_append.1 hb with hb | hb
      · have := (HP4.out.free2 b1 (List.mem_cons_of_mem _ hb)).1; omega
      · have := (HR4.out.free2 b1 hb).1; omega
  clear F4 E4 R4 P4 D4 HP2 HX2 HE3 HB2 HA2 hB3
  go_wp2_with fail
  go_loopw [10] (fun i wr => ∃ (k : Nat) (T : SysD), i = .int .i64 k ∧ k ≤ n ∧ Sane k T ∧ T.plan = [] ∧ T.dead = false ∧ Duo w4 B s0 g f T T wr) (fun i _ => n - (intOf i).toNat)
  case atStart => exact ⟨0, _, rfl, Nat.zero_le _, sane_first (by decide), rfl, rfl, HD4.out⟩
  case round =>
    obtain ⟨k, T, rfl, hk, hS, hpl, hdd, hD⟩ := hrel
    have HD := Lib.hid hD
    have HS := Lib.hid hS
    have HPL := Lib.hid hpl
    have HDD := Lib.hid hdd
    have hn30 : n ≤ 30 := by rw [HN.out]; exact HF.out.2
    have X1 : Ext w wr := hD.after HX4.out hwB HP4.out HR4.out
    have HX := Lib.hid X1
    clear hD hS hpl hdd
    by_cases hlt : (k : Int) < n
    · have hkl : k < acts.length := by have := HN.out; omega
      have y0 : (0 : Int) ≤ (k : Int) := Int.natCast_nonneg _
      have w2w : IntKind.i64.wrap ((k : Int) + 1) = ((k + 1 : Nat) : Int) := by rw [IntWalk.i64_in _ (by omega)]; omega
      obtain ⟨bI, o, rfl, hbw, i0, i1, i2, i3, i4, i5, i6, i7, i8, i9⟩ := (HA00.out).at_ X1 k hkl
      have hsh := HF.out.1 _ (List.getElem_mem hkl)
      obtain ⟨y, hyy⟩ : ∃ y, y = acts[k] := ⟨_, rfl⟩
      rw [← hyy] at i0 i1 i2 i3 i4 i5 i6 i7 i8 i9 hsh
      have HSH := Lib.hid hsh
      have hT : Sane (k + 1) (chS T y.uid y.gid (actC T.t y)) := HS.out.chg _ _ _
      have hno := chS_noplan HPL.out HDD.out y.uid y.gid (actC T.t y)
      have HT := Lib.hid hT
      have HNO := Lib.hid hno
      have KC : Hid (Calls Tryz.prog 15 #[.pointer (some ⟨s0, 0, none⟩), .pointer (some ⟨f.bF, 0, none⟩), .agg #[.int .i64 y.kind, .int .i64 y.uid, .int .i64 y.gid, .int .i64 y.dir, .int .i64 y.no, .int .i64 y.n, .string (bs y.name), .string (bs y.text), .int .i64 y.to_, .string (bs y.as_)]] wr (fun e w' => e = .returned (.bool true) ∧ Duo w4 B s0 g f (chS T y.uid y.gid (actC T.t y)) (chS T y.uid y.gid (actC T.t y)) w')) := by
        show Calls _ _ _ _ _
        obtain ⟨g1, f1, h1, h2, h3, h4, h5⟩ := HD.out
        have := change21_any B s0 g1 f1 T y wr h3 h4 HS.out (by omega) HDD.out HSH.out
        rw [h2.1] at this
        refine this.mono ?_
        rintro e w' ⟨he, hd'⟩
        exact ⟨he, Duo.trans h1 h2 h5 hd'⟩
      clear hyy hsh hT hno X1
      go_wp2_with fail
      refine KC.out.mono ?_
      rintro e w5 ⟨rfl, D5⟩
      have HD5 := Lib.hid D5
      clear D5 KC i0 i1 i2 i3 i4 i5 i6 i7 i8 i9
      go_wp2_with fail
      go_roundw
      case rel => exact ⟨k + 1, _, rfl, by omega, HT.out, HNO.out.1, HNO.out.2, HD5.out⟩
      case measure => simp [intOf]; omega
    · obtain ⟨v, hv⟩ : ∃ v, v = why % 19 := ⟨_, rfl⟩
      have m0 : why.tmod 19 = v := by rw [hv]; exact Int.tmod_eq_emod_of_nonneg hy0
      have y0 : IntKind.u8.wrap v = v := IntWalk.u8_in _ ⟨by omega, by omega⟩
      have y1 : IntKind.u8.wrap (1 + v) = 1 + v := IntWalk.u8_in _ ⟨by omega, by omega⟩
      have y2 : IntKind.i64.wrap (1 + v) = 1 + v := wrap_i64_in (by omega) (by omega)
      have hv0 : 0 ≤ v := by omega
      have hv1 : v ≤ 18 := by omega
      obtain ⟨W5, hW5⟩ : ∃ W, W = wr.alloc (.cells #[.int .i64 1, .int .i64 (1 + v)] 38) := ⟨_, rfl⟩
      obtain ⟨b5, hb5⟩ : ∃ b, b = wr.heap.size := ⟨_, rfl⟩
      have E5 : Ext wr W5 := by rw [hW5]; exact (Ext.refl _).alloc _
      have N5 : Has W5 b5 (.cells #[.int .i64 1, .int .i64 (1 + v)] 38) := by rw [hW5, hb5]; exact Has.new _ _
      have hP5 : PlanAt W5 (some ⟨b5, 0, none⟩) [(1, 1 + v)] := by
        refine .inr ⟨_, 0, rfl, N5.lt, fun k hk => ?_⟩
        have : k = 0 := by simpa using hk
        subst this
        exact ⟨N5.cell 0, N5.cell 1⟩
      have hoff : PlanOff (some ⟨b5, 0, none⟩) s0 := by
        intro y hy e
        injection hy with hy
        subst hy
        obtain ⟨A1, c1, k1⟩ := HD.out.sys
        have := Has.lt k1
        have e' : b5 = s0 := e
        omega
      have KP : Hid (Calls Tryz.prog 16 #[.pointer (some ⟨s0, 0, none⟩), .slice (some ⟨b5, 0, none⟩) 1 1] W5 (fun e w' => (∃ v, e = .returned v) ∧ Duo w4 B s0 g f { T with plan := [(1, 1 + v)], count := 0 } T w')) := (HD.out.ext E5).planP (some ⟨b5, 0, none⟩) [(1, 1 + v)] 1 hP5 (fun h => by cases h) (fun _ => hoff) (by simp)
      clear hv hP5 hoff X1 E5 N5
      go_upto_region 10 with fail
      go_wp2_with fail
      rw [← hW5, ← hb5]
      clear hW5 hb5
      refine KP.out.mono ?_
      rintro e w6 ⟨⟨v6, rfl⟩, D6⟩
      clear KP
      obtain ⟨s1, hs1⟩ : ∃ s1, s1 = ({ T with plan := [(1, 1 + v)], count := 0 } : SysD) := ⟨_, rfl⟩
      rw [← hs1] at D6
      have hS1 : Sane k s1 := by rw [hs1]; exact ⟨HS.out.tre, HS.out.noe, HS.out.last, Int.le_refl _, by show (0 : Int) ≤ k; omega, by simp⟩
      have hd1 : s1.dead = false := by rw [hs1]; exact HDD.out
      obtain ⟨W7, hW7⟩ : ∃ W, W = w6.alloc (.cells #[.int .i64 1, .int .i64 (1 + v)] 38) := ⟨_, rfl⟩
      obtain ⟨b7, hb7⟩ : ∃ b, b = w6.heap.size := ⟨_, rfl⟩
      have E7 : Ext w6 W7 := by rw [hW7]; exact (Ext.refl _).alloc _
      have N7 : Has W7 b7 (.cells #[.int .i64 1, .int .i64 (1 + v)] 38) := by rw [hW7, hb7]; exact Has.new _ _
      have hP7 : PlanT W7 B (some ⟨b7, 0, none⟩) [(1, 1 + v)] := by
        refine .inr ⟨_, 0, rfl, N7.lt, .inr ⟨_, _, N7⟩, fun k hk => ?_⟩
        have : k = 0 := by simpa using hk
        subst this
        exact ⟨N7.cell 0, N7.cell 1⟩
      have D7 := D6.ext E7
      obtain ⟨V, hV⟩ : ∃ V, V = (W7.setCell ⟨f.bF, 5, none⟩ (.slice (some ⟨b7, 0, none⟩) 1 1)).setCell ⟨f.bF, 4, none⟩ (.int .i64 0) := ⟨_, rfl⟩
      have DV : Duo w4 B s0 g f s1 s1 V := by
        have := D7.planR (some ⟨b7, 0, none⟩) [((1 : Int), 1 + v)] 1 hP7
        rw [← hs1] at this
        rw [hV]
        exact this
      obtain ⟨vN, vD, A7, cap7, hfs⟩ := D7.fs
      have q4 := Has.cell hfs 4
      have q5 := Has.cell hfs 5
      have f4 := Has.free hfs 4
      have f5 := Has.free hfs 5
      have qz := Has.lt hfs
      simp only [List.getElem?_toArray, List.getElem?_cons_zero, List.getElem?_cons_succ] at q4 q5
      have HW7 := Lib.hid hW7
      have HB7 := Lib.hid hb7
      have HV := Lib.hid hV
      have HDV := Lib.hid DV
      have HS1 := Lib.hid hS1
      have HD1 := Lib.hid hd1
      have HU : Hid (chS s1 x.uid x.gid (actC s1.t x) = ⟨T.t, T.now, 1, [(1, 1 + v)], false⟩) := by
        show _ = _
        have e1 : goE s1 = 1 + v := by rw [goE_plan hd1, hs1]; simp [hitE, hitO]
        have h9 : (1 + v == 20) = false := by simp; omega
        rw [(chS_no (by rw [e1]; omega)).1, goS_plan hd1, hs1]
        simp [hitD, hitO, h9]
      clear hW7 hb7 hV DV hS1 hd1 hP7 N7 hfs D6 D7 E7 hs1
      go_upto_region 13 with (rw [← HW7.out, ← HB7.out])
      rw [← HV.out]
      clear q4 q5 f4 f5 qz m0
      have BV := HDV.out.has HB4.out hnb.out
      have xc := fun i => BV.cell i
      have c0 := xc 0
      have c1 := xc 1
      have c2 := xc 2
      have c3 := xc 3
      have c4 := xc 4
      have c5 := xc 5
      have c6 := xc 6
      have c7 := xc 7
      have c8 := xc 8
      have c9 := xc 9
      simp only [List.getElem?_toArray, List.getElem?_cons_zero, List.getElem?_cons_succ] at c0 c1 c2 c3 c4 c5 c6 c7 c8 c9
      have cz := BV.lt
      have KC : Hid (Calls Tryz.prog 15 #[.pointer (some ⟨s0, 0, none⟩), .pointer (some ⟨f.bF, 0, none⟩), .agg #[.int .i64 x.kind, .int .i64 x.uid, .int .i64 x.gid, .int .i64 x.dir, .int .i64 x.no, .int .i64 x.n, .string (bs x.name), .string (bs x.text), .int .i64 x.to_, .string (bs x.as_)]] V (fun e w' => e = .returned (.bool true) ∧ Duo w4 B s0 g f ⟨T.t, T.now, 1, [(1, 1 + v)], false⟩ ⟨T.t, T.now, 1, [(1, 1 + v)], false⟩ w')) := by
        show Calls _ _ _ _ _
        obtain ⟨g1, f1, h1, h2, h3, h4, h5⟩ := HDV.out
        have := change21_any B s0 g1 f1 s1 x V h3 h4 HS1.out (by omega) HD1.out HSX.out
        rw [h2.1, HU.out] at this
        refine this.mono ?_
        rintro e w' ⟨he, hd'⟩
        exact ⟨he, Duo.trans h1 h2 h5 hd'⟩
      clear xc BV
      go_wp2_with fail
      refine KC.out.mono ?_
      rintro e w8 ⟨rfl, D8⟩
      clear c0 c1 c2 c3 c4 c5 c6 c7 c8 c9 cz KC
      obtain ⟨A8, cap8, S8⟩ := D8.sys
      have k0 := Has.cell S8 0
      have kz := Has.lt S8
      have HS8 := Lib.hid S8
      have HD8 := Lib.hid D8
      have KA : Hid (Calls Tryz.prog 17 #[.pointer (some ⟨g.bW, 0, none⟩), .pointer (some ⟨f.bF, 0, none⟩)] w8 (Ret w8 (.bool true))) := by
        show Calls _ _ _ _ _
        obtain ⟨g1, f1, h1, h2, ⟨A, cap, K, _⟩, ⟨A2, cap2, F, _⟩, h5⟩ := HD8.out
        have := alike_any B g1 f1 T.t _ w8 K F (HS.out.tre.fit (by omega) (by have := HS.out.last; omega))
        rw [h1.1, h2.1] at this
        exact this
      clear S8 D8
      go_wp2_with fail
      refine KA.out.mono ?_
      rintro e w9 ⟨rfl, b9⟩
      clear k0 kz KA
      go_wp2_with fail
      refine (countS _ (SAt.ext HS8.out b9)).mono ?_
      rintro e w10 ⟨rfl, b10⟩
      go_wp2_with fail
      refine (awake21 _).mono ?_
      rintro e w11 ⟨rfl, b11⟩
      go_wp2_with fail
      go_ret
      exact Ret.mk rfl ((HD8.out.after HX4.out hwB HP4.out HR4.out).trans ((b9.trans b10).trans b11))
set_option maxRecDepth 100000 in
theorem sysFails_walk {H : Type} {enc : TypeId × Value → H} (W : World) (base : Nat) (v0 v1 v2 : Value) (d0 d1 d2 : DataW H) (p0 p1 p2 : List MemPlace)
    (k0 : Value.okWide Tryz.prog W .any base 22 v0) (h0 : DataW.Trod enc Tryz.prog W 0 (fun _ => true) true 22 v0 d0 p0)
    (k1 : Value.okWide Tryz.prog W .any base 26 v1) (h1 : DataW.Trod enc Tryz.prog W 0 (fun _ => true) true 26 v1 d1 p1)
    (k2 : Value.okWide Tryz.prog W .any base 5 v2) (h2 : DataW.Trod enc Tryz.prog W 0 (fun _ => true) true 5 v2 d2 p2)
    : Calls Tryz.prog 3 #[v0, v1, v2] W (Ret W (.bool true)) := by
  obtain ⟨A, l, cap, rfl, hA, _, hl, hc⟩ := open_Acts k0 h0
  obtain ⟨x, rfl⟩ := open_Act k1 h1
  obtain ⟨a2, rfl, rfl, rfl, w2⟩ := open_int Tryz.underlying5 k2 h2
  exact sysFails_any A l cap x a2 W hA (by unfold maxLen at hc; omega) (bounds_u8 w2).1 (bounds_u8 w2).2
end Go.Proofs.YtjblimclakfhfaaGreat
