/- Law 20's do: an attribute call of both. (Printed by gen_doa.py.) | Layer 20 (attr): the chapter's example. | The law AttrPlays, walked. -/
import Derived.Test.YtebghednhjaniaaBunE
import Derived.Test.YtebghednhjaniaaBunF
import Derived.Test.YtebghednhjaniaaBunD
namespace Go.Proofs.Ytebghednhjaniaa
open Go.ChangeShapes Go.WideShapes Go.ChangeAt Go.RowKit

attribute [local irreducible] wpLexE
attribute [local go_sem] changeUpon
def do20T (S : TreeD) (now : Int) (x : ActD) : TreeD :=
  if x.kind = 0 then modeT S x.uid now (nearF S.last x.no) x.n else if x.kind = 1 then ownrT S x.uid now (nearF S.last x.no) x.n x.to_ else if x.kind = 2 then timeT S x.uid now (nearF S.last x.no) x.n else wriT S x.uid x.gid now (nearF S.last x.no) x.text
def DoR (w0 : World) (B : Nat) (g : GhW) (f : GhF) (T : TreeD) (X : Xtra) (e : Ending) (w' : World) : Prop := e = .returned (.bool true) ∧ Mix w0 B g f T T X w'
set_option maxRecDepth 100000 in
set_option maxHeartbeats 4000000 in
theorem do20_any (B : Nat) (g : GhW) (f : GhF) (S : TreeD) (X : Xtra) (x : ActD) (w : World) (h : Two w B g f S X) (L : Live S) (hl : S.last ≤ 1000) (hx : x.text.length ≤ 2000) (_hBw : B ≤ w.heap.size) :
    Calls Try.prog 32 #[.pointer (some ⟨g.bW, 0, none⟩), .pointer (some ⟨f.bF, 0, none⟩), .agg #[.int .i64 x.kind, .int .i64 x.uid, .int .i64 x.gid, .int .i64 x.dir, .int .i64 x.no, .int .i64 x.n, .string (bs x.name), .string (bs x.text), .int .i64 x.to_, .string (bs x.as_)]] w (DoR w B g f (do20T S X.now x) X) := by
  obtain ⟨W1, hW1⟩ : ∃ W1, W1 = w.alloc (.cells #[.int .i64 x.kind, .int .i64 x.uid, .int .i64 x.gid, .int .i64 x.dir, .int .i64 x.no, .int .i64 x.n, .string (bs x.name), .string (bs x.text), .int .i64 x.to_, .string (bs x.as_)] 64) := ⟨_, rfl⟩
  have E1 : Ext w W1 := by rw [hW1]; exact (Ext.refl _).alloc _
  have B1 : Has W1 w.heap.size (.cells #[.int .i64 x.kind, .int .i64 x.uid, .int .i64 x.gid, .int .i64 x.dir, .int .i64 x.no, .int .i64 x.n, .string (bs x.name), .string (bs x.text), .int .i64 x.to_, .string (bs x.as_)] 64) := by rw [hW1]; exact Has.new _ _
  obtain ⟨b1, hb1⟩ : ∃ b, b = w.heap.size := ⟨_, rfl⟩
  have hlW := h.1.lt
  have hlF := h.2.lt
  have hnb : b1 ∉ g.list ++ f.list := by
    intro hb
    simp only [List.mem_append, GhW.list, GhF.list, List.mem_cons, List.not_mem_nil, or_false] at hb
    omega
  have M1 : Mix W1 B g f S S X W1 := Mix.start (h.1.ext E1) (h.2.ext E1)
  have hl1 := L.last
  have HL := Lib.hid L
  have HT : Hid (do20T S X.now x = if x.kind = 0 then modeT S x.uid X.now (nearF S.last x.no) x.n else if x.kind = 1 then ownrT S x.uid X.now (nearF S.last x.no) x.n x.to_ else if x.kind = 2 then timeT S x.uid X.now (nearF S.last x.no) x.n else wriT S x.uid x.gid X.now (nearF S.last x.no) x.text) := by show _ = _; rfl
  have c0 : W1.cell? ⟨w.heap.size, 0, none⟩ = some (.int .i64 x.kind) := B1.cell 0
  have c4 : W1.cell? ⟨w.heap.size, 4, none⟩ = some (.int .i64 x.no) := B1.cell 4
  have z1 := B1.lt
  have F1 := h.2.ext E1
  rw [← hb1] at B1
  clear L
  go_enter Try.func32, Try.ntmps32
  go_upto_region 1 with fail
  rw [← hW1]
  clear hW1
  go_wp2_with fail
  refine (near_any B f S X x.no _ F1 (by omega) (by omega)).mono ?_
  rintro e w2 ⟨rfl, b2⟩
  have M2 := M1.ext b2
  have B2 := B1.ext b2
  have HB1 := Lib.hid B1
  have HE1 := Lib.hid E1
  have c2 : w2.cell? ⟨w.heap.size, 0, none⟩ = some (.int .i64 x.kind) := (b2.cell z1).trans c0
  have z2 := B2.lt
  obtain ⟨no, hno⟩ : ∃ no, no = nearF S.last x.no := ⟨_, rfl⟩
  rw [← hno]
  rw [← hno] at HT
  clear c0 c4 z1 F1 B1 E1 hno
  rw [← hb1] at c2 ⊢
  clear hb1
  by_cases c0 : x.kind = 0
  · have t0 : (x.kind == 0) = true := by simpa using c0
    have hT : Hid (do20T S X.now x = modeT S x.uid X.now no x.n) := by show _ = _; rw [HT.out];  rw [if_pos c0]
    obtain ⟨T, hT2⟩ : ∃ T, T = modeT S x.uid X.now no x.n := ⟨_, rfl⟩
    obtain ⟨e0, he0⟩ : ∃ e0, e0 = modeE S x.uid no x.n := ⟨_, rfl⟩
    have HT2 := Lib.hid hT2
    have HE0 := Lib.hid he0
    clear HT hT2 he0
    clear c0
    go_upto_region 4 with fail
    obtain ⟨Ph, hPh⟩ : ∃ Ph, Ph = ph2 (Mix W1 B g f S S X) (Mix W1 B g f T S X) (Mix W1 B g f T T X) := ⟨_, rfl⟩
    have HV : Hid (Ph 0 w2.drew) := by show Ph 0 _; rw [hPh]; exact M2.ext (Ext.refl _).drew
    have hne : Nonempty (Hp Ph) := ⟨⟨0, _, HV.out⟩⟩
    have KQ : Hid (∀ w', Ph 2 w' → Mix W1 B g f T T X w') := by show ∀ w', _; intro w' hw; rw [hPh] at hw; exact hw
    have ux : ∀ u : Hp Ph, Has u.w b1 (.cells #[.int .i64 x.kind, .int .i64 x.uid, .int .i64 x.gid, .int .i64 x.dir, .int .i64 x.no, .int .i64 x.n, .string (bs x.name), .string (bs x.text), .int .i64 x.to_, .string (bs x.as_)] 64) := by
      rw [hPh]
      have hk : ∀ (T S : TreeD) (w' : World), Mix W1 B g f T S X w' → Has w' b1 (.cells #[.int .i64 x.kind, .int .i64 x.uid, .int .i64 x.gid, .int .i64 x.dir, .int .i64 x.no, .int .i64 x.n, .string (bs x.name), .string (bs x.text), .int .i64 x.to_, .string (bs x.as_)] 64) := fun T S w' h' => h'.has HB1.out hnb
      exact ph2_all (T := fun w' => Has w' b1 (.cells #[.int .i64 x.kind, .int .i64 x.uid, .int .i64 x.gid, .int .i64 x.dir, .int .i64 x.no, .int .i64 x.n, .string (bs x.name), .string (bs x.text), .int .i64 x.to_, .string (bs x.as_)] 64)) (hk _ _) (hk _ _) (hk _ _)
    have u1 : ∀ u : Hp Ph, u.w.cell? ⟨b1, 1, none⟩ = some (.int .i64 x.uid) := fun u => (ux u).cell 1
    have u2 : ∀ u : Hp Ph, u.w.cell? ⟨b1, 2, none⟩ = some (.int .i64 x.gid) := fun u => (ux u).cell 2
    have u5 : ∀ u : Hp Ph, u.w.cell? ⟨b1, 5, none⟩ = some (.int .i64 x.n) := fun u => (ux u).cell 5
    have un : ∀ u : Hp Ph, u.w.cell? ⟨f.bF, 3, none⟩ = some (.int .i64 X.now) := by
      rw [hPh]
      exact ph2_all (T := fun w' => w'.cell? ⟨f.bF, 3, none⟩ = some (.int .i64 X.now)) (fun _ h' => Mix.now h') (fun _ h' => Mix.now h') (fun _ h' => Mix.now h')
    have P0 : Ph 0 = Mix W1 B g f S S X := by rw [hPh]; rfl
    have P1 : Ph 1 = Mix W1 B g f T S X := by rw [hPh]; rfl
    have P2 : Ph 2 = Mix W1 B g f T T X := by rw [hPh]; rfl
    have KC0 : Hid (∀ u : Wc (Ph 0), Calls Try.prog 105 #[.pointer (some ⟨g.bW, 0, none⟩), .agg #[.int .i64 x.uid, .int .i64 x.gid], .int .i64 X.now, .int .i64 no, .int .i64 x.n] u.w (fun e w' => e = .returned (.int .i64 e0) ∧ Ph 1 w')) := by
      show ∀ u : Wc (Ph 0), _
      rintro ⟨u, hu⟩
      dsimp only
      rw [P0] at hu
      rw [P1]
      refine Mix.callW (T := S) hu fun g1 hg hK => ?_
      rw [HT2.out, HE0.out, ← hg]
      exact (pmode_any B g1 S x.uid x.gid X.now no x.n _ hK HL.out.devs HL.out.nos).mono fun _ _ hh => hh.to
    have KC1 : Hid (∀ u : Wc (Ph 1), Calls Try.prog 109 #[.pointer (some ⟨f.bF, 0, none⟩), .agg #[.int .i64 x.uid, .int .i64 x.gid], .int .i64 no, .int .i64 x.n] u.w (fun e w' => e = .returned (.int .i64 e0) ∧ Ph 2 w')) := by
      show ∀ u : Wc (Ph 1), _
      rintro ⟨u, hu⟩
      dsimp only
      rw [P1] at hu
      rw [P2]
      refine Mix.callF (S := S) (X := X) hu fun f1 hf hF => ?_
      rw [HT2.out, HE0.out, ← hf]
      exact (rmode_any B f1 S X x.uid x.gid no x.n _ hF (by have := HL.out.count; omega) HL.out.nos).mono fun _ _ hh => hh.to
    clear hPh P0 P1 P2 ux M2 z2 HB1
    refine wp_region_phase Ph [10, 17] (by kernel_rfl) (by kernel_rfl) (by kernel_rfl) HV.out ?_
    repeat (first
      | (refine wpLexE_plain (by kernel_rfl) (fun K hK => ?_)
         go_simp
         refine hK _ ?_
         clear hK K)
      | (refine wpLexE_change 0 (by kernel_rfl) rfl (fun K hK => ?_)
         go_simp
         apply Exists.intro
         refine ⟨KC0.out, hK _ ?_⟩
         clear hK K)
      | (refine wpLexE_change 1 (by kernel_rfl) rfl (fun K hK => ?_)
         go_simp
         apply Exists.intro
         refine ⟨KC1.out, hK _ ?_⟩
         clear hK K))
    refine wpLexE_nil ?_
    intro w5 hw5
    have M5 := KQ.out _ hw5
    clear u1 u2 u5 un KC0 KC1 HV hw5
    go_wp2_with fail
    go_ret
    exact ⟨rfl, by rw [hT.out, ← HT2.out]; exact M5.base HE1.out⟩
  · have t0 : (x.kind == 0) = false := by simpa using c0
    by_cases c1 : x.kind = 1
    · have t1 : (x.kind == 1) = true := by simpa using c1
      have hT : Hid (do20T S X.now x = ownrT S x.uid X.now no x.n x.to_) := by show _ = _; rw [HT.out]; rw [if_neg c0]; rw [if_pos c1]
      obtain ⟨T, hT2⟩ : ∃ T, T = ownrT S x.uid X.now no x.n x.to_ := ⟨_, rfl⟩
      obtain ⟨e0, he0⟩ : ∃ e0, e0 = ownrE S x.uid no x.n x.to_ := ⟨_, rfl⟩
      have HT2 := Lib.hid hT2
      have HE0 := Lib.hid he0
      clear HT hT2 he0
      clear c0 c1
      go_upto_region 6 with fail
      obtain ⟨Ph, hPh⟩ : ∃ Ph, Ph = ph2 (Mix W1 B g f S S X) (Mix W1 B g f T S X) (Mix W1 B g f T T X) := ⟨_, rfl⟩
      have HV : Hid (Ph 0 w2.drew) := by show Ph 0 _; rw [hPh]; exact M2.ext (Ext.refl _).drew
      have hne : Nonempty (Hp Ph) := ⟨⟨0, _, HV.out⟩⟩
      have KQ : Hid (∀ w', Ph 2 w' → Mix W1 B g f T T X w') := by show ∀ w', _; intro w' hw; rw [hPh] at hw; exact hw
      have ux : ∀ u : Hp Ph, Has u.w b1 (.cells #[.int .i64 x.kind, .int .i64 x.uid, .int .i64 x.gid, .int .i64 x.dir, .int .i64 x.no, .int .i64 x.n, .string (bs x.name), .string (bs x.text), .int .i64 x.to_, .string (bs x.as_)] 64) := by
        rw [hPh]
        have hk : ∀ (T S : TreeD) (w' : World), Mix W1 B g f T S X w' → Has w' b1 (.cells #[.int .i64 x.kind, .int .i64 x.uid, .int .i64 x.gid, .int .i64 x.dir, .int .i64 x.no, .int .i64 x.n, .string (bs x.name), .string (bs x.text), .int .i64 x.to_, .string (bs x.as_)] 64) := fun T S w' h' => h'.has HB1.out hnb
        exact ph2_all (T := fun w' => Has w' b1 (.cells #[.int .i64 x.kind, .int .i64 x.uid, .int .i64 x.gid, .int .i64 x.dir, .int .i64 x.no, .int .i64 x.n, .string (bs x.name), .string (bs x.text), .int .i64 x.to_, .string (bs x.as_)] 64)) (hk _ _) (hk _ _) (hk _ _)
      have u1 : ∀ u : Hp Ph, u.w.cell? ⟨b1, 1, none⟩ = some (.int .i64 x.uid) := fun u => (ux u).cell 1
      have u2 : ∀ u : Hp Ph, u.w.cell? ⟨b1, 2, none⟩ = some (.int .i64 x.gid) := fun u => (ux u).cell 2
      have u5 : ∀ u : Hp Ph, u.w.cell? ⟨b1, 5, none⟩ = some (.int .i64 x.n) := fun u => (ux u).cell 5
      have u8 : ∀ u : Hp Ph, u.w.cell? ⟨b1, 8, none⟩ = some (.int .i64 x.to_) := fun u => (ux u).cell 8
      have un : ∀ u : Hp Ph, u.w.cell? ⟨f.bF, 3, none⟩ = some (.int .i64 X.now) := by
        rw [hPh]
        exact ph2_all (T := fun w' => w'.cell? ⟨f.bF, 3, none⟩ = some (.int .i64 X.now)) (fun _ h' => Mix.now h') (fun _ h' => Mix.now h') (fun _ h' => Mix.now h')
      have P0 : Ph 0 = Mix W1 B g f S S X := by rw [hPh]; rfl
      have P1 : Ph 1 = Mix W1 B g f T S X := by rw [hPh]; rfl
      have P2 : Ph 2 = Mix W1 B g f T T X := by rw [hPh]; rfl
      have KC0 : Hid (∀ u : Wc (Ph 0), Calls Try.prog 107 #[.pointer (some ⟨g.bW, 0, none⟩), .agg #[.int .i64 x.uid, .int .i64 x.gid], .int .i64 X.now, .int .i64 no, .int .i64 x.n, .int .i64 x.to_] u.w (fun e w' => e = .returned (.int .i64 e0) ∧ Ph 1 w')) := by
        show ∀ u : Wc (Ph 0), _
        rintro ⟨u, hu⟩
        dsimp only
        rw [P0] at hu
        rw [P1]
        refine Mix.callW (T := S) hu fun g1 hg hK => ?_
        rw [HT2.out, HE0.out, ← hg]
        exact (powner_any B g1 S x.uid x.gid X.now no x.n x.to_ _ hK HL.out.devs HL.out.nos).mono fun _ _ hh => hh.to
      have KC1 : Hid (∀ u : Wc (Ph 1), Calls Try.prog 110 #[.pointer (some ⟨f.bF, 0, none⟩), .agg #[.int .i64 x.uid, .int .i64 x.gid], .int .i64 no, .int .i64 x.n, .int .i64 x.to_] u.w (fun e w' => e = .returned (.int .i64 e0) ∧ Ph 2 w')) := by
        show ∀ u : Wc (Ph 1), _
        rintro ⟨u, hu⟩
        dsimp only
        rw [P1] at hu
        rw [P2]
        refine Mix.callF (S := S) (X := X) hu fun f1 hf hF => ?_
        rw [HT2.out, HE0.out, ← hf]
        exact (rowner_any B f1 S X x.uid x.gid no x.n x.to_ _ hF (by have := HL.out.count; omega) HL.out.nos).mono fun _ _ hh => hh.to
      clear hPh P0 P1 P2 ux M2 z2 HB1
      refine wp_region_phase Ph [12, 21] (by kernel_rfl) (by kernel_rfl) (by kernel_rfl) HV.out ?_
      repeat (first
        | (refine wpLexE_plain (by kernel_rfl) (fun K hK => ?_)
           go_simp
           refine hK _ ?_
           clear hK K)
        | (refine wpLexE_change 0 (by kernel_rfl) rfl (fun K hK => ?_)
           go_simp
           apply Exists.intro
           refine ⟨KC0.out, hK _ ?_⟩
           clear hK K)
        | (refine wpLexE_change 1 (by kernel_rfl) rfl (fun K hK => ?_)
           go_simp
           apply Exists.intro
           refine ⟨KC1.out, hK _ ?_⟩
           clear hK K))
      refine wpLexE_nil ?_
      intro w5 hw5
      have M5 := KQ.out _ hw5
      clear u1 u2 u5 u8 un KC0 KC1 HV hw5
      go_wp2_with fail
      go_ret
      exact ⟨rfl, by rw [hT.out, ← HT2.out]; exact M5.base HE1.out⟩
    · have t1 : (x.kind == 1) = false := by simpa using c1
      by_cases c2 : x.kind = 2
      · have t2 : (x.kind == 2) = true := by simpa using c2
        have hT : Hid (do20T S X.now x = timeT S x.uid X.now no x.n) := by show _ = _; rw [HT.out]; rw [if_neg c0]; rw [if_neg c1]; rw [if_pos c2]
        obtain ⟨T, hT2⟩ : ∃ T, T = timeT S x.uid X.now no x.n := ⟨_, rfl⟩
        obtain ⟨e0, he0⟩ : ∃ e0, e0 = timeE S x.uid no x.n := ⟨_, rfl⟩
        have HT2 := Lib.hid hT2
        have HE0 := Lib.hid he0
        clear HT hT2 he0
        clear c0 c1 c2
        go_upto_region 8 with fail
        obtain ⟨Ph, hPh⟩ : ∃ Ph, Ph = ph2 (Mix W1 B g f S S X) (Mix W1 B g f T S X) (Mix W1 B g f T T X) := ⟨_, rfl⟩
        have HV : Hid (Ph 0 w2.drew) := by show Ph 0 _; rw [hPh]; exact M2.ext (Ext.refl _).drew
        have hne : Nonempty (Hp Ph) := ⟨⟨0, _, HV.out⟩⟩
        have KQ : Hid (∀ w', Ph 2 w' → Mix W1 B g f T T X w') := by show ∀ w', _; intro w' hw; rw [hPh] at hw; exact hw
        have ux : ∀ u : Hp Ph, Has u.w b1 (.cells #[.int .i64 x.kind, .int .i64 x.uid, .int .i64 x.gid, .int .i64 x.dir, .int .i64 x.no, .int .i64 x.n, .string (bs x.name), .string (bs x.text), .int .i64 x.to_, .string (bs x.as_)] 64) := by
          rw [hPh]
          have hk : ∀ (T S : TreeD) (w' : World), Mix W1 B g f T S X w' → Has w' b1 (.cells #[.int .i64 x.kind, .int .i64 x.uid, .int .i64 x.gid, .int .i64 x.dir, .int .i64 x.no, .int .i64 x.n, .string (bs x.name), .string (bs x.text), .int .i64 x.to_, .string (bs x.as_)] 64) := fun T S w' h' => h'.has HB1.out hnb
          exact ph2_all (T := fun w' => Has w' b1 (.cells #[.int .i64 x.kind, .int .i64 x.uid, .int .i64 x.gid, .int .i64 x.dir, .int .i64 x.no, .int .i64 x.n, .string (bs x.name), .string (bs x.text), .int .i64 x.to_, .string (bs x.as_)] 64)) (hk _ _) (hk _ _) (hk _ _)
        have u1 : ∀ u : Hp Ph, u.w.cell? ⟨b1, 1, none⟩ = some (.int .i64 x.uid) := fun u => (ux u).cell 1
        have u2 : ∀ u : Hp Ph, u.w.cell? ⟨b1, 2, none⟩ = some (.int .i64 x.gid) := fun u => (ux u).cell 2
        have u5 : ∀ u : Hp Ph, u.w.cell? ⟨b1, 5, none⟩ = some (.int .i64 x.n) := fun u => (ux u).cell 5
        have un : ∀ u : Hp Ph, u.w.cell? ⟨f.bF, 3, none⟩ = some (.int .i64 X.now) := by
          rw [hPh]
          exact ph2_all (T := fun w' => w'.cell? ⟨f.bF, 3, none⟩ = some (.int .i64 X.now)) (fun _ h' => Mix.now h') (fun _ h' => Mix.now h') (fun _ h' => Mix.now h')
        have P0 : Ph 0 = Mix W1 B g f S S X := by rw [hPh]; rfl
        have P1 : Ph 1 = Mix W1 B g f T S X := by rw [hPh]; rfl
        have P2 : Ph 2 = Mix W1 B g f T T X := by rw [hPh]; rfl
        have KC0 : Hid (∀ u : Wc (Ph 0), Calls Try.prog 108 #[.pointer (some ⟨g.bW, 0, none⟩), .agg #[.int .i64 x.uid, .int .i64 x.gid], .int .i64 X.now, .int .i64 no, .int .i64 x.n] u.w (fun e w' => e = .returned (.int .i64 e0) ∧ Ph 1 w')) := by
          show ∀ u : Wc (Ph 0), _
          rintro ⟨u, hu⟩
          dsimp only
          rw [P0] at hu
          rw [P1]
          refine Mix.callW (T := S) hu fun g1 hg hK => ?_
          rw [HT2.out, HE0.out, ← hg]
          exact (ptime_any B g1 S x.uid x.gid X.now no x.n _ hK HL.out.devs HL.out.nos).mono fun _ _ hh => hh.to
        have KC1 : Hid (∀ u : Wc (Ph 1), Calls Try.prog 111 #[.pointer (some ⟨f.bF, 0, none⟩), .agg #[.int .i64 x.uid, .int .i64 x.gid], .int .i64 no, .int .i64 x.n] u.w (fun e w' => e = .returned (.int .i64 e0) ∧ Ph 2 w')) := by
          show ∀ u : Wc (Ph 1), _
          rintro ⟨u, hu⟩
          dsimp only
          rw [P1] at hu
          rw [P2]
          refine Mix.callF (S := S) (X := X) hu fun f1 hf hF => ?_
          rw [HT2.out, HE0.out, ← hf]
          exact (rtime_any B f1 S X x.uid x.gid no x.n _ hF (by have := HL.out.count; omega) HL.out.nos).mono fun _ _ hh => hh.to
        clear hPh P0 P1 P2 ux M2 z2 HB1
        refine wp_region_phase Ph [10, 17] (by kernel_rfl) (by kernel_rfl) (by kernel_rfl) HV.out ?_
        repeat (first
          | (refine wpLexE_plain (by kernel_rfl) (fun K hK => ?_)
             go_simp
             refine hK _ ?_
             clear hK K)
          | (refine wpLexE_change 0 (by kernel_rfl) rfl (fun K hK => ?_)
             go_simp
             apply Exists.intro
             refine ⟨KC0.out, hK _ ?_⟩
             clear hK K)
          | (refine wpLexE_change 1 (by kernel_rfl) rfl (fun K hK => ?_)
             go_simp
             apply Exists.intro
             refine ⟨KC1.out, hK _ ?_⟩
             clear hK K))
        refine wpLexE_nil ?_
        intro w5 hw5
        have M5 := KQ.out _ hw5
        clear u1 u2 u5 un KC0 KC1 HV hw5
        go_wp2_with fail
        go_ret
        exact ⟨rfl, by rw [hT.out, ← HT2.out]; exact M5.base HE1.out⟩
      · have t2 : (x.kind == 2) = false := by simpa using c2
        have hT : Hid (do20T S X.now x = wriT S x.uid x.gid X.now no x.text) := by show _ = _; rw [HT.out]; rw [if_neg c0]; rw [if_neg c1]; rw [if_neg c2]
        obtain ⟨T, hT2⟩ : ∃ T, T = wriT S x.uid x.gid X.now no x.text := ⟨_, rfl⟩
        obtain ⟨e0, he0⟩ : ∃ e0, e0 = wriE S x.uid x.gid no x.text.length := ⟨_, rfl⟩
        have HT2 := Lib.hid hT2
        have HE0 := Lib.hid he0
        clear HT hT2 he0
        clear c0 c1 c2
        go_upto_region 9 with fail
        obtain ⟨Ph, hPh⟩ : ∃ Ph, Ph = ph2 (Mix W1 B g f S S X) (Mix W1 B g f T S X) (Mix W1 B g f T T X) := ⟨_, rfl⟩
        have HV : Hid (Ph 0 w2.drew) := by show Ph 0 _; rw [hPh]; exact M2.ext (Ext.refl _).drew
        have hne : Nonempty (Hp Ph) := ⟨⟨0, _, HV.out⟩⟩
        have KQ : Hid (∀ w', Ph 2 w' → Mix W1 B g f T T X w') := by show ∀ w', _; intro w' hw; rw [hPh] at hw; exact hw
        have ux : ∀ u : Hp Ph, Has u.w b1 (.cells #[.int .i64 x.kind, .int .i64 x.uid, .int .i64 x.gid, .int .i64 x.dir, .int .i64 x.no, .int .i64 x.n, .string (bs x.name), .string (bs x.text), .int .i64 x.to_, .string (bs x.as_)] 64) := by
          rw [hPh]
          have hk : ∀ (T S : TreeD) (w' : World), Mix W1 B g f T S X w' → Has w' b1 (.cells #[.int .i64 x.kind, .int .i64 x.uid, .int .i64 x.gid, .int .i64 x.dir, .int .i64 x.no, .int .i64 x.n, .string (bs x.name), .string (bs x.text), .int .i64 x.to_, .string (bs x.as_)] 64) := fun T S w' h' => h'.has HB1.out hnb
          exact ph2_all (T := fun w' => Has w' b1 (.cells #[.int .i64 x.kind, .int .i64 x.uid, .int .i64 x.gid, .int .i64 x.dir, .int .i64 x.no, .int .i64 x.n, .string (bs x.name), .string (bs x.text), .int .i64 x.to_, .string (bs x.as_)] 64)) (hk _ _) (hk _ _) (hk _ _)
        have u1 : ∀ u : Hp Ph, u.w.cell? ⟨b1, 1, none⟩ = some (.int .i64 x.uid) := fun u => (ux u).cell 1
        have u2 : ∀ u : Hp Ph, u.w.cell? ⟨b1, 2, none⟩ = some (.int .i64 x.gid) := fun u => (ux u).cell 2
        have u7 : ∀ u : Hp Ph, u.w.cell? ⟨b1, 7, none⟩ = some (.string (bs x.text)) := fun u => (ux u).cell 7
        have un : ∀ u : Hp Ph, u.w.cell? ⟨f.bF, 3, none⟩ = some (.int .i64 X.now) := by
          rw [hPh]
          exact ph2_all (T := fun w' => w'.cell? ⟨f.bF, 3, none⟩ = some (.int .i64 X.now)) (fun _ h' => Mix.now h') (fun _ h' => Mix.now h') (fun _ h' => Mix.now h')
        have P0 : Ph 0 = Mix W1 B g f S S X := by rw [hPh]; rfl
        have P1 : Ph 1 = Mix W1 B g f T S X := by rw [hPh]; rfl
        have P2 : Ph 2 = Mix W1 B g f T T X := by rw [hPh]; rfl
        have KC0 : Hid (∀ u : Wc (Ph 0), Calls Try.prog 106 #[.pointer (some ⟨g.bW, 0, none⟩), .agg #[.int .i64 x.uid, .int .i64 x.gid], .int .i64 X.now, .int .i64 no, .string (bs x.text)] u.w (fun e w' => e = .returned (.int .i64 e0) ∧ Ph 1 w')) := by
          show ∀ u : Wc (Ph 0), _
          rintro ⟨u, hu⟩
          dsimp only
          rw [P0] at hu
          rw [P1]
          refine Mix.callW (T := S) hu fun g1 hg hK => ?_
          rw [HT2.out, HE0.out, ← hg]
          exact (pwri_any B g1 S x.uid x.gid X.now no x.text _ hK HL.out.devs HL.out.eight HL.out.roots HL.out.nos HL.out.on (by omega)).mono fun _ _ hh => hh.to
        have KC1 : Hid (∀ u : Wc (Ph 1), Calls Try.prog 112 #[.pointer (some ⟨f.bF, 0, none⟩), .agg #[.int .i64 x.uid, .int .i64 x.gid], .int .i64 no, .string (bs x.text)] u.w (fun e w' => e = .returned (.int .i64 e0) ∧ Ph 2 w')) := by
          show ∀ u : Wc (Ph 1), _
          rintro ⟨u, hu⟩
          dsimp only
          rw [P1] at hu
          rw [P2]
          refine Mix.callF (S := S) (X := X) hu fun f1 hf hF => ?_
          rw [HT2.out, HE0.out, ← hf]
          exact (rwri_any B f1 S X x.uid x.gid no x.text _ hF (by have := HL.out.count; omega) HL.out.eight HL.out.roots HL.out.nos HL.out.on (by omega)).mono fun _ _ hh => hh.to
        clear hPh P0 P1 P2 ux M2 z2 HB1
        refine wp_region_phase Ph [10, 17] (by kernel_rfl) (by kernel_rfl) (by kernel_rfl) HV.out ?_
        repeat (first
          | (refine wpLexE_plain (by kernel_rfl) (fun K hK => ?_)
             go_simp
             refine hK _ ?_
             clear hK K)
          | (refine wpLexE_change 0 (by kernel_rfl) rfl (fun K hK => ?_)
             go_simp
             apply Exists.intro
             refine ⟨KC0.out, hK _ ?_⟩
             clear hK K)
          | (refine wpLexE_change 1 (by kernel_rfl) rfl (fun K hK => ?_)
             go_simp
             apply Exists.intro
             refine ⟨KC1.out, hK _ ?_⟩
             clear hK K))
        refine wpLexE_nil ?_
        intro w5 hw5
        have M5 := KQ.out _ hw5
        clear u1 u2 u7 un KC0 KC1 HV hw5
        go_wp2_with fail
        go_ret
        exact ⟨rfl, by rw [hT.out, ← HT2.out]; exact M5.base HE1.out⟩
end Go.Proofs.Ytebghednhjaniaa

namespace Go.Proofs.Ytebghednhjaniaa
open Go.ChangeShapes Go.WideShapes Go.ChangeAt Go.RowKit

/-- A list of one item, as it lies in its own block. -/
theorem items_one {w : World} {b : Nat} {t : TypeId} (it : ItemD) (h : Has w b (.cells #[.int .i64 it.dir, .string (bs it.name), .int .i64 it.kind, .int .i64 it.mode, .int .i64 it.uid, .int .i64 it.gid, .string (bs it.data), .int .i64 it.n] t)) : ItemsAt w (some ⟨b, 0, none⟩) [it] := by
  refine .inr ⟨b, 0, rfl, h.lt, fun k hk => ?_⟩
  have : k = 0 := by simpa using hk
  subst this
  exact ⟨h.cell 0, h.cell 1, h.cell 2, h.cell 3, h.cell 4, h.cell 5, h.cell 6, h.cell 7⟩
def exI : ItemD := ⟨0, [102], 2, 384, 5, 0, [], 0⟩
def exF (mode uid gid mt ct : Int) (data : List UInt8) : NodeD := ⟨2, 1, 2, mode, uid, gid, mt, ct, 1, 0, data, []⟩
def exT (f : NodeD) (b : Int) : TreeD := ⟨[⟨1, 1, 1, 493, 0, 0, 0, 0, 1, 1, [], [([102], 2)]⟩, f], [⟨1, 0, ⟨b, 2, 9, 9⟩⟩], 2⟩
theorem ex0 : growAll (firstT 9 9) [exI] = exT (exF 384 5 0 0 0 []) 1 := by kernel_rfl
theorem ex1 : modeE (exT (exF 384 5 0 0 0 []) 1) 6 2 0 = 4 ∧ modeT (exT (exF 384 5 0 0 0 []) 1) 6 1 2 0 = exT (exF 384 5 0 0 0 []) 1 := ⟨by kernel_rfl, by kernel_rfl⟩
theorem ex2 : modeE (exT (exF 384 5 0 0 0 []) 1) 5 2 256 = 0 ∧ modeT (exT (exF 384 5 0 0 0 []) 1) 5 1 2 256 = exT (exF 256 5 0 0 1 []) 1 := ⟨by kernel_rfl, by kernel_rfl⟩
theorem ex3 : wriE (exT (exF 256 5 0 0 1 []) 1) 5 0 2 1 = 6 ∧ wriT (exT (exF 256 5 0 0 1 []) 1) 5 0 2 2 [120] = exT (exF 256 5 0 0 1 []) 1 := ⟨by kernel_rfl, by kernel_rfl⟩
theorem ex4 : ownrE (exT (exF 256 5 0 0 1 []) 1) 0 2 7 8 = 0 ∧ ownrT (exT (exF 256 5 0 0 1 []) 1) 0 3 2 7 8 = exT (exF 256 7 8 0 3 []) 1 := ⟨by kernel_rfl, by kernel_rfl⟩
theorem ex5 : timeE (exT (exF 256 7 8 0 3 []) 1) 7 2 99 = 0 ∧ timeT (exT (exF 256 7 8 0 3 []) 1) 7 4 2 99 = exT (exF 256 7 8 99 4 []) 1 := ⟨by kernel_rfl, by kernel_rfl⟩
theorem ex6 : wriE (exT (exF 256 7 8 99 4 []) 1) 0 0 2 2 = 0 ∧ wriT (exT (exF 256 7 8 99 4 []) 1) 0 0 5 2 [120, 121] = exT (exF 256 7 8 5 5 [120, 121]) 2 := ⟨by kernel_rfl, by kernel_rfl⟩
theorem ex7 : getN (exT (exF 256 7 8 5 5 [120, 121]) 2).nodes 2 = exF 256 7 8 5 5 [120, 121] ∧ isN (exT (exF 256 7 8 5 5 [120, 121]) 2).nodes 2 = true := ⟨by kernel_rfl, by kernel_rfl⟩
theorem exT_nos {f : NodeD} (b : Int) (h : f.no = 2) : NosUp (exT f b).nodes (exT f b).last := by
  refine ⟨?_, ?_⟩
  · unfold exT; simp [h]
  · intro n hn
    simp only [exT, List.mem_cons, List.not_mem_nil, or_false] at hn ⊢
    rcases hn with rfl | rfl
    · exact ⟨by show (1 : Int) ≤ 1; decide, by show (1 : Int) ≤ 2; decide⟩
    · omega
theorem exT_roots {f : NodeD} {b : Int} (h0 : 0 ≤ b) (h1 : b ≤ 9) : RootsOk (exT f b).devs := by
  intro d hd
  simp only [exT, List.mem_singleton] at hd
  subst hd
  exact ⟨by show (0 : Int) < 1; decide, by unfold Fine; simp only; omega⟩
theorem exT_dev {f : NodeD} {b : Int} (h : f.dev = 1) (h2 : f.data.length ≤ 1048576) : OnDev (exT f b) := by
  intro n hn
  simp only [exT, List.mem_cons, List.not_mem_nil, or_false] at hn
  rcases hn with rfl | rfl
  · exact ⟨rfl, by simp⟩
  · exact ⟨by rw [h]; rfl, h2⟩
set_option maxRecDepth 100000 in
set_option maxHeartbeats 8000000 in
theorem awake20 (w : World) : Calls Try.prog 31 #[] w (Ret w (.bool true)) := by
  go_enter Try.func31, Try.ntmps31
  go_wp2_with fail
  have I1 := Has.new w (.cells #[.int .i64 exI.dir, .string (bs exI.name), .int .i64 exI.kind, .int .i64 exI.mode, .int .i64 exI.uid, .int .i64 exI.gid, .string (bs exI.data), .int .i64 exI.n] 138)
  refine (growAll_any 9 9 (some ⟨w.heap.size, 0, none⟩) [exI] 1 _ (by decide) ⟨by intro x hx; rw [List.mem_singleton] at hx; subst hx; exact ⟨by decide, by decide⟩, by decide⟩ (items_one exI I1)).mono ?_
  rintro e w1 ⟨g, f, rfl, ⟨K1, F1⟩, E1⟩
  rw [ex0] at K1
  have X1 : Ext w w1 := ((Ext.refl _).alloc _).trans E1
  clear F1
  obtain ⟨B, hB⟩ : ∃ B, B = (w.alloc (.cells #[.int .i64 exI.dir, .string (bs exI.name), .int .i64 exI.kind, .int .i64 exI.mode, .int .i64 exI.uid, .int .i64 exI.gid, .string (bs exI.data), .int .i64 exI.n] 138)).heap.size := ⟨_, rfl⟩
  have hBw : w.heap.size ≤ B := by rw [hB]; simp
  have K1' : WAt w1 B g (exT (exF 384 5 0 0 0 []) 1) := by rw [hB]; exact K1
  clear hB K1 I1
  have aft : ∀ {S : TreeD} {v v' : World}, WAt v B g S → Ext w v → Only g.list v v' → Ext w v' := by
    intro S v v' hK hX hO
    exact hO.after hX fun x hx => by have := (hK.apart x hx).1; omega
  have HA := @aft
  clear aft E1
  go_wp2_with fail
  refine (pmode_any B g _ 6 0 1 2 0 _ K1' (by decide) (exT_nos 1 rfl)).mono ?_
  rintro e w2 ⟨rfl, K2, O2⟩
  have X2 := HA K1' X1 O2
  rw [ex1.1]
  rw [ex1.2] at K2
  clear K1' O2 X1
  go_wp2_with fail
  refine (pmode_any B g _ 5 0 1 2 256 _ K2 (by decide) (exT_nos 1 rfl)).mono ?_
  rintro e w3 ⟨rfl, K3, O3⟩
  have X3 := HA K2 X2 O3
  rw [ex2.1]
  rw [ex2.2] at K3
  clear K2 O3 X2
  go_wp2_with fail
  refine (pwri_any B g _ 5 0 2 2 [120] _ K3 (by decide) (by decide) (exT_roots (by decide) (by decide)) (exT_nos 1 rfl) (exT_dev rfl (by decide)) (by decide)).mono ?_
  rintro e w4 ⟨rfl, K4, O4⟩
  have X4 := HA K3 X3 O4
  rw [show (([120] : List UInt8).length : Int) = 1 from rfl, ex3.1]
  rw [ex3.2] at K4
  clear K3 O4 X3
  go_wp2_with fail
  refine (powner_any B g _ 0 0 3 2 7 8 _ K4 (by decide) (exT_nos 1 rfl)).mono ?_
  rintro e w5 ⟨rfl, K5, O5⟩
  have X5 := HA K4 X4 O5
  rw [ex4.1]
  rw [ex4.2] at K5
  clear K4 O5 X4
  go_wp2_with fail
  refine (ptime_any B g _ 7 0 4 2 99 _ K5 (by decide) (exT_nos 1 rfl)).mono ?_
  rintro e w6 ⟨rfl, K6, O6⟩
  have X6 := HA K5 X5 O6
  rw [ex5.1]
  rw [ex5.2] at K6
  clear K5 O6 X5
  go_wp2_with fail
  refine (pwri_any B g _ 0 0 5 2 [120, 121] _ K6 (by decide) (by decide) (exT_roots (by decide) (by decide)) (exT_nos 1 rfl) (exT_dev rfl (by decide)) (by decide)).mono ?_
  rintro e w7 ⟨rfl, K7, O7⟩
  have X7 := HA K6 X6 O7
  rw [show (([120, 121] : List UInt8).length : Int) = 2 from rfl, ex6.1]
  rw [ex6.2] at K7
  clear K6 O7 X6
  obtain ⟨_, _, cd, hW, _⟩ := id K7
  have v0 : w7.cell? ⟨g.bW, 0, none⟩ = some (.pointer (some ⟨g.bT, 0, none⟩)) := hW.cell 0
  have vz := hW.lt
  clear hW
  go_wp2_with fail
  refine (tget_any B g.bT g.bM _ _ 2 _ K7.2.1).mono ?_
  rintro e w8 ⟨A8, c8, he, ok8, b8⟩
  rw [ex7.1, ex7.2] at he
  dsimp only [exF] at he
  rw [show bs [120, 121] = (⟨#[120, 121]⟩ : ByteArray) from rfl] at he
  subst he
  go_wp2_with fail
  go_ret
  exact Ret.mk rfl ((X7.trans b8).alloc _)
end Go.Proofs.Ytebghednhjaniaa

namespace Go.Proofs.Ytebghednhjaniaa
open Go.ChangeShapes Go.WideShapes Go.ChangeAt Go.RowKit

theorem tre_do20 {c : Nat} {S : TreeD} (h : Tre c S) (now : Int) (x : ActD) : Tre c (do20T S now x) := by
  unfold do20T
  split
  · exact tre_mode h ..
  · split
    · exact tre_ownr h ..
    · split
      · exact tre_time h ..
      · exact tre_wri h ..
theorem do20_last (S : TreeD) (now : Int) (x : ActD) : (do20T S now x).last = S.last := by
  unfold do20T
  split
  · exact modeT_last ..
  · split
    · exact ownrT_last ..
    · split
      · exact timeT_last ..
      · exact wriT_last ..
set_option maxRecDepth 100000 in
theorem alike_any (B : Nat) (g : GhW) (f : GhF) (S : TreeD) (X : Xtra) (w : World) (K : WAt w B g S) (F : FAt w B f S X) (H : Fit S) :
    Calls Try.prog 33 #[.pointer (some ⟨g.bW, 0, none⟩), .pointer (some ⟨f.bF, 0, none⟩)] w (Ret w (.bool true)) := by
  have KS := Lib.hid (same14_any B B g f S X w K F H)
  go_enter Try.func33, Try.ntmps33
  go_wp2_with fail
  refine KS.out.mono ?_
  rintro e w1 ⟨rfl, b1⟩
  go_wp2_with fail
  go_ret
  exact Ret.mk rfl b1
theorem FAt.setNow {w : World} {B : Nat} {f : GhF} {S : TreeD} {X : Xtra} (h : FAt w B f S X) (v : Int) : FAt (w.setCell ⟨f.bF, 3, none⟩ (.int .i64 v)) B f S { X with now := v } := by
  have h0 := h
  have ha := h.apart
  obtain ⟨n1, n2, _⟩ := h.ne
  obtain ⟨h1, cn, ce, h2, ⟨xs, h3, h5⟩, h4⟩ := h
  have o := Only.setCell w f.bF 3 (.int .i64 v)
  refine ⟨h1, cn, ce, h2.setCell 3 _, ⟨xs, ownsRow_only h3 o fun b hb => ?_, h5.only o (ha.sub (by simp))⟩, ownsRow_only h4 o fun b hb => ?_⟩
  · simp [Value.ownBlock] at hb; subst hb; simpa using Ne.symm n1
  · simp [Value.ownBlock] at hb; subst hb; simpa using Ne.symm n2
theorem Mix.setNow {w0 w : World} {B : Nat} {g : GhW} {f : GhF} {S T : TreeD} {X : Xtra} (h : Mix w0 B g f T S X w) (v : Int) : Mix w0 B g f T S { X with now := v } (w.setCell ⟨f.bF, 3, none⟩ (.int .i64 v)) := by
  obtain ⟨g1, f1, h1, h2, h3, h4, h5⟩ := h
  have := h4.setNow v
  rw [h2.1] at this
  refine Mix.refc h1 h2 h3 h4 h5 this ?_ (GhF.on_refl _ _)
  exact (Only.setCell w f.bF 3 (.int .i64 v)).mono (by intro x hx; rw [List.mem_singleton] at hx; subst hx; rw [← h2.1]; simp)
set_option maxRecDepth 100000 in
set_option maxHeartbeats 8000000 in
theorem attrPlays_any (A : Option Addr) (l : List ItemD) (cap : Nat) (A2 : Option Addr) (acts : List ActD) (cap2 : Nat) (w : World) (hA : ItemsAt w A l) (hlen : l.length ≤ 9223372036854775807) (hA2 : ActsAt w A2 acts) (hlen2 : acts.length ≤ 9223372036854775807) :
    Calls Try.prog 4 #[.slice A l.length cap, .slice A2 acts.length cap2] w (Ret w (.bool true)) := by
  obtain ⟨m, hm⟩ : ∃ m, m = l.length := ⟨_, rfl⟩
  obtain ⟨n, hn⟩ : ∃ n, n = acts.length := ⟨_, rfl⟩
  have hlen' := hlen
  have hlen2' := hlen2
  rw [← hm] at hlen' ⊢
  rw [← hn] at hlen2' ⊢
  have HM := Lib.hid hm
  have HN := Lib.hid hn
  have KF : Hid (Calls Try.prog 29 #[.slice A m cap] w (FewR w l)) := by show Calls _ _ _ _ _; rw [HM.out]; exact few14_any A l cap w hA hlen
  have KA : Hid (Calls Try.prog 30 #[.slice A2 n cap2] w (FewAR w acts)) := by show Calls _ _ _ _ _; rw [HN.out]; exact fewA_any A2 acts cap2 w hA2 hlen2
  clear hm hn
  go_enter Try.func4, Try.ntmps4
  go_wp2_with fail
  refine KF.out.mono ?_
  rintro e w1 ⟨rfl, ⟨hf, rfl⟩ | ⟨hf, rfl⟩⟩
  case inr =>
    go_wp2_with fail
    refine (awake20 _).mono ?_
    rintro e w3 ⟨rfl, b3⟩
    go_wp2_with fail
    go_ret
    exact Ret.mk rfl b3
  have HF := Lib.hid hf
  clear hf
  go_wp2_with fail
  refine KA.out.mono ?_
  rintro e w1 ⟨rfl, ⟨hf, rfl⟩ | ⟨hf, rfl⟩⟩
  case inr =>
    go_wp2_with fail
    refine (awake20 _).mono ?_
    rintro e w3 ⟨rfl, b3⟩
    go_wp2_with fail
    go_ret
    exact Ret.mk rfl b3
  have HFA := Lib.hid hf
  have hn30 : n ≤ 30 := by rw [HN.out]; exact hf.2
  have hG0 := tre_growAll (b := 60) (n := 60) (by decide) HF.out
  have hga := good_all (good_first (b := 60) (n := 60) (by decide)) l
  have hl40 := HF.out.2
  have KG : Hid (Calls Try.prog 19 #[.int .i64 60, .int .i64 60, .slice A m cap] w (GrowAllR w 60 60 l)) := by show Calls _ _ _ _ _; rw [HM.out]; exact growAll_any 60 60 A l cap w (by decide) HF.out hA
  clear hf KF KA
  go_wp2_with fail
  refine KG.out.mono ?_
  rintro e w3 ⟨g, f, rfl, ⟨K3, F3⟩, E3⟩
  obtain ⟨B, hB⟩ : ∃ B, B = w.heap.size := ⟨_, rfl⟩
  rw [← hB] at K3 F3
  obtain ⟨S, hS⟩ : ∃ S, S = growAll (firstT 60 60) l := ⟨_, rfl⟩
  rw [← hS] at K3 F3
  have hSl : S.last ≤ 41 := by
    have h2 := hga.2
    rw [hS]
    rw [show growAll (rootT emptyT 0 60 60) l = growAll (firstT 60 60) l from rfl, show (rootT emptyT 0 60 60).last = 1 from rfl] at h2
    omega
  have hT0 : Tre 40 S := by rw [hS]; exact hG0
  have HB := Lib.hid hB
  have HE3 := Lib.hid E3
  have HT0 := Lib.hid hT0
  have HK3 := Lib.hid K3
  have HF3 := Lib.hid F3
  clear hS hga hG0 hl40 KG hB hT0 hlen hlen'
  go_wp2_with fail
  go_loopw [8] (fun i wr => ∃ (k : Nat) (T : TreeD) (X : Xtra), i = .int .i64 k ∧ k ≤ n ∧ Tre 40 T ∧ T.last = S.last ∧ Mix w3 B g f T T X wr) (fun i _ => n - (intOf i).toNat)
  case atStart => exact ⟨0, S, _, rfl, Nat.zero_le _, HT0.out, rfl, Mix.start K3 F3⟩
  case round =>
    obtain ⟨k, T, X, rfl, hk, hT, hTl, hM⟩ := hrel
    have HT := Lib.hid hT
    have HM1 := Lib.hid hM
    have HTL := Lib.hid hTl
    have hsF := hM.lt.2
    have hnow := hM.now
    have hfr : wr.frozen? ⟨f.bF, 3, none⟩ = false := by
      obtain ⟨g1, f1, h1, h2, h3, ⟨_, cn, ce, kF, _⟩, h5⟩ := hM
      rw [← h2.1]; exact kF.free 3
    clear hT hM hTl
    by_cases hlt : (k : Int) < n
    · have hkl : k < acts.length := by have := HN.out; omega
      have y5 : IntKind.i64.wrap (5 * (k : Int)) = 5 * (k : Int) := wrap_i64_in (by omega) (by omega)
      have y0 : (0 : Int) ≤ (k : Int) := Int.natCast_nonneg _
      go_upto_region 10 with fail
      obtain ⟨W1, hW1⟩ : ∃ W1, W1 = wr.setCell ⟨f.bF, 3, none⟩ (.int .i64 (5 * (k : Int))) := ⟨_, rfl⟩
      rw [← hW1]
      have M1 : Mix w3 B g f T T { X with now := 5 * (k : Int) } W1 := by rw [hW1]; exact HM1.out.setNow _
      have X1 : Ext w W1 := M1.after HE3.out (by rw [HB.out]; exact Nat.le_refl _) HK3.out HF3.out
      obtain ⟨bI, o, rfl, hbw, i0, i1, i2, i3, i4, i5, i6, i7, i8, i9⟩ := hA2.at_ X1 k hkl
      have hsh := HFA.out.1 _ (List.getElem_mem hkl)
      obtain ⟨x, hx⟩ : ∃ x, x = acts[k] := ⟨_, rfl⟩
      rw [← hx] at i0 i1 i2 i3 i4 i5 i6 i7 i8 i9 hsh
      have HSH := Lib.hid hsh
      have HM2 := Lib.hid M1
      clear hx hsh hW1 hnow hfr hsF y5 M1
      go_wp2_with fail
      obtain ⟨g1, f1, h1, h2, h3, h4, h5⟩ := id HM2.out
      have hbb : B ≤ W1.heap.size := by have := (h3.apart _ (by simp : g1.bW ∈ g1.list)).1; have := h3.lt.1; omega
      have KD := do20_any B g1 f1 T { X with now := 5 * (k : Int) } x W1 ⟨h3, h4⟩ HT.out.live (by rw [HTL.out]; omega) HSH.out.2.2 hbb
      rw [h1.1, h2.1] at KD
      refine KD.mono ?_
      rintro e w5 ⟨rfl, M5⟩
      obtain ⟨T5, hT5⟩ : ∃ T5, T5 = do20T T (5 * (k : Int)) x := ⟨_, rfl⟩
      rw [← hT5] at M5
      have hT5' : Tre 40 T5 := by rw [hT5]; exact tre_do20 HT.out _ _
      have hT5l : T5.last = S.last := by rw [hT5, do20_last]; exact HTL.out
      have M6 : Mix w3 B g f T5 T5 { X with now := 5 * (k : Int) } w5 := by
        obtain ⟨g2, f2, a1, a2, a3, a4, a5⟩ := M5
        refine ⟨g2, f2, GhW.on_trans h1 a1 h5.size, GhF.on_trans h2 a2 h5.size, a3, a4, h5.trans a5 (fun b hb => ?_)⟩
        rcases List.mem_append.1 hb with hb | hb
        · rcases h1.2 b hb with e | e
          · exact .inl (List.mem_append_left _ e)
          · exact .inr e
        · rcases h2.2 b hb with e | e
          · exact .inl (List.mem_append_right _ e)
          · exact .inr e
      have HM6 := Lib.hid M6
      have HT5 := Lib.hid hT5'
      have HT5L := Lib.hid hT5l
      clear M6 hT5' hT5 hT5l M5 KD h1 h2 h3 h4 h5 i0 i1 i2 i3 i4 i5 i6 i7 i8 i9 hbb
      go_wp2_with fail
      obtain ⟨g2, f2, a1, a2, a3, a4, a5⟩ := id HM6.out
      have KA := alike_any B g2 f2 T5 _ w5 a3 a4 (HT5.out.fit (by decide) (by rw [HT5L.out]; omega))
      rw [a1.1, a2.1] at KA
      refine KA.mono ?_
      rintro e w6 ⟨rfl, b6⟩
      have M7 := Lib.hid (HM6.out.ext b6)
      clear KA a1 a2 a3 a4 a5 b6
      go_wp2_with fail
      go_roundw
      case rel => exact ⟨k + 1, T5, _, by go_num, by omega, HT5.out, HT5L.out, M7.out⟩
      case measure => simp [intOf]; omega
    · have X1 : Ext w wr := HM1.out.after HE3.out (by rw [HB.out]; exact Nat.le_refl _) HK3.out HF3.out
      clear hnow hfr hsF
      go_wp2_with fail
      refine (awake20 _).mono ?_
      rintro e w4 ⟨rfl, b4⟩
      go_wp2_with fail
      go_ret
      exact Ret.mk rfl (X1.trans b4)
set_option maxRecDepth 100000 in
theorem attrPlays_walk {H : Type} {enc : TypeId × Value → H} (W : World) (base : Nat) (v0 v1 : Value) (d0 d1 : DataW H) (p0 p1 : List MemPlace)
    (k0 : Value.okWide Try.prog W .any base 24 v0) (h0 : DataW.Trod enc Try.prog W 0 (fun _ => true) true 24 v0 d0 p0)
    (k1 : Value.okWide Try.prog W .any base 58 v1) (h1 : DataW.Trod enc Try.prog W 0 (fun _ => true) true 58 v1 d1 p1)
    : Calls Try.prog 4 #[v0, v1] W (Ret W (.bool true)) := by
  obtain ⟨A, l, cap, rfl, hA, _, hl, hc⟩ := open_Items k0 h0
  obtain ⟨A2, l2, cap2, rfl, hA2, _, hl2, hc2⟩ := open_Acts k1 h1
  exact attrPlays_any A l cap A2 l2 cap2 W hA (by unfold maxLen at hc; omega) hA2 (by unfold maxLen at hc2; omega)
end Go.Proofs.Ytebghednhjaniaa
