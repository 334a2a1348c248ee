/- Layer 17: the program's Dir, File, Sym. (Printed by gen_brgc.py.) | Layer 17: the reference's Place and come. (Printed by gen_refa.py.) | Layer 17: the reference's Dir, File, Sym. (Printed by gen_refb.py.) | Layer 17: the reference's Hard. (Printed by gen_refb.py.) | Plain: what is left where a node goes. | Layer 18, plain; Less of both. | A drawn region that makes a node's box and fills it late. | Layer 18: the program's Leave. (Printed by gen_drpb.py.) | Layer 18: the program's gone, Unlink, Rmdir. (Printed by gen_drpc.py.) | Layer 18: the reference's Drop, Leave. (Printed by gen_refd.py.) | Layer 18: the reference's Gone. (Printed by gen_refd.py.) -/
import Derived.Test.YtjblimclakfhfaaGreatBunH
import Derived.Test.YtjblimclakfhfaaGreatShelf
import Derived.Test.YtjblimclakfhfaaGreatBunD
import Derived.Test.YtjblimclakfhfaaGreatBunC
import Derived.Test.YtjblimclakfhfaaGreatBunF
namespace Go.Proofs.YtjblimclakfhfaaGreat
open Go.ChangeShapes Go.WideShapes Go.ChangeAt Go.RowKit

/-- A call that makes a node: its number, the error. -/
def NoR (w : World) (B : Nat) (g : GhW) (T : TreeD) (a x : Int) (e : Ending) (w' : World) : Prop := e = .returned (.tuple #[.int .i64 a, .int .i64 x]) ∧ WAt w' B g T ∧ Only g.list w w'
theorem NoR.to {w w' : World} {B : Nat} {g : GhW} {T : TreeD} {a x : Int} {e : Ending} (h : NoR w B g T a x e w') : e = .returned (.tuple #[.int .i64 a, .int .i64 x]) ∧ ∃ g2, WAt w' B g2 T ∧ Only g.list w w' ∧ GhW.on g2 g w := ⟨h.1, g, h.2.1, h.2.2, GhW.on_refl g w⟩
theorem noR_same {w w' : World} {B : Nat} {g : GhW} {S T : TreeD} {p a x : Int} (h : WAt w B g S) (hE : Ext w w') (hp : p ≠ 0) : NoR w B g (preT p S T) (preN p a) (preE p x) (.returned (.tuple #[.int .i64 0, .int .i64 p])) w' :=
  ⟨by unfold preN preE; rw [if_pos hp, if_pos hp], by unfold preT; rw [if_pos hp]; exact h.ext hE, Only.of_ext hE⟩
theorem indexOf_mem (l : List UInt8) (c : UInt8) : decide (0 ≤ Lib.indexByte l c) = hasB l c := by
  rw [← Lib.contains_iff_indexByte, Bool.eq_iff_iff]
  simp [hasB]
set_option maxRecDepth 100000 in
set_option maxHeartbeats 4000000 in
theorem pdir_any (B : Nat) (g : GhW) (S : TreeD) (cu cg now dir : Int) (nm : List UInt8) (mode : Int) (w : World) (h : WAt w B g S) (O : Ok S) (hl1 : S.last ≤ 100000) :
    Calls Tryz.prog 103 #[.pointer (some ⟨g.bW, 0, none⟩), .agg #[.int .i64 cu, .int .i64 cg], .int .i64 now, .int .i64 dir, .string (bs nm), .int .i64 mode] w
      (NoR w B g (preT (dirP mode) S (comeT S cu cg now dir nm (dirZ mode dir))) (preN (dirP mode) (comeN S cu cg now dir nm (dirZ mode dir))) (preE (dirP mode) (comeE S cu cg now dir nm (dirZ mode dir)))) := by
  obtain ⟨W0, hW0⟩ : ∃ W0, W0 = w.alloc (.cells #[.int .i64 cu, .int .i64 cg] 24) := ⟨_, rfl⟩
  have E0 : Ext w W0 := by rw [hW0]; exact (Ext.refl _).alloc _
  have C0 : Has W0 w.heap.size (.cells #[.int .i64 cu, .int .i64 cg] 24) := by rw [hW0]; exact Has.new w _
  have x0 : W0.cell? ⟨w.heap.size, 0, none⟩ = some (.int .i64 cu) := C0.cell 0
  have x1 : W0.cell? ⟨w.heap.size, 1, none⟩ = some (.int .i64 cg) := C0.cell 1
  have xz := C0.lt
  have HO := Lib.hid O
  obtain ⟨p, hp⟩ : ∃ p, p = dirP mode := ⟨_, rfl⟩
  have HS : Hid (∀ (w' : World) (x : Int), Ext w w' → p = x → x ≠ 0 → NoR w B g (preT p S (comeT S cu cg now dir nm (dirZ mode dir))) (preN p (comeN S cu cg now dir nm (dirZ mode dir))) (preE p (comeE S cu cg now dir nm (dirZ mode dir))) (.returned (.tuple #[.int .i64 0, .int .i64 x])) w') := by
    show ∀ (w' : World) (x : Int), _
    intro w' x hE hx h0
    subst hx
    exact noR_same h hE h0
  have HD : Hid (∀ (e : Ending) (w' : World), PutR W0 B g S cu cg now dir nm (dirZ mode dir) e w' → p = 0 → e = .returned (.tuple #[.int .i64 (comeN S cu cg now dir nm (dirZ mode dir)), .int .i64 (comeE S cu cg now dir nm (dirZ mode dir))]) ∧ NoR w B g (preT p S (comeT S cu cg now dir nm (dirZ mode dir))) (preN p (comeN S cu cg now dir nm (dirZ mode dir))) (preE p (comeE S cu cg now dir nm (dirZ mode dir))) e w') := by
    show ∀ (e : Ending) (w' : World), _
    rintro e w' ⟨he, hK, hO⟩ h0
    have n0 : ¬ (p ≠ 0) := fun x => x h0
    exact ⟨he, by unfold preN preE; rw [if_neg n0, if_neg n0]; exact he, by unfold preT; rw [if_neg n0]; exact hK, Only.pre E0 hO⟩
  have KP : Hid (Calls Tryz.prog 174 #[.pointer (some ⟨g.bW, 0, none⟩), .agg #[.int .i64 cu, .int .i64 cg], .int .i64 now, .int .i64 dir, .string (bs nm), .agg #[.int .i64 ((dirZ mode dir)).no, .int .i64 ((dirZ mode dir)).dev, .int .i64 ((dirZ mode dir)).kind, .int .i64 ((dirZ mode dir)).mode, .int .i64 ((dirZ mode dir)).uid, .int .i64 ((dirZ mode dir)).gid, .int .i64 ((dirZ mode dir)).mtime, .int .i64 ((dirZ mode dir)).ctime, .int .i64 ((dirZ mode dir)).links, .int .i64 ((dirZ mode dir)).up, .string (bs ((dirZ mode dir)).data), .slice none ((dirZ mode dir)).ents.length 0]] W0 (PutR W0 B g S cu cg now dir nm (dirZ mode dir))) := by
    refine pput_any B g S cu cg now dir nm (dirZ mode dir) none 0 W0 (h.ext E0) O hl1 ⟨.nil _ _ _, Nat.le_refl _, Nat.zero_le _, fun _ => rfl⟩ ?_
    simp [dirZ, nodeZ]
  rw [← hp]
  have HP := Lib.hid hp
  have HE0 := Lib.hid E0
  clear O hp E0 C0
  go_enter Tryz.func103, Tryz.ntmps103
  go_upto_region 1 with fail
  rw [← hW0]
  clear hW0
  by_cases c1 : mode < 0
  · have t1 : decide (mode < 0) = true := decide_eq_true c1
    have hE : Hid (p = 1) := by show _ = _; rw [HP.out]; unfold dirP; rw [if_pos (.inl c1)]
    clear c1
    go_wp2_with fail
    go_ret2
    exact HS.out _ _ HE0.out hE.out (by decide)
  · have t1 : decide (mode < 0) = false := decide_eq_false c1
    by_cases c2 : 1023 < mode
    · have t2 : decide (1023 < mode) = true := decide_eq_true c2
      have hE : Hid (p = 1) := by show _ = _; rw [HP.out]; unfold dirP; rw [if_pos (.inr c2)]
      clear c1 c2
      go_wp2_with fail
      go_ret2
      exact HS.out _ _ HE0.out hE.out (by decide)
    · have t2 : decide (1023 < mode) = false := decide_eq_false c2
      have hE : Hid (p = 0) := by show _ = _; rw [HP.out]; unfold dirP; rw [if_neg (by omega)]
      clear c1 c2
      go_wp2_with fail
      refine KP.out.mono ?_
      rintro e w2 hr
      obtain ⟨rfl, hD⟩ := HD.out _ _ hr hE.out
      clear hr
      go_wp2_with fail
      go_ret2
      exact hD
set_option maxRecDepth 100000 in
set_option maxHeartbeats 4000000 in
theorem pfile_any (B : Nat) (g : GhW) (S : TreeD) (cu cg now dir : Int) (nm : List UInt8) (mode : Int) (data : List UInt8) (w : World) (h : WAt w B g S) (O : Ok S) (hl1 : S.last ≤ 100000) (hd : data.length ≤ 1000000000) :
    Calls Tryz.prog 108 #[.pointer (some ⟨g.bW, 0, none⟩), .agg #[.int .i64 cu, .int .i64 cg], .int .i64 now, .int .i64 dir, .string (bs nm), .int .i64 mode, .string (bs data)] w
      (NoR w B g (preT (fileP mode data.length) S (comeT S cu cg now dir nm (fileZ mode data))) (preN (fileP mode data.length) (comeN S cu cg now dir nm (fileZ mode data))) (preE (fileP mode data.length) (comeE S cu cg now dir nm (fileZ mode data)))) := by
  obtain ⟨W0, hW0⟩ : ∃ W0, W0 = w.alloc (.cells #[.int .i64 cu, .int .i64 cg] 24) := ⟨_, rfl⟩
  have E0 : Ext w W0 := by rw [hW0]; exact (Ext.refl _).alloc _
  have C0 : Has W0 w.heap.size (.cells #[.int .i64 cu, .int .i64 cg] 24) := by rw [hW0]; exact Has.new w _
  have x0 : W0.cell? ⟨w.heap.size, 0, none⟩ = some (.int .i64 cu) := C0.cell 0
  have x1 : W0.cell? ⟨w.heap.size, 1, none⟩ = some (.int .i64 cg) := C0.cell 1
  have xz := C0.lt
  have HO := Lib.hid O
  obtain ⟨p, hp⟩ : ∃ p, p = fileP mode data.length := ⟨_, rfl⟩
  have HS : Hid (∀ (w' : World) (x : Int), Ext w w' → p = x → x ≠ 0 → NoR w B g (preT p S (comeT S cu cg now dir nm (fileZ mode data))) (preN p (comeN S cu cg now dir nm (fileZ mode data))) (preE p (comeE S cu cg now dir nm (fileZ mode data))) (.returned (.tuple #[.int .i64 0, .int .i64 x])) w') := by
    show ∀ (w' : World) (x : Int), _
    intro w' x hE hx h0
    subst hx
    exact noR_same h hE h0
  have HD : Hid (∀ (e : Ending) (w' : World), PutR W0 B g S cu cg now dir nm (fileZ mode data) e w' → p = 0 → e = .returned (.tuple #[.int .i64 (comeN S cu cg now dir nm (fileZ mode data)), .int .i64 (comeE S cu cg now dir nm (fileZ mode data))]) ∧ NoR w B g (preT p S (comeT S cu cg now dir nm (fileZ mode data))) (preN p (comeN S cu cg now dir nm (fileZ mode data))) (preE p (comeE S cu cg now dir nm (fileZ mode data))) e w') := by
    show ∀ (e : Ending) (w' : World), _
    rintro e w' ⟨he, hK, hO⟩ h0
    have n0 : ¬ (p ≠ 0) := fun x => x h0
    exact ⟨he, by unfold preN preE; rw [if_neg n0, if_neg n0]; exact he, by unfold preT; rw [if_neg n0]; exact hK, Only.pre E0 hO⟩
  have KP : Hid (Calls Tryz.prog 174 #[.pointer (some ⟨g.bW, 0, none⟩), .agg #[.int .i64 cu, .int .i64 cg], .int .i64 now, .int .i64 dir, .string (bs nm), .agg #[.int .i64 ((fileZ mode data)).no, .int .i64 ((fileZ mode data)).dev, .int .i64 ((fileZ mode data)).kind, .int .i64 ((fileZ mode data)).mode, .int .i64 ((fileZ mode data)).uid, .int .i64 ((fileZ mode data)).gid, .int .i64 ((fileZ mode data)).mtime, .int .i64 ((fileZ mode data)).ctime, .int .i64 ((fileZ mode data)).links, .int .i64 ((fileZ mode data)).up, .string (bs ((fileZ mode data)).data), .slice none ((fileZ mode data)).ents.length 0]] W0 (PutR W0 B g S cu cg now dir nm (fileZ mode data))) := by
    refine pput_any B g S cu cg now dir nm (fileZ mode data) none 0 W0 (h.ext E0) O hl1 ⟨.nil _ _ _, Nat.le_refl _, Nat.zero_le _, fun _ => rfl⟩ ?_
    exact hd
  rw [← hp]
  have HP := Lib.hid hp
  have HE0 := Lib.hid E0
  clear O hp E0 C0
  go_enter Tryz.func108, Tryz.ntmps108
  go_upto_region 1 with fail
  rw [← hW0]
  clear hW0
  have hsz : ((bs data).size : Int) = data.length := by rw [bs_size]
  by_cases c1 : mode < 0
  · have t1 : decide (mode < 0) = true := decide_eq_true c1
    have hE : Hid (p = 1) := by show _ = _; rw [HP.out]; unfold fileP; rw [if_pos (.inl c1)]
    clear c1
    go_wp2_with fail
    go_ret2
    exact HS.out _ _ HE0.out hE.out (by decide)
  · have t1 : decide (mode < 0) = false := decide_eq_false c1
    by_cases c2 : 1023 < mode
    · have t2 : decide (1023 < mode) = true := decide_eq_true c2
      have hE : Hid (p = 1) := by show _ = _; rw [HP.out]; unfold fileP; rw [if_pos (.inr c2)]
      clear c1 c2
      go_wp2_with fail
      go_ret2
      exact HS.out _ _ HE0.out hE.out (by decide)
    · have t2 : decide (1023 < mode) = false := decide_eq_false c2
      by_cases c3 : (1048576 : Int) < data.length
      · have t3 : decide ((1048576 : Int) < (data.length : Int)) = true := decide_eq_true c3
        have hE : Hid (p = 3) := by show _ = _; rw [HP.out]; unfold fileP; rw [if_neg (by omega), if_pos c3]
        clear c1 c2 c3
        go_wp2_with fail
        go_ret2
        exact HS.out _ _ HE0.out hE.out (by decide)
      · have t3 : decide ((1048576 : Int) < (data.length : Int)) = false := decide_eq_false c3
        have hE : Hid (p = 0) := by show _ = _; rw [HP.out]; unfold fileP; rw [if_neg (by omega), if_neg c3]
        clear c1 c2 c3
        go_wp2_with fail
        refine KP.out.mono ?_
        rintro e w2 hr
        obtain ⟨rfl, hD⟩ := HD.out _ _ hr hE.out
        clear hr
        go_wp2_with fail
        go_ret2
        exact hD
set_option maxRecDepth 100000 in
set_option maxHeartbeats 4000000 in
theorem psym_any (B : Nat) (g : GhW) (S : TreeD) (cu cg now dir : Int) (nm : List UInt8) (text : List UInt8) (w : World) (h : WAt w B g S) (O : Ok S) (hl1 : S.last ≤ 100000) (hd : text.length ≤ 1000000000) :
    Calls Tryz.prog 109 #[.pointer (some ⟨g.bW, 0, none⟩), .agg #[.int .i64 cu, .int .i64 cg], .int .i64 now, .int .i64 dir, .string (bs nm), .string (bs text)] w
      (NoR w B g (preT (symP text) S (comeT S cu cg now dir nm (symZ text))) (preN (symP text) (comeN S cu cg now dir nm (symZ text))) (preE (symP text) (comeE S cu cg now dir nm (symZ text)))) := by
  obtain ⟨W0, hW0⟩ : ∃ W0, W0 = w.alloc (.cells #[.int .i64 cu, .int .i64 cg] 24) := ⟨_, rfl⟩
  have E0 : Ext w W0 := by rw [hW0]; exact (Ext.refl _).alloc _
  have C0 : Has W0 w.heap.size (.cells #[.int .i64 cu, .int .i64 cg] 24) := by rw [hW0]; exact Has.new w _
  have x0 : W0.cell? ⟨w.heap.size, 0, none⟩ = some (.int .i64 cu) := C0.cell 0
  have x1 : W0.cell? ⟨w.heap.size, 1, none⟩ = some (.int .i64 cg) := C0.cell 1
  have xz := C0.lt
  have HO := Lib.hid O
  obtain ⟨p, hp⟩ : ∃ p, p = symP text := ⟨_, rfl⟩
  have HS : Hid (∀ (w' : World) (x : Int), Ext w w' → p = x → x ≠ 0 → NoR w B g (preT p S (comeT S cu cg now dir nm (symZ text))) (preN p (comeN S cu cg now dir nm (symZ text))) (preE p (comeE S cu cg now dir nm (symZ text))) (.returned (.tuple #[.int .i64 0, .int .i64 x])) w') := by
    show ∀ (w' : World) (x : Int), _
    intro w' x hE hx h0
    subst hx
    exact noR_same h hE h0
  have HD : Hid (∀ (w1 : World) (e : Ending) (w' : World), Ext w w1 → PutR w1 B g S cu cg now dir nm (symZ text) e w' → p = 0 → e = .returned (.tuple #[.int .i64 (comeN S cu cg now dir nm (symZ text)), .int .i64 (comeE S cu cg now dir nm (symZ text))]) ∧ NoR w B g (preT p S (comeT S cu cg now dir nm (symZ text))) (preN p (comeN S cu cg now dir nm (symZ text))) (preE p (comeE S cu cg now dir nm (symZ text))) e w') := by
    show ∀ (w1 : World) (e : Ending) (w' : World), _
    rintro w1 e w' hE1 ⟨he, hK, hO⟩ h0
    have n0 : ¬ (p ≠ 0) := fun x => x h0
    exact ⟨he, by unfold preN preE; rw [if_neg n0, if_neg n0]; exact he, by unfold preT; rw [if_neg n0]; exact hK, Only.pre hE1 hO⟩
  have KP : Hid (∀ w1, Ext w w1 → Calls Tryz.prog 174 #[.pointer (some ⟨g.bW, 0, none⟩), .agg #[.int .i64 cu, .int .i64 cg], .int .i64 now, .int .i64 dir, .string (bs nm), .agg #[.int .i64 ((symZ text)).no, .int .i64 ((symZ text)).dev, .int .i64 ((symZ text)).kind, .int .i64 ((symZ text)).mode, .int .i64 ((symZ text)).uid, .int .i64 ((symZ text)).gid, .int .i64 ((symZ text)).mtime, .int .i64 ((symZ text)).ctime, .int .i64 ((symZ text)).links, .int .i64 ((symZ text)).up, .string (bs ((symZ text)).data), .slice none ((symZ text)).ents.length 0]] w1 (PutR w1 B g S cu cg now dir nm (symZ text))) := by
    show ∀ w1, _
    intro w1 hE
    exact pput_any B g S cu cg now dir nm (symZ text) none 0 w1 (h.ext hE) O hl1 ⟨.nil _ _ _, Nat.le_refl _, Nat.zero_le _, fun _ => rfl⟩ hd
  rw [← hp]
  have HP := Lib.hid hp
  have HE0 := Lib.hid E0
  clear O hp E0 C0
  by_cases c0 : text = []
  · have hE : Hid (p = 1) := by show _ = _; rw [HP.out]; unfold symP; rw [if_pos (.inl c0)]
    subst c0
    have hem : (bs ([] : List UInt8)).toList.isEmpty = true := by rw [bs_toList]; rfl
    go_enter Tryz.func109, Tryz.ntmps109
    go_upto_region 1 with fail
    rw [← hW0]
    clear hW0
    go_wp2_with fail
    go_ret2
    exact HS.out _ _ HE0.out hE.out (by decide)
  · have hem : (bs text).toList.isEmpty = false := by rw [bs_toList, List.isEmpty_eq_false_iff]; exact c0
    have hsz : ((bs text).size : Int) = text.length := by rw [bs_size]
    obtain ⟨hb, hhb⟩ : ∃ hb, hb = hasB text 0 := ⟨_, rfl⟩
    have hh : ∀ w', Calls Tryz.prog 176 #[.string (bs text), .string ⟨#[0]⟩] w' (Ret w' (.bool hb)) := fun w' => by
      have h := Tryz.strings_Contains_one (bs text) 0 w'
      rw [bs_list, indexOf_mem, ← hhb] at h
      exact h.mono fun e w2 h => ⟨h.1, by rw [h.2]; exact Ext.refl _⟩
    have HH := Lib.hid hh
    have HB := Lib.hid hhb
    have HC0 := Lib.hid c0
    have HW0 := Lib.hid hW0
    clear hh hhb c0
    go_enter Tryz.func109, Tryz.ntmps109
    go_upto_region 1 with fail
    rw [← hW0]
    clear hW0
    go_wp2_with fail
    refine (HH.out _).mono ?_
    rintro e w1 ⟨rfl, b1⟩
    have E1 := HE0.out.trans b1
    have x0' : w1.cell? ⟨w.heap.size, 0, none⟩ = some (.int .i64 cu) := (b1.cell xz).trans x0
    have x1' : w1.cell? ⟨w.heap.size, 1, none⟩ = some (.int .i64 cg) := (b1.cell xz).trans x1
    have xz' : w.heap.size < w1.heap.size := by have := b1.size; omega
    clear x0 x1 xz
    cases hb
    · by_cases c1 : (4096 : Int) < text.length
      · have t1 : decide ((4096 : Int) < (text.length : Int)) = true := decide_eq_true c1
        have hE : Hid (p = 13) := by show _ = _; rw [HP.out]; unfold symP; rw [if_neg (by rintro (h' | h'); exact HC0.out h'; rw [← HB.out] at h'; cases h'), if_pos (by omega)]
        clear c1
        go_wp2_with fail
        go_ret2
        exact HS.out _ _ E1 hE.out (by decide)
      · have t1 : decide ((4096 : Int) < (text.length : Int)) = false := decide_eq_false c1
        have hE : Hid (p = 0) := by show _ = _; rw [HP.out]; unfold symP; rw [if_neg (by rintro (h' | h'); exact HC0.out h'; rw [← HB.out] at h'; cases h'), if_neg (by omega)]
        clear c1
        go_wp2_with fail
        refine (KP.out _ E1).mono ?_
        rintro e w2 hr
        obtain ⟨rfl, hD⟩ := HD.out _ _ _ E1 hr hE.out
        clear hr
        go_wp2_with fail
        go_ret2
        exact hD
    · have hE : Hid (p = 1) := by show _ = _; rw [HP.out]; unfold symP; rw [if_pos (.inr HB.out.symm)]
      go_wp2_with fail
      go_ret2
      exact HS.out _ _ E1 hE.out (by decide)
end Go.Proofs.YtjblimclakfhfaaGreat

namespace Go.Proofs.YtjblimclakfhfaaGreat
open Go.ChangeShapes Go.WideShapes Go.ChangeAt Go.RowKit

theorem rchecks_any (nm : List UInt8) (w : World) (h : nm.length ≤ 1000000) : Calls Tryz.prog 180 #[.string (bs nm)] w (Ret w (.int .i64 (checkN nm))) := by
  have := rcheck_any (bs nm) (by rw [bs_size]; exact h) w
  rw [bs_list] at this
  exact this
set_option maxRecDepth 100000 in
set_option maxHeartbeats 8000000 in
theorem rplace_any (B : Nat) (g : GhF) (S : TreeD) (X : Xtra) (cu cg dir : Int) (nm : List UInt8) (w : World) (h : FAt w B g S X) (hl : S.nodes.length ≤ 1000000) (hu : NosUp S.nodes S.last) (hnm : nm.length ≤ 1000000) :
    Calls Tryz.prog 112 #[.pointer (some ⟨g.bF, 0, none⟩), .agg #[.int .i64 cu, .int .i64 cg], .int .i64 dir, .string (bs nm)] w (PlaceQ w B S cu cg dir nm) := by
  have h0 := h
  have E0 : Ext w ((w.alloc (.cells #[.int .i64 cu, .int .i64 cg] 24)).alloc (.cells #[.int .i64 0, .int .i64 0, .int .i64 0, .int .i64 0, .int .i64 0, .int .i64 0, .int .i64 0, .int .i64 0, .int .i64 0, .int .i64 0, .string ⟨#[]⟩, .slice none 0 0] 87)) := ((Ext.refl _).alloc _).alloc _
  go_enter Tryz.func112, Tryz.ntmps112
  go_wp2_with fail
  have b1 := Ext.refl ((w.alloc (.cells #[.int .i64 cu, .int .i64 cg] 24)).alloc (.cells #[.int .i64 0, .int .i64 0, .int .i64 0, .int .i64 0, .int .i64 0, .int .i64 0, .int .i64 0, .int .i64 0, .int .i64 0, .int .i64 0, .string ⟨#[]⟩, .slice none 0 0] 87))
  have E1 := E0
  have R0 := Has.new (w.alloc (.cells #[.int .i64 cu, .int .i64 cg] 24)) (.cells #[.int .i64 nodeZ.no, .int .i64 nodeZ.dev, .int .i64 nodeZ.kind, .int .i64 nodeZ.mode, .int .i64 nodeZ.uid, .int .i64 nodeZ.gid, .int .i64 nodeZ.mtime, .int .i64 nodeZ.ctime, .int .i64 nodeZ.links, .int .i64 nodeZ.up, .string (bs nodeZ.data), .slice none nodeZ.ents.length 0] 87)
  rw [World.size_alloc] at R0
  have R1 := R0.ext b1
  have C1 := ((Has.new w (.cells #[.int .i64 cu, .int .i64 cg] 24)).alloc (.cells #[.int .i64 0, .int .i64 0, .int .i64 0, .int .i64 0, .int .i64 0, .int .i64 0, .int .i64 0, .int .i64 0, .int .i64 0, .int .i64 0, .string ⟨#[]⟩, .slice none 0 0] 87)).ext b1
  refine (rget_any B g S X dir _ (h.ext E1) hl hu).mono ?_
  rintro e w2 ⟨A2, k2, rfl, ok2, b2⟩
  have R2 := R1.ext b2
  have C2 := C1.ext b2
  have hm : Hid (placeE S cu cg dir nm = if isN S.nodes dir = false then 5 else if ¬ (getN S.nodes dir).kind = 1 then 9 else if ¬ checkN nm = 0 then checkN nm
    else if mayB cu cg (getN S.nodes dir).uid (getN S.nodes dir).gid (getN S.nodes dir).mode 3 = false then 6 else 0) := by show _ = _; rfl
  have hm2 : Hid (placeN S cu cg dir nm = if placeE S cu cg dir nm = 0 then getN S.nodes dir else nodeZ) := by show _ = _; rfl
  have hnz : Hid (((getN S.nodes dir).no == 0) = !isN S.nodes dir) := by
    refine Lib.hid ?_
    cases hi : isN S.nodes dir
    · rw [(isN_false hi).1]; rfl
    · have h1 := (hu.2 _ (isN_true hi).2.2).1
      simp; omega
  obtain ⟨m, hmm⟩ : ∃ m, m = getN S.nodes dir := ⟨_, rfl⟩
  rw [← hmm] at ok2 hm hm2 hnz ⊢
  obtain ⟨W3, hW3⟩ : ∃ W3, W3 = w2.alloc (.cells #[.int .i64 m.no, .int .i64 m.dev, .int .i64 m.kind, .int .i64 m.mode, .int .i64 m.uid, .int .i64 m.gid, .int .i64 m.mtime, .int .i64 m.ctime, .int .i64 m.links, .int .i64 m.up, .string (bs m.data), .slice A2 m.ents.length k2] 87) := ⟨_, rfl⟩
  have E23 : Ext w2 W3 := by rw [hW3]; exact (Ext.refl _).alloc _
  have N3 : Has W3 w2.heap.size (.cells #[.int .i64 m.no, .int .i64 m.dev, .int .i64 m.kind, .int .i64 m.mode, .int .i64 m.uid, .int .i64 m.gid, .int .i64 m.mtime, .int .i64 m.ctime, .int .i64 m.links, .int .i64 m.up, .string (bs m.data), .slice A2 m.ents.length k2] 87) := by rw [hW3]; exact Has.new _ _
  have R3 := R2.ext E23
  have C3 := C2.ext E23
  have E3 : Ext w W3 := (E1.trans b2).trans E23
  obtain ⟨b8, hb8⟩ : ∃ b8, b8 = w2.heap.size := ⟨_, rfl⟩
  obtain ⟨i, hi⟩ : ∃ i, i = isN S.nodes dir := ⟨_, rfl⟩
  rw [← hi] at hm hnz
  clear hmm hi R1 C1 R2 C2
  go_upto_region 2 with fail
  rw [← hW3]
  rw [← hb8] at N3 ⊢
  have ok3 := ok2.ext E23
  clear hW3 hb8 E23
  have HS : Hid (∀ (w5 w6 : World) (x : Int), Ext w w5 → Only [w.heap.size + 1] w5 w6 → placeE S cu cg dir nm = x → x ≠ 0 → PlaceQ w B S cu cg dir nm (.returned (.tuple #[.agg #[.int .i64 nodeZ.no, .int .i64 nodeZ.dev, .int .i64 nodeZ.kind, .int .i64 nodeZ.mode, .int .i64 nodeZ.uid, .int .i64 nodeZ.gid, .int .i64 nodeZ.mtime, .int .i64 nodeZ.ctime, .int .i64 nodeZ.links, .int .i64 nodeZ.up, .string (bs nodeZ.data), .slice none nodeZ.ents.length 0], .int .i64 x])) w6) := by
    show ∀ (w5 w6 : World) (x : Int), _
    intro w5 w6 x hE hO hx hx0
    have hN : placeN S cu cg dir nm = nodeZ := by rw [hm2.out, if_neg (by rw [hx]; exact hx0)]
    exact ⟨none, 0, by rw [hx, hN], by rw [hN]; exact NodeOk.zero _ _, hO.after hE (by simp)⟩
  have k0' : W3.cell? ⟨b8, 0, none⟩ = some (.int .i64 m.no) := N3.cell 0
  have k2' : W3.cell? ⟨b8, 2, none⟩ = some (.int .i64 m.kind) := N3.cell 2
  have kz := N3.lt
  cases i
  · have hE : Hid (placeE S cu cg dir nm = 5) := by show _ = _; rw [hm.out]; rfl
    have tn : (m.no == 0) = true := hnz.out
    clear hm
    go_wp2_with (refine wpList_store_node rfl _ _ rfl (w.heap.size + 1) nodeZ none 0 rfl rfl R3 ?_; intro w9 R9 O9)
    refine bodyPost_ret (v := .tuple #[.agg #[.int .i64 nodeZ.no, .int .i64 nodeZ.dev, .int .i64 nodeZ.kind, .int .i64 nodeZ.mode, .int .i64 nodeZ.uid, .int .i64 nodeZ.gid, .int .i64 nodeZ.mtime, .int .i64 nodeZ.ctime, .int .i64 nodeZ.links, .int .i64 nodeZ.up, .string (bs nodeZ.data), .slice none nodeZ.ents.length 0], .int .i64 5]) (res_node Tryz.results112 _ _ (w.heap.size + 1) nodeZ none 0 _ rfl rfl R9) rfl ?_
    exact HS.out _ _ _ E3 O9 hE.out (by decide)
  have tn : (m.no == 0) = false := hnz.out
  by_cases c1 : m.kind = 1
  case neg =>
    have t1 : (m.kind == 1) = false := by simpa using c1
    have t1b : (m.kind != 1) = true := by simpa using c1
    have hE : Hid (placeE S cu cg dir nm = 9) := by show _ = _; rw [hm.out, if_neg (by decide), if_pos c1]
    clear hm c1
    go_wp2_with (refine wpList_store_node rfl _ _ rfl (w.heap.size + 1) nodeZ none 0 rfl rfl R3 ?_; intro w9 R9 O9)
    refine bodyPost_ret (v := .tuple #[.agg #[.int .i64 nodeZ.no, .int .i64 nodeZ.dev, .int .i64 nodeZ.kind, .int .i64 nodeZ.mode, .int .i64 nodeZ.uid, .int .i64 nodeZ.gid, .int .i64 nodeZ.mtime, .int .i64 nodeZ.ctime, .int .i64 nodeZ.links, .int .i64 nodeZ.up, .string (bs nodeZ.data), .slice none nodeZ.ents.length 0], .int .i64 9]) (res_node Tryz.results112 _ _ (w.heap.size + 1) nodeZ none 0 _ rfl rfl R9) rfl ?_
    exact HS.out _ _ _ E3 O9 hE.out (by decide)
  have t1 : (m.kind == 1) = true := by simpa using c1
  have t1b : (m.kind != 1) = false := by simpa using c1
  have hma : Hid (placeE S cu cg dir nm = if ¬ checkN nm = 0 then checkN nm else if mayB cu cg m.uid m.gid m.mode 3 = false then 6 else 0) := by show _ = _; rw [hm.out, if_neg (by decide), if_neg (by simpa using c1)]
  clear hm c1
  go_wp2_with fail
  refine (rchecks_any nm _ hnm).mono ?_
  rintro e w4 ⟨rfl, b4⟩
  have R4 := R3.ext b4
  have N4 := N3.ext b4
  have C4 := C3.ext b4
  have E4 := E3.trans b4
  have ok4 := ok3.ext b4
  obtain ⟨v, hv⟩ : ∃ v, v = checkN nm := ⟨_, rfl⟩
  rw [← hv] at hma ⊢
  clear hv k0' k2' kz R3 N3 C3
  by_cases hv0 : v = 0
  case neg =>
    have tv : (v == 0) = false := by simpa using hv0
    have tvb : (v != 0) = true := by simpa using hv0
    have hE : Hid (placeE S cu cg dir nm = v) := by show _ = _; rw [hma.out, if_pos hv0]
    have HV0 := Lib.hid hv0
    clear hma hv0
    go_wp2_with (refine wpList_store_node rfl _ _ rfl (w.heap.size + 1) nodeZ none 0 rfl rfl R4 ?_; intro w9 R9 O9)
    refine bodyPost_ret (v := .tuple #[.agg #[.int .i64 nodeZ.no, .int .i64 nodeZ.dev, .int .i64 nodeZ.kind, .int .i64 nodeZ.mode, .int .i64 nodeZ.uid, .int .i64 nodeZ.gid, .int .i64 nodeZ.mtime, .int .i64 nodeZ.ctime, .int .i64 nodeZ.links, .int .i64 nodeZ.up, .string (bs nodeZ.data), .slice none nodeZ.ents.length 0], .int .i64 v]) (res_node Tryz.results112 _ _ (w.heap.size + 1) nodeZ none 0 _ rfl rfl R9) rfl ?_
    exact HS.out _ _ _ E4 O9 hE.out HV0.out
  have tv : (v == 0) = true := by simpa using hv0
  have tvb : (v != 0) = false := by simpa using hv0
  obtain ⟨u, hu'⟩ : ∃ u, u = mayB cu cg m.uid m.gid m.mode 3 := ⟨_, rfl⟩
  have hm3 : Hid (placeE S cu cg dir nm = if u = false then 6 else 0) := by show _ = _; rw [hma.out, if_neg (by simpa using hv0), hu']
  have HU := Lib.hid hu'
  have x0 : w4.cell? ⟨w.heap.size, 0, none⟩ = some (.int .i64 cu) := C4.cell 0
  have x1 : w4.cell? ⟨w.heap.size, 1, none⟩ = some (.int .i64 cg) := C4.cell 1
  have xz := C4.lt
  clear hma hu' hv0
  go_wp2_with (refine wpList_load_node rfl _ rfl b8 m A2 k2 rfl N4 ?_)
  refine (rnode_any cu cg _ _ _ m.mode m.uid m.gid _ _ _ _ _ _ 3 _).mono ?_
  rw [← HU.out]
  rintro e w5 ⟨rfl, b5⟩
  have R5 := R4.ext b5
  have N5 := N4.ext b5
  have E5 := E4.trans b5
  clear x0 x1 xz R4 N4
  cases u
  · have hE : Hid (placeE S cu cg dir nm = 6) := by show _ = _; rw [hm3.out]; rfl
    clear hm3
    go_wp2_with (refine wpList_store_node rfl _ _ rfl (w.heap.size + 1) nodeZ none 0 rfl rfl R5 ?_; intro w9 R9 O9)
    refine bodyPost_ret (v := .tuple #[.agg #[.int .i64 nodeZ.no, .int .i64 nodeZ.dev, .int .i64 nodeZ.kind, .int .i64 nodeZ.mode, .int .i64 nodeZ.uid, .int .i64 nodeZ.gid, .int .i64 nodeZ.mtime, .int .i64 nodeZ.ctime, .int .i64 nodeZ.links, .int .i64 nodeZ.up, .string (bs nodeZ.data), .slice none nodeZ.ents.length 0], .int .i64 6]) (res_node Tryz.results112 _ _ (w.heap.size + 1) nodeZ none 0 _ rfl rfl R9) rfl ?_
    exact HS.out _ _ _ E5 O9 hE.out (by decide)
  · have hE : Hid (placeE S cu cg dir nm = 0) := by show _ = _; rw [hm3.out]; rfl
    have hN : Hid (placeN S cu cg dir nm = m) := by show _ = _; rw [hm2.out, hE.out]; rfl
    clear hm3
    go_wp2_with (first | (refine wpList_load_node rfl _ rfl b8 m A2 k2 rfl N5 ?_) | (refine wpList_store_node rfl _ _ rfl (w.heap.size + 1) m A2 k2 rfl rfl R5 ?_; intro w6 R6 O6))
    refine bodyPost_ret (v := .tuple #[.agg #[.int .i64 m.no, .int .i64 m.dev, .int .i64 m.kind, .int .i64 m.mode, .int .i64 m.uid, .int .i64 m.gid, .int .i64 m.mtime, .int .i64 m.ctime, .int .i64 m.links, .int .i64 m.up, .string (bs m.data), .slice A2 m.ents.length k2], .int .i64 0]) (res_node Tryz.results112 _ _ (w.heap.size + 1) m A2 k2 _ rfl rfl R6) rfl ?_
    have ok6 : NodeOk w6 B m A2 k2 := ((ok4.ext b5).only O6 (by
      intro b hb
      rw [List.mem_singleton] at hb
      subst hb
      exact ⟨by have := h0.1; have := h0.lt.1; omega, R5.noTag (by decide)⟩))
    exact ⟨A2, k2, by rw [hE.out, hN.out], by rw [hN.out]; exact ok6, O6.after E5 (by simp)⟩
def NoF (w : World) (B : Nat) (g : GhF) (T : TreeD) (X : Xtra) (a x : Int) (e : Ending) (w' : World) : Prop := e = .returned (.tuple #[.int .i64 a, .int .i64 x]) ∧ ∃ g2, FAt w' B g2 T X ∧ Only g.list w w' ∧ GhF.on g2 g w
theorem noF_same {w w' : World} {B : Nat} {g : GhF} {S : TreeD} {X : Xtra} {cu cg dir x : Int} {nm : List UInt8} {n : NodeD} (h : FAt w B g S X) (hE : Ext w w') (hx : comeE S cu cg X.now dir nm n = x) (h0 : x ≠ 0) : NoF w B g (comeT S cu cg X.now dir nm n) X (comeN S cu cg X.now dir nm n) (comeE S cu cg X.now dir nm n) (.returned (.tuple #[.int .i64 0, .int .i64 x])) w' := by
  refine ⟨?_, g, ?_, Only.of_ext hE, GhF.on_refl _ _⟩
  · unfold comeN; rw [hx, if_neg h0]
  · unfold comeT; rw [hx, if_neg h0]; exact h.ext hE
set_option maxRecDepth 100000 in
set_option maxHeartbeats 8000000 in
theorem rcome_any (B : Nat) (g : GhF) (S : TreeD) (X : Xtra) (cu cg dir : Int) (nm : List UInt8) (n : NodeD) (A : Option Addr) (c : Nat) (w : World) (h : FAt w B g S X) (O : Ok S) (hl1 : S.last ≤ 100000) (hn : NodeOk w B n A c) (hdl : n.data.length ≤ 1000000000) (hnm : nm.length ≤ 1000000) :
    Calls Tryz.prog 107 #[.pointer (some ⟨g.bF, 0, none⟩), .agg #[.int .i64 cu, .int .i64 cg], .int .i64 dir, .string (bs nm), .agg #[.int .i64 n.no, .int .i64 n.dev, .int .i64 n.kind, .int .i64 n.mode, .int .i64 n.uid, .int .i64 n.gid, .int .i64 n.mtime, .int .i64 n.ctime, .int .i64 n.links, .int .i64 n.up, .string (bs n.data), .slice A n.ents.length c]] w (NoF w B g (comeT S cu cg X.now dir nm n) X (comeN S cu cg X.now dir nm n) (comeE S cu cg X.now dir nm n)) := by
  obtain ⟨W0, hW0⟩ : ∃ W0, W0 = (w.alloc (.cells #[.int .i64 cu, .int .i64 cg] 24)).alloc (.cells #[.int .i64 n.no, .int .i64 n.dev, .int .i64 n.kind, .int .i64 n.mode, .int .i64 n.uid, .int .i64 n.gid, .int .i64 n.mtime, .int .i64 n.ctime, .int .i64 n.links, .int .i64 n.up, .string (bs n.data), .slice A n.ents.length c] 87) := ⟨_, rfl⟩
  have E0 : Ext w W0 := by rw [hW0]; exact ((Ext.refl _).alloc _).alloc _
  obtain ⟨b7, hb7⟩ : ∃ b, b = w.heap.size := ⟨_, rfl⟩
  have C0 : Has W0 b7 (.cells #[.int .i64 cu, .int .i64 cg] 24) := by rw [hW0, hb7]; exact (Has.new w _).alloc _
  have N0 : Has W0 (b7 + 1) (.cells #[.int .i64 n.no, .int .i64 n.dev, .int .i64 n.kind, .int .i64 n.mode, .int .i64 n.uid, .int .i64 n.gid, .int .i64 n.mtime, .int .i64 n.ctime, .int .i64 n.links, .int .i64 n.up, .string (bs n.data), .slice A n.ents.length c] 87) := by
    rw [hW0, hb7]
    have := Has.new (w.alloc (.cells #[.int .i64 cu, .int .i64 cg] 24)) (.cells #[.int .i64 n.no, .int .i64 n.dev, .int .i64 n.kind, .int .i64 n.mode, .int .i64 n.uid, .int .i64 n.gid, .int .i64 n.mtime, .int .i64 n.ctime, .int .i64 n.links, .int .i64 n.up, .string (bs n.data), .slice A n.ents.length c] 87)
    rwa [World.size_alloc] at this
  have HSZ0 : w.heap.size + 2 ≤ W0.heap.size := by rw [hW0]; simp
  have HO := Lib.hid O
  have hcnt := O.live.count
  have hcl : S.nodes.length ≤ 100000 := by omega
  have HCL := Lib.hid hcl
  have hm : Hid (comeE S cu cg X.now dir nm n = if ¬ placeE S cu cg dir nm = 0 then placeE S cu cg dir nm else if ¬ findF (getN S.nodes dir).ents nm = 0 then 7 else makeE S (newN S cu cg X.now dir n)) := by show _ = _; rfl
  have hp : Hid (placeE S cu cg dir nm = 0 → placeN S cu cg dir nm = getN S.nodes dir ∧ isN S.nodes dir = true) := fun h0 => ⟨placeN_zero h0, (placeE_zero h0).1⟩
  obtain ⟨now, hnow⟩ : ∃ now, now = X.now := ⟨_, rfl⟩
  have HS : Hid (∀ (w' : World) (x : Int), Ext w w' → comeE S cu cg now dir nm n = x → x ≠ 0 → NoF w B g (comeT S cu cg now dir nm n) X (comeN S cu cg now dir nm n) (comeE S cu cg now dir nm n) (.returned (.tuple #[.int .i64 0, .int .i64 x])) w') := by
    show ∀ (w' : World) (x : Int), _
    rw [hnow]
    exact fun w' x hE hx h0 => noF_same h hE hx h0
  rw [← hnow] at hm ⊢
  have HNW := Lib.hid hnow
  have HE0 := Lib.hid E0
  clear O hcnt hcl hnow
  go_enter Tryz.func107, Tryz.ntmps107
  go_upto_region 1 with fail
  rw [← hW0]
  rw [← hb7]
  have hb7a : b7 ≤ w.heap.size := by omega
  have hb7b : w.heap.size ≤ b7 := by omega
  clear hW0 hb7
  have x0 : W0.cell? ⟨b7, 0, none⟩ = some (.int .i64 cu) := C0.cell 0
  have x1 : W0.cell? ⟨b7, 1, none⟩ = some (.int .i64 cg) := C0.cell 1
  have xz := C0.lt
  go_wp2_with fail
  refine (rplace_any B g S X cu cg dir nm _ (h.ext E0) (by have := HCL.out; omega) HO.out.live.nos hnm).mono ?_
  rintro e w2 ⟨A2, k2, rfl, ok2, b2⟩
  obtain ⟨m, hmm⟩ : ∃ m, m = placeN S cu cg dir nm := ⟨_, rfl⟩
  obtain ⟨x, hx⟩ : ∃ x, x = placeE S cu cg dir nm := ⟨_, rfl⟩
  rw [← hmm] at ok2 hp
  rw [← hx] at hm hp
  rw [← hmm, ← hx]
  obtain ⟨W3, hW3⟩ : ∃ W3, W3 = w2.alloc (.cells #[.int .i64 m.no, .int .i64 m.dev, .int .i64 m.kind, .int .i64 m.mode, .int .i64 m.uid, .int .i64 m.gid, .int .i64 m.mtime, .int .i64 m.ctime, .int .i64 m.links, .int .i64 m.up, .string (bs m.data), .slice A2 m.ents.length k2] 87) := ⟨_, rfl⟩
  obtain ⟨b14, hb14⟩ : ∃ b, b = w2.heap.size := ⟨_, rfl⟩
  have E23 : Ext w2 W3 := by rw [hW3]; exact (Ext.refl _).alloc _
  have M3 : Has W3 b14 (.cells #[.int .i64 m.no, .int .i64 m.dev, .int .i64 m.kind, .int .i64 m.mode, .int .i64 m.uid, .int .i64 m.gid, .int .i64 m.mtime, .int .i64 m.ctime, .int .i64 m.links, .int .i64 m.up, .string (bs m.data), .slice A2 m.ents.length k2] 87) := by rw [hW3, hb14]; exact Has.new _ _
  have E03 : Ext W0 W3 := b2.trans E23
  have C3 := C0.ext E03
  have N3 := N0.ext E03
  have ok3 := ok2.ext E23
  have hb14w : W0.heap.size ≤ b14 := by rw [hb14]; exact b2.size
  clear x0 x1 xz hmm hx C0 N0
  go_upto_region 2 with fail
  rw [← hW3]
  rw [← hb14]
  clear hW3 hb14
  by_cases hx0 : x = 0
  case neg =>
    have t0 : (x == 0) = false := by simpa using hx0
    have t0b : (x != 0) = true := by simpa using hx0
    have hE : Hid (comeE S cu cg now dir nm n = x) := by show _ = _; rw [hm.out, if_pos hx0]
    have HX := Lib.hid hx0
    clear hm hx0
    go_wp2_with fail
    go_ret2
    exact HS.out _ _ (HE0.out.trans E03) hE.out HX.out
  have t0 : (x == 0) = true := by simpa using hx0
  have t0b : (x != 0) = false := by simpa using hx0
  obtain ⟨hmg, hid⟩ := hp.out hx0
  have hm2 : Hid (comeE S cu cg now dir nm n = if ¬ findF m.ents nm = 0 then 7 else makeE S (newN S cu cg now dir n)) := by show _ = _; rw [hm.out, if_neg (by simpa using hx0), ← hmg]
  have HMG := Lib.hid hmg
  have HID := Lib.hid hid
  have hen := HO.out.entsN dir
  rw [← hmg] at hen
  have HEN := Lib.hid hen
  have k11 : W3.cell? ⟨b14, 11, none⟩ = some (.slice A2 m.ents.length k2) := M3.cell 11
  have kz := M3.lt
  clear hm hp hx0 hmg hid hen
  go_wp2_with fail
  refine (rfind_any A2 m.ents k2 nm _ ok3.ents.ents (by have := HEN.out.2; omega)).mono ?_
  rintro e w4 ⟨rfl, b4⟩
  obtain ⟨v, hv⟩ : ∃ v, v = findF m.ents nm := ⟨_, rfl⟩
  rw [← hv] at hm2
  rw [← hv]
  have C4 := C3.ext b4
  have N4 := N3.ext b4
  have M4 := M3.ext b4
  have ok4 := ok3.ext b4
  have E4 := E03.trans b4
  clear hv k11 kz C3 N3 M3 ok3 E03 b4
  by_cases hv0 : v = 0
  case neg =>
    have t1 : (v == 0) = false := by simpa using hv0
    have t1b : (v != 0) = true := by simpa using hv0
    have hE : Hid (comeE S cu cg now dir nm n = 7) := by show _ = _; rw [hm2.out, if_pos hv0]
    clear hm2 hv0
    go_wp2_with fail
    go_ret2
    exact HS.out _ _ (HE0.out.trans E4) hE.out (by decide)
  have t1 : (v == 0) = true := by simpa using hv0
  have t1b : (v != 0) = false := by simpa using hv0
  have hm3 : Hid (comeE S cu cg now dir nm n = makeE S (newN S cu cg now dir n)) := by show _ = _; rw [hm2.out, if_neg (by simpa using hv0)]
  clear hm2 hv0
  go_upto_region 6 with fail
  obtain ⟨b11, hb11⟩ : ∃ b, b = b7 + 1 := ⟨_, rfl⟩
  rw [← hb11] at N4 ⊢
  have hb11a : b11 ≤ b7 + 1 := by omega
  have hb11b : b7 + 1 ≤ b11 := by omega
  clear hb11
  have hlw := h.lt
  have s0 := E0.size
  have hne1 : b14 ≠ b11 := by have := b2.size; omega
  have hne2 : b7 ≠ b11 := by omega
  have hne3 : g.bF ≠ b11 := by omega
  have nbf : (b11 = g.bF) = False := eq_false (by omega)
  have nbf2 : (g.bF = b11) = False := eq_false (by omega)
  have n1 : (b11 = b14) = False := eq_false (Ne.symm hne1)
  have n2 : (b14 = b11) = False := eq_false hne1
  have n3 : (b11 = b7) = False := eq_false (Ne.symm hne2)
  have n4 : (b7 = b11) = False := eq_false hne2
  have Ew4 : Ext w w4 := HE0.out.trans E4
  have u1 : w4.cell? ⟨b14, 1, none⟩ = some (.int .i64 m.dev) := M4.cell 1
  have u2 : w4.cell? ⟨b7, 0, none⟩ = some (.int .i64 cu) := C4.cell 0
  have u3 : w4.cell? ⟨b7, 1, none⟩ = some (.int .i64 cg) := C4.cell 1
  have u4 : w4.cell? ⟨g.bF, 3, none⟩ = some (.int .i64 now) := by rw [HNW.out]; obtain ⟨_, _, _, k, _⟩ := h.ext Ew4; exact k.cell 3
  have f1 : w4.cell? ⟨b11, 1, none⟩ = some (.int .i64 n.dev) := N4.cell 1
  have f4 : w4.cell? ⟨b11, 4, none⟩ = some (.int .i64 n.uid) := N4.cell 4
  have f5 : w4.cell? ⟨b11, 5, none⟩ = some (.int .i64 n.gid) := N4.cell 5
  have f6 : w4.cell? ⟨b11, 6, none⟩ = some (.int .i64 n.mtime) := N4.cell 6
  have f7 : w4.cell? ⟨b11, 7, none⟩ = some (.int .i64 n.ctime) := N4.cell 7
  have f8 : w4.cell? ⟨b11, 8, none⟩ = some (.int .i64 n.links) := N4.cell 8
  have yf : ∀ i, w4.frozen? ⟨b11, i, none⟩ = false := fun i => (N4.free i).trans (by simp)
  have z1 := M4.lt
  have z2 := C4.lt
  have z3 := N4.lt
  have z4 := (h.ext Ew4).lt.1
  go_upto_region 12 with fail
  obtain ⟨V, hV⟩ : ∃ V, V = (((((w4.setCell ⟨b11, 1, none⟩ (.int .i64 m.dev)).setCell ⟨b11, 4, none⟩ (.int .i64 cu)).setCell ⟨b11, 5, none⟩ (.int .i64 cg)).setCell ⟨b11, 6, none⟩ (.int .i64 now)).setCell ⟨b11, 7, none⟩ (.int .i64 now)).setCell ⟨b11, 8, none⟩ (.int .i64 1) := ⟨_, rfl⟩
  rw [← hV]
  have N5 : Has V b11 (.cells #[.int .i64 ((newN S cu cg now dir n)).no, .int .i64 ((newN S cu cg now dir n)).dev, .int .i64 ((newN S cu cg now dir n)).kind, .int .i64 ((newN S cu cg now dir n)).mode, .int .i64 ((newN S cu cg now dir n)).uid, .int .i64 ((newN S cu cg now dir n)).gid, .int .i64 ((newN S cu cg now dir n)).mtime, .int .i64 ((newN S cu cg now dir n)).ctime, .int .i64 ((newN S cu cg now dir n)).links, .int .i64 ((newN S cu cg now dir n)).up, .string (bs ((newN S cu cg now dir n)).data), .slice A ((newN S cu cg now dir n)).ents.length c] 87) := by
    rw [hV]
    have := (((((N4.setCell 1 (.int .i64 m.dev)).setCell 4 (.int .i64 cu)).setCell 5 (.int .i64 cg)).setCell 6 (.int .i64 now)).setCell 7 (.int .i64 now)).setCell 8 (.int .i64 1)
    rw [HMG.out] at this ⊢
    exact this
  have O5 : Only [b11] w4 V := by
    rw [hV]
    exact (((((Only.setCell _ _ _ _).then (Only.setCell _ _ _ _)).then (Only.setCell _ _ _ _)).then (Only.setCell _ _ _ _)).then (Only.setCell _ _ _ _)).then (Only.setCell _ _ _ _)
  clear hV u1 u2 u3 u4 f1 f4 f5 f6 f7 f8 yf z1 z2 z3 z4 nbf nbf2 n1 n2 n3 n4
  obtain ⟨n', hn'⟩ : ∃ n', n' = newN S cu cg now dir n := ⟨_, rfl⟩
  rw [← hn'] at N5 hm3
  have hdn : n'.data = n.data := by rw [hn']; rfl
  have hden : n'.ents = n.ents := by rw [hn']; rfl
  have HN' := Lib.hid hn'
  have HDN := Lib.hid hdn
  have ha4 : Apart w4 B [b11] := by
    intro b hb
    rw [List.mem_singleton] at hb
    subst hb
    exact ⟨by have := h.1; omega, N4.noTag (by decide)⟩
  have hnb : ∀ b ∈ g.list, b ∉ [b11] := by
    intro b hb
    simp only [GhF.list, List.mem_cons, List.not_mem_nil, or_false] at hb
    rw [List.mem_singleton]
    rcases hb with rfl | rfl | rfl <;> omega
  have F5 : FAt V B g S X := (h.ext Ew4).only O5 ha4 hnb
  have okn5 : NodeOk V B n' A c := ((hn.ext Ew4).only O5 ha4).same hden
  have ok5 := ok4.only O5 ha4
  have M5 := O5.has M4 (by simpa using hne1)
  have Ow5 : Only g.list w V := (Only.of_ext Ew4).trans O5 (by intro b hb; rw [List.mem_singleton] at hb; right; omega)
  have E5 : Ext w V := O5.after Ew4 (by intro b hb; rw [List.mem_singleton] at hb; omega)
  clear hn' hdn hden
  go_wp2_with (refine wpList_load_node rfl _ rfl b11 n' A c rfl N5 ?_)
  refine (rmake_any B g S X n' A c _ F5 HCL.out okn5 HO.out.live.roots HO.out.live.eight HO.out.live.nos (by have := HO.out.live.last; omega) (by omega) (by rw [HDN.out]; exact hdl)).mono ?_
  rintro e w6 ⟨rfl, bN, F6, O6, hbN⟩
  obtain ⟨e6, he6⟩ : ∃ e6, e6 = makeE S n' := ⟨_, rfl⟩
  have hno : makeE S n' = 0 → makeN S n' = S.last + 1 := fun h0 => by unfold makeN; rw [if_pos h0]
  obtain ⟨no, hno2⟩ : ∃ no, no = makeN S n' := ⟨_, rfl⟩
  rw [← he6, ← hno2] at hno
  rw [← he6] at hm3
  rw [← he6, ← hno2]
  have HNO := Lib.hid hno
  have HE6 := Lib.hid he6
  have M6 := O6.has M5 (by simp only [GhF.list, List.mem_cons, List.not_mem_nil, or_false]; omega)
  have ok6 := ok5.only O6 F5.apart
  have Ow6 := Ow5.then O6
  have hbN' : bN = g.bN ∨ w.heap.size ≤ bN := by rcases hbN with h | h; exact .inl h; exact .inr (by have := E5.size; omega)
  have hon : GhF.on ⟨g.bF, bN, g.bE⟩ g w := ⟨rfl, by
    intro b hb
    simp only [GhF.list, List.mem_cons, List.not_mem_nil, or_false] at hb ⊢
    rcases hb with rfl | rfl | rfl
    · exact .inl (.inl rfl)
    · rcases hbN' with h | h
      · exact .inl (.inr (.inl h))
      · exact .inr h
    · exact .inl (.inr (.inr rfl))⟩
  have HON := Lib.hid hon
  clear hno hno2 he6 hbN hbN' hon
  by_cases hz : e6 = 0
  case neg =>
    have t2 : (e6 == 0) = false := by simpa using hz
    have t2b : (e6 != 0) = true := by simpa using hz
    have HZ := Lib.hid hz
    clear hz
    go_wp2_with fail
    go_ret2
    have e1 : comeE S cu cg now dir nm n = e6 := hm3.out
    have e2 : comeN S cu cg now dir nm n = 0 := by unfold comeN; rw [if_neg (by rw [e1]; exact HZ.out)]
    have e3 : comeT S cu cg now dir nm n = S := by unfold comeT; rw [if_neg (by rw [e1]; exact HZ.out)]
    have e4 : makeT S n' = S := by unfold makeT; rw [if_neg (by rw [← HE6.out]; exact HZ.out)]
    rw [e4] at F6
    exact ⟨by rw [e1, e2]; rfl, ⟨g.bF, bN, g.bE⟩, by rw [e3]; exact F6, Ow6, HON.out⟩
  have t2 : (e6 == 0) = true := by simpa using hz
  have t2b : (e6 != 0) = false := by simpa using hz
  have HZ := Lib.hid hz
  have k11 : w6.cell? ⟨b14, 11, none⟩ = some (.slice A2 m.ents.length k2) := M6.cell 11
  have kz := M6.lt
  clear hz
  go_wp2_with fail
  refine (rput_any A2 m.ents k2 (nm, no) _ ok6.ents.ents (by have := HEN.out.2; omega)).mono ?_
  rintro e w7 ⟨v7, rfl, hown, b7'⟩
  obtain ⟨A7, c7, rfl, q1, q2, q3, q4⟩ := hown.entsT (B := B)
  obtain ⟨T, hT⟩ : ∃ T, T = makeT S n' := ⟨_, rfl⟩
  rw [← hT] at F6
  have hTu : NosUp T.nodes T.last := by rw [hT]; exact nos_make HO.out.live _
  have hTc : T.nodes.length ≤ 1000000 := by
    rw [hT]; unfold makeT; have := HCL.out
    split
    · simp; omega
    · omega
  obtain ⟨L7, hL7⟩ : ∃ L, L = putF m.ents (nm, no) := ⟨_, rfl⟩
  rw [← hL7] at q1 q3 ⊢
  have KTT : Hid (Calls Tryz.prog 114 #[.pointer (some ⟨g.bF, 0, none⟩), .int .i64 dir, .slice A7 L7.length c7] w7 (TouchF w7 B ⟨g.bF, bN, g.bE⟩ (touchT T dir X.now L7) X)) := rtouch_any B ⟨g.bF, bN, g.bE⟩ T X dir A7 L7 c7 w7 (F6.ext b7') hTc hTu q3 q1 q2 q4
  have HT := Lib.hid hT
  have HL7 := Lib.hid hL7
  clear k11 kz hown q1 q2 q3 q4 hT hL7
  go_wp2_with fail
  refine KTT.out.mono ?_
  rintro e w8 ⟨rfl, K8, O8⟩
  go_wp2_with fail
  go_ret2
  have e1 : comeE S cu cg now dir nm n = 0 := by rw [hm3.out]; exact HZ.out
  have e2 : comeN S cu cg now dir nm n = no := by unfold comeN; rw [if_pos e1]; exact (HNO.out HZ.out).symm
  have e3 : comeT S cu cg now dir nm n = touchT T dir X.now L7 := by
    unfold comeT
    rw [if_pos e1, HT.out, HL7.out, ← HN'.out, HMG.out, HNO.out HZ.out, HNW.out]
  refine ⟨by rw [e1, e2]; rfl, ⟨g.bF, bN, g.bE⟩, by rw [e3]; exact K8, (Ow6.ext b7').trans O8 (fun b hb => HON.out.2 b hb), HON.out⟩
end Go.Proofs.YtjblimclakfhfaaGreat

namespace Go.Proofs.YtjblimclakfhfaaGreat
open Go.ChangeShapes Go.WideShapes Go.ChangeAt Go.RowKit

theorem GhF.on_base {w w0 : World} {g2 g : GhF} (h : GhF.on g2 g w0) (E : Ext w w0) : GhF.on g2 g w := ⟨h.1, fun b hb => by rcases h.2 b hb with k | k; exact .inl k; exact .inr (by have := E.size; omega)⟩
theorem noF_pre {w w' : World} {B : Nat} {g : GhF} {S T : TreeD} {X : Xtra} {p a x : Int} (h : FAt w B g S X) (hE : Ext w w') (hp : p ≠ 0) : NoF w B g (preT p S T) X (preN p a) (preE p x) (.returned (.tuple #[.int .i64 0, .int .i64 p])) w' :=
  ⟨by unfold preN preE; rw [if_pos hp, if_pos hp], g, by unfold preT; rw [if_pos hp]; exact h.ext hE, Only.of_ext hE, GhF.on_refl _ _⟩
theorem noF_go {w w0 w' : World} {B : Nat} {g : GhF} {S T : TreeD} {X : Xtra} {p a x : Int} {e : Ending} (E : Ext w w0) (h : NoF w0 B g T X a x e w') (h0 : p = 0) : e = .returned (.tuple #[.int .i64 a, .int .i64 x]) ∧ NoF w B g (preT p S T) X (preN p a) (preE p x) e w' := by
  obtain ⟨he, g2, hK, hO, hn⟩ := h
  have n0 : ¬ (p ≠ 0) := fun x => x h0
  exact ⟨he, by unfold preN preE; rw [if_neg n0, if_neg n0]; exact he, g2, by unfold preT; rw [if_neg n0]; exact hK, Only.pre E hO, GhF.on_base hn E⟩
set_option maxRecDepth 100000 in
set_option maxHeartbeats 4000000 in
theorem rdir_any (B : Nat) (g : GhF) (S : TreeD) (X : Xtra) (cu cg dir : Int) (nm : List UInt8) (mode : Int) (w : World) (h : FAt w B g S X) (O : Ok S) (hl1 : S.last ≤ 100000) (hnm : nm.length ≤ 1000000) :
    Calls Tryz.prog 55 #[.pointer (some ⟨g.bF, 0, none⟩), .agg #[.int .i64 cu, .int .i64 cg], .int .i64 dir, .string (bs nm), .int .i64 mode] w
      (NoF w B g (preT (dirP mode) S (comeT S cu cg X.now dir nm (dirZ mode dir))) X (preN (dirP mode) (comeN S cu cg X.now dir nm (dirZ mode dir))) (preE (dirP mode) (comeE S cu cg X.now dir nm (dirZ mode dir)))) := by
  obtain ⟨W0, hW0⟩ : ∃ W0, W0 = w.alloc (.cells #[.int .i64 cu, .int .i64 cg] 24) := ⟨_, rfl⟩
  have E0 : Ext w W0 := by rw [hW0]; exact (Ext.refl _).alloc _
  have C0 : Has W0 w.heap.size (.cells #[.int .i64 cu, .int .i64 cg] 24) := by rw [hW0]; exact Has.new w _
  have x0 : W0.cell? ⟨w.heap.size, 0, none⟩ = some (.int .i64 cu) := C0.cell 0
  have x1 : W0.cell? ⟨w.heap.size, 1, none⟩ = some (.int .i64 cg) := C0.cell 1
  have xz := C0.lt
  obtain ⟨p, hp⟩ : ∃ p, p = dirP mode := ⟨_, rfl⟩
  obtain ⟨T, hT⟩ : ∃ T, T = comeT S cu cg X.now dir nm (dirZ mode dir) := ⟨_, rfl⟩
  obtain ⟨a, ha⟩ : ∃ a, a = comeN S cu cg X.now dir nm (dirZ mode dir) := ⟨_, rfl⟩
  obtain ⟨x, hx⟩ : ∃ x, x = comeE S cu cg X.now dir nm (dirZ mode dir) := ⟨_, rfl⟩
  have HS : Hid (∀ (w' : World) (y : Int), Ext w w' → p = y → y ≠ 0 → NoF w B g (preT p S T) X (preN p a) (preE p x) (.returned (.tuple #[.int .i64 0, .int .i64 y])) w') := by
    show ∀ (w' : World) (y : Int), _
    intro w' y hE hy h0
    subst hy
    exact noF_pre h hE h0
  have KP : Hid (∀ w1, Ext w w1 → Calls Tryz.prog 107 #[.pointer (some ⟨g.bF, 0, none⟩), .agg #[.int .i64 cu, .int .i64 cg], .int .i64 dir, .string (bs nm), .agg #[.int .i64 ((dirZ mode dir)).no, .int .i64 ((dirZ mode dir)).dev, .int .i64 ((dirZ mode dir)).kind, .int .i64 ((dirZ mode dir)).mode, .int .i64 ((dirZ mode dir)).uid, .int .i64 ((dirZ mode dir)).gid, .int .i64 ((dirZ mode dir)).mtime, .int .i64 ((dirZ mode dir)).ctime, .int .i64 ((dirZ mode dir)).links, .int .i64 ((dirZ mode dir)).up, .string (bs ((dirZ mode dir)).data), .slice none ((dirZ mode dir)).ents.length 0]] w1 (NoF w1 B g T X a x)) := by
    show ∀ w1, _
    intro w1 hE
    rw [hT, ha, hx]
    refine rcome_any B g S X cu cg dir nm (dirZ mode dir) none 0 w1 (h.ext hE) O hl1 ⟨.nil _ _ _, Nat.le_refl _, Nat.zero_le _, fun _ => rfl⟩ ?_ hnm
    simp [dirZ, nodeZ]
  rw [← hp, ← hT, ← ha, ← hx]
  have HP := Lib.hid hp
  have HE0 := Lib.hid E0
  have hlw := Lib.hid h
  clear O hp E0 C0 hT ha hx
  go_enter Tryz.func55, Tryz.ntmps55
  go_upto_region 1 with fail
  rw [← hW0]
  clear hW0
  by_cases c1 : mode < 0
  · have t1 : decide (mode < 0) = true := decide_eq_true c1
    have hE : Hid (p = 1) := by show _ = _; rw [HP.out]; unfold dirP; rw [if_pos (.inl c1)]
    go_wp2_with fail
    go_ret2
    exact HS.out _ _ HE0.out hE.out (by decide)
  have t1 : decide (mode < 0) = false := decide_eq_false c1
  by_cases c2 : 1023 < mode
  · have t2 : decide (1023 < mode) = true := decide_eq_true c2
    have hE : Hid (p = 1) := by show _ = _; rw [HP.out]; unfold dirP; rw [if_pos (.inr c2)]
    go_wp2_with fail
    go_ret2
    exact HS.out _ _ HE0.out hE.out (by decide)
  have t2 : decide (1023 < mode) = false := decide_eq_false c2
  have hE : Hid (p = 0) := by show _ = _; rw [HP.out]; unfold dirP; rw [if_neg (by omega)]
  go_wp2_with fail
  refine (KP.out _ HE0.out).mono ?_
  rintro e w2 hr
  obtain ⟨rfl, hD⟩ := noF_go (S := S) HE0.out hr hE.out
  clear hr
  go_wp2_with fail
  go_ret2
  exact hD
set_option maxRecDepth 100000 in
set_option maxHeartbeats 4000000 in
theorem rfile_any (B : Nat) (g : GhF) (S : TreeD) (X : Xtra) (cu cg dir : Int) (nm : List UInt8) (mode : Int) (data : List UInt8) (w : World) (h : FAt w B g S X) (O : Ok S) (hl1 : S.last ≤ 100000) (hnm : nm.length ≤ 1000000) (hd : data.length ≤ 1000000000) :
    Calls Tryz.prog 57 #[.pointer (some ⟨g.bF, 0, none⟩), .agg #[.int .i64 cu, .int .i64 cg], .int .i64 dir, .string (bs nm), .int .i64 mode, .string (bs data)] w
      (NoF w B g (preT (fileP mode data.length) S (comeT S cu cg X.now dir nm (fileZ mode data))) X (preN (fileP mode data.length) (comeN S cu cg X.now dir nm (fileZ mode data))) (preE (fileP mode data.length) (comeE S cu cg X.now dir nm (fileZ mode data)))) := by
  obtain ⟨W0, hW0⟩ : ∃ W0, W0 = w.alloc (.cells #[.int .i64 cu, .int .i64 cg] 24) := ⟨_, rfl⟩
  have E0 : Ext w W0 := by rw [hW0]; exact (Ext.refl _).alloc _
  have C0 : Has W0 w.heap.size (.cells #[.int .i64 cu, .int .i64 cg] 24) := by rw [hW0]; exact Has.new w _
  have x0 : W0.cell? ⟨w.heap.size, 0, none⟩ = some (.int .i64 cu) := C0.cell 0
  have x1 : W0.cell? ⟨w.heap.size, 1, none⟩ = some (.int .i64 cg) := C0.cell 1
  have xz := C0.lt
  obtain ⟨p, hp⟩ : ∃ p, p = fileP mode data.length := ⟨_, rfl⟩
  obtain ⟨T, hT⟩ : ∃ T, T = comeT S cu cg X.now dir nm (fileZ mode data) := ⟨_, rfl⟩
  obtain ⟨a, ha⟩ : ∃ a, a = comeN S cu cg X.now dir nm (fileZ mode data) := ⟨_, rfl⟩
  obtain ⟨x, hx⟩ : ∃ x, x = comeE S cu cg X.now dir nm (fileZ mode data) := ⟨_, rfl⟩
  have HS : Hid (∀ (w' : World) (y : Int), Ext w w' → p = y → y ≠ 0 → NoF w B g (preT p S T) X (preN p a) (preE p x) (.returned (.tuple #[.int .i64 0, .int .i64 y])) w') := by
    show ∀ (w' : World) (y : Int), _
    intro w' y hE hy h0
    subst hy
    exact noF_pre h hE h0
  have KP : Hid (∀ w1, Ext w w1 → Calls Tryz.prog 107 #[.pointer (some ⟨g.bF, 0, none⟩), .agg #[.int .i64 cu, .int .i64 cg], .int .i64 dir, .string (bs nm), .agg #[.int .i64 ((fileZ mode data)).no, .int .i64 ((fileZ mode data)).dev, .int .i64 ((fileZ mode data)).kind, .int .i64 ((fileZ mode data)).mode, .int .i64 ((fileZ mode data)).uid, .int .i64 ((fileZ mode data)).gid, .int .i64 ((fileZ mode data)).mtime, .int .i64 ((fileZ mode data)).ctime, .int .i64 ((fileZ mode data)).links, .int .i64 ((fileZ mode data)).up, .string (bs ((fileZ mode data)).data), .slice none ((fileZ mode data)).ents.length 0]] w1 (NoF w1 B g T X a x)) := by
    show ∀ w1, _
    intro w1 hE
    rw [hT, ha, hx]
    refine rcome_any B g S X cu cg dir nm (fileZ mode data) none 0 w1 (h.ext hE) O hl1 ⟨.nil _ _ _, Nat.le_refl _, Nat.zero_le _, fun _ => rfl⟩ ?_ hnm
    exact hd
  rw [← hp, ← hT, ← ha, ← hx]
  have HP := Lib.hid hp
  have HE0 := Lib.hid E0
  have hlw := Lib.hid h
  clear O hp E0 C0 hT ha hx
  go_enter Tryz.func57, Tryz.ntmps57
  go_upto_region 1 with fail
  rw [← hW0]
  clear hW0
  have hsz : ((bs data).size : Int) = data.length := by rw [bs_size]
  by_cases c1 : mode < 0
  · have t1 : decide (mode < 0) = true := decide_eq_true c1
    have hE : Hid (p = 1) := by show _ = _; rw [HP.out]; unfold fileP; rw [if_pos (.inl c1)]
    go_wp2_with fail
    go_ret2
    exact HS.out _ _ HE0.out hE.out (by decide)
  have t1 : decide (mode < 0) = false := decide_eq_false c1
  by_cases c2 : 1023 < mode
  · have t2 : decide (1023 < mode) = true := decide_eq_true c2
    have hE : Hid (p = 1) := by show _ = _; rw [HP.out]; unfold fileP; rw [if_pos (.inr c2)]
    go_wp2_with fail
    go_ret2
    exact HS.out _ _ HE0.out hE.out (by decide)
  have t2 : decide (1023 < mode) = false := decide_eq_false c2
  by_cases c3 : (1048576 : Int) < data.length
  · have t3 : decide ((1048576 : Int) < (data.length : Int)) = true := decide_eq_true c3
    have hE : Hid (p = 3) := by show _ = _; rw [HP.out]; unfold fileP; rw [if_neg (by omega), if_pos c3]
    go_wp2_with fail
    go_ret2
    exact HS.out _ _ HE0.out hE.out (by decide)
  have t3 : decide ((1048576 : Int) < (data.length : Int)) = false := decide_eq_false c3
  have hE : Hid (p = 0) := by show _ = _; rw [HP.out]; unfold fileP; rw [if_neg (by omega), if_neg c3]
  go_wp2_with fail
  refine (KP.out _ HE0.out).mono ?_
  rintro e w2 hr
  obtain ⟨rfl, hD⟩ := noF_go (S := S) HE0.out hr hE.out
  clear hr
  go_wp2_with fail
  go_ret2
  exact hD
set_option maxRecDepth 100000 in
set_option maxHeartbeats 4000000 in
theorem rsym_any (B : Nat) (g : GhF) (S : TreeD) (X : Xtra) (cu cg dir : Int) (nm : List UInt8) (text : List UInt8) (w : World) (h : FAt w B g S X) (O : Ok S) (hl1 : S.last ≤ 100000) (hnm : nm.length ≤ 1000000) (hd : text.length ≤ 1000000) :
    Calls Tryz.prog 59 #[.pointer (some ⟨g.bF, 0, none⟩), .agg #[.int .i64 cu, .int .i64 cg], .int .i64 dir, .string (bs nm), .string (bs text)] w
      (NoF w B g (preT (symP text) S (comeT S cu cg X.now dir nm (symZ text))) X (preN (symP text) (comeN S cu cg X.now dir nm (symZ text))) (preE (symP text) (comeE S cu cg X.now dir nm (symZ text)))) := by
  obtain ⟨W0, hW0⟩ : ∃ W0, W0 = w.alloc (.cells #[.int .i64 cu, .int .i64 cg] 24) := ⟨_, rfl⟩
  have E0 : Ext w W0 := by rw [hW0]; exact (Ext.refl _).alloc _
  have C0 : Has W0 w.heap.size (.cells #[.int .i64 cu, .int .i64 cg] 24) := by rw [hW0]; exact Has.new w _
  have x0 : W0.cell? ⟨w.heap.size, 0, none⟩ = some (.int .i64 cu) := C0.cell 0
  have x1 : W0.cell? ⟨w.heap.size, 1, none⟩ = some (.int .i64 cg) := C0.cell 1
  have xz := C0.lt
  obtain ⟨p, hp⟩ : ∃ p, p = symP text := ⟨_, rfl⟩
  obtain ⟨T, hT⟩ : ∃ T, T = comeT S cu cg X.now dir nm (symZ text) := ⟨_, rfl⟩
  obtain ⟨a, ha⟩ : ∃ a, a = comeN S cu cg X.now dir nm (symZ text) := ⟨_, rfl⟩
  obtain ⟨x, hx⟩ : ∃ x, x = comeE S cu cg X.now dir nm (symZ text) := ⟨_, rfl⟩
  have HS : Hid (∀ (w' : World) (y : Int), Ext w w' → p = y → y ≠ 0 → NoF w B g (preT p S T) X (preN p a) (preE p x) (.returned (.tuple #[.int .i64 0, .int .i64 y])) w') := by
    show ∀ (w' : World) (y : Int), _
    intro w' y hE hy h0
    subst hy
    exact noF_pre h hE h0
  have KP : Hid (∀ w1, Ext w w1 → Calls Tryz.prog 107 #[.pointer (some ⟨g.bF, 0, none⟩), .agg #[.int .i64 cu, .int .i64 cg], .int .i64 dir, .string (bs nm), .agg #[.int .i64 ((symZ text)).no, .int .i64 ((symZ text)).dev, .int .i64 ((symZ text)).kind, .int .i64 ((symZ text)).mode, .int .i64 ((symZ text)).uid, .int .i64 ((symZ text)).gid, .int .i64 ((symZ text)).mtime, .int .i64 ((symZ text)).ctime, .int .i64 ((symZ text)).links, .int .i64 ((symZ text)).up, .string (bs ((symZ text)).data), .slice none ((symZ text)).ents.length 0]] w1 (NoF w1 B g T X a x)) := by
    show ∀ w1, _
    intro w1 hE
    rw [hT, ha, hx]
    refine rcome_any B g S X cu cg dir nm (symZ text) none 0 w1 (h.ext hE) O hl1 ⟨.nil _ _ _, Nat.le_refl _, Nat.zero_le _, fun _ => rfl⟩ ?_ hnm
    show text.length ≤ _; omega
  rw [← hp, ← hT, ← ha, ← hx]
  have HP := Lib.hid hp
  have HE0 := Lib.hid E0
  have hlw := Lib.hid h
  clear O hp E0 C0 hT ha hx
  have hh : Hid (∀ w', Calls Tryz.prog 110 #[.string (bs text), .int .u8 0] w' (Ret w' (.bool (hasB text 0)))) := by
    show ∀ w', _
    intro w'
    have := rhas_any (bs text) 0 0 rfl (by rw [bs_size]; exact hd) w'
    rw [bs_list] at this
    exact this
  by_cases c0 : text = []
  · have hE : Hid (p = 1) := by show _ = _; rw [HP.out]; unfold symP; rw [if_pos (.inl c0)]
    have hem : (bs text).toList.isEmpty = true := by rw [bs_toList, c0]; rfl
    clear c0
    go_enter Tryz.func59, Tryz.ntmps59
    go_upto_region 1 with fail
    rw [← hW0]
    clear hW0
    go_wp2_with fail
    go_ret2
    exact HS.out _ _ HE0.out hE.out (by decide)
  have hem : (bs text).toList.isEmpty = false := by rw [bs_toList, List.isEmpty_eq_false_iff]; exact c0
  have hsz : ((bs text).size : Int) = text.length := by rw [bs_size]
  have HC0 := Lib.hid c0
  clear c0
  go_enter Tryz.func59, Tryz.ntmps59
  go_upto_region 1 with fail
  rw [← hW0]
  clear hW0
  go_wp2_with fail
  refine (hh.out _).mono ?_
  rintro e w1 ⟨rfl, b1⟩
  obtain ⟨hb, hhb⟩ : ∃ hb, hb = hasB text 0 := ⟨_, rfl⟩
  rw [← hhb]
  have HB := Lib.hid hhb
  have E1 := HE0.out.trans b1
  have x0' : w1.cell? ⟨w.heap.size, 0, none⟩ = some (.int .i64 cu) := (b1.cell xz).trans x0
  have x1' : w1.cell? ⟨w.heap.size, 1, none⟩ = some (.int .i64 cg) := (b1.cell xz).trans x1
  have xz' : w.heap.size < w1.heap.size := by have := b1.size; omega
  clear x0 x1 xz hhb
  cases hb
  case true =>
    have hE : Hid (p = 1) := by show _ = _; rw [HP.out]; unfold symP; rw [if_pos (.inr HB.out.symm)]
    go_wp2_with fail
    go_ret2
    exact HS.out _ _ E1 hE.out (by decide)
  by_cases c1 : (4096 : Int) < text.length
  · have t1 : decide ((4096 : Int) < (text.length : Int)) = true := decide_eq_true c1
    have hE : Hid (p = 13) := by show _ = _; rw [HP.out]; unfold symP; rw [if_neg (by rintro (h' | h'); exact HC0.out h'; rw [← HB.out] at h'; cases h'), if_pos (by omega)]
    go_wp2_with fail
    go_ret2
    exact HS.out _ _ E1 hE.out (by decide)
  have t1 : decide ((4096 : Int) < (text.length : Int)) = false := decide_eq_false c1
  have hE : Hid (p = 0) := by show _ = _; rw [HP.out]; unfold symP; rw [if_neg (by rintro (h' | h'); exact HC0.out h'; rw [← HB.out] at h'; cases h'), if_neg (by omega)]
  go_wp2_with fail
  refine (KP.out _ E1).mono ?_
  rintro e w2 hr
  obtain ⟨rfl, hD⟩ := noF_go (S := S) E1 hr hE.out
  clear hr
  go_wp2_with fail
  go_ret2
  exact hD
end Go.Proofs.YtjblimclakfhfaaGreat

namespace Go.Proofs.YtjblimclakfhfaaGreat
open Go.ChangeShapes Go.WideShapes Go.ChangeAt Go.RowKit

/-- An error alone. -/
def ErF (w : World) (B : Nat) (g : GhF) (T : TreeD) (X : Xtra) (x : Int) (e : Ending) (w' : World) : Prop := e = .returned (.int .i64 x) ∧ ∃ g2, FAt w' B g2 T X ∧ Only g.list w w' ∧ GhF.on g2 g w
set_option maxRecDepth 100000 in
set_option maxHeartbeats 8000000 in
theorem rhard_any (B : Nat) (g : GhF) (S : TreeD) (X : Xtra) (cu cg no dir : Int) (nm : List UInt8) (w : World) (h : FAt w B g S X) (O : Ok S) (hl1 : S.last ≤ 100000) (hnm : nm.length ≤ 1000000) :
    Calls Tryz.prog 61 #[.pointer (some ⟨g.bF, 0, none⟩), .agg #[.int .i64 cu, .int .i64 cg], .int .i64 no, .int .i64 dir, .string (bs nm)] w (ErF w B g (hardT S cu cg X.now no dir nm) X (hardE S cu cg no dir nm)) := by
  obtain ⟨W0, hW0⟩ : ∃ W0, W0 = w.alloc (.cells #[.int .i64 cu, .int .i64 cg] 24) := ⟨_, rfl⟩
  have E0 : Ext w W0 := by rw [hW0]; exact (Ext.refl _).alloc _
  have C0 : Has W0 w.heap.size (.cells #[.int .i64 cu, .int .i64 cg] 24) := by rw [hW0]; exact Has.new w _
  have HO := Lib.hid O
  have hcl : S.nodes.length ≤ 100000 := by have := O.live.count; omega
  have HCL := Lib.hid hcl
  obtain ⟨now, hnow⟩ : ∃ now, now = X.now := ⟨_, rfl⟩
  have hm : Hid (hardE S cu cg no dir nm = if ¬ placeE S cu cg dir nm = 0 then placeE S cu cg dir nm else if isN S.nodes no = false then 5 else if (getN S.nodes no).kind = 1 then 4
    else if ¬ findF (getN S.nodes dir).ents nm = 0 then 7 else if ¬ (getN S.nodes no).dev = (getN S.nodes dir).dev then 11 else if 1000 ≤ (getN S.nodes no).links then 18 else 0) := by show _ = _; rfl
  have hp : Hid (placeE S cu cg dir nm = 0 → placeN S cu cg dir nm = getN S.nodes dir ∧ isN S.nodes dir = true) := fun h0 => ⟨placeN_zero h0, (placeE_zero h0).1⟩
  have HS : Hid (∀ (w' : World) (x : Int), Ext w w' → hardE S cu cg no dir nm = x → x ≠ 0 → ErF w B g (hardT S cu cg now no dir nm) X (hardE S cu cg no dir nm) (.returned (.int .i64 x)) w') := by
    show ∀ (w' : World) (x : Int), _
    intro w' x hE hx h0
    rw [hx]
    refine ⟨rfl, g, ?_, Only.of_ext hE, GhF.on_refl _ _⟩
    unfold hardT
    rw [if_neg (by rw [hx]; exact h0)]
    exact h.ext hE
  have hnz : Hid (((getN S.nodes no).no == 0) = !isN S.nodes no) := by
    refine Lib.hid ?_
    cases hi : isN S.nodes no
    · rw [(isN_false hi).1]; rfl
    · have h1 := (O.live.nos.2 _ (isN_true hi).2.2).1
      simp; omega
  rw [← hnow]
  have HNW := Lib.hid hnow
  have HE0 := Lib.hid E0
  clear O hcl hnow
  go_enter Tryz.func61, Tryz.ntmps61
  go_upto_region 1 with fail
  rw [← hW0]
  clear hW0
  have x0 : W0.cell? ⟨w.heap.size, 0, none⟩ = some (.int .i64 cu) := C0.cell 0
  have x1 : W0.cell? ⟨w.heap.size, 1, none⟩ = some (.int .i64 cg) := C0.cell 1
  have xz := C0.lt
  go_wp2_with fail
  refine (rplace_any B g S X cu cg dir nm _ (h.ext E0) (by have := HCL.out; omega) HO.out.live.nos hnm).mono ?_
  rintro e w2 ⟨A2, k2, rfl, ok2, b2⟩
  obtain ⟨m, hmm⟩ : ∃ m, m = placeN S cu cg dir nm := ⟨_, rfl⟩
  obtain ⟨x, hx⟩ : ∃ x, x = placeE S cu cg dir nm := ⟨_, rfl⟩
  rw [← hmm] at ok2 hp
  rw [← hx] at hm hp
  rw [← hmm, ← hx]
  obtain ⟨W3, hW3⟩ : ∃ W3, W3 = w2.alloc (.cells #[.int .i64 m.no, .int .i64 m.dev, .int .i64 m.kind, .int .i64 m.mode, .int .i64 m.uid, .int .i64 m.gid, .int .i64 m.mtime, .int .i64 m.ctime, .int .i64 m.links, .int .i64 m.up, .string (bs m.data), .slice A2 m.ents.length k2] 87) := ⟨_, rfl⟩
  obtain ⟨b13, hb13⟩ : ∃ b, b = w2.heap.size := ⟨_, rfl⟩
  have E23 : Ext w2 W3 := by rw [hW3]; exact (Ext.refl _).alloc _
  have M3 : Has W3 b13 (.cells #[.int .i64 m.no, .int .i64 m.dev, .int .i64 m.kind, .int .i64 m.mode, .int .i64 m.uid, .int .i64 m.gid, .int .i64 m.mtime, .int .i64 m.ctime, .int .i64 m.links, .int .i64 m.up, .string (bs m.data), .slice A2 m.ents.length k2] 87) := by rw [hW3, hb13]; exact Has.new _ _
  have E3 : Ext w W3 := E0.trans (b2.trans E23)
  have ok3 := ok2.ext E23
  have hb13w : w.heap.size ≤ b13 := by rw [hb13]; exact (E0.trans b2).size
  clear x0 x1 xz hmm hx C0
  go_upto_region 2 with fail
  rw [← hW3]
  rw [← hb13]
  clear hW3 hb13
  go_wp2_with fail
  refine (rget_any B g S X no _ (h.ext E3) (by have := HCL.out; omega) HO.out.live.nos).mono ?_
  rintro e w4 ⟨A4, k4, rfl, ok4, b4⟩
  obtain ⟨n, hn⟩ : ∃ n, n = getN S.nodes no := ⟨_, rfl⟩
  obtain ⟨i, hi⟩ : ∃ i, i = isN S.nodes no := ⟨_, rfl⟩
  have hlk : isN S.nodes no = true → 1 ≤ (getN S.nodes no).links ∧ (getN S.nodes no).links ≤ 1000 := fun hi => HO.out.links _ (isN_true hi).2.2
  rw [← hn, ← hi] at hlk hnz
  rw [← hn] at ok4 hm ⊢
  rw [← hi] at hm
  have HLK := Lib.hid hlk
  obtain ⟨W5, hW5⟩ : ∃ W5, W5 = w4.alloc (.cells #[.int .i64 n.no, .int .i64 n.dev, .int .i64 n.kind, .int .i64 n.mode, .int .i64 n.uid, .int .i64 n.gid, .int .i64 n.mtime, .int .i64 n.ctime, .int .i64 n.links, .int .i64 n.up, .string (bs n.data), .slice A4 n.ents.length k4] 87) := ⟨_, rfl⟩
  obtain ⟨b15, hb15⟩ : ∃ b, b = w4.heap.size := ⟨_, rfl⟩
  have E45 : Ext w4 W5 := by rw [hW5]; exact (Ext.refl _).alloc _
  have N5 : Has W5 b15 (.cells #[.int .i64 n.no, .int .i64 n.dev, .int .i64 n.kind, .int .i64 n.mode, .int .i64 n.uid, .int .i64 n.gid, .int .i64 n.mtime, .int .i64 n.ctime, .int .i64 n.links, .int .i64 n.up, .string (bs n.data), .slice A4 n.ents.length k4] 87) := by rw [hW5, hb15]; exact Has.new _ _
  have E35 : Ext W3 W5 := b4.trans E45
  have M5 := M3.ext E35
  have ok5 := ok3.ext E35
  have okn5 := ok4.ext E45
  have E5 := E3.trans E35
  have hb15w : W3.heap.size ≤ b15 := by rw [hb15]; exact b4.size
  have hbne : b13 < b15 := by have := M3.lt; omega
  have HNN := Lib.hid hn
  have HI := Lib.hid hi
  clear hn hi M3 ok3 ok4 E3 hlk
  go_upto_region 3 with fail
  rw [← hW5]
  rw [← hb15]
  clear hW5 hb15
  by_cases hx0 : x = 0
  case neg =>
    have t0 : (x == 0) = false := by simpa using hx0
    have t0b : (x != 0) = true := by simpa using hx0
    have hE : Hid (hardE S cu cg no dir nm = x) := by show _ = _; rw [hm.out, if_pos hx0]
    have HX := Lib.hid hx0
    clear hm hx0
    go_wp2_with fail
    go_ret
    exact HS.out _ _ E5 hE.out HX.out
  have t0 : (x == 0) = true := by simpa using hx0
  have t0b : (x != 0) = false := by simpa using hx0
  obtain ⟨hmg, hid⟩ := hp.out hx0
  have hm2 : Hid (hardE S cu cg no dir nm = if i = false then 5 else if n.kind = 1 then 4 else if ¬ findF m.ents nm = 0 then 7 else if ¬ n.dev = m.dev then 11 else if 1000 ≤ n.links then 18 else 0) := by
    show _ = _; rw [hm.out, if_neg (by simpa using hx0), ← hmg]
  have HMG := Lib.hid hmg
  have hen := HO.out.entsN dir
  rw [← hmg] at hen
  have HEN := Lib.hid hen
  have k0' : W5.cell? ⟨b15, 0, none⟩ = some (.int .i64 n.no) := N5.cell 0
  have k2' : W5.cell? ⟨b15, 2, none⟩ = some (.int .i64 n.kind) := N5.cell 2
  have kz := N5.lt
  clear hm hp hx0 hmg hid hen
  cases i
  · have hE : Hid (hardE S cu cg no dir nm = 5) := by show _ = _; rw [hm2.out]; rfl
    have tn : (n.no == 0) = true := hnz.out
    clear hm2
    go_wp2_with fail
    go_ret
    exact HS.out _ _ E5 hE.out (by decide)
  have tn : (n.no == 0) = false := hnz.out
  by_cases c1 : n.kind = 1
  · have t1 : (n.kind == 1) = true := by simpa using c1
    have hE : Hid (hardE S cu cg no dir nm = 4) := by show _ = _; rw [hm2.out, if_neg (by decide), if_pos c1]
    clear hm2
    go_wp2_with fail
    go_ret
    exact HS.out _ _ E5 hE.out (by decide)
  have t1 : (n.kind == 1) = false := by simpa using c1
  have k11 : W5.cell? ⟨b13, 11, none⟩ = some (.slice A2 m.ents.length k2) := M5.cell 11
  have kz2 := M5.lt
  have HC1 := Lib.hid c1
  clear c1
  go_wp2_with fail
  refine (rfind_any A2 m.ents k2 nm _ ok5.ents.ents (by have := HEN.out.2; omega)).mono ?_
  rintro e w6 ⟨rfl, b6⟩
  obtain ⟨v, hv⟩ : ∃ v, v = findF m.ents nm := ⟨_, rfl⟩
  rw [← hv] at hm2
  rw [← hv]
  have N6 := N5.ext b6
  have M6 := M5.ext b6
  have ok6 := ok5.ext b6
  have okn6 := okn5.ext b6
  have E6 := E5.trans b6
  clear hv k2' kz k11 kz2 N5 M5 ok5 okn5
  by_cases c2 : v = 0
  case neg =>
    have t2 : (v == 0) = false := by simpa using c2
    have t2b : (v != 0) = true := by simpa using c2
    have hE : Hid (hardE S cu cg no dir nm = 7) := by show _ = _; rw [hm2.out, if_neg (by decide), if_neg HC1.out, if_pos c2]
    clear hm2 c2
    go_wp2_with fail
    go_ret
    exact HS.out _ _ E6 hE.out (by decide)
  have t2 : (v == 0) = true := by simpa using c2
  have t2b : (v != 0) = false := by simpa using c2
  have y1 : w6.cell? ⟨b15, 1, none⟩ = some (.int .i64 n.dev) := N6.cell 1
  have y2 : w6.cell? ⟨b13, 1, none⟩ = some (.int .i64 m.dev) := M6.cell 1
  have y3 : w6.cell? ⟨b15, 8, none⟩ = some (.int .i64 n.links) := N6.cell 8
  have yz := N6.lt
  have yz2 := M6.lt
  have HC2 := Lib.hid (show ¬ ¬ v = 0 by simpa using c2)
  clear c2
  by_cases c3 : n.dev = m.dev
  case neg =>
    have t3 : (n.dev == m.dev) = false := by simpa using c3
    have t3b : (n.dev != m.dev) = true := by simpa using c3
    have hE : Hid (hardE S cu cg no dir nm = 11) := by show _ = _; rw [hm2.out, if_neg (by decide), if_neg HC1.out, if_neg HC2.out, if_pos c3]
    clear hm2 c3
    go_wp2_with fail
    go_ret
    exact HS.out _ _ E6 hE.out (by decide)
  have t3 : (n.dev == m.dev) = true := by simpa using c3
  have t3b : (n.dev != m.dev) = false := by simpa using c3
  have HC3 := Lib.hid (show ¬ ¬ n.dev = m.dev by simpa using c3)
  clear c3
  by_cases c4 : 1000 ≤ n.links
  · have t4 : decide (1000 ≤ n.links) = true := decide_eq_true c4
    have hE : Hid (hardE S cu cg no dir nm = 18) := by show _ = _; rw [hm2.out, if_neg (by decide), if_neg HC1.out, if_neg HC2.out, if_neg HC3.out, if_pos c4]
    clear hm2 c4
    go_wp2_with fail
    go_ret
    exact HS.out _ _ E6 hE.out (by decide)
  have t4 : decide (1000 ≤ n.links) = false := decide_eq_false c4
  have hE : Hid (hardE S cu cg no dir nm = 0) := by show _ = _; rw [hm2.out, if_neg (by decide), if_neg HC1.out, if_neg HC2.out, if_neg HC3.out, if_neg c4]
  have hl1 := (HLK.out (by trivial)).1
  have y4 : IntKind.i64.wrap (n.links + 1) = n.links + 1 := wrap_i64_in (by omega) (by omega)
  have yf : ∀ i, w6.frozen? ⟨b15, i, none⟩ = false := fun i => (N6.free i).trans (by simp)
  have y7 : w6.cell? ⟨b15, 7, none⟩ = some (.int .i64 n.ctime) := N6.cell 7
  have nw : w6.cell? ⟨g.bF, 3, none⟩ = some (.int .i64 now) := by rw [HNW.out]; obtain ⟨_, _, _, k, _⟩ := h.ext E6; exact k.cell 3
  have nz := (h.ext E6).lt.1
  have hlt := h.lt
  have hs0 := HE0.out.size
  have hs1 := E35.size
  have hbF : g.bF < b15 := by omega
  have nbf : (b15 = g.bF) = False := eq_false (by omega)
  have nbf2 : (g.bF = b15) = False := eq_false (by omega)
  obtain ⟨n', hn'⟩ : ∃ n' : NodeD, n' = { n with links := n.links + 1, ctime := now } := ⟨_, rfl⟩
  have HN' := Lib.hid hn'
  clear hm2 c4 hl1 hn'
  go_upto_region 17 with fail
  obtain ⟨V, hV⟩ : ∃ V, V = (w6.setCell ⟨b15, 8, none⟩ (.int .i64 (n.links + 1))).setCell ⟨b15, 7, none⟩ (.int .i64 now) := ⟨_, rfl⟩
  rw [← hV]
  have NV : Has V b15 (.cells #[.int .i64 (n').no, .int .i64 (n').dev, .int .i64 (n').kind, .int .i64 (n').mode, .int .i64 (n').uid, .int .i64 (n').gid, .int .i64 (n').mtime, .int .i64 (n').ctime, .int .i64 (n').links, .int .i64 (n').up, .string (bs (n').data), .slice A4 (n').ents.length k4] 87) := by rw [hV, HN'.out]; exact (N6.setCell 8 _).setCell 7 _
  have OV : Only [b15] w6 V := by rw [hV]; exact (Only.setCell _ _ _ _).then (Only.setCell _ _ _ _)
  have haP : Apart w6 B [b15] := by
    intro b hb
    rw [List.mem_singleton] at hb
    subst hb
    exact ⟨by have := h.1; omega, N6.noTag (by decide)⟩
  have EV : Ext w V := OV.after E6 (by intro b hb; rw [List.mem_singleton] at hb; omega)
  have KV := h.ext EV
  have MV := OV.has M6 (by rw [List.mem_singleton]; omega)
  have okV := ok6.only OV haP
  have oknV : NodeOk V B n' A4 k4 := (okn6.only OV haP).same (by rw [HN'.out])
  clear hV y1 y2 y3 y4 yf y7 yz yz2 nw nz nbf nbf2 N6 M6 ok6 okn6
  go_wp2_with (refine wpList_load_node rfl _ rfl b15 n' A4 k4 rfl NV ?_)
  refine (rset_any B g S X n' A4 k4 _ KV (by have := HCL.out; omega) HO.out.live.nos oknV).mono ?_
  rintro e w7 ⟨rfl, K7, O7⟩
  have hb13g : b13 ∉ g.list := by
    simp only [GhF.list, List.mem_cons, List.not_mem_nil, or_false]
    omega
  have M7 := O7.has MV hb13g
  have ok7 := okV.only O7 KV.apart
  have Ow7 : Only g.list w w7 := Only.pre EV O7
  obtain ⟨T, hT⟩ : ∃ T, T = setT S n' := ⟨_, rfl⟩
  rw [← hT] at K7
  have hTu : NosUp T.nodes T.last := by rw [hT]; exact HO.out.live.nos.set _
  have hTc : T.nodes.length ≤ 1000000 := by rw [hT]; show (setN _ _).length ≤ _; rw [setN_len]; have := HCL.out; omega
  have HT := Lib.hid hT
  have k11 : w7.cell? ⟨b13, 11, none⟩ = some (.slice A2 m.ents.length k2) := M7.cell 11
  have kz := M7.lt
  clear hT
  go_wp2_with fail
  refine (rput_any A2 m.ents k2 (nm, no) _ ok7.ents.ents (by have := HEN.out.2; omega)).mono ?_
  rintro e w8 ⟨v8, rfl, hown, b8'⟩
  obtain ⟨A8, c8, rfl, q1, q2, q3, q4⟩ := hown.entsT (B := B)
  obtain ⟨L8, hL8⟩ : ∃ L, L = putF m.ents (nm, no) := ⟨_, rfl⟩
  rw [← hL8] at q1 q3 ⊢
  have KTT : Hid (Calls Tryz.prog 114 #[.pointer (some ⟨g.bF, 0, none⟩), .int .i64 dir, .slice A8 L8.length c8] w8 (TouchF w8 B g (touchT T dir X.now L8) X)) := rtouch_any B g T X dir A8 L8 c8 w8 (K7.ext b8') hTc hTu q3 q1 q2 q4
  have HL8 := Lib.hid hL8
  clear k11 kz hown q1 q2 q3 q4 hL8
  go_wp2_with fail
  refine KTT.out.mono ?_
  rintro e w9 ⟨rfl, K9, O9⟩
  go_wp2_with fail
  go_ret
  rw [hE.out]
  have e3 : hardT S cu cg now no dir nm = touchT T dir X.now L8 := by
    unfold hardT hardN
    rw [if_pos hE.out, HT.out, HL8.out, HN'.out, HNN.out, HMG.out, HNW.out]
  exact ⟨rfl, g, by rw [e3]; exact K9, (Ow7.ext b8').then O9, GhF.on_refl _ _⟩
end Go.Proofs.YtjblimclakfhfaaGreat

namespace Go.Proofs.YtjblimclakfhfaaGreat

theorem Live.len {S : TreeD} (h : Live S) (hl : S.last ≤ 1000) : S.nodes.length ≤ 1000 := by have := h.count; omega
theorem Live.kept {S : TreeD} (h : Live S) {no : Int} (hk : killB S no = true) : dropN S.nodes no ≠ [] := by
  obtain ⟨m, hm, e⟩ := h.first
  have h1 := (h.killed hk).2
  intro h0
  have : m ∈ dropN S.nodes no := List.mem_filter.2 ⟨hm, by rw [e]; simpa using Ne.symm h1⟩
  rw [h0] at this; cases this
end Go.Proofs.YtjblimclakfhfaaGreat

namespace Go.Proofs.YtjblimclakfhfaaGreat
open Go.ChangeShapes Go.WideShapes Go.ChangeAt Go.RowKit

def leaveE (S : TreeD) (cu cg dir : Int) (nm : List UInt8) : Int :=
  if ¬ placeE S cu cg dir nm = 0 then placeE S cu cg dir nm else if isN S.nodes (findF (getN S.nodes dir).ents nm) = false then 5
  else if ¬ overF S.devs (findF (getN S.nodes dir).ents nm) = findF (getN S.nodes dir).ents nm then 16
  else if freeB cu (getN S.nodes dir).mode (getN S.nodes dir).uid (getN S.nodes (findF (getN S.nodes dir).ents nm)).uid = false then 4 else 0
def leaveD (S : TreeD) (cu cg dir : Int) (nm : List UInt8) : NodeD := if leaveE S cu cg dir nm = 0 then getN S.nodes dir else nodeZ
def leaveN (S : TreeD) (cu cg dir : Int) (nm : List UInt8) : NodeD := if leaveE S cu cg dir nm = 0 then getN S.nodes (findF (getN S.nodes dir).ents nm) else nodeZ
/-- One name less. -/
def lessN (now : Int) (n : NodeD) : NodeD := { n with links := n.links - 1, ctime := now }
def lessT (S : TreeD) (now : Int) (n : NodeD) : TreeD := if n.links - 1 < 1 then killT (setT S (lessN now n)) n.no else setT S (lessN now n)
def goneT (S : TreeD) (now : Int) (d n : NodeD) (nm : List UInt8) : TreeD := lessT (touchT S d.no now (dropF d.ents nm)) now n
def unlinkE (S : TreeD) (cu cg dir : Int) (nm : List UInt8) : Int := if ¬ leaveE S cu cg dir nm = 0 then leaveE S cu cg dir nm else if (leaveN S cu cg dir nm).kind = 1 then 8 else 0
def rmdirE (S : TreeD) (cu cg dir : Int) (nm : List UInt8) : Int :=
  if ¬ leaveE S cu cg dir nm = 0 then leaveE S cu cg dir nm else if ¬ (leaveN S cu cg dir nm).kind = 1 then 9 else if 0 < ((leaveN S cu cg dir nm).ents.length : Int) then 10 else 0
def unlinkT (S : TreeD) (cu cg now dir : Int) (nm : List UInt8) : TreeD := if unlinkE S cu cg dir nm = 0 then goneT S now (leaveD S cu cg dir nm) (leaveN S cu cg dir nm) nm else S
def rmdirT (S : TreeD) (cu cg now dir : Int) (nm : List UInt8) : TreeD := if rmdirE S cu cg dir nm = 0 then goneT S now (leaveD S cu cg dir nm) (leaveN S cu cg dir nm) nm else S
/-- A node as the calls hold it: of a tree, or like one of it. -/
structure Held (S : TreeD) (n : NodeD) : Prop where
  links : 1 ≤ n.links ∧ n.links ≤ 1000
  dev : hasD S.devs n.dev = true
  data : n.data.length ≤ 1048576
  one : n.no = 1 → n.dev = 1
theorem Held.live {S : TreeD} {n : NodeD} (h : Held S n) (L : Live S) (now : Int) : Live (setT S (lessN now n)) := L.set _ h.dev h.data h.one
theorem Ok.held {S : TreeD} (O : Ok S) {no : Int} (hi : isN S.nodes no = true) : Held S (getN S.nodes no) :=
  ⟨O.links _ (isN_true hi).2.2, (O.live.on _ (isN_true hi).2.2).1, (O.live.on _ (isN_true hi).2.2).2, O.live.one _ (isN_true hi).2.2⟩
set_option maxRecDepth 100000 in
set_option maxHeartbeats 4000000 in
theorem pless_any (B : Nat) (g : GhW) (S : TreeD) (now : Int) (n : NodeD) (A : Option Addr) (c : Nat) (w : World) (h : WAt w B g S) (L : Live S) (hn : NodeOk w B n A c) (hh : Held S n) :
    Calls Tryz.prog 186 #[.pointer (some ⟨g.bW, 0, none⟩), .int .i64 now, .agg #[.int .i64 n.no, .int .i64 n.dev, .int .i64 n.kind, .int .i64 n.mode, .int .i64 n.uid, .int .i64 n.gid, .int .i64 n.mtime, .int .i64 n.ctime, .int .i64 n.links, .int .i64 n.up, .string (bs n.data), .slice A n.ents.length c]] w (TouchR w B g (lessT S now n)) := by
  obtain ⟨W0, hW0⟩ : ∃ W0, W0 = w.alloc (.cells #[.int .i64 n.no, .int .i64 n.dev, .int .i64 n.kind, .int .i64 n.mode, .int .i64 n.uid, .int .i64 n.gid, .int .i64 n.mtime, .int .i64 n.ctime, .int .i64 n.links, .int .i64 n.up, .string (bs n.data), .slice A n.ents.length c] 87) := ⟨_, rfl⟩
  have E0 : Ext w W0 := by rw [hW0]; exact (Ext.refl _).alloc _
  obtain ⟨b5, hb5⟩ : ∃ b, b = w.heap.size := ⟨_, rfl⟩
  have N0 : Has W0 b5 (.cells #[.int .i64 n.no, .int .i64 n.dev, .int .i64 n.kind, .int .i64 n.mode, .int .i64 n.uid, .int .i64 n.gid, .int .i64 n.mtime, .int .i64 n.ctime, .int .i64 n.links, .int .i64 n.up, .string (bs n.data), .slice A n.ents.length c] 87) := by rw [hW0, hb5]; exact Has.new _ _
  have hbw : w.heap.size ≤ b5 := by omega
  have HL := Lib.hid L
  have HH := Lib.hid hh
  have LL := Lib.hid (hh.live L now)
  have y8 : W0.cell? ⟨b5, 8, none⟩ = some (.int .i64 n.links) := N0.cell 8
  have y7 : W0.cell? ⟨b5, 7, none⟩ = some (.int .i64 n.ctime) := N0.cell 7
  have yf : ∀ i, W0.frozen? ⟨b5, i, none⟩ = false := fun i => (N0.free i).trans (by simp)
  have yz := N0.lt
  have y4 : IntKind.i64.wrap (n.links - 1) = n.links - 1 := wrap_i64_in (by have := hh.links; omega) (by have := hh.links; omega)
  have HLT : Hid (lessT S now n = if n.links - 1 < 1 then killT (setT S (lessN now n)) n.no else setT S (lessN now n)) := by show _ = _; rfl
  obtain ⟨n', hn'⟩ : ∃ n', n' = lessN now n := ⟨_, rfl⟩
  rw [← hn'] at HLT LL
  have HN' := Lib.hid hn'
  clear L hh hn'
  go_enter Tryz.func186, Tryz.ntmps186
  go_upto_region 1 with fail
  rw [← hW0]
  rw [← hb5]
  clear hW0 hb5
  go_upto_region 3 with fail
  obtain ⟨V, hV⟩ : ∃ V, V = (W0.setCell ⟨b5, 8, none⟩ (.int .i64 (n.links - 1))).setCell ⟨b5, 7, none⟩ (.int .i64 now) := ⟨_, rfl⟩
  rw [← hV]
  have NV : Has V b5 (.cells #[.int .i64 (n').no, .int .i64 (n').dev, .int .i64 (n').kind, .int .i64 (n').mode, .int .i64 (n').uid, .int .i64 (n').gid, .int .i64 (n').mtime, .int .i64 (n').ctime, .int .i64 (n').links, .int .i64 (n').up, .string (bs (n').data), .slice A (n').ents.length c] 87) := by rw [hV, HN'.out]; exact (N0.setCell 8 _).setCell 7 _
  have OV : Only [b5] W0 V := by rw [hV]; exact (Only.setCell _ _ _ _).then (Only.setCell _ _ _ _)
  have haP : Apart W0 B [b5] := by
    intro b hb
    rw [List.mem_singleton] at hb
    subst hb
    exact ⟨by have := h.1; have := h.lt.1; omega, N0.noTag (by decide)⟩
  have EV : Ext w V := OV.after E0 (by intro b hb; rw [List.mem_singleton] at hb; omega)
  have KV := h.ext EV
  have okV : NodeOk V B n' A c := ((hn.ext E0).only OV haP).same (by rw [HN'.out]; rfl)
  clear hV y8 y7 yf yz y4
  obtain ⟨_, _, cdV, hWV, _⟩ := id KV
  have v0 : V.cell? ⟨g.bW, 0, none⟩ = some (.pointer (some ⟨g.bT, 0, none⟩)) := hWV.cell 0
  have vz := hWV.lt
  obtain ⟨x0, x1, x2, x3, x4, x5, x6, x7, x8, x9, x10, x11⟩ := NV.node12
  have zN := NV.lt
  clear hWV
  go_still_tail 5, (by kernel_rfl)
  change wpList _ _ _ _ _ V.drew
  go_wp2_with fail
  have ED : Ext V V.drew := (Ext.refl _).drew
  refine (wset_any B g S n' A c _ (KV.ext ED) HL.out.nos (okV.ext ED)).mono ?_
  rintro e w7 ⟨rfl, K7, O7⟩
  have hbg : b5 ∉ g.list := by
    have hlw := h.lt
    simp only [GhW.list, List.mem_cons, List.not_mem_nil, or_false]
    omega
  have N7 := O7.has (NV.ext ED) hbg
  have Ow7 : Only g.list w w7 := Only.pre (EV.trans ED) O7
  have z8 : w7.cell? ⟨b5, 8, none⟩ = some (.int .i64 n'.links) := N7.cell 8
  have z0 : w7.cell? ⟨b5, 0, none⟩ = some (.int .i64 n'.no) := N7.cell 0
  have zz := N7.lt
  have hnl : n'.links = n.links - 1 := by rw [HN'.out]; rfl
  have hno : n'.no = n.no := by rw [HN'.out]; rfl
  rw [hnl] at z8
  rw [hno] at z0
  clear v0 vz x0 x1 x2 x3 x4 x5 x6 x7 x8 x9 x10 x11 zN hnl hno
  by_cases hk : n.links - 1 ≤ 0
  · have t1 : decide (n.links - 1 ≤ 0) = true := decide_eq_true hk
    have e1 : Hid (lessT S now n = killT (setT S n') n.no) := by show _ = _; rw [HLT.out, if_pos (by omega)]
    clear hk
    go_wp2_with fail
    refine (pkill_any B g (setT S n') n.no _ K7 LL.out.devs LL.out.eight LL.out.roots LL.out.nos LL.out.on).mono ?_
    rintro e w8 ⟨rfl, K8, O8⟩
    go_wp2_with fail
    go_end0
    exact ⟨rfl, by rw [e1.out]; exact K8, Ow7.then O8⟩
  · have t1 : decide (n.links - 1 ≤ 0) = false := decide_eq_false hk
    have e1 : Hid (lessT S now n = setT S n') := by show _ = _; rw [HLT.out, if_neg (by omega)]
    clear hk
    go_wp2_with fail
    go_end0
    exact ⟨rfl, by rw [e1.out]; exact K7, Ow7⟩
/-- What a call of the reference's that tells nothing leaves. -/
def NoneF (w : World) (B : Nat) (g : GhF) (T : TreeD) (X : Xtra) (e : Ending) (w' : World) : Prop := e = .returned (.tuple #[]) ∧ ∃ g2, FAt w' B g2 T X ∧ Only g.list w w' ∧ GhF.on g2 g w
set_option maxRecDepth 100000 in
set_option maxHeartbeats 4000000 in
theorem rless_any (B : Nat) (g : GhF) (S : TreeD) (X : Xtra) (n : NodeD) (A : Option Addr) (c : Nat) (w : World) (h : FAt w B g S X) (L : Live S) (hl : S.last ≤ 1000) (hn : NodeOk w B n A c) (hh : Held S n) :
    Calls Tryz.prog 119 #[.pointer (some ⟨g.bF, 0, none⟩), .agg #[.int .i64 n.no, .int .i64 n.dev, .int .i64 n.kind, .int .i64 n.mode, .int .i64 n.uid, .int .i64 n.gid, .int .i64 n.mtime, .int .i64 n.ctime, .int .i64 n.links, .int .i64 n.up, .string (bs n.data), .slice A n.ents.length c]] w (NoneF w B g (lessT S X.now n) X) := by
  obtain ⟨W0, hW0⟩ : ∃ W0, W0 = w.alloc (.cells #[.int .i64 n.no, .int .i64 n.dev, .int .i64 n.kind, .int .i64 n.mode, .int .i64 n.uid, .int .i64 n.gid, .int .i64 n.mtime, .int .i64 n.ctime, .int .i64 n.links, .int .i64 n.up, .string (bs n.data), .slice A n.ents.length c] 87) := ⟨_, rfl⟩
  have E0 : Ext w W0 := by rw [hW0]; exact (Ext.refl _).alloc _
  obtain ⟨b5, hb5⟩ : ∃ b, b = w.heap.size := ⟨_, rfl⟩
  have N0 : Has W0 b5 (.cells #[.int .i64 n.no, .int .i64 n.dev, .int .i64 n.kind, .int .i64 n.mode, .int .i64 n.uid, .int .i64 n.gid, .int .i64 n.mtime, .int .i64 n.ctime, .int .i64 n.links, .int .i64 n.up, .string (bs n.data), .slice A n.ents.length c] 87) := by rw [hW0, hb5]; exact Has.new _ _
  have hbw : w.heap.size ≤ b5 := by omega
  have HL := Lib.hid L
  have HH := Lib.hid hh
  have LL := Lib.hid (hh.live L X.now)
  have y8 : W0.cell? ⟨b5, 8, none⟩ = some (.int .i64 n.links) := N0.cell 8
  have y7 : W0.cell? ⟨b5, 7, none⟩ = some (.int .i64 n.ctime) := N0.cell 7
  have yf : ∀ i, W0.frozen? ⟨b5, i, none⟩ = false := fun i => (N0.free i).trans (by simp)
  have yz := N0.lt
  have y4 : IntKind.i64.wrap (n.links - 1) = n.links - 1 := wrap_i64_in (by have := hh.links; omega) (by have := hh.links; omega)
  have HLT : Hid (lessT S X.now n = if n.links - 1 < 1 then killT (setT S (lessN X.now n)) n.no else setT S (lessN X.now n)) := by show _ = _; rfl
  obtain ⟨n', hn'⟩ : ∃ n', n' = lessN X.now n := ⟨_, rfl⟩
  rw [← hn'] at HLT LL
  have HN' := Lib.hid hn'
  have nw : W0.cell? ⟨g.bF, 3, none⟩ = some (.int .i64 X.now) := by obtain ⟨_, _, _, k, _⟩ := h.ext E0; exact k.cell 3
  have nz := (h.ext E0).lt.1
  have hlt := h.lt.1
  have nbf : (b5 = g.bF) = False := eq_false (by omega)
  have nbf2 : (g.bF = b5) = False := eq_false (by omega)
  clear L hh hn'
  go_enter Tryz.func119, Tryz.ntmps119
  go_upto_region 1 with fail
  rw [← hW0]
  rw [← hb5]
  clear hW0 hb5
  go_upto_region 3 with fail
  obtain ⟨V, hV⟩ : ∃ V, V = (W0.setCell ⟨b5, 8, none⟩ (.int .i64 (n.links - 1))).setCell ⟨b5, 7, none⟩ (.int .i64 X.now) := ⟨_, rfl⟩
  rw [← hV]
  have NV : Has V b5 (.cells #[.int .i64 (n').no, .int .i64 (n').dev, .int .i64 (n').kind, .int .i64 (n').mode, .int .i64 (n').uid, .int .i64 (n').gid, .int .i64 (n').mtime, .int .i64 (n').ctime, .int .i64 (n').links, .int .i64 (n').up, .string (bs (n').data), .slice A (n').ents.length c] 87) := by rw [hV, HN'.out]; exact (N0.setCell 8 _).setCell 7 _
  have OV : Only [b5] W0 V := by rw [hV]; exact (Only.setCell _ _ _ _).then (Only.setCell _ _ _ _)
  have haP : Apart W0 B [b5] := by
    intro b hb
    rw [List.mem_singleton] at hb
    subst hb
    exact ⟨by have := h.1; omega, N0.noTag (by decide)⟩
  have EV : Ext w V := OV.after E0 (by intro b hb; rw [List.mem_singleton] at hb; omega)
  have okV : NodeOk V B n' A c := ((hn.ext E0).only OV haP).same (by rw [HN'.out]; rfl)
  clear hV y8 y7 yf yz y4 nw nz nbf nbf2
  go_wp2_with (refine wpList_load_node rfl _ rfl b5 n' A c rfl NV ?_)
  refine (rset_any B g S X n' A c _ (h.ext EV) (by have := HL.out.count; omega) HL.out.nos okV).mono ?_
  rintro e w7 ⟨rfl, K7, O7⟩
  have hbg : b5 ∉ g.list := by
    have hlw := h.lt
    simp only [GhF.list, List.mem_cons, List.not_mem_nil, or_false]
    omega
  have N7 := O7.has NV hbg
  have Ow7 : Only g.list w w7 := Only.pre EV O7
  have z8 : w7.cell? ⟨b5, 8, none⟩ = some (.int .i64 n'.links) := N7.cell 8
  have z0 : w7.cell? ⟨b5, 0, none⟩ = some (.int .i64 n'.no) := N7.cell 0
  have zz := N7.lt
  have hnl : n'.links = n.links - 1 := by rw [HN'.out]; rfl
  have hno : n'.no = n.no := by rw [HN'.out]; rfl
  rw [hnl] at z8
  rw [hno] at z0
  clear hnl hno
  by_cases hk : n.links - 1 < 1
  · have t1 : decide (n.links - 1 < 1) = true := decide_eq_true hk
    have e1 : Hid (lessT S X.now n = killT (setT S n') n.no) := by show _ = _; rw [HLT.out, if_pos hk]
    clear hk
    go_wp2_with fail
    refine (rkill_any B g (setT S n') X n.no _ K7 (by have := LL.out.count; have e : (setT S n').last = S.last := rfl; omega) LL.out.eight LL.out.roots LL.out.nos LL.out.on (fun hk => LL.out.kept hk) (by have := (K7.apart _ (by simp : g.bF ∈ g.list)).1; have := K7.lt.1; omega)).mono ?_
    rintro e w8 ⟨rfl, g2, K8, on8, O8⟩
    go_wp2_with fail
    go_end0
    refine ⟨rfl, g2, by rw [e1.out]; exact K8, Ow7.then O8, on8.1, fun b hb => ?_⟩
    rcases on8.2 b hb with e | e
    · exact .inl e
    · exact .inr (by have := Ow7.size; omega)
  · have t1 : decide (n.links - 1 < 1) = false := decide_eq_false hk
    have e1 : Hid (lessT S X.now n = setT S n') := by show _ = _; rw [HLT.out, if_neg hk]
    clear hk
    go_wp2_with fail
    go_end0
    exact ⟨rfl, g, by rw [e1.out]; exact K7, Ow7, GhF.on_refl g w⟩
end Go.Proofs.YtjblimclakfhfaaGreat

namespace Go.Proofs.YtjblimclakfhfaaGreat
open Go

theorem wp_region_nbox {id : Nat} {Q : Exit → Act → World → Prop} {a : Act} {w : World} {l : List Oper} (V : World) (m s : Nat) (d t : Tmp) (n : NodeD) (A : Option Addr) (c : Nat) (om os : Oper)
    (hB : Region.lexB .any l.toArray = true) (hc : boxB l m s d t = true) (hom : l[m]? = some om) (hos : l[s]? = some os) (ho1 : om.op = .alloc 87) (ho2 : os.op = .store 87 (.tmp d) (.tmp t)) (htd : d < a.tmps.size)
    (hV : Ext V w.drew) :
    wpQuietR Tryz.prog l.toArray V (fun a1 => wpQuietR Tryz.prog l.toArray V (fun a2 => a2.eval (.tmp t) = .agg #[.int .i64 n.no, .int .i64 n.dev, .int .i64 n.kind, .int .i64 n.mode, .int .i64 n.uid, .int .i64 n.gid, .int .i64 n.mtime, .int .i64 n.ctime, .int .i64 n.links, .int .i64 n.up, .string (bs n.data), .slice A n.ents.length c] ∧ wpQuietR Tryz.prog l.toArray V (fun a3 => ∀ w' bx, Ext V w' → V.heap.size ≤ bx → Has w' bx (.cells #[.int .i64 n.no, .int .i64 n.dev, .int .i64 n.kind, .int .i64 n.mode, .int .i64 n.uid, .int .i64 n.gid, .int .i64 n.mtime, .int .i64 n.ctime, .int .i64 n.links, .int .i64 n.up, .string (bs n.data), .slice A n.ents.length c] 87) → Q .normal (a3.put (some d) (.pointer (some ⟨bx, 0, none⟩))) w') (l.drop (s + 1)) a2) ((l.take s).drop (m + 1)) a1) (l.take m) a →
    (Code.region id l.toArray true).wp Tryz.prog Q a w := by
  refine wp_region_box V m s d t (.agg #[.int .i64 n.no, .int .i64 n.dev, .int .i64 n.kind, .int .i64 n.mode, .int .i64 n.uid, .int .i64 n.gid, .int .i64 n.mtime, .int .i64 n.ctime, .int .i64 n.links, .int .i64 n.up, .string (bs n.data), .slice A n.ents.length c]) (.cells #[.int .i64 0, .int .i64 0, .int .i64 0, .int .i64 0, .int .i64 0, .int .i64 0, .int .i64 0, .int .i64 0, .int .i64 0, .int .i64 0, .string ⟨#[]⟩, .slice none 0 0] 87) _ om os (by kernel_rfl) hB hc hom hos ?_ ?_ hV htd
  · intro a w
    simp [execOp, ho1, go_sem]
  · intro a w bx hsz hb he
    have hd : (a.put (some d) (.pointer (some ⟨bx, 0, none⟩))).eval (.tmp d) = .pointer (some ⟨bx, 0, none⟩) := by
      simp [Act.put, Act.eval, hsz]
    have hb' : Has w bx (.cells #[.int .i64 nodeZ.no, .int .i64 nodeZ.dev, .int .i64 nodeZ.kind, .int .i64 nodeZ.mode, .int .i64 nodeZ.uid, .int .i64 nodeZ.gid, .int .i64 nodeZ.mtime, .int .i64 nodeZ.ctime, .int .i64 nodeZ.links, .int .i64 nodeZ.up, .string (bs nodeZ.data), .slice none nodeZ.ents.length 0] 87) := hb
    refine ⟨_, ?_, hb'.setNode n A c, only_setCells (nodeL n A c) 0 w⟩
    simp only [execOp, ho2, hd, he, run_storeAt_mid w bx 0 87 #[.int .i64 n.no, .int .i64 n.dev, .int .i64 n.kind, .int .i64 n.mode, .int .i64 n.uid, .int .i64 n.gid, .int .i64 n.mtime, .int .i64 n.ctime, .int .i64 n.links, .int .i64 n.up, .string (bs n.data), .slice A n.ents.length c] hb'.there infoNode12 (node_all n A c), Sem.run_bind, Sem.run_pure, Result.andThen_ok]
    rfl
end Go.Proofs.YtjblimclakfhfaaGreat

namespace Go.Proofs.YtjblimclakfhfaaGreat
open Go.ChangeShapes Go.WideShapes Go.ChangeAt Go.RowKit

attribute [local irreducible] wpLexE wpQuiet
attribute [local go_sem] changeUpon
/-- A late store of a node into a box, as a change. -/
theorem wpLexE_store_node {ops : Array Oper} {Ph : Nat → World → Prop} {ks : List Nat} {Q : Act → Prop} {a : Act} {o : Oper} {rest : List Oper} {k : Nat} (j : Nat) (hp : placeOf ks k = some j) (hg : o.guard = none) (hd : o.dst = none)
    (x y : Operand) (ho : o.op = .store 87 x y) (b : Nat) (n : NodeD) (A : Option Addr) (c : Nat) (hx : a.eval x = .pointer (some ⟨b, 0, none⟩)) (hy : a.eval y = .agg #[.int .i64 n.no, .int .i64 n.dev, .int .i64 n.kind, .int .i64 n.mode, .int .i64 n.uid, .int .i64 n.gid, .int .i64 n.mtime, .int .i64 n.ctime, .int .i64 n.links, .int .i64 n.up, .string (bs n.data), .slice A n.ents.length c])
    (hb : ∀ u : Wc (Ph j), ∃ (m : NodeD) (A' : Option Addr) (c' : Nat), Has u.w b (.cells #[.int .i64 m.no, .int .i64 m.dev, .int .i64 m.kind, .int .i64 m.mode, .int .i64 m.uid, .int .i64 m.gid, .int .i64 m.mtime, .int .i64 m.ctime, .int .i64 m.links, .int .i64 m.up, .string (bs m.data), .slice A' m.ents.length c'] 87)) (hn : ∀ (u : Wc (Ph j)) (w' : World), Has w' b (.cells #[.int .i64 n.no, .int .i64 n.dev, .int .i64 n.kind, .int .i64 n.mode, .int .i64 n.uid, .int .i64 n.gid, .int .i64 n.mtime, .int .i64 n.ctime, .int .i64 n.links, .int .i64 n.up, .string (bs n.data), .slice A n.ents.length c] 87) → Only [b] u.w w' → Ph (j + 1) w')
    (h : wpLexE ops (phE Tryz.prog Ph ks) Q rest (k + 1) a) : wpLexE ops (phE Tryz.prog Ph ks) Q (o :: rest) k a := by
  refine wpLexE_change j hp hg fun K hK => ⟨undef, fun u => ?_, ?_⟩
  · obtain ⟨m, A', c', hu⟩ := hb u
    have hr : (execOp a.eval o).run Tryz.prog u.w = .ok .skip (u.w.setCells b 0 (nodeL n A c)) := by
      simp only [execOp, ho, hx, hy, run_storeAt_mid u.w b 0 87 #[.int .i64 n.no, .int .i64 n.dev, .int .i64 n.kind, .int .i64 n.mode, .int .i64 n.uid, .int .i64 n.gid, .int .i64 n.mtime, .int .i64 n.ctime, .int .i64 n.links, .int .i64 n.up, .string (bs n.data), .slice A n.ents.length c] hu.there infoNode12 (node_all n A c), Sem.run_bind, Sem.run_pure, Result.andThen_ok]
      rfl
    rw [hr]
    exact ⟨rfl, hn u _ (hu.setNode n A c) (only_setCells (nodeL n A c) 0 u.w)⟩
  · rw [hd]
    exact hK _ h
theorem res_node2 {fn : Func} {p q t : Tmp} (h : fn.results = #[.cell p 87, .cell q 87, .tmp t]) (tmps : Array Value) (w : World) (b1 b2 : Nat) (n m : NodeD) (A A' : Option Addr) (c c' : Nat) (v : Value)
    (hp : tmps.getD p undef = .pointer (some ⟨b1, 0, none⟩)) (hq : tmps.getD q undef = .pointer (some ⟨b2, 0, none⟩)) (hv : tmps.getD t undef = v) (h1 : Has w b1 (.cells #[.int .i64 n.no, .int .i64 n.dev, .int .i64 n.kind, .int .i64 n.mode, .int .i64 n.uid, .int .i64 n.gid, .int .i64 n.mtime, .int .i64 n.ctime, .int .i64 n.links, .int .i64 n.up, .string (bs n.data), .slice A n.ents.length c] 87)) (h2 : Has w b2 (.cells #[.int .i64 m.no, .int .i64 m.dev, .int .i64 m.kind, .int .i64 m.mode, .int .i64 m.uid, .int .i64 m.gid, .int .i64 m.mtime, .int .i64 m.ctime, .int .i64 m.links, .int .i64 m.up, .string (bs m.data), .slice A' m.ents.length c'] 87)) :
    (results fn tmps).run Tryz.prog w = .ok (.tuple #[.agg #[.int .i64 n.no, .int .i64 n.dev, .int .i64 n.kind, .int .i64 n.mode, .int .i64 n.uid, .int .i64 n.gid, .int .i64 n.mtime, .int .i64 n.ctime, .int .i64 n.links, .int .i64 n.up, .string (bs n.data), .slice A n.ents.length c], .agg #[.int .i64 m.no, .int .i64 m.dev, .int .i64 m.kind, .int .i64 m.mode, .int .i64 m.uid, .int .i64 m.gid, .int .i64 m.mtime, .int .i64 m.ctime, .int .i64 m.links, .int .i64 m.up, .string (bs m.data), .slice A' m.ents.length c'], v]) w := by
  have hp' : tmps[p]?.getD undef = .pointer (some ⟨b1, 0, none⟩) := by simpa using hp
  have hq' : tmps[q]?.getD undef = .pointer (some ⟨b2, 0, none⟩) := by simpa using hq
  have hv' : tmps[t]?.getD undef = v := by simpa using hv
  have hl1 := run_loadVar_row (P := Tryz.prog) w b1 87 87 _ (0, 0) _ h1 Tryz.underlying87 rfl infoNode12
  have hl2 := run_loadVar_row (P := Tryz.prog) w b2 87 87 _ (0, 0) _ h2 Tryz.underlying87 rfl infoNode12
  simp [results, h, hp', hq', hv', asAddr, hl1, hl2]
def LeaveQ (w : World) (B : Nat) (S : TreeD) (cu cg dir : Int) (nm : List UInt8) (e : Ending) (w' : World) : Prop :=
  ∃ A c A' c', e = .returned (.tuple #[.agg #[.int .i64 (leaveD S cu cg dir nm).no, .int .i64 (leaveD S cu cg dir nm).dev, .int .i64 (leaveD S cu cg dir nm).kind, .int .i64 (leaveD S cu cg dir nm).mode, .int .i64 (leaveD S cu cg dir nm).uid, .int .i64 (leaveD S cu cg dir nm).gid, .int .i64 (leaveD S cu cg dir nm).mtime, .int .i64 (leaveD S cu cg dir nm).ctime, .int .i64 (leaveD S cu cg dir nm).links, .int .i64 (leaveD S cu cg dir nm).up, .string (bs (leaveD S cu cg dir nm).data), .slice A (leaveD S cu cg dir nm).ents.length c], .agg #[.int .i64 (leaveN S cu cg dir nm).no, .int .i64 (leaveN S cu cg dir nm).dev, .int .i64 (leaveN S cu cg dir nm).kind, .int .i64 (leaveN S cu cg dir nm).mode, .int .i64 (leaveN S cu cg dir nm).uid, .int .i64 (leaveN S cu cg dir nm).gid, .int .i64 (leaveN S cu cg dir nm).mtime, .int .i64 (leaveN S cu cg dir nm).ctime, .int .i64 (leaveN S cu cg dir nm).links, .int .i64 (leaveN S cu cg dir nm).up, .string (bs (leaveN S cu cg dir nm).data), .slice A' (leaveN S cu cg dir nm).ents.length c'], .int .i64 (leaveE S cu cg dir nm)]) ∧ NodeOk w' B (leaveD S cu cg dir nm) A c ∧ NodeOk w' B (leaveN S cu cg dir nm) A' c' ∧ Ext w w'
set_option maxRecDepth 100000 in
set_option maxHeartbeats 8000000 in
theorem pleave_any (B : Nat) (g : GhW) (S : TreeD) (cu cg dir : Int) (nm : List UInt8) (w : World) (h : WAt w B g S) (O : Ok S) :
    Calls Tryz.prog 181 #[.pointer (some ⟨g.bW, 0, none⟩), .agg #[.int .i64 cu, .int .i64 cg], .int .i64 dir, .string (bs nm)] w (LeaveQ w B S cu cg dir nm) := by
  obtain ⟨W0, hW0⟩ : ∃ W0, W0 = ((w.alloc (.cells #[.int .i64 cu, .int .i64 cg] 24)).alloc (.cells #[.int .i64 0, .int .i64 0, .int .i64 0, .int .i64 0, .int .i64 0, .int .i64 0, .int .i64 0, .int .i64 0, .int .i64 0, .int .i64 0, .string ⟨#[]⟩, .slice none 0 0] 87)).alloc (.cells #[.int .i64 0, .int .i64 0, .int .i64 0, .int .i64 0, .int .i64 0, .int .i64 0, .int .i64 0, .int .i64 0, .int .i64 0, .int .i64 0, .string ⟨#[]⟩, .slice none 0 0] 87) := ⟨_, rfl⟩
  have E0 : Ext w W0 := by rw [hW0]; exact (((Ext.refl _).alloc _).alloc _).alloc _
  obtain ⟨b5, hb5⟩ : ∃ b, b = w.heap.size := ⟨_, rfl⟩
  have C0 : Has W0 b5 (.cells #[.int .i64 cu, .int .i64 cg] 24) := by rw [hW0, hb5]; exact ((Has.new w _).alloc _).alloc _
  have P0 : Has W0 (b5 + 1) (.cells #[.int .i64 nodeZ.no, .int .i64 nodeZ.dev, .int .i64 nodeZ.kind, .int .i64 nodeZ.mode, .int .i64 nodeZ.uid, .int .i64 nodeZ.gid, .int .i64 nodeZ.mtime, .int .i64 nodeZ.ctime, .int .i64 nodeZ.links, .int .i64 nodeZ.up, .string (bs nodeZ.data), .slice none nodeZ.ents.length 0] 87) := by
    rw [hW0, hb5]
    have := (Has.new (w.alloc (.cells #[.int .i64 cu, .int .i64 cg] 24)) (.cells #[.int .i64 nodeZ.no, .int .i64 nodeZ.dev, .int .i64 nodeZ.kind, .int .i64 nodeZ.mode, .int .i64 nodeZ.uid, .int .i64 nodeZ.gid, .int .i64 nodeZ.mtime, .int .i64 nodeZ.ctime, .int .i64 nodeZ.links, .int .i64 nodeZ.up, .string (bs nodeZ.data), .slice none nodeZ.ents.length 0] 87)).alloc (.cells #[.int .i64 0, .int .i64 0, .int .i64 0, .int .i64 0, .int .i64 0, .int .i64 0, .int .i64 0, .int .i64 0, .int .i64 0, .int .i64 0, .string ⟨#[]⟩, .slice none 0 0] 87)
    rwa [World.size_alloc] at this
  have Q0 : Has W0 (b5 + 2) (.cells #[.int .i64 nodeZ.no, .int .i64 nodeZ.dev, .int .i64 nodeZ.kind, .int .i64 nodeZ.mode, .int .i64 nodeZ.uid, .int .i64 nodeZ.gid, .int .i64 nodeZ.mtime, .int .i64 nodeZ.ctime, .int .i64 nodeZ.links, .int .i64 nodeZ.up, .string (bs nodeZ.data), .slice none nodeZ.ents.length 0] 87) := by
    rw [hW0, hb5]
    have := Has.new ((w.alloc (.cells #[.int .i64 cu, .int .i64 cg] 24)).alloc (.cells #[.int .i64 0, .int .i64 0, .int .i64 0, .int .i64 0, .int .i64 0, .int .i64 0, .int .i64 0, .int .i64 0, .int .i64 0, .int .i64 0, .string ⟨#[]⟩, .slice none 0 0] 87)) (.cells #[.int .i64 nodeZ.no, .int .i64 nodeZ.dev, .int .i64 nodeZ.kind, .int .i64 nodeZ.mode, .int .i64 nodeZ.uid, .int .i64 nodeZ.gid, .int .i64 nodeZ.mtime, .int .i64 nodeZ.ctime, .int .i64 nodeZ.links, .int .i64 nodeZ.up, .string (bs nodeZ.data), .slice none nodeZ.ents.length 0] 87)
    rwa [World.size_alloc, World.size_alloc] at this
  have HO := Lib.hid O
  have hm : Hid (leaveE S cu cg dir nm = if ¬ placeE S cu cg dir nm = 0 then placeE S cu cg dir nm else if isN S.nodes (findF (getN S.nodes dir).ents nm) = false then 5
    else if ¬ overF S.devs (findF (getN S.nodes dir).ents nm) = findF (getN S.nodes dir).ents nm then 16
    else if freeB cu (getN S.nodes dir).mode (getN S.nodes dir).uid (getN S.nodes (findF (getN S.nodes dir).ents nm)).uid = false then 4 else 0) := by show _ = _; rfl
  have hp : Hid (placeE S cu cg dir nm = 0 → placeN S cu cg dir nm = getN S.nodes dir ∧ isN S.nodes dir = true) := fun h0 => ⟨placeN_zero h0, (placeE_zero h0).1⟩
  have hlw := h.lt
  have HS : Hid (∀ (v w' : World) (x : Int), Ext w v → Only [b5 + 1, b5 + 2] v w' → leaveE S cu cg dir nm = x → x ≠ 0 → LeaveQ w B S cu cg dir nm (.returned (.tuple #[.agg #[.int .i64 nodeZ.no, .int .i64 nodeZ.dev, .int .i64 nodeZ.kind, .int .i64 nodeZ.mode, .int .i64 nodeZ.uid, .int .i64 nodeZ.gid, .int .i64 nodeZ.mtime, .int .i64 nodeZ.ctime, .int .i64 nodeZ.links, .int .i64 nodeZ.up, .string (bs nodeZ.data), .slice none nodeZ.ents.length 0], .agg #[.int .i64 nodeZ.no, .int .i64 nodeZ.dev, .int .i64 nodeZ.kind, .int .i64 nodeZ.mode, .int .i64 nodeZ.uid, .int .i64 nodeZ.gid, .int .i64 nodeZ.mtime, .int .i64 nodeZ.ctime, .int .i64 nodeZ.links, .int .i64 nodeZ.up, .string (bs nodeZ.data), .slice none nodeZ.ents.length 0], .int .i64 x])) w') := by
    show ∀ (v w' : World) (x : Int), _
    intro v w' x hE hO hx h0
    have e1 : leaveD S cu cg dir nm = nodeZ := by unfold leaveD; rw [if_neg (by rw [hx]; exact h0)]
    have e2 : leaveN S cu cg dir nm = nodeZ := by unfold leaveN; rw [if_neg (by rw [hx]; exact h0)]
    exact ⟨none, 0, none, 0, by rw [e1, e2, hx], by rw [e1]; exact NodeOk.zero _ _, by rw [e2]; exact NodeOk.zero _ _, hO.after hE (by intro b hb; simp only [List.mem_cons, List.not_mem_nil, or_false] at hb; omega)⟩
  have hb5a : b5 ≤ w.heap.size := by omega
  have hb5b : w.heap.size ≤ b5 := by omega
  clear O
  go_enter Tryz.func181, Tryz.ntmps181
  go_upto_region 1 with fail
  rw [← hW0]
  rw [← hb5]
  clear hW0 hb5
  have x0 : W0.cell? ⟨b5, 0, none⟩ = some (.int .i64 cu) := C0.cell 0
  have x1 : W0.cell? ⟨b5, 1, none⟩ = some (.int .i64 cg) := C0.cell 1
  have xz := C0.lt
  go_wp2_with fail
  refine (pplace_any B g S cu cg dir nm _ (h.ext E0) HO.out.live.devs).mono ?_
  rintro e w2 ⟨A2, k2, rfl, ok2, b2⟩
  obtain ⟨m, hmm⟩ : ∃ m, m = placeN S cu cg dir nm := ⟨_, rfl⟩
  obtain ⟨x, hx⟩ : ∃ x, x = placeE S cu cg dir nm := ⟨_, rfl⟩
  rw [← hmm] at ok2 hp
  rw [← hx] at hm hp
  rw [← hmm, ← hx]
  obtain ⟨W3, hW3⟩ : ∃ W3, W3 = w2.alloc (.cells #[.int .i64 m.no, .int .i64 m.dev, .int .i64 m.kind, .int .i64 m.mode, .int .i64 m.uid, .int .i64 m.gid, .int .i64 m.mtime, .int .i64 m.ctime, .int .i64 m.links, .int .i64 m.up, .string (bs m.data), .slice A2 m.ents.length k2] 87) := ⟨_, rfl⟩
  obtain ⟨b11, hb11⟩ : ∃ b, b = w2.heap.size := ⟨_, rfl⟩
  have E23 : Ext w2 W3 := by rw [hW3]; exact (Ext.refl _).alloc _
  have M3 : Has W3 b11 (.cells #[.int .i64 m.no, .int .i64 m.dev, .int .i64 m.kind, .int .i64 m.mode, .int .i64 m.uid, .int .i64 m.gid, .int .i64 m.mtime, .int .i64 m.ctime, .int .i64 m.links, .int .i64 m.up, .string (bs m.data), .slice A2 m.ents.length k2] 87) := by rw [hW3, hb11]; exact Has.new _ _
  have E03 : Ext W0 W3 := b2.trans E23
  have C3 := C0.ext E03
  have P3 := P0.ext E03
  have Q3 := Q0.ext E03
  have ok3 := ok2.ext E23
  have E3 := E0.trans E03
  have hb11w : W0.heap.size ≤ b11 := by rw [hb11]; exact b2.size
  have hb52 : b5 + 2 < W0.heap.size := Q0.lt
  clear x0 x1 xz hmm hx C0 P0 Q0
  go_upto_region 2 with fail
  rw [← hW3]
  rw [← hb11]
  clear hW3 hb11
  by_cases hx0 : x = 0
  case neg =>
    have t0 : (x == 0) = false := by simpa using hx0
    have t0b : (x != 0) = true := by simpa using hx0
    have hE : Hid (leaveE S cu cg dir nm = x) := by show _ = _; rw [hm.out, if_pos hx0]
    have HX := Lib.hid hx0
    clear hm hx0
    go_wp2_with (first | (refine wpList_store_node rfl _ _ rfl (b5 + 1) nodeZ none 0 rfl rfl P3 ?_; intro wp Pp Op; have Qp := Op.has Q3 (by rw [List.mem_singleton]; omega)) | (refine wpList_store_node rfl _ _ rfl (b5 + 2) nodeZ none 0 rfl rfl Qp ?_; intro wq Qq Oq; have Pq := Oq.has Pp (by rw [List.mem_singleton]; omega)))
    refine bodyPost_ret (v := .tuple #[.agg #[.int .i64 nodeZ.no, .int .i64 nodeZ.dev, .int .i64 nodeZ.kind, .int .i64 nodeZ.mode, .int .i64 nodeZ.uid, .int .i64 nodeZ.gid, .int .i64 nodeZ.mtime, .int .i64 nodeZ.ctime, .int .i64 nodeZ.links, .int .i64 nodeZ.up, .string (bs nodeZ.data), .slice none nodeZ.ents.length 0], .agg #[.int .i64 nodeZ.no, .int .i64 nodeZ.dev, .int .i64 nodeZ.kind, .int .i64 nodeZ.mode, .int .i64 nodeZ.uid, .int .i64 nodeZ.gid, .int .i64 nodeZ.mtime, .int .i64 nodeZ.ctime, .int .i64 nodeZ.links, .int .i64 nodeZ.up, .string (bs nodeZ.data), .slice none nodeZ.ents.length 0], .int .i64 x]) (res_node2 Tryz.results181 _ _ (b5 + 1) (b5 + 2) nodeZ nodeZ none none 0 0 _ rfl rfl rfl Pq Qq) rfl ?_
    exact HS.out _ _ _ E3 ((Op.mono (by simp)).then (Oq.mono (by simp))) hE.out HX.out
  have t0 : (x == 0) = true := by simpa using hx0
  have t0b : (x != 0) = false := by simpa using hx0
  obtain ⟨hmg, hid⟩ := hp.out hx0
  obtain ⟨no, hno⟩ : ∃ no, no = findF m.ents nm := ⟨_, rfl⟩
  have hm2 : Hid (leaveE S cu cg dir nm = if isN S.nodes no = false then 5 else if ¬ overF S.devs no = no then 16 else if freeB cu m.mode m.uid (getN S.nodes no).uid = false then 4 else 0) := by
    show _ = _; rw [hm.out, if_neg (by simpa using hx0), ← hmg, ← hno]
  have HMG := Lib.hid hmg
  have hen := HO.out.entsN dir
  rw [← hmg] at hen
  have HEN := Lib.hid hen
  have KF : Hid (∀ u : Gr W3, Calls Tryz.prog 162 #[.slice A2 m.ents.length k2, .string (bs nm)] u.w (Ret u.w (.int .i64 no))) := by
    show ∀ u : Gr W3, _
    intro u
    rw [hno, ← numOf_findF HEN.out.1]
    exact find_any A2 m.ents k2 nm u.w (ok3.ext u.h).ents.ents HEN.out.1 (by have := HEN.out.2; omega)
  obtain ⟨A4, k4, ok4, C4⟩ := tget_fix B g S no W3 (h.ext E3)
  obtain ⟨n, hn⟩ : ∃ n, n = getN S.nodes no := ⟨_, rfl⟩
  obtain ⟨i, hi⟩ : ∃ i, i = isN S.nodes no := ⟨_, rfl⟩
  have hin : isN S.nodes no = true → (getN S.nodes no).no = no := fun h => (isN_true h).2.1
  rw [← hn] at ok4 hm2 hin
  rw [← hi] at hm2 hin
  rw [← hn, ← hi] at C4
  have HC4 := Lib.hid C4
  have HIN := Lib.hid hin
  have HNO := Lib.hid hno
  have HNN := Lib.hid hn
  have HI := Lib.hid hi
  obtain ⟨_, _, cd, h3, _⟩ := id (h.ext E3)
  have v0 : ∀ u : Gr W3, u.w.cell? ⟨g.bW, 0, none⟩ = some (.pointer (some ⟨g.bT, 0, none⟩)) := Gr.cell h3.lt (h3.cell 0)
  have y11 : ∀ u : Gr W3, u.w.cell? ⟨b11, 11, none⟩ = some (.slice A2 m.ents.length k2) := Gr.cell M3.lt (M3.cell 11)
  clear hm hp hx0 hmg hid hen hno hn hi hin C4 h3
  go_upto_region 4 with fail
  refine wp_region_nbox W3 12 13 13 38 n A4 k4 _ _ (by kernel_rfl) (by kernel_rfl) rfl rfl rfl rfl (by simp) ((Ext.refl _).drew) ?_
  simp only [List.take_succ_cons, List.take_zero, List.drop_succ_cons, List.drop_zero, List.drop_nil]
  repeat (refine wpQuietR_step (fun K hK => ?_)
          go_simp
          first
            | (refine hK _ ?_; clear hK K)
            | (apply Exists.intro
               refine ⟨fun u => ?_, hK _ ?_⟩
               first
                 | ((with_reducible refine (KF.out _).mono ?_); rintro e w'' ⟨rfl, hx⟩; exact ⟨rfl, hx⟩)
                 | ((with_reducible refine (HC4.out _ u.h).mono ?_); rintro e w'' ⟨rfl, hx⟩; exact ⟨rfl, hx⟩)
               clear hK K))
  refine wpQuietR_nil ?_
  refine wpQuietR_nil ⟨rfl, ?_⟩
  refine wpQuietR_step (fun K hK => ?_)
  go_simp
  refine hK _ ?_
  clear hK K
  refine wpQuietR_nil ?_
  intro w4 b13 E34 hb13 N4
  simp only [Act.put]
  have C4 := C3.ext E34
  have P4 := P3.ext E34
  have Q4 := Q3.ext E34
  have M4 := M3.ext E34
  have okm4 := ok3.ext E34
  have okn4 := ok4.ext E34
  have E4 := E3.trans E34
  have hM3 := M3.lt
  clear v0 y11 KF C3 P3 Q3 M3 ok3 ok4 E3
  cases i
  · have hE : Hid (leaveE S cu cg dir nm = 5) := by show _ = _; rw [hm2.out]; rfl
    clear hm2
    go_wp2_with (first | (refine wpList_store_node rfl _ _ rfl (b5 + 1) nodeZ none 0 rfl rfl P4 ?_; intro wp Pp Op; have Qp := Op.has Q4 (by rw [List.mem_singleton]; omega)) | (refine wpList_store_node rfl _ _ rfl (b5 + 2) nodeZ none 0 rfl rfl Qp ?_; intro wq Qq Oq; have Pq := Oq.has Pp (by rw [List.mem_singleton]; omega)))
    refine bodyPost_ret (v := .tuple #[.agg #[.int .i64 nodeZ.no, .int .i64 nodeZ.dev, .int .i64 nodeZ.kind, .int .i64 nodeZ.mode, .int .i64 nodeZ.uid, .int .i64 nodeZ.gid, .int .i64 nodeZ.mtime, .int .i64 nodeZ.ctime, .int .i64 nodeZ.links, .int .i64 nodeZ.up, .string (bs nodeZ.data), .slice none nodeZ.ents.length 0], .agg #[.int .i64 nodeZ.no, .int .i64 nodeZ.dev, .int .i64 nodeZ.kind, .int .i64 nodeZ.mode, .int .i64 nodeZ.uid, .int .i64 nodeZ.gid, .int .i64 nodeZ.mtime, .int .i64 nodeZ.ctime, .int .i64 nodeZ.links, .int .i64 nodeZ.up, .string (bs nodeZ.data), .slice none nodeZ.ents.length 0], .int .i64 5]) (res_node2 Tryz.results181 _ _ (b5 + 1) (b5 + 2) nodeZ nodeZ none none 0 0 _ rfl rfl rfl Pq Qq) rfl ?_
    exact HS.out _ _ _ E4 ((Op.mono (by simp)).then (Oq.mono (by simp))) hE.out (by decide)
  have hnn := HIN.out (by trivial)
  have z0 : w4.cell? ⟨b13, 0, none⟩ = some (.int .i64 n.no) := N4.cell 0
  rw [hnn] at z0
  have KO : Hid (∀ u : Gr w4, Calls Tryz.prog 137 #[.pointer (some ⟨g.bW, 0, none⟩), .int .i64 no] u.w (Ret u.w (.int .i64 (overF S.devs no)))) := by
    show ∀ u : Gr w4, _
    exact fun u => pover_any B g S no _ ((h.ext E4).ext u.h) HO.out.live.devs (by have := HO.out.live.eight; omega)
  have y0 := Gr.cell N4.lt z0
  clear z0 hnn
  go_upto_region 7 with fail
  by_cases ho : overF S.devs no = no
  case neg =>
    have t1 : (overF S.devs no == no) = false := by simpa using ho
    have t1b : (overF S.devs no != no) = true := by simpa using ho
    have hE : Hid (leaveE S cu cg dir nm = 16) := by show _ = _; rw [hm2.out, if_neg (by decide), if_pos ho]
    clear hm2 ho
    refine wp_region_grow w4 (by kernel_rfl) (by kernel_rfl) (Ext.refl _).drew ?_
    repeat (quiet_step (((with_reducible refine (KO.out _).mono ?_); rintro e w'' ⟨rfl, hEx⟩; exact ⟨rfl, ⟨w'', Ext.trans (Gr.h _) hEx⟩, rfl⟩)))
    refine wpQuiet_nil ?_
    rintro w5 ⟨⟨w5', b5'⟩, h5⟩
    dsimp only at h5
    subst h5
    clear y0 KO
    have P5 := P4.ext b5'
    have Q5 := Q4.ext b5'
    go_wp2_with (first | (refine wpList_store_node rfl _ _ rfl (b5 + 1) nodeZ none 0 rfl rfl P5 ?_; intro wp Pp Op; have Qp := Op.has Q5 (by rw [List.mem_singleton]; omega)) | (refine wpList_store_node rfl _ _ rfl (b5 + 2) nodeZ none 0 rfl rfl Qp ?_; intro wq Qq Oq; have Pq := Oq.has Pp (by rw [List.mem_singleton]; omega)))
    refine bodyPost_ret (v := .tuple #[.agg #[.int .i64 nodeZ.no, .int .i64 nodeZ.dev, .int .i64 nodeZ.kind, .int .i64 nodeZ.mode, .int .i64 nodeZ.uid, .int .i64 nodeZ.gid, .int .i64 nodeZ.mtime, .int .i64 nodeZ.ctime, .int .i64 nodeZ.links, .int .i64 nodeZ.up, .string (bs nodeZ.data), .slice none nodeZ.ents.length 0], .agg #[.int .i64 nodeZ.no, .int .i64 nodeZ.dev, .int .i64 nodeZ.kind, .int .i64 nodeZ.mode, .int .i64 nodeZ.uid, .int .i64 nodeZ.gid, .int .i64 nodeZ.mtime, .int .i64 nodeZ.ctime, .int .i64 nodeZ.links, .int .i64 nodeZ.up, .string (bs nodeZ.data), .slice none nodeZ.ents.length 0], .int .i64 16]) (res_node2 Tryz.results181 _ _ (b5 + 1) (b5 + 2) nodeZ nodeZ none none 0 0 _ rfl rfl rfl Pq Qq) rfl ?_
    exact HS.out _ _ _ (E4.trans b5') ((Op.mono (by simp)).then (Oq.mono (by simp))) hE.out (by decide)
  have t1 : (overF S.devs no == no) = true := by simpa using ho
  have t1b : (overF S.devs no != no) = false := by simpa using ho
  have HOV := Lib.hid (show ¬ ¬ overF S.devs no = no by simpa using ho)
  clear ho
  refine wp_region_grow w4 (by kernel_rfl) (by kernel_rfl) (Ext.refl _).drew ?_
  repeat (quiet_step (((with_reducible refine (KO.out _).mono ?_); rintro e w'' ⟨rfl, hEx⟩; exact ⟨rfl, ⟨w'', Ext.trans (Gr.h _) hEx⟩, rfl⟩)))
  refine wpQuiet_nil ?_
  rintro w5 ⟨⟨w5', b5'⟩, h5⟩
  dsimp only at h5
  subst h5
  clear y0 KO
  have P5 := P4.ext b5'
  have Q5 := Q4.ext b5'
  have C5 := C4.ext b5'
  have M5 := M4.ext b5'
  have N5 := N4.ext b5'
  have okm5 := okm4.ext b5'
  have okn5 := okn4.ext b5'
  have E5 := E4.trans b5'
  have x0 : w5.cell? ⟨b5, 0, none⟩ = some (.int .i64 cu) := C5.cell 0
  have x1 : w5.cell? ⟨b5, 1, none⟩ = some (.int .i64 cg) := C5.cell 1
  have xz := C5.lt
  obtain ⟨u, hu⟩ : ∃ u, u = freeB cu m.mode m.uid n.uid := ⟨_, rfl⟩
  have hm3 : Hid (leaveE S cu cg dir nm = if u = false then 4 else 0) := by show _ = _; rw [hm2.out, if_neg (by decide), if_neg HOV.out, hu]
  have HU := Lib.hid hu
  clear hm2 hu P4 Q4 C4 M4 N4 okm4 okn4
  go_wp2_with (first | (refine wpList_load_node rfl _ rfl b11 m A2 k2 rfl M5 ?_) | (refine wpList_load_node rfl _ rfl b13 n A4 k4 rfl N5 ?_))
  refine (pfree_any cu cg _ _ _ m.mode m.uid _ _ _ _ _ _ _ _ _ _ _ n.uid _ _ _ _ _ _ _ _).mono ?_
  rw [← HU.out]
  rintro e w6 ⟨rfl, b6⟩
  have P6 := P5.ext b6
  have Q6 := Q5.ext b6
  have M6 := M5.ext b6
  have N6 := N5.ext b6
  have okm6 := okm5.ext b6
  have okn6 := okn5.ext b6
  have E6 := E5.trans b6
  clear x0 x1 xz P5 Q5 M5 N5 C5
  cases u
  · have hE : Hid (leaveE S cu cg dir nm = 4) := by show _ = _; rw [hm3.out]; rfl
    clear hm3
    go_wp2_with (first | (refine wpList_store_node rfl _ _ rfl (b5 + 1) nodeZ none 0 rfl rfl P6 ?_; intro wp Pp Op; have Qp := Op.has Q6 (by rw [List.mem_singleton]; omega)) | (refine wpList_store_node rfl _ _ rfl (b5 + 2) nodeZ none 0 rfl rfl Qp ?_; intro wq Qq Oq; have Pq := Oq.has Pp (by rw [List.mem_singleton]; omega)))
    refine bodyPost_ret (v := .tuple #[.agg #[.int .i64 nodeZ.no, .int .i64 nodeZ.dev, .int .i64 nodeZ.kind, .int .i64 nodeZ.mode, .int .i64 nodeZ.uid, .int .i64 nodeZ.gid, .int .i64 nodeZ.mtime, .int .i64 nodeZ.ctime, .int .i64 nodeZ.links, .int .i64 nodeZ.up, .string (bs nodeZ.data), .slice none nodeZ.ents.length 0], .agg #[.int .i64 nodeZ.no, .int .i64 nodeZ.dev, .int .i64 nodeZ.kind, .int .i64 nodeZ.mode, .int .i64 nodeZ.uid, .int .i64 nodeZ.gid, .int .i64 nodeZ.mtime, .int .i64 nodeZ.ctime, .int .i64 nodeZ.links, .int .i64 nodeZ.up, .string (bs nodeZ.data), .slice none nodeZ.ents.length 0], .int .i64 4]) (res_node2 Tryz.results181 _ _ (b5 + 1) (b5 + 2) nodeZ nodeZ none none 0 0 _ rfl rfl rfl Pq Qq) rfl ?_
    exact HS.out _ _ _ E6 ((Op.mono (by simp)).then (Oq.mono (by simp))) hE.out (by decide)
  have hE : Hid (leaveE S cu cg dir nm = 0) := by show _ = _; rw [hm3.out]; rfl
  clear hm3
  go_upto_region 11 with fail
  obtain ⟨Ph, hPh⟩ : ∃ Ph : Nat → World → Prop, Ph = ph2 (fun w' => w' = w6.drew) (fun w' => Has w' (b5 + 1) (.cells #[.int .i64 m.no, .int .i64 m.dev, .int .i64 m.kind, .int .i64 m.mode, .int .i64 m.uid, .int .i64 m.gid, .int .i64 m.mtime, .int .i64 m.ctime, .int .i64 m.links, .int .i64 m.up, .string (bs m.data), .slice A2 m.ents.length k2] 87) ∧ Only [b5 + 1] w6.drew w') (fun w' => Has w' (b5 + 1) (.cells #[.int .i64 m.no, .int .i64 m.dev, .int .i64 m.kind, .int .i64 m.mode, .int .i64 m.uid, .int .i64 m.gid, .int .i64 m.mtime, .int .i64 m.ctime, .int .i64 m.links, .int .i64 m.up, .string (bs m.data), .slice A2 m.ents.length k2] 87) ∧ Has w' (b5 + 2) (.cells #[.int .i64 n.no, .int .i64 n.dev, .int .i64 n.kind, .int .i64 n.mode, .int .i64 n.uid, .int .i64 n.gid, .int .i64 n.mtime, .int .i64 n.ctime, .int .i64 n.links, .int .i64 n.up, .string (bs n.data), .slice A4 n.ents.length k4] 87) ∧ Only [b5 + 1, b5 + 2] w6.drew w') := ⟨_, rfl⟩
  have ED : Ext w6 w6.drew := (Ext.refl _).drew
  have HV : Hid (Ph 0 w6.drew) := by show Ph 0 _; rw [hPh]; exact rfl
  have hne : Nonempty (Hp Ph) := ⟨⟨0, _, HV.out⟩⟩
  have uM : ∀ u : Hp Ph, Has u.w b11 (.cells #[.int .i64 m.no, .int .i64 m.dev, .int .i64 m.kind, .int .i64 m.mode, .int .i64 m.uid, .int .i64 m.gid, .int .i64 m.mtime, .int .i64 m.ctime, .int .i64 m.links, .int .i64 m.up, .string (bs m.data), .slice A2 m.ents.length k2] 87) := by
    rw [hPh]
    exact ph2_all (T := fun w' => Has w' b11 (.cells #[.int .i64 m.no, .int .i64 m.dev, .int .i64 m.kind, .int .i64 m.mode, .int .i64 m.uid, .int .i64 m.gid, .int .i64 m.mtime, .int .i64 m.ctime, .int .i64 m.links, .int .i64 m.up, .string (bs m.data), .slice A2 m.ents.length k2] 87)) (fun w' h' => by rw [h']; exact M6.ext ED) (fun w' h' => h'.2.has (M6.ext ED) (by rw [List.mem_singleton]; omega)) (fun w' h' => h'.2.2.has (M6.ext ED) (by simp only [List.mem_cons, List.not_mem_nil, or_false]; omega))
  have uN : ∀ u : Hp Ph, Has u.w b13 (.cells #[.int .i64 n.no, .int .i64 n.dev, .int .i64 n.kind, .int .i64 n.mode, .int .i64 n.uid, .int .i64 n.gid, .int .i64 n.mtime, .int .i64 n.ctime, .int .i64 n.links, .int .i64 n.up, .string (bs n.data), .slice A4 n.ents.length k4] 87) := by
    rw [hPh]
    exact ph2_all (T := fun w' => Has w' b13 (.cells #[.int .i64 n.no, .int .i64 n.dev, .int .i64 n.kind, .int .i64 n.mode, .int .i64 n.uid, .int .i64 n.gid, .int .i64 n.mtime, .int .i64 n.ctime, .int .i64 n.links, .int .i64 n.up, .string (bs n.data), .slice A4 n.ents.length k4] 87)) (fun w' h' => by rw [h']; exact N6.ext ED) (fun w' h' => h'.2.has (N6.ext ED) (by rw [List.mem_singleton]; omega)) (fun w' h' => h'.2.2.has (N6.ext ED) (by simp only [List.mem_cons, List.not_mem_nil, or_false]; omega))
  have my0 : ∀ u : Hp Ph, u.w.cell? ⟨b11, 0, none⟩ = some (.int .i64 m.no) := fun u => (uM u).cell 0
  have my1 : ∀ u : Hp Ph, u.w.cell? ⟨b11, 1, none⟩ = some (.int .i64 m.dev) := fun u => (uM u).cell 1
  have my2 : ∀ u : Hp Ph, u.w.cell? ⟨b11, 2, none⟩ = some (.int .i64 m.kind) := fun u => (uM u).cell 2
  have my3 : ∀ u : Hp Ph, u.w.cell? ⟨b11, 3, none⟩ = some (.int .i64 m.mode) := fun u => (uM u).cell 3
  have my4 : ∀ u : Hp Ph, u.w.cell? ⟨b11, 4, none⟩ = some (.int .i64 m.uid) := fun u => (uM u).cell 4
  have my5 : ∀ u : Hp Ph, u.w.cell? ⟨b11, 5, none⟩ = some (.int .i64 m.gid) := fun u => (uM u).cell 5
  have my6 : ∀ u : Hp Ph, u.w.cell? ⟨b11, 6, none⟩ = some (.int .i64 m.mtime) := fun u => (uM u).cell 6
  have my7 : ∀ u : Hp Ph, u.w.cell? ⟨b11, 7, none⟩ = some (.int .i64 m.ctime) := fun u => (uM u).cell 7
  have my8 : ∀ u : Hp Ph, u.w.cell? ⟨b11, 8, none⟩ = some (.int .i64 m.links) := fun u => (uM u).cell 8
  have my9 : ∀ u : Hp Ph, u.w.cell? ⟨b11, 9, none⟩ = some (.int .i64 m.up) := fun u => (uM u).cell 9
  have my10 : ∀ u : Hp Ph, u.w.cell? ⟨b11, 10, none⟩ = some (.string (bs m.data)) := fun u => (uM u).cell 10
  have my11 : ∀ u : Hp Ph, u.w.cell? ⟨b11, 11, none⟩ = some (.slice A2 m.ents.length k2) := fun u => (uM u).cell 11
  have ny0 : ∀ u : Hp Ph, u.w.cell? ⟨b13, 0, none⟩ = some (.int .i64 n.no) := fun u => (uN u).cell 0
  have ny1 : ∀ u : Hp Ph, u.w.cell? ⟨b13, 1, none⟩ = some (.int .i64 n.dev) := fun u => (uN u).cell 1
  have ny2 : ∀ u : Hp Ph, u.w.cell? ⟨b13, 2, none⟩ = some (.int .i64 n.kind) := fun u => (uN u).cell 2
  have ny3 : ∀ u : Hp Ph, u.w.cell? ⟨b13, 3, none⟩ = some (.int .i64 n.mode) := fun u => (uN u).cell 3
  have ny4 : ∀ u : Hp Ph, u.w.cell? ⟨b13, 4, none⟩ = some (.int .i64 n.uid) := fun u => (uN u).cell 4
  have ny5 : ∀ u : Hp Ph, u.w.cell? ⟨b13, 5, none⟩ = some (.int .i64 n.gid) := fun u => (uN u).cell 5
  have ny6 : ∀ u : Hp Ph, u.w.cell? ⟨b13, 6, none⟩ = some (.int .i64 n.mtime) := fun u => (uN u).cell 6
  have ny7 : ∀ u : Hp Ph, u.w.cell? ⟨b13, 7, none⟩ = some (.int .i64 n.ctime) := fun u => (uN u).cell 7
  have ny8 : ∀ u : Hp Ph, u.w.cell? ⟨b13, 8, none⟩ = some (.int .i64 n.links) := fun u => (uN u).cell 8
  have ny9 : ∀ u : Hp Ph, u.w.cell? ⟨b13, 9, none⟩ = some (.int .i64 n.up) := fun u => (uN u).cell 9
  have ny10 : ∀ u : Hp Ph, u.w.cell? ⟨b13, 10, none⟩ = some (.string (bs n.data)) := fun u => (uN u).cell 10
  have ny11 : ∀ u : Hp Ph, u.w.cell? ⟨b13, 11, none⟩ = some (.slice A4 n.ents.length k4) := fun u => (uN u).cell 11
  have hB0 : Hid (∀ u : Wc (Ph 0), ∃ (m : NodeD) (A' : Option Addr) (c' : Nat), Has u.w (b5 + 1) (.cells #[.int .i64 m.no, .int .i64 m.dev, .int .i64 m.kind, .int .i64 m.mode, .int .i64 m.uid, .int .i64 m.gid, .int .i64 m.mtime, .int .i64 m.ctime, .int .i64 m.links, .int .i64 m.up, .string (bs m.data), .slice A' m.ents.length c'] 87)) := by
    show ∀ u : Wc (Ph 0), _
    rintro ⟨u, hu⟩
    rw [hPh] at hu
    exact ⟨nodeZ, none, 0, by show Has u _ _; rw [show u = w6.drew from hu]; exact P6.ext ED⟩
  have hN0 : Hid (∀ (u : Wc (Ph 0)) (w' : World), Has w' (b5 + 1) (.cells #[.int .i64 m.no, .int .i64 m.dev, .int .i64 m.kind, .int .i64 m.mode, .int .i64 m.uid, .int .i64 m.gid, .int .i64 m.mtime, .int .i64 m.ctime, .int .i64 m.links, .int .i64 m.up, .string (bs m.data), .slice A2 m.ents.length k2] 87) → Only [b5 + 1] u.w w' → Ph 1 w') := by
    show ∀ (u : Wc (Ph 0)) (w' : World), _
    rintro ⟨u, hu⟩ w' h1 h2
    rw [hPh] at hu ⊢
    dsimp only at h2
    rw [show u = w6.drew from hu] at h2
    exact ⟨h1, h2⟩
  have hB1 : Hid (∀ u : Wc (Ph 1), ∃ (m : NodeD) (A' : Option Addr) (c' : Nat), Has u.w (b5 + 2) (.cells #[.int .i64 m.no, .int .i64 m.dev, .int .i64 m.kind, .int .i64 m.mode, .int .i64 m.uid, .int .i64 m.gid, .int .i64 m.mtime, .int .i64 m.ctime, .int .i64 m.links, .int .i64 m.up, .string (bs m.data), .slice A' m.ents.length c'] 87)) := by
    show ∀ u : Wc (Ph 1), _
    rintro ⟨u, hu⟩
    rw [hPh] at hu
    exact ⟨nodeZ, none, 0, hu.2.has (Q6.ext ED) (by rw [List.mem_singleton]; omega)⟩
  have hN1 : Hid (∀ (u : Wc (Ph 1)) (w' : World), Has w' (b5 + 2) (.cells #[.int .i64 n.no, .int .i64 n.dev, .int .i64 n.kind, .int .i64 n.mode, .int .i64 n.uid, .int .i64 n.gid, .int .i64 n.mtime, .int .i64 n.ctime, .int .i64 n.links, .int .i64 n.up, .string (bs n.data), .slice A4 n.ents.length k4] 87) → Only [b5 + 2] u.w w' → Ph 2 w') := by
    show ∀ (u : Wc (Ph 1)) (w' : World), _
    rintro ⟨u, hu⟩ w' h1 h2
    rw [hPh] at hu ⊢
    dsimp only at h2
    exact ⟨h2.has hu.1 (by rw [List.mem_singleton]; omega), h1, (hu.2.mono (by simp)).then (h2.mono (by simp))⟩
  have KQ : Hid (∀ w', Ph 2 w' → Has w' (b5 + 1) (.cells #[.int .i64 m.no, .int .i64 m.dev, .int .i64 m.kind, .int .i64 m.mode, .int .i64 m.uid, .int .i64 m.gid, .int .i64 m.mtime, .int .i64 m.ctime, .int .i64 m.links, .int .i64 m.up, .string (bs m.data), .slice A2 m.ents.length k2] 87) ∧ Has w' (b5 + 2) (.cells #[.int .i64 n.no, .int .i64 n.dev, .int .i64 n.kind, .int .i64 n.mode, .int .i64 n.uid, .int .i64 n.gid, .int .i64 n.mtime, .int .i64 n.ctime, .int .i64 n.links, .int .i64 n.up, .string (bs n.data), .slice A4 n.ents.length k4] 87) ∧ Only [b5 + 1, b5 + 2] w6.drew w') := by
    show ∀ w', _
    intro w' hw
    rw [hPh] at hw
    exact hw
  clear hPh uM uN
  refine wp_region_phase Ph [2, 3] (by kernel_rfl) (by kernel_rfl) (by kernel_rfl) HV.out ?_
  iterate 2 (refine wpLexE_plain (by kernel_rfl) (fun K hK => ?_); go_simp; refine hK _ ?_; clear hK K)
  refine wpLexE_store_node 0 (by kernel_rfl) rfl rfl _ _ rfl (b5 + 1) m A2 k2 rfl rfl hB0.out hN0.out ?_
  refine wpLexE_store_node 1 (by kernel_rfl) rfl rfl _ _ rfl (b5 + 2) n A4 k4 rfl rfl hB1.out hN1.out ?_
  refine wpLexE_plain (by kernel_rfl) (fun K hK => ?_)
  go_simp
  refine hK _ ?_
  clear hK K
  refine wpLexE_nil ?_
  intro w7 hw7
  obtain ⟨P7, Q7, O7⟩ := KQ.out _ hw7
  clear my0 my1 my2 my3 my4 my5 my6 my7 my8 my9 my10 my11 ny0 ny1 ny2 ny3 ny4 ny5 ny6 ny7 ny8 ny9 ny10 ny11 hB0 hN0 hB1 hN1 KQ hw7
  go_wp2_with fail
  refine bodyPost_ret (v := .tuple #[.agg #[.int .i64 m.no, .int .i64 m.dev, .int .i64 m.kind, .int .i64 m.mode, .int .i64 m.uid, .int .i64 m.gid, .int .i64 m.mtime, .int .i64 m.ctime, .int .i64 m.links, .int .i64 m.up, .string (bs m.data), .slice A2 m.ents.length k2], .agg #[.int .i64 n.no, .int .i64 n.dev, .int .i64 n.kind, .int .i64 n.mode, .int .i64 n.uid, .int .i64 n.gid, .int .i64 n.mtime, .int .i64 n.ctime, .int .i64 n.links, .int .i64 n.up, .string (bs n.data), .slice A4 n.ents.length k4], .int .i64 0]) (res_node2 Tryz.results181 _ _ (b5 + 1) (b5 + 2) m n A2 A4 k2 k4 _ rfl rfl rfl P7 Q7) rfl ?_
  have e1 : leaveD S cu cg dir nm = m := by unfold leaveD; rw [if_pos hE.out, HMG.out]
  have e2 : leaveN S cu cg dir nm = n := by unfold leaveN; rw [if_pos hE.out, HNN.out, HNO.out, HMG.out]
  have haP : Apart w6.drew B [b5 + 1, b5 + 2] := by
    intro b hb
    simp only [List.mem_cons, List.not_mem_nil, or_false] at hb
    have := h.1
    rcases hb with rfl | rfl
    · exact ⟨by omega, (P6.ext ED).noTag (by decide)⟩
    · exact ⟨by omega, (Q6.ext ED).noTag (by decide)⟩
  refine ⟨A2, k2, A4, k4, by rw [e1, e2, hE.out], by rw [e1]; exact (okm6.ext ED).only O7 haP, by rw [e2]; exact (okn6.ext ED).only O7 haP, O7.after (E6.trans ED) (by intro b hb; simp only [List.mem_cons, List.not_mem_nil, or_false] at hb; omega)⟩
end Go.Proofs.YtjblimclakfhfaaGreat

namespace Go.Proofs.YtjblimclakfhfaaGreat
open Go.ChangeShapes Go.WideShapes Go.ChangeAt Go.RowKit

theorem has_of_find {l : List EntD} {nm : List UInt8} (h : findF l nm ≠ 0) : has l nm = true := by
  unfold findF at h
  unfold has
  rw [List.any_eq_true]
  cases hf : l.find? (fun x => x.1 == nm) with
  | none => rw [hf] at h; exact absurd rfl h
  | some y =>
    have h2 := List.find?_some (p := fun x : EntD => x.1 == nm) hf
    exact ⟨y, List.mem_of_find?_eq_some hf, h2⟩
set_option maxRecDepth 100000 in
set_option maxHeartbeats 4000000 in
theorem pgone_any (B : Nat) (g : GhW) (S : TreeD) (now : Int) (d n : NodeD) (A A' : Option Addr) (c c' : Nat) (nm : List UInt8) (w : World) (h : WAt w B g S) (O : Ok S) (hd : NodeOk w B d A c) (hn : NodeOk w B n A' c') (hdr : Rise d.ents) (hdl : d.ents.length ≤ 100000) (hhas : has d.ents nm = true) (hdd : hasD S.devs (getN S.nodes d.no).dev = true ∧ (getN S.nodes d.no).data.length ≤ 1048576) (hd1 : (getN S.nodes d.no).no = 1 → (getN S.nodes d.no).dev = 1) (hh : Held S n) :
    Calls Tryz.prog 182 #[.pointer (some ⟨g.bW, 0, none⟩), .int .i64 now, .agg #[.int .i64 d.no, .int .i64 d.dev, .int .i64 d.kind, .int .i64 d.mode, .int .i64 d.uid, .int .i64 d.gid, .int .i64 d.mtime, .int .i64 d.ctime, .int .i64 d.links, .int .i64 d.up, .string (bs d.data), .slice A d.ents.length c], .agg #[.int .i64 n.no, .int .i64 n.dev, .int .i64 n.kind, .int .i64 n.mode, .int .i64 n.uid, .int .i64 n.gid, .int .i64 n.mtime, .int .i64 n.ctime, .int .i64 n.links, .int .i64 n.up, .string (bs n.data), .slice A' n.ents.length c'], .string (bs nm)] w (ErrR w B g (goneT S now d n nm) 0) := by
  obtain ⟨W0, hW0⟩ : ∃ W0, W0 = (w.alloc (.cells #[.int .i64 d.no, .int .i64 d.dev, .int .i64 d.kind, .int .i64 d.mode, .int .i64 d.uid, .int .i64 d.gid, .int .i64 d.mtime, .int .i64 d.ctime, .int .i64 d.links, .int .i64 d.up, .string (bs d.data), .slice A d.ents.length c] 87)).alloc (.cells #[.int .i64 n.no, .int .i64 n.dev, .int .i64 n.kind, .int .i64 n.mode, .int .i64 n.uid, .int .i64 n.gid, .int .i64 n.mtime, .int .i64 n.ctime, .int .i64 n.links, .int .i64 n.up, .string (bs n.data), .slice A' n.ents.length c'] 87) := ⟨_, rfl⟩
  have E0 : Ext w W0 := by rw [hW0]; exact ((Ext.refl _).alloc _).alloc _
  obtain ⟨b7, hb7⟩ : ∃ b, b = w.heap.size := ⟨_, rfl⟩
  have D0 : Has W0 b7 (.cells #[.int .i64 d.no, .int .i64 d.dev, .int .i64 d.kind, .int .i64 d.mode, .int .i64 d.uid, .int .i64 d.gid, .int .i64 d.mtime, .int .i64 d.ctime, .int .i64 d.links, .int .i64 d.up, .string (bs d.data), .slice A d.ents.length c] 87) := by rw [hW0, hb7]; exact (Has.new w _).alloc _
  have N0 : Has W0 (b7 + 1) (.cells #[.int .i64 n.no, .int .i64 n.dev, .int .i64 n.kind, .int .i64 n.mode, .int .i64 n.uid, .int .i64 n.gid, .int .i64 n.mtime, .int .i64 n.ctime, .int .i64 n.links, .int .i64 n.up, .string (bs n.data), .slice A' n.ents.length c'] 87) := by
    rw [hW0, hb7]
    have := Has.new (w.alloc (.cells #[.int .i64 d.no, .int .i64 d.dev, .int .i64 d.kind, .int .i64 d.mode, .int .i64 d.uid, .int .i64 d.gid, .int .i64 d.mtime, .int .i64 d.ctime, .int .i64 d.links, .int .i64 d.up, .string (bs d.data), .slice A d.ents.length c] 87)) (.cells #[.int .i64 n.no, .int .i64 n.dev, .int .i64 n.kind, .int .i64 n.mode, .int .i64 n.uid, .int .i64 n.gid, .int .i64 n.mtime, .int .i64 n.ctime, .int .i64 n.links, .int .i64 n.up, .string (bs n.data), .slice A' n.ents.length c'] 87)
    rwa [World.size_alloc] at this
  have hb7b : w.heap.size ≤ b7 := by omega
  have HO := Lib.hid O
  have HR := Lib.hid hdr
  have HHAS := Lib.hid hhas
  have HH := Lib.hid hh
  have HDD := Lib.hid hdd
  have HD1 := Lib.hid hd1
  have y11 : W0.cell? ⟨b7, 11, none⟩ = some (.slice A d.ents.length c) := D0.cell 11
  have yz := D0.lt
  have okd := hd.ext E0
  have okn := hn.ext E0
  clear O hdr hhas hh hdd hd1
  go_enter Tryz.func182, Tryz.ntmps182
  go_upto_region 1 with fail
  rw [← hW0]
  rw [← hb7]
  clear hW0 hb7
  go_wp2_with fail
  refine (drop_yes A d.ents c nm _ okd.ents.ents HR.out okd.cap okd.max (by omega) HHAS.out).mono ?_
  rintro e w2 ⟨v2, rfl, hown, b2⟩
  rw [cutP_dropF _ _ HR.out HHAS.out] at hown
  obtain ⟨A2, c2, rfl, q1, q2, q3, q4⟩ := hown.entsT (B := B)
  have D2 := D0.ext b2
  have N2 := N0.ext b2
  have okn2 := okn.ext b2
  have E2 := E0.trans b2
  obtain ⟨L2, hL2⟩ : ∃ L, L = dropF d.ents nm := ⟨_, rfl⟩
  rw [← hL2] at q1 q3 ⊢
  have HL2 := Lib.hid hL2
  have z0 : w2.cell? ⟨b7, 0, none⟩ = some (.int .i64 d.no) := D2.cell 0
  have zz := D2.lt
  obtain ⟨T, hT⟩ : ∃ T, T = touchT S d.no now L2 := ⟨_, rfl⟩
  have HT := Lib.hid hT
  have KT : Hid (Calls Tryz.prog 178 #[.pointer (some ⟨g.bW, 0, none⟩), .int .i64 d.no, .int .i64 now, .slice A2 L2.length c2] w2 (TouchR w2 B g T)) := by
    show Calls _ _ _ _ _
    rw [hT]
    exact ptouch_any B g S d.no now A2 L2 c2 w2 (h.ext E2) HO.out.live.nos q3 q1 q2 q4
  have hTL : Live T := by
    rw [hT]
    exact HO.out.live.set _ HDD.out.1 HDD.out.2 HD1.out
  have hHT : Held T n := ⟨HH.out.links, by rw [hT]; exact HH.out.dev, HH.out.data, HH.out.one⟩
  have HTL := Lib.hid hTL
  have HHT := Lib.hid hHT
  clear y11 yz hown q1 q2 q3 q4 hL2 hT hTL hHT D0 N0 okd
  go_wp2_with fail
  refine KT.out.mono ?_
  rintro e w3 ⟨rfl, K3, O3⟩
  have hng : b7 + 1 ∉ g.list := by
    have hlw := h.lt
    simp only [GhW.list, List.mem_cons, List.not_mem_nil, or_false]
    omega
  have N3 := O3.has N2 hng
  have okn3 := okn2.only O3 (h.ext E2).apart
  clear z0 zz KT
  go_wp2_with (refine wpList_load_node rfl _ rfl (b7 + 1) n A' c' rfl N3 ?_)
  refine (pless_any B g T now n A' c' _ K3 HTL.out okn3 HHT.out).mono ?_
  rintro e w4 ⟨rfl, K4, O4⟩
  go_wp2_with fail
  go_ret
  have e1 : goneT S now d n nm = lessT T now n := by unfold goneT; rw [HT.out, HL2.out]
  exact ⟨rfl, by rw [e1]; exact K4, (Only.pre E2 O3).then O4⟩
/-! ### Unlink, Rmdir. -/
theorem leaveE_zero {S : TreeD} {cu cg dir : Int} {nm : List UInt8} (h : leaveE S cu cg dir nm = 0) : placeE S cu cg dir nm = 0 ∧ isN S.nodes (findF (getN S.nodes dir).ents nm) = true ∧ overF S.devs (findF (getN S.nodes dir).ents nm) = findF (getN S.nodes dir).ents nm ∧ leaveD S cu cg dir nm = getN S.nodes dir ∧ leaveN S cu cg dir nm = getN S.nodes (findF (getN S.nodes dir).ents nm) := by
  have e1 : leaveD S cu cg dir nm = getN S.nodes dir := by unfold leaveD; rw [if_pos h]
  have e2 : leaveN S cu cg dir nm = getN S.nodes (findF (getN S.nodes dir).ents nm) := by unfold leaveN; rw [if_pos h]
  refine ⟨?_, ?_, ?_, e1, e2⟩ <;> unfold leaveE at h <;> split at h
  · rename_i h1; exact absurd h h1
  · rename_i h1; exact Decidable.not_not.1 h1
  · rename_i h1; exact absurd h h1
  · split at h
    · cases h
    · rename_i h2; simpa using h2
  · rename_i h1; exact absurd h h1
  · split at h
    · cases h
    · split at h
      · cases h
      · rename_i h3; exact Decidable.not_not.1 h3
set_option maxRecDepth 100000 in
set_option maxHeartbeats 8000000 in
theorem punlink_any (B : Nat) (g : GhW) (S : TreeD) (cu cg now dir : Int) (nm : List UInt8) (w : World) (h : WAt w B g S) (O : Ok S) :
    Calls Tryz.prog 116 #[.pointer (some ⟨g.bW, 0, none⟩), .agg #[.int .i64 cu, .int .i64 cg], .int .i64 now, .int .i64 dir, .string (bs nm)] w (ErrR w B g (unlinkT S cu cg now dir nm) (unlinkE S cu cg dir nm)) := by
  obtain ⟨W0, hW0⟩ : ∃ W0, W0 = w.alloc (.cells #[.int .i64 cu, .int .i64 cg] 24) := ⟨_, rfl⟩
  have E0 : Ext w W0 := by rw [hW0]; exact (Ext.refl _).alloc _
  have C0 : Has W0 w.heap.size (.cells #[.int .i64 cu, .int .i64 cg] 24) := by rw [hW0]; exact Has.new w _
  have HO := Lib.hid O
  have HE : Hid (unlinkE S cu cg dir nm = if ¬ leaveE S cu cg dir nm = 0 then leaveE S cu cg dir nm else if (leaveN S cu cg dir nm).kind = 1 then 8 else 0) := by show _ = _; rfl
  have HZ : Hid (leaveE S cu cg dir nm = 0 → _) := fun h0 => leaveE_zero (nm := nm) h0
  have HS : Hid (∀ (w' : World) (x : Int), Ext w w' → unlinkE S cu cg dir nm = x → x ≠ 0 → ErrR w B g (unlinkT S cu cg now dir nm) (unlinkE S cu cg dir nm) (.returned (.int .i64 x)) w') := by
    show ∀ (w' : World) (x : Int), _
    intro w' x hE hx h0
    rw [hx]
    exact errR_same h hE (by unfold unlinkT; rw [if_neg (by rw [hx]; exact h0)])
  have x0 : W0.cell? ⟨w.heap.size, 0, none⟩ = some (.int .i64 cu) := C0.cell 0
  have x1 : W0.cell? ⟨w.heap.size, 1, none⟩ = some (.int .i64 cg) := C0.cell 1
  have xz := C0.lt
  clear O
  go_enter Tryz.func116, Tryz.ntmps116
  go_upto_region 1 with fail
  rw [← hW0]
  clear hW0
  go_wp2_with fail
  refine (pleave_any B g S cu cg dir nm _ (h.ext E0) HO.out).mono ?_
  rintro e w2 ⟨A1, c1, A2, c2, rfl, okd, okn, b2⟩
  obtain ⟨d, hd⟩ : ∃ d, d = leaveD S cu cg dir nm := ⟨_, rfl⟩
  obtain ⟨n, hn⟩ : ∃ n, n = leaveN S cu cg dir nm := ⟨_, rfl⟩
  obtain ⟨x, hx⟩ : ∃ x, x = leaveE S cu cg dir nm := ⟨_, rfl⟩
  rw [← hd] at okd
  rw [← hn] at okn
  rw [← hd, ← hn, ← hx]
  rw [← hx] at HE HZ
  have HDD := Lib.hid hd
  have HNN := Lib.hid hn
  obtain ⟨W3, hW3⟩ : ∃ W3, W3 = (w2.alloc (.cells #[.int .i64 d.no, .int .i64 d.dev, .int .i64 d.kind, .int .i64 d.mode, .int .i64 d.uid, .int .i64 d.gid, .int .i64 d.mtime, .int .i64 d.ctime, .int .i64 d.links, .int .i64 d.up, .string (bs d.data), .slice A1 d.ents.length c1] 87)).alloc (.cells #[.int .i64 n.no, .int .i64 n.dev, .int .i64 n.kind, .int .i64 n.mode, .int .i64 n.uid, .int .i64 n.gid, .int .i64 n.mtime, .int .i64 n.ctime, .int .i64 n.links, .int .i64 n.up, .string (bs n.data), .slice A2 n.ents.length c2] 87) := ⟨_, rfl⟩
  have E23 : Ext w2 W3 := by rw [hW3]; exact ((Ext.refl _).alloc _).alloc _
  obtain ⟨b11, hb11⟩ : ∃ b, b = w2.heap.size := ⟨_, rfl⟩
  have D3 : Has W3 b11 (.cells #[.int .i64 d.no, .int .i64 d.dev, .int .i64 d.kind, .int .i64 d.mode, .int .i64 d.uid, .int .i64 d.gid, .int .i64 d.mtime, .int .i64 d.ctime, .int .i64 d.links, .int .i64 d.up, .string (bs d.data), .slice A1 d.ents.length c1] 87) := by rw [hW3, hb11]; exact (Has.new w2 _).alloc _
  have N3 : Has W3 (b11 + 1) (.cells #[.int .i64 n.no, .int .i64 n.dev, .int .i64 n.kind, .int .i64 n.mode, .int .i64 n.uid, .int .i64 n.gid, .int .i64 n.mtime, .int .i64 n.ctime, .int .i64 n.links, .int .i64 n.up, .string (bs n.data), .slice A2 n.ents.length c2] 87) := by
    rw [hW3, hb11]
    have := Has.new (w2.alloc (.cells #[.int .i64 d.no, .int .i64 d.dev, .int .i64 d.kind, .int .i64 d.mode, .int .i64 d.uid, .int .i64 d.gid, .int .i64 d.mtime, .int .i64 d.ctime, .int .i64 d.links, .int .i64 d.up, .string (bs d.data), .slice A1 d.ents.length c1] 87)) (.cells #[.int .i64 n.no, .int .i64 n.dev, .int .i64 n.kind, .int .i64 n.mode, .int .i64 n.uid, .int .i64 n.gid, .int .i64 n.mtime, .int .i64 n.ctime, .int .i64 n.links, .int .i64 n.up, .string (bs n.data), .slice A2 n.ents.length c2] 87)
    rwa [World.size_alloc] at this
  have okd3 := okd.ext E23
  have okn3 := okn.ext E23
  have E3 := (E0.trans b2).trans E23
  clear x0 x1 xz hd hn hx C0
  go_upto_region 2 with fail
  rw [← hW3]
  rw [← hb11]
  have hb11w : w.heap.size ≤ b11 := by rw [hb11]; exact (E0.trans b2).size
  clear hW3 hb11
  by_cases hx0 : x = 0
  case neg =>
    have t0 : (x == 0) = false := by simpa using hx0
    have t0b : (x != 0) = true := by simpa using hx0
    have hE : Hid (unlinkE S cu cg dir nm = x) := by show _ = _; rw [HE.out, if_pos hx0]
    have HX := Lib.hid hx0
    clear hx0
    go_wp2_with fail
    go_ret
    exact HS.out _ _ E3 hE.out HX.out
  have t0 : (x == 0) = true := by simpa using hx0
  have t0b : (x != 0) = false := by simpa using hx0
  have hz := HZ.out hx0
  have HLZ := Lib.hid hz
  have HX0 := Lib.hid (show ¬ ¬ x = 0 by simpa using hx0)
  have k2 : W3.cell? ⟨b11 + 1, 2, none⟩ = some (.int .i64 n.kind) := N3.cell 2
  have kz := N3.lt
  clear hx0 hz
  by_cases c1' : n.kind = 1
  · have t1 : (n.kind == 1) = true := by simpa using c1'
    have hE : Hid (unlinkE S cu cg dir nm = 8) := by show _ = _; rw [HE.out, if_neg HX0.out, ← HNN.out, if_pos c1']
    clear c1'
    go_wp2_with fail
    go_ret
    exact HS.out _ _ E3 hE.out (by decide)
  have t1 : (n.kind == 1) = false := by simpa using c1'
  have HC1 := Lib.hid c1'
  clear c1'
  have hE : Hid (unlinkE S cu cg dir nm = 0) := by show _ = _; rw [HE.out, if_neg HX0.out, ← HNN.out, if_neg HC1.out]
  obtain ⟨z1, z2, z3, z4, z5⟩ := HLZ.out
  rw [← HDD.out] at z4
  rw [← HNN.out] at z5
  have hpos : findF (getN S.nodes dir).ents nm ≠ 0 := fun e => by
    rw [e] at z2
    have := HO.out.live.nos.zero (no := 0) (.inl (by omega))
    rw [this] at z2; cases z2
  have hdi := (placeE_zero z1).1
  have hdn := (isN_true hdi).2.1
  have hden := HO.out.entsN dir
  have KG : Hid (Calls Tryz.prog 182 #[.pointer (some ⟨g.bW, 0, none⟩), .int .i64 now, .agg #[.int .i64 d.no, .int .i64 d.dev, .int .i64 d.kind, .int .i64 d.mode, .int .i64 d.uid, .int .i64 d.gid, .int .i64 d.mtime, .int .i64 d.ctime, .int .i64 d.links, .int .i64 d.up, .string (bs d.data), .slice A1 d.ents.length c1], .agg #[.int .i64 n.no, .int .i64 n.dev, .int .i64 n.kind, .int .i64 n.mode, .int .i64 n.uid, .int .i64 n.gid, .int .i64 n.mtime, .int .i64 n.ctime, .int .i64 n.links, .int .i64 n.up, .string (bs n.data), .slice A2 n.ents.length c2], .string (bs nm)] W3 (ErrR W3 B g (goneT S now d n nm) 0)) := by
    have e1 : getN S.nodes d.no = getN S.nodes dir := by rw [z4, hdn]
    refine pgone_any B g S now d n A1 A2 c1 c2 nm W3 (h.ext E3) HO.out okd3 okn3 (by rw [z4]; exact hden.1) (by rw [z4]; exact hden.2) (by rw [z4]; exact has_of_find hpos) ?_ ?_ (by rw [z5]; exact HO.out.held z2)
    · rw [e1]; exact HO.out.live.on _ (isN_true hdi).2.2
    · rw [e1]; exact HO.out.live.one _ (isN_true hdi).2.2
  have e3 : Hid (unlinkT S cu cg now dir nm = goneT S now d n nm) := by show _ = _; unfold unlinkT; rw [if_pos hE.out, ← HDD.out, ← HNN.out]
  clear z1 z2 z3 z4 z5 hpos hdi hdn hden
  go_wp2_with (first | (refine wpList_load_node rfl _ rfl b11 d A1 c1 rfl D3 ?_) | (refine wpList_load_node rfl _ rfl (b11 + 1) n A2 c2 rfl N3 ?_))
  refine KG.out.mono ?_
  rintro e w4 ⟨rfl, K4, O4⟩
  go_wp2_with fail
  go_ret
  rw [hE.out]
  exact ⟨rfl, by rw [e3.out]; exact K4, Only.pre E3 O4⟩
set_option maxRecDepth 100000 in
set_option maxHeartbeats 8000000 in
theorem prmdir_any (B : Nat) (g : GhW) (S : TreeD) (cu cg now dir : Int) (nm : List UInt8) (w : World) (h : WAt w B g S) (O : Ok S) :
    Calls Tryz.prog 120 #[.pointer (some ⟨g.bW, 0, none⟩), .agg #[.int .i64 cu, .int .i64 cg], .int .i64 now, .int .i64 dir, .string (bs nm)] w (ErrR w B g (rmdirT S cu cg now dir nm) (rmdirE S cu cg dir nm)) := by
  obtain ⟨W0, hW0⟩ : ∃ W0, W0 = w.alloc (.cells #[.int .i64 cu, .int .i64 cg] 24) := ⟨_, rfl⟩
  have E0 : Ext w W0 := by rw [hW0]; exact (Ext.refl _).alloc _
  have C0 : Has W0 w.heap.size (.cells #[.int .i64 cu, .int .i64 cg] 24) := by rw [hW0]; exact Has.new w _
  have HO := Lib.hid O
  have HE : Hid (rmdirE S cu cg dir nm = if ¬ leaveE S cu cg dir nm = 0 then leaveE S cu cg dir nm else if ¬ (leaveN S cu cg dir nm).kind = 1 then 9 else if 0 < ((leaveN S cu cg dir nm).ents.length : Int) then 10 else 0) := by show _ = _; rfl
  have HZ : Hid (leaveE S cu cg dir nm = 0 → _) := fun h0 => leaveE_zero (nm := nm) h0
  have HS : Hid (∀ (w' : World) (x : Int), Ext w w' → rmdirE S cu cg dir nm = x → x ≠ 0 → ErrR w B g (rmdirT S cu cg now dir nm) (rmdirE S cu cg dir nm) (.returned (.int .i64 x)) w') := by
    show ∀ (w' : World) (x : Int), _
    intro w' x hE hx h0
    rw [hx]
    exact errR_same h hE (by unfold rmdirT; rw [if_neg (by rw [hx]; exact h0)])
  have x0 : W0.cell? ⟨w.heap.size, 0, none⟩ = some (.int .i64 cu) := C0.cell 0
  have x1 : W0.cell? ⟨w.heap.size, 1, none⟩ = some (.int .i64 cg) := C0.cell 1
  have xz := C0.lt
  clear O
  go_enter Tryz.func120, Tryz.ntmps120
  go_upto_region 1 with fail
  rw [← hW0]
  clear hW0
  go_wp2_with fail
  refine (pleave_any B g S cu cg dir nm _ (h.ext E0) HO.out).mono ?_
  rintro e w2 ⟨A1, c1, A2, c2, rfl, okd, okn, b2⟩
  obtain ⟨d, hd⟩ : ∃ d, d = leaveD S cu cg dir nm := ⟨_, rfl⟩
  obtain ⟨n, hn⟩ : ∃ n, n = leaveN S cu cg dir nm := ⟨_, rfl⟩
  obtain ⟨x, hx⟩ : ∃ x, x = leaveE S cu cg dir nm := ⟨_, rfl⟩
  rw [← hd] at okd
  rw [← hn] at okn
  rw [← hd, ← hn, ← hx]
  rw [← hx] at HE HZ
  have HDD := Lib.hid hd
  have HNN := Lib.hid hn
  obtain ⟨W3, hW3⟩ : ∃ W3, W3 = (w2.alloc (.cells #[.int .i64 d.no, .int .i64 d.dev, .int .i64 d.kind, .int .i64 d.mode, .int .i64 d.uid, .int .i64 d.gid, .int .i64 d.mtime, .int .i64 d.ctime, .int .i64 d.links, .int .i64 d.up, .string (bs d.data), .slice A1 d.ents.length c1] 87)).alloc (.cells #[.int .i64 n.no, .int .i64 n.dev, .int .i64 n.kind, .int .i64 n.mode, .int .i64 n.uid, .int .i64 n.gid, .int .i64 n.mtime, .int .i64 n.ctime, .int .i64 n.links, .int .i64 n.up, .string (bs n.data), .slice A2 n.ents.length c2] 87) := ⟨_, rfl⟩
  have E23 : Ext w2 W3 := by rw [hW3]; exact ((Ext.refl _).alloc _).alloc _
  obtain ⟨b11, hb11⟩ : ∃ b, b = w2.heap.size := ⟨_, rfl⟩
  have D3 : Has W3 b11 (.cells #[.int .i64 d.no, .int .i64 d.dev, .int .i64 d.kind, .int .i64 d.mode, .int .i64 d.uid, .int .i64 d.gid, .int .i64 d.mtime, .int .i64 d.ctime, .int .i64 d.links, .int .i64 d.up, .string (bs d.data), .slice A1 d.ents.length c1] 87) := by rw [hW3, hb11]; exact (Has.new w2 _).alloc _
  have N3 : Has W3 (b11 + 1) (.cells #[.int .i64 n.no, .int .i64 n.dev, .int .i64 n.kind, .int .i64 n.mode, .int .i64 n.uid, .int .i64 n.gid, .int .i64 n.mtime, .int .i64 n.ctime, .int .i64 n.links, .int .i64 n.up, .string (bs n.data), .slice A2 n.ents.length c2] 87) := by
    rw [hW3, hb11]
    have := Has.new (w2.alloc (.cells #[.int .i64 d.no, .int .i64 d.dev, .int .i64 d.kind, .int .i64 d.mode, .int .i64 d.uid, .int .i64 d.gid, .int .i64 d.mtime, .int .i64 d.ctime, .int .i64 d.links, .int .i64 d.up, .string (bs d.data), .slice A1 d.ents.length c1] 87)) (.cells #[.int .i64 n.no, .int .i64 n.dev, .int .i64 n.kind, .int .i64 n.mode, .int .i64 n.uid, .int .i64 n.gid, .int .i64 n.mtime, .int .i64 n.ctime, .int .i64 n.links, .int .i64 n.up, .string (bs n.data), .slice A2 n.ents.length c2] 87)
    rwa [World.size_alloc] at this
  have okd3 := okd.ext E23
  have okn3 := okn.ext E23
  have E3 := (E0.trans b2).trans E23
  clear x0 x1 xz hd hn hx C0
  go_upto_region 2 with fail
  rw [← hW3]
  rw [← hb11]
  have hb11w : w.heap.size ≤ b11 := by rw [hb11]; exact (E0.trans b2).size
  clear hW3 hb11
  by_cases hx0 : x = 0
  case neg =>
    have t0 : (x == 0) = false := by simpa using hx0
    have t0b : (x != 0) = true := by simpa using hx0
    have hE : Hid (rmdirE S cu cg dir nm = x) := by show _ = _; rw [HE.out, if_pos hx0]
    have HX := Lib.hid hx0
    clear hx0
    go_wp2_with fail
    go_ret
    exact HS.out _ _ E3 hE.out HX.out
  have t0 : (x == 0) = true := by simpa using hx0
  have t0b : (x != 0) = false := by simpa using hx0
  have hz := HZ.out hx0
  have HLZ := Lib.hid hz
  have HX0 := Lib.hid (show ¬ ¬ x = 0 by simpa using hx0)
  have k2 : W3.cell? ⟨b11 + 1, 2, none⟩ = some (.int .i64 n.kind) := N3.cell 2
  have kz := N3.lt
  clear hx0 hz
  by_cases c1' : n.kind = 1
  case neg =>
    have t1 : (n.kind == 1) = false := by simpa using c1'
    have t1b : (n.kind != 1) = true := by simpa using c1'
    have hE : Hid (rmdirE S cu cg dir nm = 9) := by show _ = _; rw [HE.out, if_neg HX0.out, ← HNN.out, if_pos c1']
    clear c1'
    go_wp2_with fail
    go_ret
    exact HS.out _ _ E3 hE.out (by decide)
  have t1 : (n.kind == 1) = true := by simpa using c1'
  have t1b : (n.kind != 1) = false := by simpa using c1'
  have HC1 := Lib.hid (show ¬ ¬ n.kind = 1 by simpa using c1')
  have k11 : W3.cell? ⟨b11 + 1, 11, none⟩ = some (.slice A2 n.ents.length c2) := N3.cell 11
  clear c1'
  obtain ⟨L, hL⟩ : ∃ L, L = n.ents.length := ⟨_, rfl⟩
  rw [← hL] at k11
  by_cases c2' : 0 < (L : Int)
  · have t2 : decide (0 < (L : Int)) = true := decide_eq_true c2'
    have t2b : decide (0 < L) = true := decide_eq_true (by omega)
    have t2c : 0 < L := by omega
    have HLL := Lib.hid hL
    clear hL c2'
    have hE : Hid (rmdirE S cu cg dir nm = 10) := by show _ = _; rw [HE.out, if_neg HX0.out, ← HNN.out, if_neg HC1.out, if_pos (by rw [← HLL.out]; omega)]
    go_wp2_with fail
    go_ret
    exact HS.out _ _ E3 hE.out (by decide)
  have hL0 : L = 0 := by omega
  rw [hL0] at k11
  have HL0 := Lib.hid (show n.ents.length = 0 by omega)
  clear c2' hL hL0
  have hE : Hid (rmdirE S cu cg dir nm = 0) := by show _ = _; rw [HE.out, if_neg HX0.out, ← HNN.out, if_neg HC1.out, if_neg (by rw [HL0.out]; decide)]
  obtain ⟨z1, z2, z3, z4, z5⟩ := HLZ.out
  rw [← HDD.out] at z4
  rw [← HNN.out] at z5
  have hpos : findF (getN S.nodes dir).ents nm ≠ 0 := fun e => by
    rw [e] at z2
    have := HO.out.live.nos.zero (no := 0) (.inl (by omega))
    rw [this] at z2; cases z2
  have hdi := (placeE_zero z1).1
  have hdn := (isN_true hdi).2.1
  have hden := HO.out.entsN dir
  have KG : Hid (Calls Tryz.prog 182 #[.pointer (some ⟨g.bW, 0, none⟩), .int .i64 now, .agg #[.int .i64 d.no, .int .i64 d.dev, .int .i64 d.kind, .int .i64 d.mode, .int .i64 d.uid, .int .i64 d.gid, .int .i64 d.mtime, .int .i64 d.ctime, .int .i64 d.links, .int .i64 d.up, .string (bs d.data), .slice A1 d.ents.length c1], .agg #[.int .i64 n.no, .int .i64 n.dev, .int .i64 n.kind, .int .i64 n.mode, .int .i64 n.uid, .int .i64 n.gid, .int .i64 n.mtime, .int .i64 n.ctime, .int .i64 n.links, .int .i64 n.up, .string (bs n.data), .slice A2 n.ents.length c2], .string (bs nm)] W3 (ErrR W3 B g (goneT S now d n nm) 0)) := by
    have e1 : getN S.nodes d.no = getN S.nodes dir := by rw [z4, hdn]
    refine pgone_any B g S now d n A1 A2 c1 c2 nm W3 (h.ext E3) HO.out okd3 okn3 (by rw [z4]; exact hden.1) (by rw [z4]; exact hden.2) (by rw [z4]; exact has_of_find hpos) ?_ ?_ (by rw [z5]; exact HO.out.held z2)
    · rw [e1]; exact HO.out.live.on _ (isN_true hdi).2.2
    · rw [e1]; exact HO.out.live.one _ (isN_true hdi).2.2
  have e3 : Hid (rmdirT S cu cg now dir nm = goneT S now d n nm) := by show _ = _; unfold rmdirT; rw [if_pos hE.out, ← HDD.out, ← HNN.out]
  clear z1 z2 z3 z4 z5 hpos hdi hdn hden
  go_wp2_with (first | (refine wpList_load_node rfl _ rfl b11 d A1 c1 rfl D3 ?_) | (refine wpList_load_node rfl _ rfl (b11 + 1) n A2 c2 rfl N3 ?_))
  refine KG.out.mono ?_
  rintro e w4 ⟨rfl, K4, O4⟩
  go_wp2_with fail
  go_ret
  rw [hE.out]
  exact ⟨rfl, by rw [e3.out]; exact K4, Only.pre E3 O4⟩
end Go.Proofs.YtjblimclakfhfaaGreat

namespace Go.Proofs.YtjblimclakfhfaaGreat
open Go.ChangeShapes Go.WideShapes Go.ChangeAt Go.RowKit

attribute [local irreducible] wpLexE wpQuiet
attribute [local go_sem] changeUpon
set_option maxRecDepth 100000 in
set_option maxHeartbeats 1000000 in
theorem rdrop_any (A : Option Addr) (l : List EntD) (cap : Nat) (nm : List UInt8) (w : World) (h : EntsAt w A l) (hlen : l.length ≤ 1000000) : Calls Tryz.prog 118 #[.slice A l.length cap, .string (bs nm)] w (OwnR w (dropF l nm)) := by
  obtain ⟨n, hn⟩ : ∃ n, n = l.length := ⟨_, rfl⟩
  rw [← hn] at hlen ⊢
  have HN := Lib.hid hn
  clear hn
  obtain ⟨i0, hi, hz0, hz1, hz2⟩ := info_parts infoEnt
  go_enter Tryz.func118, Tryz.ntmps118
  go_wp2_with fail
  go_loopw [5, 6] (fun u i wr => ∃ k : Nat, k ≤ n ∧ i = .int .i64 k ∧ OwnE wr w.heap.size u ((l.take k).filter fun x => !(x.1 == nm)) ∧ Ext w wr) (fun _ i _ => n - (intOf i).toNat)
  case atStart => exact ⟨0, Nat.zero_le _, rfl, ⟨rfl, .inl ⟨rfl, rfl⟩⟩, Ext.refl _⟩
  case round =>
    obtain ⟨k, hk, rfl, hown, hE⟩ := hrel
    by_cases hlt : (k : Int) < n
    · have hkl : k < l.length := by have := HN.out; omega
      have hs := filter_snoc hkl fun x => !(x.1 == nm)
      have hfl := filter_len l k fun x => !(x.1 == nm)
      obtain ⟨b, o, rfl, hbw, ca, cb⟩ := h.at_ hE k hkl
      generalize l[k] = x at ca cb hs
      have e1 : ((bs x.1).toList == (bs nm).toList) = (x.1 == nm) := by rw [bs_toList, bs_toList]
      obtain ⟨P, hP⟩ : ∃ P, P = (l.take k).filter fun x => !(x.1 == nm) := ⟨_, rfl⟩
      rw [← hP] at hown hs hfl
      cases hq : (x.1 == nm)
      · rw [hq] at e1
        have hs2 : Hid ((l.take (k + 1)).filter (fun x => !(x.1 == nm)) = P ++ [x]) := by show _ = _; rw [hs, hq]; rfl
        clear hs hq hP
        unfold OwnE at hown
        go_wp2_with (at_builtin; refine wpList_append_own _ rfl _ _ 85 rfl w.heap.size 213 i0 (.agg #[.string ⟨#[]⟩, .int .i64 0]) 2 24 Tryz.underlying85 hi hz0 hz1 hz2 rfl (by decide) _ _ _ rfl (hown.alloc _) ⟨wr.heap.size, 0, none⟩ 1 1 (entCells [x]) rfl rfl (news_one wr x) (entCells_one [x]) (by unfold maxLen; omega) (by omega) (by have := hE.size; simp; omega) ?_)
        intro v' w2 hown2 hgrow _
        obtain ⟨ho2, hE2⟩ := app_one hown hE hown2 hgrow
        clear hown2 hgrow
        have HO2 := Lib.hid ho2
        clear ho2
        go_wp2_with fail
        go_roundw
        case rel => exact ⟨k + 1, by omega, by go_num, by rw [hs2.out]; exact HO2.out, hE2⟩
        case measure => simp [intOf]; omega
      · rw [hq] at e1
        have hs2 : Hid ((l.take (k + 1)).filter (fun x => !(x.1 == nm)) = P) := by show _ = _; rw [hs, hq]; simp
        clear hs hq hP
        go_wp2_with fail
        go_roundw
        case rel => exact ⟨k + 1, by omega, by go_num, by rw [hs2.out]; exact hown, hE⟩
        case measure => simp [intOf]; omega
    · have hkn : k = n := by omega
      have hf : Hid ((l.take k).filter (fun x => !(x.1 == nm)) = dropF l nm) := by show _ = _; rw [hkn, HN.out, List.take_length]; rfl
      clear hkn
      go_wp2_with fail
      go_ret
      exact ⟨_, rfl, by rw [← hf.out]; exact hown, hE⟩
set_option maxRecDepth 100000 in
set_option maxHeartbeats 8000000 in
theorem rleave_any (B : Nat) (g : GhF) (S : TreeD) (X : Xtra) (cu cg dir : Int) (nm : List UInt8) (w : World) (h : FAt w B g S X) (O : Ok S) (hl1 : S.last ≤ 100000) (hnm : nm.length ≤ 1000000) :
    Calls Tryz.prog 117 #[.pointer (some ⟨g.bF, 0, none⟩), .agg #[.int .i64 cu, .int .i64 cg], .int .i64 dir, .string (bs nm)] w (LeaveQ w B S cu cg dir nm) := by
  obtain ⟨W0, hW0⟩ : ∃ W0, W0 = ((w.alloc (.cells #[.int .i64 cu, .int .i64 cg] 24)).alloc (.cells #[.int .i64 0, .int .i64 0, .int .i64 0, .int .i64 0, .int .i64 0, .int .i64 0, .int .i64 0, .int .i64 0, .int .i64 0, .int .i64 0, .string ⟨#[]⟩, .slice none 0 0] 87)).alloc (.cells #[.int .i64 0, .int .i64 0, .int .i64 0, .int .i64 0, .int .i64 0, .int .i64 0, .int .i64 0, .int .i64 0, .int .i64 0, .int .i64 0, .string ⟨#[]⟩, .slice none 0 0] 87) := ⟨_, rfl⟩
  have E0 : Ext w W0 := by rw [hW0]; exact (((Ext.refl _).alloc _).alloc _).alloc _
  obtain ⟨b5, hb5⟩ : ∃ b, b = w.heap.size := ⟨_, rfl⟩
  have C0 : Has W0 b5 (.cells #[.int .i64 cu, .int .i64 cg] 24) := by rw [hW0, hb5]; exact ((Has.new w _).alloc _).alloc _
  have P0 : Has W0 (b5 + 1) (.cells #[.int .i64 nodeZ.no, .int .i64 nodeZ.dev, .int .i64 nodeZ.kind, .int .i64 nodeZ.mode, .int .i64 nodeZ.uid, .int .i64 nodeZ.gid, .int .i64 nodeZ.mtime, .int .i64 nodeZ.ctime, .int .i64 nodeZ.links, .int .i64 nodeZ.up, .string (bs nodeZ.data), .slice none nodeZ.ents.length 0] 87) := by
    rw [hW0, hb5]
    have := (Has.new (w.alloc (.cells #[.int .i64 cu, .int .i64 cg] 24)) (.cells #[.int .i64 nodeZ.no, .int .i64 nodeZ.dev, .int .i64 nodeZ.kind, .int .i64 nodeZ.mode, .int .i64 nodeZ.uid, .int .i64 nodeZ.gid, .int .i64 nodeZ.mtime, .int .i64 nodeZ.ctime, .int .i64 nodeZ.links, .int .i64 nodeZ.up, .string (bs nodeZ.data), .slice none nodeZ.ents.length 0] 87)).alloc (.cells #[.int .i64 0, .int .i64 0, .int .i64 0, .int .i64 0, .int .i64 0, .int .i64 0, .int .i64 0, .int .i64 0, .int .i64 0, .int .i64 0, .string ⟨#[]⟩, .slice none 0 0] 87)
    rwa [World.size_alloc] at this
  have Q0 : Has W0 (b5 + 2) (.cells #[.int .i64 nodeZ.no, .int .i64 nodeZ.dev, .int .i64 nodeZ.kind, .int .i64 nodeZ.mode, .int .i64 nodeZ.uid, .int .i64 nodeZ.gid, .int .i64 nodeZ.mtime, .int .i64 nodeZ.ctime, .int .i64 nodeZ.links, .int .i64 nodeZ.up, .string (bs nodeZ.data), .slice none nodeZ.ents.length 0] 87) := by
    rw [hW0, hb5]
    have := Has.new ((w.alloc (.cells #[.int .i64 cu, .int .i64 cg] 24)).alloc (.cells #[.int .i64 0, .int .i64 0, .int .i64 0, .int .i64 0, .int .i64 0, .int .i64 0, .int .i64 0, .int .i64 0, .int .i64 0, .int .i64 0, .string ⟨#[]⟩, .slice none 0 0] 87)) (.cells #[.int .i64 nodeZ.no, .int .i64 nodeZ.dev, .int .i64 nodeZ.kind, .int .i64 nodeZ.mode, .int .i64 nodeZ.uid, .int .i64 nodeZ.gid, .int .i64 nodeZ.mtime, .int .i64 nodeZ.ctime, .int .i64 nodeZ.links, .int .i64 nodeZ.up, .string (bs nodeZ.data), .slice none nodeZ.ents.length 0] 87)
    rwa [World.size_alloc, World.size_alloc] at this
  have HO := Lib.hid O
  have hcl : S.nodes.length ≤ 100000 := by have := O.live.count; omega
  have HCL := Lib.hid hcl
  clear hcl
  have hm : Hid (leaveE S cu cg dir nm = if ¬ placeE S cu cg dir nm = 0 then placeE S cu cg dir nm else if isN S.nodes (findF (getN S.nodes dir).ents nm) = false then 5
    else if ¬ overF S.devs (findF (getN S.nodes dir).ents nm) = findF (getN S.nodes dir).ents nm then 16
    else if freeB cu (getN S.nodes dir).mode (getN S.nodes dir).uid (getN S.nodes (findF (getN S.nodes dir).ents nm)).uid = false then 4 else 0) := by show _ = _; rfl
  have hp : Hid (placeE S cu cg dir nm = 0 → placeN S cu cg dir nm = getN S.nodes dir ∧ isN S.nodes dir = true) := fun h0 => ⟨placeN_zero h0, (placeE_zero h0).1⟩
  have hlw := h.lt
  have HS : Hid (∀ (v w' : World) (x : Int), Ext w v → Only [b5 + 1, b5 + 2] v w' → leaveE S cu cg dir nm = x → x ≠ 0 → LeaveQ w B S cu cg dir nm (.returned (.tuple #[.agg #[.int .i64 nodeZ.no, .int .i64 nodeZ.dev, .int .i64 nodeZ.kind, .int .i64 nodeZ.mode, .int .i64 nodeZ.uid, .int .i64 nodeZ.gid, .int .i64 nodeZ.mtime, .int .i64 nodeZ.ctime, .int .i64 nodeZ.links, .int .i64 nodeZ.up, .string (bs nodeZ.data), .slice none nodeZ.ents.length 0], .agg #[.int .i64 nodeZ.no, .int .i64 nodeZ.dev, .int .i64 nodeZ.kind, .int .i64 nodeZ.mode, .int .i64 nodeZ.uid, .int .i64 nodeZ.gid, .int .i64 nodeZ.mtime, .int .i64 nodeZ.ctime, .int .i64 nodeZ.links, .int .i64 nodeZ.up, .string (bs nodeZ.data), .slice none nodeZ.ents.length 0], .int .i64 x])) w') := by
    show ∀ (v w' : World) (x : Int), _
    intro v w' x hE hO hx h0
    have e1 : leaveD S cu cg dir nm = nodeZ := by unfold leaveD; rw [if_neg (by rw [hx]; exact h0)]
    have e2 : leaveN S cu cg dir nm = nodeZ := by unfold leaveN; rw [if_neg (by rw [hx]; exact h0)]
    exact ⟨none, 0, none, 0, by rw [e1, e2, hx], by rw [e1]; exact NodeOk.zero _ _, by rw [e2]; exact NodeOk.zero _ _, hO.after hE (by intro b hb; simp only [List.mem_cons, List.not_mem_nil, or_false] at hb; omega)⟩
  have hb5a : b5 ≤ w.heap.size := by omega
  have hb5b : w.heap.size ≤ b5 := by omega
  clear O
  go_enter Tryz.func117, Tryz.ntmps117
  go_upto_region 1 with fail
  rw [← hW0]
  rw [← hb5]
  clear hW0 hb5
  have x0 : W0.cell? ⟨b5, 0, none⟩ = some (.int .i64 cu) := C0.cell 0
  have x1 : W0.cell? ⟨b5, 1, none⟩ = some (.int .i64 cg) := C0.cell 1
  have xz := C0.lt
  go_wp2_with fail
  refine (rplace_any B g S X cu cg dir nm _ (h.ext E0) (by have := HCL.out; omega) HO.out.live.nos hnm).mono ?_
  rintro e w2 ⟨A2, k2, rfl, ok2, b2⟩
  obtain ⟨m, hmm⟩ : ∃ m, m = placeN S cu cg dir nm := ⟨_, rfl⟩
  obtain ⟨x, hx⟩ : ∃ x, x = placeE S cu cg dir nm := ⟨_, rfl⟩
  rw [← hmm] at ok2 hp
  rw [← hx] at hm hp
  rw [← hmm, ← hx]
  obtain ⟨W3, hW3⟩ : ∃ W3, W3 = w2.alloc (.cells #[.int .i64 m.no, .int .i64 m.dev, .int .i64 m.kind, .int .i64 m.mode, .int .i64 m.uid, .int .i64 m.gid, .int .i64 m.mtime, .int .i64 m.ctime, .int .i64 m.links, .int .i64 m.up, .string (bs m.data), .slice A2 m.ents.length k2] 87) := ⟨_, rfl⟩
  obtain ⟨b11, hb11⟩ : ∃ b, b = w2.heap.size := ⟨_, rfl⟩
  have E23 : Ext w2 W3 := by rw [hW3]; exact (Ext.refl _).alloc _
  have M3 : Has W3 b11 (.cells #[.int .i64 m.no, .int .i64 m.dev, .int .i64 m.kind, .int .i64 m.mode, .int .i64 m.uid, .int .i64 m.gid, .int .i64 m.mtime, .int .i64 m.ctime, .int .i64 m.links, .int .i64 m.up, .string (bs m.data), .slice A2 m.ents.length k2] 87) := by rw [hW3, hb11]; exact Has.new _ _
  have E03 : Ext W0 W3 := b2.trans E23
  have C3 := C0.ext E03
  have P3 := P0.ext E03
  have Q3 := Q0.ext E03
  have ok3 := ok2.ext E23
  have E3 := E0.trans E03
  have hb11w : W0.heap.size ≤ b11 := by rw [hb11]; exact b2.size
  have hb52 : b5 + 2 < W0.heap.size := Q0.lt
  clear x0 x1 xz hmm hx C0 P0 Q0
  go_upto_region 2 with fail
  rw [← hW3]
  rw [← hb11]
  clear hW3 hb11
  by_cases hx0 : x = 0
  case neg =>
    have t0 : (x == 0) = false := by simpa using hx0
    have t0b : (x != 0) = true := by simpa using hx0
    have hE : Hid (leaveE S cu cg dir nm = x) := by show _ = _; rw [hm.out, if_pos hx0]
    have HX := Lib.hid hx0
    clear hm hx0
    go_wp2_with (first | (refine wpList_store_node rfl _ _ rfl (b5 + 1) nodeZ none 0 rfl rfl P3 ?_; intro wp Pp Op; have Qp := Op.has Q3 (by rw [List.mem_singleton]; omega)) | (refine wpList_store_node rfl _ _ rfl (b5 + 2) nodeZ none 0 rfl rfl Qp ?_; intro wq Qq Oq; have Pq := Oq.has Pp (by rw [List.mem_singleton]; omega)))
    refine bodyPost_ret (v := .tuple #[.agg #[.int .i64 nodeZ.no, .int .i64 nodeZ.dev, .int .i64 nodeZ.kind, .int .i64 nodeZ.mode, .int .i64 nodeZ.uid, .int .i64 nodeZ.gid, .int .i64 nodeZ.mtime, .int .i64 nodeZ.ctime, .int .i64 nodeZ.links, .int .i64 nodeZ.up, .string (bs nodeZ.data), .slice none nodeZ.ents.length 0], .agg #[.int .i64 nodeZ.no, .int .i64 nodeZ.dev, .int .i64 nodeZ.kind, .int .i64 nodeZ.mode, .int .i64 nodeZ.uid, .int .i64 nodeZ.gid, .int .i64 nodeZ.mtime, .int .i64 nodeZ.ctime, .int .i64 nodeZ.links, .int .i64 nodeZ.up, .string (bs nodeZ.data), .slice none nodeZ.ents.length 0], .int .i64 x]) (res_node2 Tryz.results117 _ _ (b5 + 1) (b5 + 2) nodeZ nodeZ none none 0 0 _ rfl rfl rfl Pq Qq) rfl ?_
    exact HS.out _ _ _ E3 ((Op.mono (by simp)).then (Oq.mono (by simp))) hE.out HX.out
  have t0 : (x == 0) = true := by simpa using hx0
  have t0b : (x != 0) = false := by simpa using hx0
  obtain ⟨hmg, hid⟩ := hp.out hx0
  obtain ⟨no, hno⟩ : ∃ no, no = findF m.ents nm := ⟨_, rfl⟩
  have hm2 : Hid (leaveE S cu cg dir nm = if isN S.nodes no = false then 5 else if ¬ overF S.devs no = no then 16 else if freeB cu m.mode m.uid (getN S.nodes no).uid = false then 4 else 0) := by
    show _ = _; rw [hm.out, if_neg (by simpa using hx0), ← hmg, ← hno]
  have HMG := Lib.hid hmg
  have hen := HO.out.entsN dir
  rw [← hmg] at hen
  have HEN := Lib.hid hen
  have k11 : W3.cell? ⟨b11, 11, none⟩ = some (.slice A2 m.ents.length k2) := M3.cell 11
  have kz := M3.lt
  have hnz : ((getN S.nodes no).no == 0) = !isN S.nodes no := by
    cases hi : isN S.nodes no
    · rw [(isN_false hi).1]; rfl
    · have h1 := (HO.out.live.nos.2 _ (isN_true hi).2.2).1
      simp; omega
  have HNO := Lib.hid hno
  clear hm hp hx0 hmg hid hen
  go_wp2_with fail
  refine (rfind_any A2 m.ents k2 nm _ ok3.ents.ents (by have := HEN.out.2; omega)).mono ?_
  rintro e w3a ⟨rfl, b3a⟩
  rw [← hno]
  clear hno k11 kz
  go_wp2_with fail
  refine (rget_any B g S X no _ (h.ext (E3.trans b3a)) (by have := HCL.out; omega) HO.out.live.nos).mono ?_
  rintro e w3b ⟨A4, k4, rfl, ok4', b3b⟩
  obtain ⟨n, hn⟩ : ∃ n, n = getN S.nodes no := ⟨_, rfl⟩
  obtain ⟨i, hi⟩ : ∃ i, i = isN S.nodes no := ⟨_, rfl⟩
  have hin : isN S.nodes no = true → (getN S.nodes no).no = no := fun h => (isN_true h).2.1
  rw [← hn] at ok4' hm2 hin hnz ⊢
  rw [← hi] at hm2 hin hnz
  have HIN := Lib.hid hin
  have HNN := Lib.hid hn
  have HI := Lib.hid hi
  have HNZ := Lib.hid hnz
  obtain ⟨w4, hw4⟩ : ∃ W, W = w3b.alloc (.cells #[.int .i64 n.no, .int .i64 n.dev, .int .i64 n.kind, .int .i64 n.mode, .int .i64 n.uid, .int .i64 n.gid, .int .i64 n.mtime, .int .i64 n.ctime, .int .i64 n.links, .int .i64 n.up, .string (bs n.data), .slice A4 n.ents.length k4] 87) := ⟨_, rfl⟩
  obtain ⟨b13, hb13e⟩ : ∃ b, b = w3b.heap.size := ⟨_, rfl⟩
  have N4 : Has w4 b13 (.cells #[.int .i64 n.no, .int .i64 n.dev, .int .i64 n.kind, .int .i64 n.mode, .int .i64 n.uid, .int .i64 n.gid, .int .i64 n.mtime, .int .i64 n.ctime, .int .i64 n.links, .int .i64 n.up, .string (bs n.data), .slice A4 n.ents.length k4] 87) := by rw [hw4, hb13e]; exact Has.new _ _
  have E4b : Ext w3b w4 := by rw [hw4]; exact (Ext.refl _).alloc _
  have E34 : Ext W3 w4 := (b3a.trans b3b).trans E4b
  have ok4 := ok4'.ext E4b
  have hb13 : W3.heap.size ≤ b13 := by rw [hb13e]; exact (b3a.trans b3b).size
  clear hn hi hin hnz ok4' E4b
  go_upto_region 5 with fail
  rw [← hw4, ← hb13e]
  clear hw4 hb13e b3a b3b
  have C4 := C3.ext E34
  have P4 := P3.ext E34
  have Q4 := Q3.ext E34
  have M4 := M3.ext E34
  have okm4 := ok3.ext E34
  have okn4 := ok4
  have E4 := E3.trans E34
  have hM3 := M3.lt
  clear C3 P3 Q3 M3 ok3 E3
  have z0 : w4.cell? ⟨b13, 0, none⟩ = some (.int .i64 n.no) := N4.cell 0
  have zz := N4.lt
  cases i
  · have hE : Hid (leaveE S cu cg dir nm = 5) := by show _ = _; rw [hm2.out]; rfl
    have tn : (n.no == 0) = true := HNZ.out
    clear hm2
    go_wp2_with (first | (refine wpList_store_node rfl _ _ rfl (b5 + 1) nodeZ none 0 rfl rfl P4 ?_; intro wp Pp Op; have Qp := Op.has Q4 (by rw [List.mem_singleton]; omega)) | (refine wpList_store_node rfl _ _ rfl (b5 + 2) nodeZ none 0 rfl rfl Qp ?_; intro wq Qq Oq; have Pq := Oq.has Pp (by rw [List.mem_singleton]; omega)))
    refine bodyPost_ret (v := .tuple #[.agg #[.int .i64 nodeZ.no, .int .i64 nodeZ.dev, .int .i64 nodeZ.kind, .int .i64 nodeZ.mode, .int .i64 nodeZ.uid, .int .i64 nodeZ.gid, .int .i64 nodeZ.mtime, .int .i64 nodeZ.ctime, .int .i64 nodeZ.links, .int .i64 nodeZ.up, .string (bs nodeZ.data), .slice none nodeZ.ents.length 0], .agg #[.int .i64 nodeZ.no, .int .i64 nodeZ.dev, .int .i64 nodeZ.kind, .int .i64 nodeZ.mode, .int .i64 nodeZ.uid, .int .i64 nodeZ.gid, .int .i64 nodeZ.mtime, .int .i64 nodeZ.ctime, .int .i64 nodeZ.links, .int .i64 nodeZ.up, .string (bs nodeZ.data), .slice none nodeZ.ents.length 0], .int .i64 5]) (res_node2 Tryz.results117 _ _ (b5 + 1) (b5 + 2) nodeZ nodeZ none none 0 0 _ rfl rfl rfl Pq Qq) rfl ?_
    exact HS.out _ _ _ E4 ((Op.mono (by simp)).then (Oq.mono (by simp))) hE.out (by decide)
  have hnn := HIN.out (by trivial)
  have tn : (n.no == 0) = false := HNZ.out
  rw [hnn] at z0 tn
  have KO : Hid (∀ u : Gr w4, Calls Tryz.prog 123 #[.pointer (some ⟨g.bF, 0, none⟩), .int .i64 no] u.w (Ret u.w (.int .i64 (overF S.devs no)))) := by
    show ∀ u : Gr w4, _
    exact fun u => rover_any B g S X no _ ((h.ext E4).ext u.h) (by have := HO.out.live.eight; omega)
  have y0 := Gr.cell N4.lt z0
  go_upto_region 7 with fail
  clear z0 hnn tn zz
  by_cases ho : overF S.devs no = no
  case neg =>
    have t1 : (overF S.devs no == no) = false := by simpa using ho
    have t1b : (overF S.devs no != no) = true := by simpa using ho
    have hE : Hid (leaveE S cu cg dir nm = 16) := by show _ = _; rw [hm2.out, if_neg (by decide), if_pos ho]
    clear hm2 ho
    refine wp_region_grow w4 (by kernel_rfl) (by kernel_rfl) (Ext.refl _).drew ?_
    repeat (quiet_step (((with_reducible refine (KO.out _).mono ?_); rintro e w'' ⟨rfl, hEx⟩; exact ⟨rfl, ⟨w'', Ext.trans (Gr.h _) hEx⟩, rfl⟩)))
    refine wpQuiet_nil ?_
    rintro w5 ⟨⟨w5', b5'⟩, h5⟩
    dsimp only at h5
    subst h5
    clear y0 KO
    have P5 := P4.ext b5'
    have Q5 := Q4.ext b5'
    go_wp2_with (first | (refine wpList_store_node rfl _ _ rfl (b5 + 1) nodeZ none 0 rfl rfl P5 ?_; intro wp Pp Op; have Qp := Op.has Q5 (by rw [List.mem_singleton]; omega)) | (refine wpList_store_node rfl _ _ rfl (b5 + 2) nodeZ none 0 rfl rfl Qp ?_; intro wq Qq Oq; have Pq := Oq.has Pp (by rw [List.mem_singleton]; omega)))
    refine bodyPost_ret (v := .tuple #[.agg #[.int .i64 nodeZ.no, .int .i64 nodeZ.dev, .int .i64 nodeZ.kind, .int .i64 nodeZ.mode, .int .i64 nodeZ.uid, .int .i64 nodeZ.gid, .int .i64 nodeZ.mtime, .int .i64 nodeZ.ctime, .int .i64 nodeZ.links, .int .i64 nodeZ.up, .string (bs nodeZ.data), .slice none nodeZ.ents.length 0], .agg #[.int .i64 nodeZ.no, .int .i64 nodeZ.dev, .int .i64 nodeZ.kind, .int .i64 nodeZ.mode, .int .i64 nodeZ.uid, .int .i64 nodeZ.gid, .int .i64 nodeZ.mtime, .int .i64 nodeZ.ctime, .int .i64 nodeZ.links, .int .i64 nodeZ.up, .string (bs nodeZ.data), .slice none nodeZ.ents.length 0], .int .i64 16]) (res_node2 Tryz.results117 _ _ (b5 + 1) (b5 + 2) nodeZ nodeZ none none 0 0 _ rfl rfl rfl Pq Qq) rfl ?_
    exact HS.out _ _ _ (E4.trans b5') ((Op.mono (by simp)).then (Oq.mono (by simp))) hE.out (by decide)
  have t1 : (overF S.devs no == no) = true := by simpa using ho
  have t1b : (overF S.devs no != no) = false := by simpa using ho
  have HOV := Lib.hid (show ¬ ¬ overF S.devs no = no by simpa using ho)
  clear ho
  refine wp_region_grow w4 (by kernel_rfl) (by kernel_rfl) (Ext.refl _).drew ?_
  repeat (quiet_step (((with_reducible refine (KO.out _).mono ?_); rintro e w'' ⟨rfl, hEx⟩; exact ⟨rfl, ⟨w'', Ext.trans (Gr.h _) hEx⟩, rfl⟩)))
  refine wpQuiet_nil ?_
  rintro w5 ⟨⟨w5', b5'⟩, h5⟩
  dsimp only at h5
  subst h5
  clear y0 KO
  have P5 := P4.ext b5'
  have Q5 := Q4.ext b5'
  have C5 := C4.ext b5'
  have M5 := M4.ext b5'
  have N5 := N4.ext b5'
  have okm5 := okm4.ext b5'
  have okn5 := okn4.ext b5'
  have E5 := E4.trans b5'
  have x0 : w5.cell? ⟨b5, 0, none⟩ = some (.int .i64 cu) := C5.cell 0
  have x1 : w5.cell? ⟨b5, 1, none⟩ = some (.int .i64 cg) := C5.cell 1
  have xz := C5.lt
  obtain ⟨u, hu⟩ : ∃ u, u = freeB cu m.mode m.uid n.uid := ⟨_, rfl⟩
  have hm3 : Hid (leaveE S cu cg dir nm = if u = false then 4 else 0) := by show _ = _; rw [hm2.out, if_neg (by decide), if_neg HOV.out, hu]
  have HU := Lib.hid hu
  clear hm2 hu P4 Q4 C4 M4 N4 okm4 okn4
  go_wp2_with (first | (refine wpList_load_node rfl _ rfl b11 m A2 k2 rfl M5 ?_) | (refine wpList_load_node rfl _ rfl b13 n A4 k4 rfl N5 ?_))
  refine (rfree_any cu cg _ _ _ m.mode m.uid _ _ _ _ _ _ _ _ _ _ _ n.uid _ _ _ _ _ _ _ _).mono ?_
  rw [← HU.out]
  rintro e w6 ⟨rfl, b6⟩
  have P6 := P5.ext b6
  have Q6 := Q5.ext b6
  have M6 := M5.ext b6
  have N6 := N5.ext b6
  have okm6 := okm5.ext b6
  have okn6 := okn5.ext b6
  have E6 := E5.trans b6
  clear x0 x1 xz P5 Q5 M5 N5 C5
  cases u
  · have hE : Hid (leaveE S cu cg dir nm = 4) := by show _ = _; rw [hm3.out]; rfl
    clear hm3
    go_wp2_with (first | (refine wpList_store_node rfl _ _ rfl (b5 + 1) nodeZ none 0 rfl rfl P6 ?_; intro wp Pp Op; have Qp := Op.has Q6 (by rw [List.mem_singleton]; omega)) | (refine wpList_store_node rfl _ _ rfl (b5 + 2) nodeZ none 0 rfl rfl Qp ?_; intro wq Qq Oq; have Pq := Oq.has Pp (by rw [List.mem_singleton]; omega)))
    refine bodyPost_ret (v := .tuple #[.agg #[.int .i64 nodeZ.no, .int .i64 nodeZ.dev, .int .i64 nodeZ.kind, .int .i64 nodeZ.mode, .int .i64 nodeZ.uid, .int .i64 nodeZ.gid, .int .i64 nodeZ.mtime, .int .i64 nodeZ.ctime, .int .i64 nodeZ.links, .int .i64 nodeZ.up, .string (bs nodeZ.data), .slice none nodeZ.ents.length 0], .agg #[.int .i64 nodeZ.no, .int .i64 nodeZ.dev, .int .i64 nodeZ.kind, .int .i64 nodeZ.mode, .int .i64 nodeZ.uid, .int .i64 nodeZ.gid, .int .i64 nodeZ.mtime, .int .i64 nodeZ.ctime, .int .i64 nodeZ.links, .int .i64 nodeZ.up, .string (bs nodeZ.data), .slice none nodeZ.ents.length 0], .int .i64 4]) (res_node2 Tryz.results117 _ _ (b5 + 1) (b5 + 2) nodeZ nodeZ none none 0 0 _ rfl rfl rfl Pq Qq) rfl ?_
    exact HS.out _ _ _ E6 ((Op.mono (by simp)).then (Oq.mono (by simp))) hE.out (by decide)
  have hE : Hid (leaveE S cu cg dir nm = 0) := by show _ = _; rw [hm3.out]; rfl
  clear hm3
  go_upto_region 11 with fail
  obtain ⟨Ph, hPh⟩ : ∃ Ph : Nat → World → Prop, Ph = ph2 (fun w' => w' = w6.drew) (fun w' => Has w' (b5 + 1) (.cells #[.int .i64 m.no, .int .i64 m.dev, .int .i64 m.kind, .int .i64 m.mode, .int .i64 m.uid, .int .i64 m.gid, .int .i64 m.mtime, .int .i64 m.ctime, .int .i64 m.links, .int .i64 m.up, .string (bs m.data), .slice A2 m.ents.length k2] 87) ∧ Only [b5 + 1] w6.drew w') (fun w' => Has w' (b5 + 1) (.cells #[.int .i64 m.no, .int .i64 m.dev, .int .i64 m.kind, .int .i64 m.mode, .int .i64 m.uid, .int .i64 m.gid, .int .i64 m.mtime, .int .i64 m.ctime, .int .i64 m.links, .int .i64 m.up, .string (bs m.data), .slice A2 m.ents.length k2] 87) ∧ Has w' (b5 + 2) (.cells #[.int .i64 n.no, .int .i64 n.dev, .int .i64 n.kind, .int .i64 n.mode, .int .i64 n.uid, .int .i64 n.gid, .int .i64 n.mtime, .int .i64 n.ctime, .int .i64 n.links, .int .i64 n.up, .string (bs n.data), .slice A4 n.ents.length k4] 87) ∧ Only [b5 + 1, b5 + 2] w6.drew w') := ⟨_, rfl⟩
  have ED : Ext w6 w6.drew := (Ext.refl _).drew
  have HV : Hid (Ph 0 w6.drew) := by show Ph 0 _; rw [hPh]; exact rfl
  have hne : Nonempty (Hp Ph) := ⟨⟨0, _, HV.out⟩⟩
  have uM : ∀ u : Hp Ph, Has u.w b11 (.cells #[.int .i64 m.no, .int .i64 m.dev, .int .i64 m.kind, .int .i64 m.mode, .int .i64 m.uid, .int .i64 m.gid, .int .i64 m.mtime, .int .i64 m.ctime, .int .i64 m.links, .int .i64 m.up, .string (bs m.data), .slice A2 m.ents.length k2] 87) := by
    rw [hPh]
    exact ph2_all (T := fun w' => Has w' b11 (.cells #[.int .i64 m.no, .int .i64 m.dev, .int .i64 m.kind, .int .i64 m.mode, .int .i64 m.uid, .int .i64 m.gid, .int .i64 m.mtime, .int .i64 m.ctime, .int .i64 m.links, .int .i64 m.up, .string (bs m.data), .slice A2 m.ents.length k2] 87)) (fun w' h' => by rw [h']; exact M6.ext ED) (fun w' h' => h'.2.has (M6.ext ED) (by rw [List.mem_singleton]; omega)) (fun w' h' => h'.2.2.has (M6.ext ED) (by simp only [List.mem_cons, List.not_mem_nil, or_false]; omega))
  have uN : ∀ u : Hp Ph, Has u.w b13 (.cells #[.int .i64 n.no, .int .i64 n.dev, .int .i64 n.kind, .int .i64 n.mode, .int .i64 n.uid, .int .i64 n.gid, .int .i64 n.mtime, .int .i64 n.ctime, .int .i64 n.links, .int .i64 n.up, .string (bs n.data), .slice A4 n.ents.length k4] 87) := by
    rw [hPh]
    exact ph2_all (T := fun w' => Has w' b13 (.cells #[.int .i64 n.no, .int .i64 n.dev, .int .i64 n.kind, .int .i64 n.mode, .int .i64 n.uid, .int .i64 n.gid, .int .i64 n.mtime, .int .i64 n.ctime, .int .i64 n.links, .int .i64 n.up, .string (bs n.data), .slice A4 n.ents.length k4] 87)) (fun w' h' => by rw [h']; exact N6.ext ED) (fun w' h' => h'.2.has (N6.ext ED) (by rw [List.mem_singleton]; omega)) (fun w' h' => h'.2.2.has (N6.ext ED) (by simp only [List.mem_cons, List.not_mem_nil, or_false]; omega))
  have my0 : ∀ u : Hp Ph, u.w.cell? ⟨b11, 0, none⟩ = some (.int .i64 m.no) := fun u => (uM u).cell 0
  have my1 : ∀ u : Hp Ph, u.w.cell? ⟨b11, 1, none⟩ = some (.int .i64 m.dev) := fun u => (uM u).cell 1
  have my2 : ∀ u : Hp Ph, u.w.cell? ⟨b11, 2, none⟩ = some (.int .i64 m.kind) := fun u => (uM u).cell 2
  have my3 : ∀ u : Hp Ph, u.w.cell? ⟨b11, 3, none⟩ = some (.int .i64 m.mode) := fun u => (uM u).cell 3
  have my4 : ∀ u : Hp Ph, u.w.cell? ⟨b11, 4, none⟩ = some (.int .i64 m.uid) := fun u => (uM u).cell 4
  have my5 : ∀ u : Hp Ph, u.w.cell? ⟨b11, 5, none⟩ = some (.int .i64 m.gid) := fun u => (uM u).cell 5
  have my6 : ∀ u : Hp Ph, u.w.cell? ⟨b11, 6, none⟩ = some (.int .i64 m.mtime) := fun u => (uM u).cell 6
  have my7 : ∀ u : Hp Ph, u.w.cell? ⟨b11, 7, none⟩ = some (.int .i64 m.ctime) := fun u => (uM u).cell 7
  have my8 : ∀ u : Hp Ph, u.w.cell? ⟨b11, 8, none⟩ = some (.int .i64 m.links) := fun u => (uM u).cell 8
  have my9 : ∀ u : Hp Ph, u.w.cell? ⟨b11, 9, none⟩ = some (.int .i64 m.up) := fun u => (uM u).cell 9
  have my10 : ∀ u : Hp Ph, u.w.cell? ⟨b11, 10, none⟩ = some (.string (bs m.data)) := fun u => (uM u).cell 10
  have my11 : ∀ u : Hp Ph, u.w.cell? ⟨b11, 11, none⟩ = some (.slice A2 m.ents.length k2) := fun u => (uM u).cell 11
  have ny0 : ∀ u : Hp Ph, u.w.cell? ⟨b13, 0, none⟩ = some (.int .i64 n.no) := fun u => (uN u).cell 0
  have ny1 : ∀ u : Hp Ph, u.w.cell? ⟨b13, 1, none⟩ = some (.int .i64 n.dev) := fun u => (uN u).cell 1
  have ny2 : ∀ u : Hp Ph, u.w.cell? ⟨b13, 2, none⟩ = some (.int .i64 n.kind) := fun u => (uN u).cell 2
  have ny3 : ∀ u : Hp Ph, u.w.cell? ⟨b13, 3, none⟩ = some (.int .i64 n.mode) := fun u => (uN u).cell 3
  have ny4 : ∀ u : Hp Ph, u.w.cell? ⟨b13, 4, none⟩ = some (.int .i64 n.uid) := fun u => (uN u).cell 4
  have ny5 : ∀ u : Hp Ph, u.w.cell? ⟨b13, 5, none⟩ = some (.int .i64 n.gid) := fun u => (uN u).cell 5
  have ny6 : ∀ u : Hp Ph, u.w.cell? ⟨b13, 6, none⟩ = some (.int .i64 n.mtime) := fun u => (uN u).cell 6
  have ny7 : ∀ u : Hp Ph, u.w.cell? ⟨b13, 7, none⟩ = some (.int .i64 n.ctime) := fun u => (uN u).cell 7
  have ny8 : ∀ u : Hp Ph, u.w.cell? ⟨b13, 8, none⟩ = some (.int .i64 n.links) := fun u => (uN u).cell 8
  have ny9 : ∀ u : Hp Ph, u.w.cell? ⟨b13, 9, none⟩ = some (.int .i64 n.up) := fun u => (uN u).cell 9
  have ny10 : ∀ u : Hp Ph, u.w.cell? ⟨b13, 10, none⟩ = some (.string (bs n.data)) := fun u => (uN u).cell 10
  have ny11 : ∀ u : Hp Ph, u.w.cell? ⟨b13, 11, none⟩ = some (.slice A4 n.ents.length k4) := fun u => (uN u).cell 11
  have hB0 : Hid (∀ u : Wc (Ph 0), ∃ (m : NodeD) (A' : Option Addr) (c' : Nat), Has u.w (b5 + 1) (.cells #[.int .i64 m.no, .int .i64 m.dev, .int .i64 m.kind, .int .i64 m.mode, .int .i64 m.uid, .int .i64 m.gid, .int .i64 m.mtime, .int .i64 m.ctime, .int .i64 m.links, .int .i64 m.up, .string (bs m.data), .slice A' m.ents.length c'] 87)) := by
    show ∀ u : Wc (Ph 0), _
    rintro ⟨u, hu⟩
    rw [hPh] at hu
    exact ⟨nodeZ, none, 0, by show Has u _ _; rw [show u = w6.drew from hu]; exact P6.ext ED⟩
  have hN0 : Hid (∀ (u : Wc (Ph 0)) (w' : World), Has w' (b5 + 1) (.cells #[.int .i64 m.no, .int .i64 m.dev, .int .i64 m.kind, .int .i64 m.mode, .int .i64 m.uid, .int .i64 m.gid, .int .i64 m.mtime, .int .i64 m.ctime, .int .i64 m.links, .int .i64 m.up, .string (bs m.data), .slice A2 m.ents.length k2] 87) → Only [b5 + 1] u.w w' → Ph 1 w') := by
    show ∀ (u : Wc (Ph 0)) (w' : World), _
    rintro ⟨u, hu⟩ w' h1 h2
    rw [hPh] at hu ⊢
    dsimp only at h2
    rw [show u = w6.drew from hu] at h2
    exact ⟨h1, h2⟩
  have hB1 : Hid (∀ u : Wc (Ph 1), ∃ (m : NodeD) (A' : Option Addr) (c' : Nat), Has u.w (b5 + 2) (.cells #[.int .i64 m.no, .int .i64 m.dev, .int .i64 m.kind, .int .i64 m.mode, .int .i64 m.uid, .int .i64 m.gid, .int .i64 m.mtime, .int .i64 m.ctime, .int .i64 m.links, .int .i64 m.up, .string (bs m.data), .slice A' m.ents.length c'] 87)) := by
    show ∀ u : Wc (Ph 1), _
    rintro ⟨u, hu⟩
    rw [hPh] at hu
    exact ⟨nodeZ, none, 0, hu.2.has (Q6.ext ED) (by rw [List.mem_singleton]; omega)⟩
  have hN1 : Hid (∀ (u : Wc (Ph 1)) (w' : World), Has w' (b5 + 2) (.cells #[.int .i64 n.no, .int .i64 n.dev, .int .i64 n.kind, .int .i64 n.mode, .int .i64 n.uid, .int .i64 n.gid, .int .i64 n.mtime, .int .i64 n.ctime, .int .i64 n.links, .int .i64 n.up, .string (bs n.data), .slice A4 n.ents.length k4] 87) → Only [b5 + 2] u.w w' → Ph 2 w') := by
    show ∀ (u : Wc (Ph 1)) (w' : World), _
    rintro ⟨u, hu⟩ w' h1 h2
    rw [hPh] at hu ⊢
    dsimp only at h2
    exact ⟨h2.has hu.1 (by rw [List.mem_singleton]; omega), h1, (hu.2.mono (by simp)).then (h2.mono (by simp))⟩
  have KQ : Hid (∀ w', Ph 2 w' → Has w' (b5 + 1) (.cells #[.int .i64 m.no, .int .i64 m.dev, .int .i64 m.kind, .int .i64 m.mode, .int .i64 m.uid, .int .i64 m.gid, .int .i64 m.mtime, .int .i64 m.ctime, .int .i64 m.links, .int .i64 m.up, .string (bs m.data), .slice A2 m.ents.length k2] 87) ∧ Has w' (b5 + 2) (.cells #[.int .i64 n.no, .int .i64 n.dev, .int .i64 n.kind, .int .i64 n.mode, .int .i64 n.uid, .int .i64 n.gid, .int .i64 n.mtime, .int .i64 n.ctime, .int .i64 n.links, .int .i64 n.up, .string (bs n.data), .slice A4 n.ents.length k4] 87) ∧ Only [b5 + 1, b5 + 2] w6.drew w') := by
    show ∀ w', _
    intro w' hw
    rw [hPh] at hw
    exact hw
  clear hPh uM uN
  refine wp_region_phase Ph [2, 3] (by kernel_rfl) (by kernel_rfl) (by kernel_rfl) HV.out ?_
  iterate 2 (refine wpLexE_plain (by kernel_rfl) (fun K hK => ?_); go_simp; refine hK _ ?_; clear hK K)
  refine wpLexE_store_node 0 (by kernel_rfl) rfl rfl _ _ rfl (b5 + 1) m A2 k2 rfl rfl hB0.out hN0.out ?_
  refine wpLexE_store_node 1 (by kernel_rfl) rfl rfl _ _ rfl (b5 + 2) n A4 k4 rfl rfl hB1.out hN1.out ?_
  refine wpLexE_plain (by kernel_rfl) (fun K hK => ?_)
  go_simp
  refine hK _ ?_
  clear hK K
  refine wpLexE_nil ?_
  intro w7 hw7
  obtain ⟨P7, Q7, O7⟩ := KQ.out _ hw7
  clear my0 my1 my2 my3 my4 my5 my6 my7 my8 my9 my10 my11 ny0 ny1 ny2 ny3 ny4 ny5 ny6 ny7 ny8 ny9 ny10 ny11 hB0 hN0 hB1 hN1 KQ hw7
  go_wp2_with fail
  refine bodyPost_ret (v := .tuple #[.agg #[.int .i64 m.no, .int .i64 m.dev, .int .i64 m.kind, .int .i64 m.mode, .int .i64 m.uid, .int .i64 m.gid, .int .i64 m.mtime, .int .i64 m.ctime, .int .i64 m.links, .int .i64 m.up, .string (bs m.data), .slice A2 m.ents.length k2], .agg #[.int .i64 n.no, .int .i64 n.dev, .int .i64 n.kind, .int .i64 n.mode, .int .i64 n.uid, .int .i64 n.gid, .int .i64 n.mtime, .int .i64 n.ctime, .int .i64 n.links, .int .i64 n.up, .string (bs n.data), .slice A4 n.ents.length k4], .int .i64 0]) (res_node2 Tryz.results117 _ _ (b5 + 1) (b5 + 2) m n A2 A4 k2 k4 _ rfl rfl rfl P7 Q7) rfl ?_
  have e1 : leaveD S cu cg dir nm = m := by unfold leaveD; rw [if_pos hE.out, HMG.out]
  have e2 : leaveN S cu cg dir nm = n := by unfold leaveN; rw [if_pos hE.out, HNN.out, HNO.out, HMG.out]
  have haP : Apart w6.drew B [b5 + 1, b5 + 2] := by
    intro b hb
    simp only [List.mem_cons, List.not_mem_nil, or_false] at hb
    have := h.1
    rcases hb with rfl | rfl
    · exact ⟨by omega, (P6.ext ED).noTag (by decide)⟩
    · exact ⟨by omega, (Q6.ext ED).noTag (by decide)⟩
  refine ⟨A2, k2, A4, k4, by rw [e1, e2, hE.out], by rw [e1]; exact (okm6.ext ED).only O7 haP, by rw [e2]; exact (okn6.ext ED).only O7 haP, O7.after (E6.trans ED) (by intro b hb; simp only [List.mem_cons, List.not_mem_nil, or_false] at hb; omega)⟩
end Go.Proofs.YtjblimclakfhfaaGreat

namespace Go.Proofs.YtjblimclakfhfaaGreat
open Go.ChangeShapes Go.WideShapes Go.ChangeAt Go.RowKit

/-- What is no directory has no names. -/
def NoEnts (S : TreeD) : Prop := ∀ n ∈ S.nodes, n.kind ≠ 1 → n.ents = []
set_option maxRecDepth 100000 in
set_option maxHeartbeats 8000000 in
theorem rgone_rmdir (B : Nat) (g : GhF) (S : TreeD) (X : Xtra) (cu cg dir : Int) (nm : List UInt8) (w : World) (h : FAt w B g S X) (O : Ok S) (hl1 : S.last ≤ 1000) (hnm : nm.length ≤ 1000000) :
    Calls Tryz.prog 63 #[.pointer (some ⟨g.bF, 0, none⟩), .agg #[.int .i64 cu, .int .i64 cg], .int .i64 dir, .string (bs nm), .bool true] w (ErF w B g (rmdirT S cu cg X.now dir nm) X (rmdirE S cu cg dir nm)) := by
  obtain ⟨W0, hW0⟩ : ∃ W0, W0 = w.alloc (.cells #[.int .i64 cu, .int .i64 cg] 24) := ⟨_, rfl⟩
  have E0 : Ext w W0 := by rw [hW0]; exact (Ext.refl _).alloc _
  have C0 : Has W0 w.heap.size (.cells #[.int .i64 cu, .int .i64 cg] 24) := by rw [hW0]; exact Has.new w _
  have HO := Lib.hid O
  have hcl : S.nodes.length ≤ 100000 := by have := O.live.count; omega
  have HCL := Lib.hid hcl
  obtain ⟨now, hnow⟩ : ∃ now, now = X.now := ⟨_, rfl⟩
  have HNW := Lib.hid hnow
  rw [← hnow]
  have hm : Hid (rmdirE S cu cg dir nm = if ¬ leaveE S cu cg dir nm = 0 then leaveE S cu cg dir nm else if ¬ (leaveN S cu cg dir nm).kind = 1 then 9 else if 0 < ((leaveN S cu cg dir nm).ents.length : Int) then 10 else 0) := by show _ = _; rfl
  have hm2 : Hid (rmdirT S cu cg now dir nm = if rmdirE S cu cg dir nm = 0 then goneT S now (leaveD S cu cg dir nm) (leaveN S cu cg dir nm) nm else S) := by show _ = _; rfl
  have hz : leaveE S cu cg dir nm = 0 → leaveD S cu cg dir nm = getN S.nodes dir ∧ (leaveD S cu cg dir nm).no = dir ∧ isN S.nodes dir = true ∧ Held S (leaveN S cu cg dir nm) := fun h0 => by
    obtain ⟨z1, z2, _, z4, z5⟩ := leaveE_zero h0
    have hi := (placeE_zero z1).1
    exact ⟨z4, by rw [z4]; exact (isN_true hi).2.1, hi, by rw [z5]; exact O.held z2⟩
  have HS : Hid (∀ (w' : World) (x : Int), Ext w w' → rmdirE S cu cg dir nm = x → x ≠ 0 → ErF w B g (rmdirT S cu cg now dir nm) X (rmdirE S cu cg dir nm) (.returned (.int .i64 x)) w') := by
    show ∀ (w' : World) (x : Int), _
    intro w' x hE hx h0
    rw [hx]
    refine ⟨rfl, g, ?_, Only.of_ext hE, GhF.on_refl _ _⟩
    rw [hm2.out, if_neg (by rw [hx]; exact h0)]
    exact h.ext hE
  clear O hcl hnow
  go_enter Tryz.func63, Tryz.ntmps63
  go_upto_region 1 with fail
  rw [← hW0]
  clear hW0
  have x0 : W0.cell? ⟨w.heap.size, 0, none⟩ = some (.int .i64 cu) := C0.cell 0
  have x1 : W0.cell? ⟨w.heap.size, 1, none⟩ = some (.int .i64 cg) := C0.cell 1
  have xz := C0.lt
  go_wp2_with fail
  refine (rleave_any B g S X cu cg dir nm _ (h.ext E0) HO.out (by omega) hnm).mono ?_
  rintro e w2 ⟨A2, k2, A3, k3, rfl, ok2, okn2, b2⟩
  obtain ⟨m, hmm⟩ : ∃ m, m = leaveD S cu cg dir nm := ⟨_, rfl⟩
  obtain ⟨n, hn⟩ : ∃ n, n = leaveN S cu cg dir nm := ⟨_, rfl⟩
  obtain ⟨x, hx⟩ : ∃ x, x = leaveE S cu cg dir nm := ⟨_, rfl⟩
  rw [← hmm] at ok2 hm2 hz
  rw [← hn] at okn2 hm hm2 hz
  rw [← hx] at hm hz
  rw [← hmm, ← hn, ← hx]
  obtain ⟨W3, hW3⟩ : ∃ W3, W3 = (w2.alloc (.cells #[.int .i64 m.no, .int .i64 m.dev, .int .i64 m.kind, .int .i64 m.mode, .int .i64 m.uid, .int .i64 m.gid, .int .i64 m.mtime, .int .i64 m.ctime, .int .i64 m.links, .int .i64 m.up, .string (bs m.data), .slice A2 m.ents.length k2] 87)).alloc (.cells #[.int .i64 n.no, .int .i64 n.dev, .int .i64 n.kind, .int .i64 n.mode, .int .i64 n.uid, .int .i64 n.gid, .int .i64 n.mtime, .int .i64 n.ctime, .int .i64 n.links, .int .i64 n.up, .string (bs n.data), .slice A3 n.ents.length k3] 87) := ⟨_, rfl⟩
  obtain ⟨b11, hb11⟩ : ∃ b, b = w2.heap.size := ⟨_, rfl⟩
  have E23 : Ext w2 W3 := by rw [hW3]; exact ((Ext.refl _).alloc _).alloc _
  have M3 : Has W3 b11 (.cells #[.int .i64 m.no, .int .i64 m.dev, .int .i64 m.kind, .int .i64 m.mode, .int .i64 m.uid, .int .i64 m.gid, .int .i64 m.mtime, .int .i64 m.ctime, .int .i64 m.links, .int .i64 m.up, .string (bs m.data), .slice A2 m.ents.length k2] 87) := by rw [hW3, hb11]; exact (Has.new _ _).alloc _
  have N3 : Has W3 (b11 + 1) (.cells #[.int .i64 n.no, .int .i64 n.dev, .int .i64 n.kind, .int .i64 n.mode, .int .i64 n.uid, .int .i64 n.gid, .int .i64 n.mtime, .int .i64 n.ctime, .int .i64 n.links, .int .i64 n.up, .string (bs n.data), .slice A3 n.ents.length k3] 87) := by
    rw [hW3, hb11]
    have := Has.new (w2.alloc (.cells #[.int .i64 m.no, .int .i64 m.dev, .int .i64 m.kind, .int .i64 m.mode, .int .i64 m.uid, .int .i64 m.gid, .int .i64 m.mtime, .int .i64 m.ctime, .int .i64 m.links, .int .i64 m.up, .string (bs m.data), .slice A2 m.ents.length k2] 87)) (.cells #[.int .i64 n.no, .int .i64 n.dev, .int .i64 n.kind, .int .i64 n.mode, .int .i64 n.uid, .int .i64 n.gid, .int .i64 n.mtime, .int .i64 n.ctime, .int .i64 n.links, .int .i64 n.up, .string (bs n.data), .slice A3 n.ents.length k3] 87)
    rwa [World.size_alloc] at this
  have E3 : Ext w W3 := E0.trans (b2.trans E23)
  have ok3 := ok2.ext E23
  have okn3 := okn2.ext E23
  have hb11w : w.heap.size ≤ b11 := by rw [hb11]; exact (E0.trans b2).size
  clear x0 x1 xz hmm hn hx C0
  go_upto_region 2 with fail
  rw [← hW3]
  rw [← hb11]
  clear hW3 hb11
  by_cases hx0 : x = 0
  case neg =>
    have t0 : (x == 0) = false := by simpa using hx0
    have t0b : (x != 0) = true := by simpa using hx0
    have hE : Hid (rmdirE S cu cg dir nm = x) := by show _ = _; rw [hm.out, if_pos hx0]
    have HX := Lib.hid hx0
    clear hm hx0 hz
    go_wp2_with fail
    go_ret
    exact HS.out _ _ E3 hE.out HX.out
  have t0 : (x == 0) = true := by simpa using hx0
  have t0b : (x != 0) = false := by simpa using hx0
  obtain ⟨hz1, hz2, hz3, hz4⟩ := hz hx0
  have HX0 := Lib.hid hx0
  have HMG := Lib.hid hz1
  have HMD := Lib.hid hz2
  have HDI := Lib.hid hz3
  have HHN := Lib.hid hz4
  have hen := HO.out.entsN dir
  rw [← hz1] at hen
  have HEN := Lib.hid hen
  have y2 : W3.cell? ⟨b11 + 1, 2, none⟩ = some (.int .i64 n.kind) := N3.cell 2
  obtain ⟨lo, hlo⟩ : ∃ lo, lo = n.ents.length := ⟨_, rfl⟩
  have y11 : W3.cell? ⟨b11 + 1, 11, none⟩ = some (.slice A3 lo k3) := by rw [hlo]; exact N3.cell 11
  have yz := N3.lt
  have HLO := Lib.hid hlo
  clear hz1 hz2 hz3 hz4 hen hlo
  by_cases c1 : n.kind = 1
  case neg =>
    have t1 : (n.kind == 1) = false := by simpa using c1
    have t1b : (n.kind != 1) = true := by simpa using c1
    have hE : Hid (rmdirE S cu cg dir nm = 9) := by show _ = _; rw [hm.out, if_neg (by simpa using hx0), if_pos c1]
    clear hm hx0 c1
    go_wp2_with fail
    go_ret
    exact HS.out _ _ E3 hE.out (by decide)
  have t1 : (n.kind == 1) = true := by simpa using c1
  have t1b : (n.kind != 1) = false := by simpa using c1
  by_cases c2 : 0 < lo
  · have t2 : decide ((0 : Int) < (lo : Int)) = true := decide_eq_true (by omega)
    have hE : Hid (rmdirE S cu cg dir nm = 10) := by show _ = _; rw [hm.out, if_neg (by simpa using hx0), if_neg (by simpa using c1), if_pos (by rw [← HLO.out]; omega)]
    clear hm hx0 c1
    go_wp2_with fail
    go_ret
    exact HS.out _ _ E3 hE.out (by decide)
  have t2 : decide ((0 : Int) < (lo : Int)) = false := decide_eq_false (by omega)
  have hE : Hid (rmdirE S cu cg dir nm = 0) := by show _ = _; rw [hm.out, if_neg (by simpa using hx0), if_neg (by simpa using c1), if_neg (by rw [← HLO.out]; omega)]
  have t2c : lo ≤ 0 := by omega
  clear hm hx0 c1 c2
  have k11 : W3.cell? ⟨b11, 11, none⟩ = some (.slice A2 m.ents.length k2) := M3.cell 11
  have kz := M3.lt
  go_wp2_with fail
  refine (rdrop_any A2 m.ents k2 nm _ ok3.ents.ents (by have := HEN.out.2; omega)).mono ?_
  rintro e w4 ⟨v4, rfl, hown, b4⟩
  obtain ⟨A4, c4, rfl, q1, q2, q3, q4⟩ := hown.entsT (B := B)
  obtain ⟨L4, hL4⟩ : ∃ L, L = dropF m.ents nm := ⟨_, rfl⟩
  rw [← hL4] at q1 q3 ⊢
  have HL4 := Lib.hid hL4
  have E4 := E3.trans b4
  obtain ⟨T, hT⟩ : ∃ T, T = touchT S dir now L4 := ⟨_, rfl⟩
  have HT := Lib.hid hT
  have KT : Hid (Calls Tryz.prog 114 #[.pointer (some ⟨g.bF, 0, none⟩), .int .i64 dir, .slice A4 L4.length c4] w4 (TouchF w4 B g T X)) := by
    show Calls _ _ _ _ _
    rw [hT, HNW.out]
    exact rtouch_any B g S X dir A4 L4 c4 w4 (h.ext E4) (by have := HCL.out; omega) HO.out.live.nos q3 q1 q2 q4
  have hon := HO.out.live.on _ (isN_true HDI.out).2.2
  have hTL : Live T := by
    rw [hT]
    exact HO.out.live.set _ hon.1 hon.2 (fun e => HO.out.live.one (getN S.nodes dir) (isN_true HDI.out).2.2 e)
  have hHT : Held T n := ⟨HHN.out.links, by rw [hT]; exact HHN.out.dev, HHN.out.data, HHN.out.one⟩
  have hTl : T.last ≤ 1000 := by rw [hT]; exact hl1
  have HTL := Lib.hid hTL
  have HHT := Lib.hid hHT
  have N4 := N3.ext b4
  have okn4 := okn3.ext b4
  clear y2 y11 yz k11 kz hown q1 q2 q3 q4 hL4 hT hTL hHT hon N3 okn3 t1 t1b t2
  go_wp2_with fail
  refine KT.out.mono ?_
  rintro e w5 ⟨rfl, K5, O5⟩
  have hng : b11 + 1 ∉ g.list := by
    have hlw := h.lt
    simp only [GhF.list, List.mem_cons, List.not_mem_nil, or_false]
    omega
  have N5 := O5.has N4 hng
  have okn5 := okn4.only O5 (h.ext E4).apart
  clear KT
  go_wp2_with (refine wpList_load_node rfl _ rfl (b11 + 1) n A3 k3 rfl N5 ?_)
  refine (rless_any B g T X n A3 k3 _ K5 HTL.out hTl okn5 HHT.out).mono ?_
  rintro e w6 ⟨rfl, g2, K6, O6, hon6⟩
  go_wp2_with fail
  go_ret
  have e1 : rmdirT S cu cg now dir nm = lessT T X.now n := by rw [hm2.out, if_pos hE.out]; unfold goneT; rw [HMD.out, HT.out, HL4.out, HNW.out]
  have O15 : Only g.list w w5 := Only.pre E4 O5
  refine ⟨by rw [hE.out]; rfl, g2, by rw [e1]; exact K6, O15.then O6, ?_⟩
  refine ⟨hon6.1, fun b hb => ?_⟩
  rcases hon6.2 b hb with k | k
  · exact .inl k
  · exact .inr (by have := O15.size; omega)
set_option maxRecDepth 100000 in
set_option maxHeartbeats 8000000 in
theorem rgone_unlink (B : Nat) (g : GhF) (S : TreeD) (X : Xtra) (cu cg dir : Int) (nm : List UInt8) (w : World) (h : FAt w B g S X) (O : Ok S) (hl1 : S.last ≤ 1000) (hnm : nm.length ≤ 1000000) (hne : NoEnts S) :
    Calls Tryz.prog 63 #[.pointer (some ⟨g.bF, 0, none⟩), .agg #[.int .i64 cu, .int .i64 cg], .int .i64 dir, .string (bs nm), .bool false] w (ErF w B g (unlinkT S cu cg X.now dir nm) X (unlinkE S cu cg dir nm)) := by
  obtain ⟨W0, hW0⟩ : ∃ W0, W0 = w.alloc (.cells #[.int .i64 cu, .int .i64 cg] 24) := ⟨_, rfl⟩
  have E0 : Ext w W0 := by rw [hW0]; exact (Ext.refl _).alloc _
  have C0 : Has W0 w.heap.size (.cells #[.int .i64 cu, .int .i64 cg] 24) := by rw [hW0]; exact Has.new w _
  have HO := Lib.hid O
  have hcl : S.nodes.length ≤ 100000 := by have := O.live.count; omega
  have HCL := Lib.hid hcl
  obtain ⟨now, hnow⟩ : ∃ now, now = X.now := ⟨_, rfl⟩
  have HNW := Lib.hid hnow
  rw [← hnow]
  have hm : Hid (unlinkE S cu cg dir nm = if ¬ leaveE S cu cg dir nm = 0 then leaveE S cu cg dir nm else if (leaveN S cu cg dir nm).kind = 1 then 8 else 0) := by show _ = _; rfl
  have hbare : leaveE S cu cg dir nm = 0 → (leaveN S cu cg dir nm).kind ≠ 1 → (leaveN S cu cg dir nm).ents = [] := fun h0 hk => by
    obtain ⟨_, z2, _, _, z5⟩ := leaveE_zero h0
    rw [z5] at hk ⊢
    exact hne _ (isN_true z2).2.2 hk
  have hm2 : Hid (unlinkT S cu cg now dir nm = if unlinkE S cu cg dir nm = 0 then goneT S now (leaveD S cu cg dir nm) (leaveN S cu cg dir nm) nm else S) := by show _ = _; rfl
  have hz : leaveE S cu cg dir nm = 0 → leaveD S cu cg dir nm = getN S.nodes dir ∧ (leaveD S cu cg dir nm).no = dir ∧ isN S.nodes dir = true ∧ Held S (leaveN S cu cg dir nm) := fun h0 => by
    obtain ⟨z1, z2, _, z4, z5⟩ := leaveE_zero h0
    have hi := (placeE_zero z1).1
    exact ⟨z4, by rw [z4]; exact (isN_true hi).2.1, hi, by rw [z5]; exact O.held z2⟩
  have HS : Hid (∀ (w' : World) (x : Int), Ext w w' → unlinkE S cu cg dir nm = x → x ≠ 0 → ErF w B g (unlinkT S cu cg now dir nm) X (unlinkE S cu cg dir nm) (.returned (.int .i64 x)) w') := by
    show ∀ (w' : World) (x : Int), _
    intro w' x hE hx h0
    rw [hx]
    refine ⟨rfl, g, ?_, Only.of_ext hE, GhF.on_refl _ _⟩
    rw [hm2.out, if_neg (by rw [hx]; exact h0)]
    exact h.ext hE
  clear O hcl hnow
  go_enter Tryz.func63, Tryz.ntmps63
  go_upto_region 1 with fail
  rw [← hW0]
  clear hW0
  have x0 : W0.cell? ⟨w.heap.size, 0, none⟩ = some (.int .i64 cu) := C0.cell 0
  have x1 : W0.cell? ⟨w.heap.size, 1, none⟩ = some (.int .i64 cg) := C0.cell 1
  have xz := C0.lt
  go_wp2_with fail
  refine (rleave_any B g S X cu cg dir nm _ (h.ext E0) HO.out (by omega) hnm).mono ?_
  rintro e w2 ⟨A2, k2, A3, k3, rfl, ok2, okn2, b2⟩
  obtain ⟨m, hmm⟩ : ∃ m, m = leaveD S cu cg dir nm := ⟨_, rfl⟩
  obtain ⟨n, hn⟩ : ∃ n, n = leaveN S cu cg dir nm := ⟨_, rfl⟩
  obtain ⟨x, hx⟩ : ∃ x, x = leaveE S cu cg dir nm := ⟨_, rfl⟩
  rw [← hmm] at ok2 hm2 hz
  rw [← hn] at okn2 hm hm2 hz hbare
  rw [← hx] at hm hz hbare
  rw [← hmm, ← hn, ← hx]
  obtain ⟨W3, hW3⟩ : ∃ W3, W3 = (w2.alloc (.cells #[.int .i64 m.no, .int .i64 m.dev, .int .i64 m.kind, .int .i64 m.mode, .int .i64 m.uid, .int .i64 m.gid, .int .i64 m.mtime, .int .i64 m.ctime, .int .i64 m.links, .int .i64 m.up, .string (bs m.data), .slice A2 m.ents.length k2] 87)).alloc (.cells #[.int .i64 n.no, .int .i64 n.dev, .int .i64 n.kind, .int .i64 n.mode, .int .i64 n.uid, .int .i64 n.gid, .int .i64 n.mtime, .int .i64 n.ctime, .int .i64 n.links, .int .i64 n.up, .string (bs n.data), .slice A3 n.ents.length k3] 87) := ⟨_, rfl⟩
  obtain ⟨b11, hb11⟩ : ∃ b, b = w2.heap.size := ⟨_, rfl⟩
  have E23 : Ext w2 W3 := by rw [hW3]; exact ((Ext.refl _).alloc _).alloc _
  have M3 : Has W3 b11 (.cells #[.int .i64 m.no, .int .i64 m.dev, .int .i64 m.kind, .int .i64 m.mode, .int .i64 m.uid, .int .i64 m.gid, .int .i64 m.mtime, .int .i64 m.ctime, .int .i64 m.links, .int .i64 m.up, .string (bs m.data), .slice A2 m.ents.length k2] 87) := by rw [hW3, hb11]; exact (Has.new _ _).alloc _
  have N3 : Has W3 (b11 + 1) (.cells #[.int .i64 n.no, .int .i64 n.dev, .int .i64 n.kind, .int .i64 n.mode, .int .i64 n.uid, .int .i64 n.gid, .int .i64 n.mtime, .int .i64 n.ctime, .int .i64 n.links, .int .i64 n.up, .string (bs n.data), .slice A3 n.ents.length k3] 87) := by
    rw [hW3, hb11]
    have := Has.new (w2.alloc (.cells #[.int .i64 m.no, .int .i64 m.dev, .int .i64 m.kind, .int .i64 m.mode, .int .i64 m.uid, .int .i64 m.gid, .int .i64 m.mtime, .int .i64 m.ctime, .int .i64 m.links, .int .i64 m.up, .string (bs m.data), .slice A2 m.ents.length k2] 87)) (.cells #[.int .i64 n.no, .int .i64 n.dev, .int .i64 n.kind, .int .i64 n.mode, .int .i64 n.uid, .int .i64 n.gid, .int .i64 n.mtime, .int .i64 n.ctime, .int .i64 n.links, .int .i64 n.up, .string (bs n.data), .slice A3 n.ents.length k3] 87)
    rwa [World.size_alloc] at this
  have E3 : Ext w W3 := E0.trans (b2.trans E23)
  have ok3 := ok2.ext E23
  have okn3 := okn2.ext E23
  have hb11w : w.heap.size ≤ b11 := by rw [hb11]; exact (E0.trans b2).size
  clear x0 x1 xz hmm hn hx C0
  go_upto_region 2 with fail
  rw [← hW3]
  rw [← hb11]
  clear hW3 hb11
  by_cases hx0 : x = 0
  case neg =>
    have t0 : (x == 0) = false := by simpa using hx0
    have t0b : (x != 0) = true := by simpa using hx0
    have hE : Hid (unlinkE S cu cg dir nm = x) := by show _ = _; rw [hm.out, if_pos hx0]
    have HX := Lib.hid hx0
    clear hm hx0 hz hbare
    go_wp2_with fail
    go_ret
    exact HS.out _ _ E3 hE.out HX.out
  have t0 : (x == 0) = true := by simpa using hx0
  have t0b : (x != 0) = false := by simpa using hx0
  obtain ⟨hz1, hz2, hz3, hz4⟩ := hz hx0
  have HX0 := Lib.hid hx0
  have HMG := Lib.hid hz1
  have HMD := Lib.hid hz2
  have HDI := Lib.hid hz3
  have HHN := Lib.hid hz4
  have hen := HO.out.entsN dir
  rw [← hz1] at hen
  have HEN := Lib.hid hen
  have y2 : W3.cell? ⟨b11 + 1, 2, none⟩ = some (.int .i64 n.kind) := N3.cell 2
  obtain ⟨lo, hlo⟩ : ∃ lo, lo = n.ents.length := ⟨_, rfl⟩
  have y11 : W3.cell? ⟨b11 + 1, 11, none⟩ = some (.slice A3 lo k3) := by rw [hlo]; exact N3.cell 11
  have yz := N3.lt
  have HLO := Lib.hid hlo
  by_cases c1 : n.kind = 1
  · have t1 : (n.kind == 1) = true := by simpa using c1
    have t1b : (n.kind != 1) = false := by simpa using c1
    have hE : Hid (unlinkE S cu cg dir nm = 8) := by show _ = _; rw [hm.out, if_neg (by simpa using hx0), if_pos c1]
    clear hm hx0 c1 hbare hz1 hz2 hz3 hz4 hen hlo
    go_wp2_with fail
    go_ret
    exact HS.out _ _ E3 hE.out (by decide)
  have t1 : (n.kind == 1) = false := by simpa using c1
  have t1b : (n.kind != 1) = true := by simpa using c1
  have hl0 : lo ≤ 0 := by rw [hlo, hbare hx0 c1]; exact Nat.le_refl _
  have t2 : decide ((0 : Int) < (lo : Int)) = false := decide_eq_false (by omega)
  have hE : Hid (unlinkE S cu cg dir nm = 0) := by show _ = _; rw [hm.out, if_neg (by simpa using hx0), if_neg c1]
  clear hm hx0 c1 hbare hz1 hz2 hz3 hz4 hen hlo
  have k11 : W3.cell? ⟨b11, 11, none⟩ = some (.slice A2 m.ents.length k2) := M3.cell 11
  have kz := M3.lt
  go_wp2_with fail
  refine (rdrop_any A2 m.ents k2 nm _ ok3.ents.ents (by have := HEN.out.2; omega)).mono ?_
  rintro e w4 ⟨v4, rfl, hown, b4⟩
  obtain ⟨A4, c4, rfl, q1, q2, q3, q4⟩ := hown.entsT (B := B)
  obtain ⟨L4, hL4⟩ : ∃ L, L = dropF m.ents nm := ⟨_, rfl⟩
  rw [← hL4] at q1 q3 ⊢
  have HL4 := Lib.hid hL4
  have E4 := E3.trans b4
  obtain ⟨T, hT⟩ : ∃ T, T = touchT S dir now L4 := ⟨_, rfl⟩
  have HT := Lib.hid hT
  have KT : Hid (Calls Tryz.prog 114 #[.pointer (some ⟨g.bF, 0, none⟩), .int .i64 dir, .slice A4 L4.length c4] w4 (TouchF w4 B g T X)) := by
    show Calls _ _ _ _ _
    rw [hT, HNW.out]
    exact rtouch_any B g S X dir A4 L4 c4 w4 (h.ext E4) (by have := HCL.out; omega) HO.out.live.nos q3 q1 q2 q4
  have hon := HO.out.live.on _ (isN_true HDI.out).2.2
  have hTL : Live T := by
    rw [hT]
    exact HO.out.live.set _ hon.1 hon.2 (fun e => HO.out.live.one (getN S.nodes dir) (isN_true HDI.out).2.2 e)
  have hHT : Held T n := ⟨HHN.out.links, by rw [hT]; exact HHN.out.dev, HHN.out.data, HHN.out.one⟩
  have hTl : T.last ≤ 1000 := by rw [hT]; exact hl1
  have HTL := Lib.hid hTL
  have HHT := Lib.hid hHT
  have N4 := N3.ext b4
  have okn4 := okn3.ext b4
  clear y2 y11 yz k11 kz hown q1 q2 q3 q4 hL4 hT hTL hHT hon N3 okn3 t1 t1b t2
  go_wp2_with fail
  refine KT.out.mono ?_
  rintro e w5 ⟨rfl, K5, O5⟩
  have hng : b11 + 1 ∉ g.list := by
    have hlw := h.lt
    simp only [GhF.list, List.mem_cons, List.not_mem_nil, or_false]
    omega
  have N5 := O5.has N4 hng
  have okn5 := okn4.only O5 (h.ext E4).apart
  clear KT
  go_wp2_with (refine wpList_load_node rfl _ rfl (b11 + 1) n A3 k3 rfl N5 ?_)
  refine (rless_any B g T X n A3 k3 _ K5 HTL.out hTl okn5 HHT.out).mono ?_
  rintro e w6 ⟨rfl, g2, K6, O6, hon6⟩
  go_wp2_with fail
  go_ret
  have e1 : unlinkT S cu cg now dir nm = lessT T X.now n := by rw [hm2.out, if_pos hE.out]; unfold goneT; rw [HMD.out, HT.out, HL4.out, HNW.out]
  have O15 : Only g.list w w5 := Only.pre E4 O5
  refine ⟨by rw [hE.out]; rfl, g2, by rw [e1]; exact K6, O15.then O6, ?_⟩
  refine ⟨hon6.1, fun b hb => ?_⟩
  rcases hon6.2 b hb with k | k
  · exact .inl k
  · exact .inr (by have := O15.size; omega)
end Go.Proofs.YtjblimclakfhfaaGreat
