/- Layer 19: the chapter's example. -/
import Derived.Test.YtebghednhjaniaaGreatBunQ
import Derived.Test.YtebghednhjaniaaGreatBunH
namespace Go.Proofs.YtebghednhjaniaaGreat
open Go.ChangeShapes Go.WideShapes Go.ChangeAt Go.RowKit

theorem items_three {w : World} {b : Nat} {t : TypeId} (it jt kt : ItemD) (h : Has w b (.cells #[.int .i64 it.dir, .string (bs it.name), .int .i64 it.kind, .int .i64 it.mode, .int .i64 it.uid, .int .i64 it.gid, .string (bs it.data), .int .i64 it.n, .int .i64 jt.dir, .string (bs jt.name), .int .i64 jt.kind, .int .i64 jt.mode, .int .i64 jt.uid, .int .i64 jt.gid, .string (bs jt.data), .int .i64 jt.n, .int .i64 kt.dir, .string (bs kt.name), .int .i64 kt.kind, .int .i64 kt.mode, .int .i64 kt.uid, .int .i64 kt.gid, .string (bs kt.data), .int .i64 kt.n] t)) : ItemsAt w (some ⟨b, 0, none⟩) [it, jt, kt] := by
  refine .inr ⟨b, 0, rfl, h.lt, fun k hk => ?_⟩
  have : k = 0 ∨ k = 1 ∨ k = 2 := by simp at hk; omega
  rcases this with rfl | rfl | rfl
  · exact ⟨h.cell 0, h.cell 1, h.cell 2, h.cell 3, h.cell 4, h.cell 5, h.cell 6, h.cell 7⟩
  · exact ⟨h.cell 8, h.cell 9, h.cell 10, h.cell 11, h.cell 12, h.cell 13, h.cell 14, h.cell 15⟩
  · exact ⟨h.cell 16, h.cell 17, h.cell 18, h.cell 19, h.cell 20, h.cell 21, h.cell 22, h.cell 23⟩
def ex19A : ItemD := ⟨0, [100], 1, 0, 0, 0, [], 0⟩
def ex19B : ItemD := ⟨1, [101], 1, 0, 0, 0, [], 0⟩
def ex19C : ItemD := ⟨0, [120], 2, 0, 0, 0, [], 0⟩
theorem ex19_few : FewI [ex19A, ex19B, ex19C] := by
  refine ⟨?_, by decide⟩
  intro x hx
  simp only [List.mem_cons, List.not_mem_nil, or_false] at hx
  rcases hx with rfl | rfl | rfl
  · exact ⟨by decide, by decide⟩
  · exact ⟨by decide, by decide⟩
  · exact ⟨by decide, by decide⟩
def b19a : TreeD := growAll (firstT 9 9) [ex19A, ex19B, ex19C]
def b19b : TreeD := moveT b19a 0 0 1 1 3 [100] [102]
def b19c : TreeD := moveT b19b 0 0 2 2 1 [101] [103]
def b19d : TreeD := moveT b19c 0 0 3 1 3 [120] [121]
def b19e : TreeD := moveT b19d 0 0 4 3 1 [121] [100]
theorem b19_1 : moveE b19a 0 0 1 3 [100] [102] = 17 := by kernel_rfl
theorem b19_2 : moveE b19b 0 0 2 1 [101] [103] = 0 := by kernel_rfl
theorem b19_3 : moveE b19c 0 0 1 3 [120] [121] = 0 := by kernel_rfl
theorem b19_4 : moveE b19d 0 0 3 1 [121] [100] = 8 := by kernel_rfl
theorem b19_5 : whereF b19e 3 = some [47, 103] := by kernel_rfl
theorem b19_6 : (getN b19e.nodes 3).up = 1 ∧ (getN b19e.nodes 3).ctime = 3 ∧ (getN b19e.nodes 3).mtime = 3 := ⟨by kernel_rfl, by kernel_rfl, by kernel_rfl⟩
theorem b19_7 : b19e.last = 4 := by kernel_rfl
theorem b19_tre : Tre 44 b19a ∧ Tre 44 b19b ∧ Tre 44 b19c ∧ Tre 44 b19d ∧ Tre 44 b19e := by
  have h0 : Tre 40 b19a := tre_growAll (by decide) ex19_few
  have h1 : Tre 41 b19b := tre_move h0 ..
  have h2 : Tre 42 b19c := tre_move h1 ..
  have h3 : Tre 43 b19d := tre_move h2 ..
  exact ⟨tre_mono h0 (by decide), tre_mono h1 (by decide), tre_mono h2 (by decide), tre_mono h3 (by decide), tre_move h3 ..⟩
set_option maxRecDepth 100000 in
set_option maxHeartbeats 8000000 in
theorem awake19 (w : World) : Calls Tryz.prog 21 #[] w (Ret w (.bool true)) := by
  obtain ⟨q0, q1, q2, q3, q4⟩ := b19_tre
  have HT0 := Lib.hid q0
  have HT1 := Lib.hid q1
  have HT2 := Lib.hid q2
  have HT3 := Lib.hid q3
  have HF := Lib.hid (q4.fit (by decide) (by rw [b19_7]; decide))
  clear q0 q1 q2 q3 q4
  go_enter Tryz.func21, Tryz.ntmps21
  go_wp2_with fail
  have I1 := Has.new w (.cells #[.int .i64 ex19A.dir, .string (bs ex19A.name), .int .i64 ex19A.kind, .int .i64 ex19A.mode, .int .i64 ex19A.uid, .int .i64 ex19A.gid, .string (bs ex19A.data), .int .i64 ex19A.n, .int .i64 ex19B.dir, .string (bs ex19B.name), .int .i64 ex19B.kind, .int .i64 ex19B.mode, .int .i64 ex19B.uid, .int .i64 ex19B.gid, .string (bs ex19B.data), .int .i64 ex19B.n, .int .i64 ex19C.dir, .string (bs ex19C.name), .int .i64 ex19C.kind, .int .i64 ex19C.mode, .int .i64 ex19C.uid, .int .i64 ex19C.gid, .string (bs ex19C.data), .int .i64 ex19C.n] 81)
  refine (growAll_any 9 9 (some ⟨w.heap.size, 0, none⟩) [ex19A, ex19B, ex19C] 3 _ (by decide) ex19_few (items_three ex19A ex19B ex19C I1)).mono ?_
  rintro e w1 ⟨g, f, rfl, ⟨K1, F1⟩, E1⟩
  have X1 : Ext w w1 := ((Ext.refl _).alloc _).trans E1
  obtain ⟨B, hB⟩ : ∃ B, B = (w.alloc (.cells #[.int .i64 ex19A.dir, .string (bs ex19A.name), .int .i64 ex19A.kind, .int .i64 ex19A.mode, .int .i64 ex19A.uid, .int .i64 ex19A.gid, .string (bs ex19A.data), .int .i64 ex19A.n, .int .i64 ex19B.dir, .string (bs ex19B.name), .int .i64 ex19B.kind, .int .i64 ex19B.mode, .int .i64 ex19B.uid, .int .i64 ex19B.gid, .string (bs ex19B.data), .int .i64 ex19B.n, .int .i64 ex19C.dir, .string (bs ex19C.name), .int .i64 ex19C.kind, .int .i64 ex19C.mode, .int .i64 ex19C.uid, .int .i64 ex19C.gid, .string (bs ex19C.data), .int .i64 ex19C.n] 81)).heap.size := ⟨_, rfl⟩
  have hBw : w.heap.size ≤ B := by rw [hB]; simp
  have K1' : WAt w1 B g b19a := by rw [hB]; exact K1
  clear hB K1 I1 F1 E1
  have aft : ∀ {S : TreeD} {v v' : World}, WAt v B g S → Ext w v → Only g.list v v' → Ext w v' := by
    intro S v v' hK hX hO
    exact hO.after hX fun x hx => by have := (hK.apart x hx).1; omega
  have HA := @aft
  clear aft
  go_wp2_with fail
  obtain ⟨r, R⟩ := HT0.out.rank
  refine (pmove_any B g b19a r 0 0 1 1 3 [100] [102] _ K1' (HT0.out.ok (by decide)) R).mono ?_
  rw [b19_1]
  rintro e w2 ⟨rfl, K2, O2⟩
  have X2 := HA K1' X1 O2
  have K2' : WAt w2 B g b19b := K2
  clear K1' O2 X1 K2 r R
  go_wp2_with fail
  obtain ⟨r, R⟩ := HT1.out.rank
  refine (pmove_any B g b19b r 0 0 2 2 1 [101] [103] _ K2' (HT1.out.ok (by decide)) R).mono ?_
  rw [b19_2]
  rintro e w3 ⟨rfl, K3, O3⟩
  have X3 := HA K2' X2 O3
  have K3' : WAt w3 B g b19c := K3
  clear K2' O3 X2 K3 r R
  go_wp2_with fail
  obtain ⟨r, R⟩ := HT2.out.rank
  refine (pmove_any B g b19c r 0 0 3 1 3 [120] [121] _ K3' (HT2.out.ok (by decide)) R).mono ?_
  rw [b19_3]
  rintro e w4 ⟨rfl, K4, O4⟩
  have X4 := HA K3' X3 O4
  have K4' : WAt w4 B g b19d := K4
  clear K3' O4 X3 K4 r R
  go_wp2_with fail
  obtain ⟨r, R⟩ := HT3.out.rank
  refine (pmove_any B g b19d r 0 0 4 3 1 [121] [100] _ K4' (HT3.out.ok (by decide)) R).mono ?_
  rw [b19_4]
  rintro e w5 ⟨rfl, K5, O5⟩
  have X5 := HA K4' X4 O5
  have K5' : WAt w5 B g b19e := K5
  clear K4' O5 X4 K5 r R
  go_wp2_with fail
  obtain ⟨r, R⟩ := HF.out.rank
  refine (pwhere_any B g b19e r 3 _ K5' HF.out.len HF.out.good.devs HF.out.good.eight HF.out.good.roots HF.out.good.nos HF.out.names HF.out.ents R HF.out.top HF.out.one).mono ?_
  rw [b19_5]
  rintro e w6 ⟨he, b6⟩
  dsimp only at he
  rw [show bs [47, 103] = (⟨#[47, 103]⟩ : ByteArray) from rfl] at he
  subst he
  have K6 := K5'.ext b6
  have X6 := X5.trans b6
  obtain ⟨_, _, cd, hW, _⟩ := id K6
  have v0 : w6.cell? ⟨g.bW, 0, none⟩ = some (.pointer (some ⟨g.bT, 0, none⟩)) := hW.cell 0
  have vz := hW.lt
  clear hW K5' X5 b6 r R
  go_wp2_with fail
  refine (tget_any B g.bT g.bM _ _ 3 _ K6.2.1).mono ?_
  rintro e w7 ⟨A7, k7, rfl, ok7, b7⟩
  obtain ⟨n7, hn7⟩ : ∃ n7, n7 = getN b19e.nodes 3 := ⟨_, rfl⟩
  obtain ⟨i7, hi7⟩ : ∃ i7, i7 = isN b19e.nodes 3 := ⟨_, rfl⟩
  rw [← hn7, ← hi7]
  have h7 : n7.up = 1 ∧ n7.ctime = 3 ∧ n7.mtime = 3 := by rw [hn7]; exact b19_6
  obtain ⟨W8, hW8⟩ : ∃ W, W = w7.alloc (.cells #[.int .i64 n7.no, .int .i64 n7.dev, .int .i64 n7.kind, .int .i64 n7.mode, .int .i64 n7.uid, .int .i64 n7.gid, .int .i64 n7.mtime, .int .i64 n7.ctime, .int .i64 n7.links, .int .i64 n7.up, .string (bs n7.data), .slice A7 n7.ents.length k7] 49) := ⟨_, rfl⟩
  obtain ⟨b8, hb8⟩ : ∃ b, b = w7.heap.size := ⟨_, rfl⟩
  have N8 : Has W8 b8 (.cells #[.int .i64 n7.no, .int .i64 n7.dev, .int .i64 n7.kind, .int .i64 n7.mode, .int .i64 n7.uid, .int .i64 n7.gid, .int .i64 n7.mtime, .int .i64 n7.ctime, .int .i64 n7.links, .int .i64 n7.up, .string (bs n7.data), .slice A7 n7.ents.length k7] 49) := by rw [hW8, hb8]; exact Has.new _ _
  have E78 : Ext w7 W8 := by rw [hW8]; exact (Ext.refl _).alloc _
  have X8 := X6.trans (b7.trans E78)
  have H7 := Lib.hid h7
  clear hn7 hi7 h7 ok7 v0 vz E78 K6
  go_upto_region 10 with fail
  rw [← hW8, ← hb8]
  clear hW8 hb8
  have y9 : W8.cell? ⟨b8, 9, none⟩ = some (.int .i64 1) := by have := N8.cell 9; rw [← H7.out.1]; exact this
  have y7 : W8.cell? ⟨b8, 7, none⟩ = some (.int .i64 3) := by have := N8.cell 7; rw [← H7.out.2.1]; exact this
  have y6 : W8.cell? ⟨b8, 6, none⟩ = some (.int .i64 3) := by have := N8.cell 6; rw [← H7.out.2.2]; exact this
  have yz := N8.lt
  go_wp2_with fail
  go_ret
  exact Ret.mk rfl X8
end Go.Proofs.YtebghednhjaniaaGreat
