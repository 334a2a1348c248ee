/- Layer 18: the chapter's example. -/
import Derived.Test.YtebghednhjaniaaGreatBunL
import Derived.Test.YtebghednhjaniaaGreatBunI
import Derived.Test.YtebghednhjaniaaGreatBunH
import Derived.Test.YtebghednhjaniaaGreatBunF
namespace Go.Proofs.YtebghednhjaniaaGreat
open Go.ChangeShapes Go.WideShapes Go.ChangeAt Go.RowKit

theorem field_space (a0 a1 a2 a3 : Value) (w : World) : (Instr.field 93 (.agg #[a0, a1, a2, a3]) 1).run Tryz.prog w = .ok a1 w := by kernel_rfl
def ex18A : ItemD := ⟨0, [102], 2, 0, 0, 0, [], 0⟩
def ex18B : ItemD := ⟨0, [100], 1, 0, 0, 0, [], 0⟩
theorem ex18_few : FewI [ex18A, ex18B] := by
  refine ⟨?_, by decide⟩
  intro x hx
  simp only [List.mem_cons, List.not_mem_nil, or_false] at hx
  rcases hx with rfl | rfl
  · exact ⟨by decide, by decide⟩
  · exact ⟨by decide, by decide⟩
def b18a : TreeD := growAll (firstT 9 9) [ex18A, ex18B]
def b18b : TreeD := hardT b18a 0 0 1 2 1 [103]
def b18c : TreeD := unlinkT b18b 0 0 2 1 [102]
def b18d : TreeD := rmdirT b18c 0 0 3 1 [100]
def b18e : TreeD := unlinkT b18d 0 0 4 1 [103]
theorem b18_1 : hardE b18a 0 0 2 1 [103] = 0 := by kernel_rfl
theorem b18_2 : unlinkE b18b 0 0 1 [102] = 0 := by kernel_rfl
theorem b18_3 : (getN b18c.nodes 2).links = 1 ∧ isN b18c.nodes 2 = true := ⟨by kernel_rfl, by kernel_rfl⟩
theorem b18_4 : unlinkE b18c 0 0 1 [100] = 8 := by kernel_rfl
theorem b18_4t : unlinkT b18c 0 0 3 1 [100] = b18c := by kernel_rfl
theorem b18_5 : rmdirE b18c 0 0 1 [100] = 0 := by kernel_rfl
theorem b18_6 : unlinkE b18d 0 0 1 [103] = 0 := by kernel_rfl
theorem b18_7 : b18e.nodes.length = 1 ∧ (useF b18e.devs 1).nodes = 1 := ⟨by kernel_rfl, by kernel_rfl⟩
theorem b18_tre : Tre 41 b18a ∧ Tre 41 b18b ∧ Tre 41 b18c ∧ Tre 41 b18d ∧ Tre 41 b18e := by
  have h0 : Tre 40 b18a := tre_growAll (by decide) ex18_few
  have h1 : Tre 41 b18b := tre_hard h0 ..
  have h2 : Tre 41 b18c := tre_unlink h1 ..
  have h3 : Tre 41 b18d := tre_rmdir h2 ..
  exact ⟨tre_mono h0 (by decide), h1, h2, h3, tre_unlink h3 ..⟩
set_option maxRecDepth 100000 in
set_option maxHeartbeats 8000000 in
theorem awake18 (w : World) : Calls Tryz.prog 14 #[] w (Ret w (.bool true)) := by
  obtain ⟨q0, q1, q2, q3, q4⟩ := b18_tre
  have O0 := Lib.hid (q0.ok (by decide))
  have O1 := Lib.hid (q1.ok (by decide))
  have O2 := Lib.hid (q2.ok (by decide))
  have O3 := Lib.hid (q3.ok (by decide))
  have O4 := Lib.hid (q4.ok (by decide))
  clear q0 q1 q2 q3 q4
  go_enter Tryz.func14, Tryz.ntmps14
  go_wp2_with fail
  have I1 := Has.new w (.cells #[.int .i64 ex18A.dir, .string (bs ex18A.name), .int .i64 ex18A.kind, .int .i64 ex18A.mode, .int .i64 ex18A.uid, .int .i64 ex18A.gid, .string (bs ex18A.data), .int .i64 ex18A.n, .int .i64 ex18B.dir, .string (bs ex18B.name), .int .i64 ex18B.kind, .int .i64 ex18B.mode, .int .i64 ex18B.uid, .int .i64 ex18B.gid, .string (bs ex18B.data), .int .i64 ex18B.n] 81)
  refine (growAll_any 9 9 (some ⟨w.heap.size, 0, none⟩) [ex18A, ex18B] 2 _ (by decide) ex18_few (items_two ex18A ex18B I1)).mono ?_
  rintro e w1 ⟨g, f, rfl, ⟨K1, F1⟩, E1⟩
  have X1 : Ext w w1 := ((Ext.refl _).alloc _).trans E1
  obtain ⟨B, hB⟩ : ∃ B, B = (w.alloc (.cells #[.int .i64 ex18A.dir, .string (bs ex18A.name), .int .i64 ex18A.kind, .int .i64 ex18A.mode, .int .i64 ex18A.uid, .int .i64 ex18A.gid, .string (bs ex18A.data), .int .i64 ex18A.n, .int .i64 ex18B.dir, .string (bs ex18B.name), .int .i64 ex18B.kind, .int .i64 ex18B.mode, .int .i64 ex18B.uid, .int .i64 ex18B.gid, .string (bs ex18B.data), .int .i64 ex18B.n] 81)).heap.size := ⟨_, rfl⟩
  have hBw : w.heap.size ≤ B := by rw [hB]; simp
  have K1' : WAt w1 B g b18a := by rw [hB]; exact K1
  clear hB K1 I1 F1 E1
  have aft : ∀ {S : TreeD} {v v' : World}, WAt v B g S → Ext w v → Only g.list v v' → Ext w v' := by
    intro S v v' hK hX hO
    exact hO.after hX fun x hx => by have := (hK.apart x hx).1; omega
  have HA := @aft
  clear aft
  go_wp2_with fail
  refine (phard_any B g b18a 0 0 1 2 1 [103] _ K1' O0.out).mono ?_
  rw [b18_1]
  rintro e w2 ⟨rfl, K2, O2'⟩
  have X2 := HA K1' X1 O2'
  have K2' : WAt w2 B g b18b := K2
  clear K1' O2' X1 K2
  go_wp2_with fail
  refine (punlink_any B g b18b 0 0 2 1 [102] _ K2' O1.out).mono ?_
  rw [b18_2]
  rintro e w3 ⟨rfl, K3, O3'⟩
  have X3 := HA K2' X2 O3'
  have K3' : WAt w3 B g b18c := K3
  clear K2' O3' X2 K3
  obtain ⟨_, _, cd, hW, _⟩ := id K3'
  have v0 : w3.cell? ⟨g.bW, 0, none⟩ = some (.pointer (some ⟨g.bT, 0, none⟩)) := hW.cell 0
  have vz := hW.lt
  clear hW
  go_wp2_with fail
  refine (tget_any B g.bT g.bM _ _ 2 _ K3'.2.1).mono ?_
  rintro e w4 ⟨A4, k4, he, ok4, b4⟩
  obtain ⟨n4, hn4⟩ : ∃ n4, n4 = getN b18c.nodes 2 := ⟨_, rfl⟩
  rw [b18_3.2, ← hn4] at he
  subst he
  have hl4 : n4.links = 1 := by rw [hn4]; exact b18_3.1
  obtain ⟨W5, hW5⟩ : ∃ W5, W5 = w4.alloc (.cells #[.int .i64 n4.no, .int .i64 n4.dev, .int .i64 n4.kind, .int .i64 n4.mode, .int .i64 n4.uid, .int .i64 n4.gid, .int .i64 n4.mtime, .int .i64 n4.ctime, .int .i64 n4.links, .int .i64 n4.up, .string (bs n4.data), .slice A4 n4.ents.length k4] 49) := ⟨_, rfl⟩
  have E45 : Ext w4 W5 := by rw [hW5]; exact (Ext.refl _).alloc _
  obtain ⟨b6, hb6⟩ : ∃ b, b = w4.heap.size := ⟨_, rfl⟩
  have N5 : Has W5 b6 (.cells #[.int .i64 n4.no, .int .i64 n4.dev, .int .i64 n4.kind, .int .i64 n4.mode, .int .i64 n4.uid, .int .i64 n4.gid, .int .i64 n4.mtime, .int .i64 n4.ctime, .int .i64 n4.links, .int .i64 n4.up, .string (bs n4.data), .slice A4 n4.ents.length k4] 49) := by rw [hW5, hb6]; exact Has.new _ _
  have K5 : WAt W5 B g b18c := K3'.ext (b4.trans E45)
  have X5 := X3.trans (b4.trans E45)
  have hb6g : b6 ∉ g.list := by
    have := K3'.lt
    have := b4.size
    simp only [GhW.list, List.mem_cons, List.not_mem_nil, or_false]
    omega
  have HL4 := Lib.hid hl4
  clear v0 vz hn4 ok4 hl4 K3' X3
  go_upto_region 6 with fail
  rw [← hW5]
  rw [← hb6]
  clear hW5 hb6
  go_wp2_with fail
  refine (punlink_any B g b18c 0 0 3 1 [100] _ K5 O2.out).mono ?_
  rw [b18_4, b18_4t]
  rintro e w6 ⟨rfl, K6, O6'⟩
  have X6 := HA K5 X5 O6'
  have N6 := O6'.has N5 hb6g
  clear K5 O6' X5 N5
  go_wp2_with fail
  refine (prmdir_any B g b18c 0 0 3 1 [100] _ K6 O2.out).mono ?_
  rw [b18_5]
  rintro e w7 ⟨rfl, K7, O7'⟩
  have X7 := HA K6 X6 O7'
  have N7 := O7'.has N6 hb6g
  have K7' : WAt w7 B g b18d := K7
  clear K6 O7' X6 N6 K7
  go_wp2_with fail
  refine (punlink_any B g b18d 0 0 4 1 [103] _ K7' O3.out).mono ?_
  rw [b18_6]
  rintro e w8 ⟨rfl, K8, O8'⟩
  have X8 := HA K7' X7 O8'
  have N8 := O8'.has N7 hb6g
  have K8' : WAt w8 B g b18e := K8
  clear K7' O8' X7 N7 K8
  obtain ⟨_, _, cd, hW, _⟩ := id K8'
  have v0 : w8.cell? ⟨g.bW, 0, none⟩ = some (.pointer (some ⟨g.bT, 0, none⟩)) := hW.cell 0
  have vz := hW.lt
  have y8 : w8.cell? ⟨b6, 8, none⟩ = some (.int .i64 n4.links) := N8.cell 8
  rw [HL4.out] at y8
  have yz := N8.lt
  clear hW
  go_wp2_with fail
  refine (tlen_any B g.bT g.bM b18e.nodes b18e.last _ K8'.2.1).mono ?_
  rw [b18_7.1]
  rintro e w9 ⟨rfl, b9⟩
  have K9 := K8'.ext b9
  clear v0 vz y8 yz
  go_wp2_with fail
  refine (puse_any B g b18e 1 _ K9 O4.out.live.devs O4.out.live.eight O4.out.live.roots).mono ?_
  obtain ⟨q, hq⟩ : ∃ q, q = useF b18e.devs 1 := ⟨_, rfl⟩
  have hq1 : q.nodes = 1 := by rw [hq]; exact b18_7.2
  rw [← hq]
  have hfs := field_space (.int .i64 q.blocks) (.int .i64 q.nodes) (.int .i64 q.mostB) (.int .i64 q.mostN)
  rw [hq1] at hfs ⊢
  clear hq hq1
  rintro e w10 ⟨rfl, b10⟩
  go_wp2_with fail
  go_ret
  exact Ret.mk rfl ((X8.trans b9).trans b10)
end Go.Proofs.YtebghednhjaniaaGreat
