/- How a Cred, a Node, two Nodes and three ints that came in read as values. -/
import Derived.Test.YtegiknfnhgjhfaaPermX
import Derived.Lib.SmallJoins
namespace Go.Proofs.Ytegiknfnhgjhfaa
open Go.ChangeShapes Go.WideShapes Go.ChangeAt Go.RowKit
section
variable {H : Type} {enc : TypeId × Value → H} {w : World} {base : Nat} {spare : Nat → Bool} {held : Bool}

theorem list12 {α : Type} {l : List α} (h : l.length = 12) : ∃ a0 a1 a2 a3 a4 a5 a6 a7 a8 a9 a10 a11, l = [a0, a1, a2, a3, a4, a5, a6, a7, a8, a9, a10, a11] := by
  match l, h with
  | [a0, a1, a2, a3, a4, a5, a6, a7, a8, a9, a10, a11], _ => exact ⟨a0, a1, a2, a3, a4, a5, a6, a7, a8, a9, a10, a11, rfl⟩
theorem list2 {α : Type} {l : List α} (h : l.length = 2) : ∃ a0 a1, l = [a0, a1] := by
  match l, h with
  | [a0, a1], _ => exact ⟨a0, a1, rfl⟩
theorem list3 {α : Type} {l : List α} (h : l.length = 3) : ∃ a0 a1 a2, l = [a0, a1, a2] := by
  match l, h with
  | [a0, a1, a2], _ => exact ⟨a0, a1, a2, rfl⟩
theorem cells3 : Try.prog.cellsOf 3 = 1 := by kernel_rfl
theorem cells9 : Try.prog.cellsOf 9 = 1 := by kernel_rfl
theorem cells28 : Try.prog.cellsOf 28 = 1 := by kernel_rfl
theorem cells30 : Try.prog.cellsOf 30 = 12 := by kernel_rfl
theorem cells27 : Try.prog.cellsOf 27 = 2 := by kernel_rfl
theorem cells34 : Try.prog.cellsOf 34 = 24 := by kernel_rfl
theorem cells31 : Try.prog.cellsOf 31 = 3 := by kernel_rfl

theorem okWide_array {r : Reach} {b0 k : Nat} {e t : TypeId} {v : Value} {P : Program} (ht : P.underlying t = some (.array k e)) (h : Value.okWide P w r b0 t v) : ∃ cs, v = .agg cs ∧ cs.size = P.cellsOf t := by
  simp only [Value.okWide, ht] at h
  obtain ⟨cs, h1, h2, _⟩ := h
  exact ⟨cs, h1, h2⟩
theorem int_cell {n : Nat} {c : Value} {x : DataW H × List MemPlace} (h : DataW.trod enc Try.prog w base spare held n 3 [c] = some x) : ∃ a : Int, c = .int .i64 a ∧ (Lit.int .i64 a).wf = true := by
  obtain ⟨a, h1, _, h2⟩ := DataW.trod_int Try.underlying3 h
  exact ⟨a, by simpa using h1, h2⟩
theorem node_cells {n : Nat} {cs : List Value} {x : DataW H × List MemPlace} (h : DataW.trod enc Try.prog w base spare held n 30 cs = some x) :
    ∃ (no dev kind mode o gr mt ct ln up : Int) (dat : ByteArray) (sa : Option Addr) (sl sc : Nat), cs = [.int .i64 no, .int .i64 dev, .int .i64 kind, .int .i64 mode, .int .i64 o, .int .i64 gr, .int .i64 mt, .int .i64 ct, .int .i64 ln, .int .i64 up, .string dat, .slice sa sl sc] := by
  obtain ⟨xs, m, _, _, hl, hxl, hf⟩ := DataW.trod_struct Try.underlying30 h
  rw [cells30] at hl
  obtain ⟨a0, a1, a2, a3, a4, a5, a6, a7, a8, a9, a10, a11, rfl⟩ := list12 hl
  obtain ⟨y0, y1, y2, y3, y4, y5, y6, y7, y8, y9, y10, y11, rfl⟩ := list12 hxl
  have f0 : DataW.trod enc Try.prog w base spare held m 3 (List.take (Try.prog.cellsOf 3) (List.drop 0 [a0, a1, a2, a3, a4, a5, a6, a7, a8, a9, a10, a11])) = some y0 := hf 0 _ rfl
  have f1 : DataW.trod enc Try.prog w base spare held m 3 (List.take (Try.prog.cellsOf 3) (List.drop 1 [a0, a1, a2, a3, a4, a5, a6, a7, a8, a9, a10, a11])) = some y1 := hf 1 _ rfl
  have f2 : DataW.trod enc Try.prog w base spare held m 3 (List.take (Try.prog.cellsOf 3) (List.drop 2 [a0, a1, a2, a3, a4, a5, a6, a7, a8, a9, a10, a11])) = some y2 := hf 2 _ rfl
  have f3 : DataW.trod enc Try.prog w base spare held m 3 (List.take (Try.prog.cellsOf 3) (List.drop 3 [a0, a1, a2, a3, a4, a5, a6, a7, a8, a9, a10, a11])) = some y3 := hf 3 _ rfl
  have f4 : DataW.trod enc Try.prog w base spare held m 3 (List.take (Try.prog.cellsOf 3) (List.drop 4 [a0, a1, a2, a3, a4, a5, a6, a7, a8, a9, a10, a11])) = some y4 := hf 4 _ rfl
  have f5 : DataW.trod enc Try.prog w base spare held m 3 (List.take (Try.prog.cellsOf 3) (List.drop 5 [a0, a1, a2, a3, a4, a5, a6, a7, a8, a9, a10, a11])) = some y5 := hf 5 _ rfl
  have f6 : DataW.trod enc Try.prog w base spare held m 3 (List.take (Try.prog.cellsOf 3) (List.drop 6 [a0, a1, a2, a3, a4, a5, a6, a7, a8, a9, a10, a11])) = some y6 := hf 6 _ rfl
  have f7 : DataW.trod enc Try.prog w base spare held m 3 (List.take (Try.prog.cellsOf 3) (List.drop 7 [a0, a1, a2, a3, a4, a5, a6, a7, a8, a9, a10, a11])) = some y7 := hf 7 _ rfl
  have f8 : DataW.trod enc Try.prog w base spare held m 3 (List.take (Try.prog.cellsOf 3) (List.drop 8 [a0, a1, a2, a3, a4, a5, a6, a7, a8, a9, a10, a11])) = some y8 := hf 8 _ rfl
  have f9 : DataW.trod enc Try.prog w base spare held m 3 (List.take (Try.prog.cellsOf 3) (List.drop 9 [a0, a1, a2, a3, a4, a5, a6, a7, a8, a9, a10, a11])) = some y9 := hf 9 _ rfl
  have f10 : DataW.trod enc Try.prog w base spare held m 9 (List.take (Try.prog.cellsOf 9) (List.drop 10 [a0, a1, a2, a3, a4, a5, a6, a7, a8, a9, a10, a11])) = some y10 := hf 10 _ rfl
  have f11 : DataW.trod enc Try.prog w base spare held m 28 (List.take (Try.prog.cellsOf 28) (List.drop 11 [a0, a1, a2, a3, a4, a5, a6, a7, a8, a9, a10, a11])) = some y11 := hf 11 _ rfl
  rw [cells3] at f0
  obtain ⟨k0, rfl, _⟩ := int_cell f0
  rw [cells3] at f1
  obtain ⟨k1, rfl, _⟩ := int_cell f1
  rw [cells3] at f2
  obtain ⟨k2, rfl, _⟩ := int_cell f2
  rw [cells3] at f3
  obtain ⟨k3, rfl, _⟩ := int_cell f3
  rw [cells3] at f4
  obtain ⟨k4, rfl, _⟩ := int_cell f4
  rw [cells3] at f5
  obtain ⟨k5, rfl, _⟩ := int_cell f5
  rw [cells3] at f6
  obtain ⟨k6, rfl, _⟩ := int_cell f6
  rw [cells3] at f7
  obtain ⟨k7, rfl, _⟩ := int_cell f7
  rw [cells3] at f8
  obtain ⟨k8, rfl, _⟩ := int_cell f8
  rw [cells3] at f9
  obtain ⟨k9, rfl, _⟩ := int_cell f9
  rw [cells9] at f10
  rw [cells28] at f11
  obtain ⟨dat, hd, _⟩ := DataW.trod_string Try.underlying9 f10
  obtain rfl : a10 = .string dat := by simpa using hd
  have hs : ∃ sa sl sc, a11 = .slice sa sl sc := by
    rcases DataW.trod_slice Try.underlying28 f11 with ⟨h0, _⟩ | ⟨ad, ln, cp, _, _, _, _, h0, _⟩
    · exact ⟨none, 0, 0, by simpa using h0⟩
    · exact ⟨some ad, ln, cp, by simpa using h0⟩
  obtain ⟨sa, sl, sc, rfl⟩ := hs
  exact ⟨k0, k1, k2, k3, k4, k5, k6, k7, k8, k9, dat, sa, sl, sc, rfl⟩
theorem open_node {r : Reach} {b0 : Nat} {v : Value} {d : DataW H} {p : List MemPlace} (hv : Value.okWide Try.prog w r b0 30 v) (h : DataW.Trod enc Try.prog w base spare held 30 v d p) :
    ∃ (no dev kind mode o gr mt ct ln up : Int) (dat : ByteArray) (sa : Option Addr) (sl sc : Nat), v = .agg #[.int .i64 no, .int .i64 dev, .int .i64 kind, .int .i64 mode, .int .i64 o, .int .i64 gr, .int .i64 mt, .int .i64 ct, .int .i64 ln, .int .i64 up, .string dat, .slice sa sl sc] := by
  obtain ⟨cs, rfl, hsz⟩ := okWide_struct Try.underlying30 hv
  obtain ⟨fuel, hf⟩ := h
  obtain ⟨no, dev, kind, mode, o, gr, mt, ct, ln, up, dat, sa, sl, sc, hc⟩ := node_cells hf
  refine ⟨no, dev, kind, mode, o, gr, mt, ct, ln, up, dat, sa, sl, sc, ?_⟩
  have : (Value.agg cs).cells.toList = cs.toList := rfl
  rw [this] at hc
  congr 1
  exact Array.toList_inj.1 hc
theorem open_cred {r : Reach} {b0 : Nat} {v : Value} {d : DataW H} {p : List MemPlace} (hv : Value.okWide Try.prog w r b0 27 v) (h : DataW.Trod enc Try.prog w base spare held 27 v d p) :
    ∃ u g : Int, v = .agg #[.int .i64 u, .int .i64 g] := by
  obtain ⟨cs, rfl, hsz⟩ := okWide_struct Try.underlying27 hv
  obtain ⟨fuel, hf⟩ := h
  obtain ⟨xs, m, _, _, hl, hxl, hff⟩ := DataW.trod_struct Try.underlying27 hf
  rw [cells27] at hl
  have hcs : (Value.agg cs).cells.toList = cs.toList := rfl
  rw [hcs] at hl hff
  obtain ⟨a0, a1, he⟩ := list2 hl
  obtain ⟨y0, y1, rfl⟩ := list2 hxl
  rw [he] at hff
  have f0 : DataW.trod enc Try.prog w base spare held m 3 (List.take (Try.prog.cellsOf 3) (List.drop 0 [a0, a1])) = some y0 := hff 0 _ rfl
  have f1 : DataW.trod enc Try.prog w base spare held m 3 (List.take (Try.prog.cellsOf 3) (List.drop 1 [a0, a1])) = some y1 := hff 1 _ rfl
  rw [cells3] at f0 f1
  obtain ⟨k0, rfl, _⟩ := int_cell f0
  obtain ⟨k1, rfl, _⟩ := int_cell f1
  refine ⟨k0, k1, ?_⟩
  congr 1
  exact Array.toList_inj.1 he
theorem open_three {r : Reach} {b0 : Nat} {v : Value} {d : DataW H} {p : List MemPlace} (hv : Value.okWide Try.prog w r b0 31 v) (h : DataW.Trod enc Try.prog w base spare held 31 v d p) :
    ∃ a b c : Int, v = .agg #[.int .i64 a, .int .i64 b, .int .i64 c] := by
  obtain ⟨cs, rfl, hsz⟩ := okWide_array Try.underlying31 hv
  obtain ⟨fuel, hf⟩ := h
  obtain ⟨xs, m, _, _, hl, hxl, hff⟩ := DataW.trod_array Try.underlying31 hf
  rw [cells31] at hl
  have hcs : (Value.agg cs).cells.toList = cs.toList := rfl
  rw [hcs] at hl hff
  obtain ⟨a0, a1, a2, he⟩ := list3 hl
  obtain ⟨y0, y1, y2, rfl⟩ := list3 hxl
  rw [he] at hff
  have f0 := hff 0 (by omega)
  have f1 := hff 1 (by omega)
  have f2 := hff 2 (by omega)
  simp only [cells3] at f0 f1 f2
  obtain ⟨k0, rfl, _⟩ := int_cell f0
  obtain ⟨k1, rfl, _⟩ := int_cell f1
  obtain ⟨k2, rfl, _⟩ := int_cell f2
  refine ⟨k0, k1, k2, ?_⟩
  congr 1
  exact Array.toList_inj.1 he
theorem open_two_nodes {r : Reach} {b0 : Nat} {v : Value} {d : DataW H} {p : List MemPlace} (hv : Value.okWide Try.prog w r b0 34 v) (h : DataW.Trod enc Try.prog w base spare held 34 v d p) :
    ∃ (no1 dev1 kind1 mode1 o1 gr1 mt1 ct1 ln1 up1 : Int) (dat1 : ByteArray) (sa1 : Option Addr) (sl1 sc1 : Nat) (no2 dev2 kind2 mode2 o2 gr2 mt2 ct2 ln2 up2 : Int) (dat2 : ByteArray) (sa2 : Option Addr) (sl2 sc2 : Nat),
      v = .agg #[.int .i64 no1, .int .i64 dev1, .int .i64 kind1, .int .i64 mode1, .int .i64 o1, .int .i64 gr1, .int .i64 mt1, .int .i64 ct1, .int .i64 ln1, .int .i64 up1, .string dat1, .slice sa1 sl1 sc1, .int .i64 no2, .int .i64 dev2, .int .i64 kind2, .int .i64 mode2, .int .i64 o2, .int .i64 gr2, .int .i64 mt2, .int .i64 ct2, .int .i64 ln2, .int .i64 up2, .string dat2, .slice sa2 sl2 sc2] := by
  obtain ⟨cs, rfl, hsz⟩ := okWide_array Try.underlying34 hv
  obtain ⟨fuel, hf⟩ := h
  obtain ⟨xs, m, _, _, hl, hxl, hff⟩ := DataW.trod_array Try.underlying34 hf
  have hcs : (Value.agg cs).cells.toList = cs.toList := rfl
  rw [hcs] at hl hff
  obtain ⟨z0, z1, rfl⟩ := list2 hxl
  have f0 := hff 0 (by omega)
  have f1 := hff 1 (by omega)
  simp only [cells30, cells34] at f0 f1 hl
  obtain ⟨no1, dev1, kind1, mode1, o1, gr1, mt1, ct1, ln1, up1, dat1, sa1, sl1, sc1, hx⟩ := node_cells f0
  obtain ⟨no2, dev2, kind2, mode2, o2, gr2, mt2, ct2, ln2, up2, dat2, sa2, sl2, sc2, hy⟩ := node_cells f1
  refine ⟨no1, dev1, kind1, mode1, o1, gr1, mt1, ct1, ln1, up1, dat1, sa1, sl1, sc1, no2, dev2, kind2, mode2, o2, gr2, mt2, ct2, ln2, up2, dat2, sa2, sl2, sc2, ?_⟩
  have hj : cs.toList = cs.toList.take 12 ++ (cs.toList.drop 12).take 12 := by
    conv => lhs; rw [← List.take_append_drop 12 cs.toList]
    congr 1
    rw [List.take_of_length_le]; rw [List.length_drop]; omega
  congr 1
  apply Array.toList_inj.1
  rw [hj]
  rw [Nat.zero_mul, List.drop_zero] at hx
  rw [Nat.one_mul] at hy
  rw [hx, hy]; rfl
end
end Go.Proofs.Ytegiknfnhgjhfaa
