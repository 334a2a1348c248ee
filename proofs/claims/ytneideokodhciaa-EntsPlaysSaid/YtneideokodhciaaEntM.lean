/- Layer 11 (ents): Insert of one entry ahead of others. -/
import Derived.Test.YtneideokodhciaaEntL
namespace Go.Proofs.Ytneideokodhciaa
open Go.ChangeShapes Go.WideShapes Go.ChangeAt Go.RowKit

theorem rows_grow {R C1 X C2 : List Value} {p n : Nat} (h1 : C1.length = p * 2) (hx : X.length = 2) (h2 : C2.length = (n - p) * 2) (hp : p ≤ n) (hR : R.take (p * 2) = C1) (hl : (n + 1) * 2 ≤ R.length) :
    ∀ R2 R3, R2 = R.take (p * 2) ++ X ++ R.drop (p * 2 + X.length) → R3 = R2.take ((p + 1) * 2) ++ C2 ++ R2.drop ((p + 1) * 2 + C2.length) → R2.length = R.length ∧ R3.length = R.length ∧ R3.take ((n + 1) * 2) = C1 ++ X ++ C2 := by
  rintro R2 R3 e2 e3
  have l2 : R2.length = R.length := by rw [e2]; simp; omega
  have t2 : R2.take ((p + 1) * 2) = C1 ++ X := by
    rw [e2, hR, List.take_append_of_le_length (by simp; omega), List.take_of_length_le (by simp; omega)]
  refine ⟨l2, by rw [e3]; simp; omega, ?_⟩
  rw [e3, t2, List.take_append_of_le_length (by simp; omega), List.take_of_length_le (by simp; omega)]
theorem rows_room {R C1 X C2 : List Value} {p n : Nat} (h1 : C1.length = p * 2) (hx : X.length = 2) (h2 : C2.length = (n - p) * 2) (hp : p ≤ n) (hR : R.take (p * 2) = C1) (hl : (n + 1) * 2 ≤ R.length) :
    ∀ R2 R3, R2 = R.take ((p + 1) * 2) ++ C2 ++ R.drop ((p + 1) * 2 + C2.length) → R3 = R2.take (p * 2) ++ X ++ R2.drop (p * 2 + X.length) → R2.length = R.length ∧ R3.length = R.length ∧ R3.take ((n + 1) * 2) = C1 ++ X ++ C2 := by
  rintro R2 R3 e2 e3
  have l2 : R2.length = R.length := by rw [e2]; simp; omega
  have lt : (R.take ((p + 1) * 2)).length = (p + 1) * 2 := by rw [List.length_take]; omega
  have t2 : R2.take (p * 2) = C1 := by
    rw [e2, List.append_assoc, List.take_append_of_le_length (by omega), List.take_take, Nat.min_eq_left (by omega), hR]
  have d2 : R2.drop (p * 2 + X.length) = C2 ++ R.drop ((p + 1) * 2 + C2.length) := by
    rw [e2, List.append_assoc, hx, List.drop_append_of_le_length (by omega), List.drop_of_length_le (by omega), List.nil_append]
  refine ⟨l2, by rw [e3]; simp; omega, ?_⟩
  rw [e3, t2, d2, ← List.append_assoc, List.take_append_of_le_length (by simp; omega), List.take_of_length_le (by simp; omega)]
theorem entCells_ins (l : List EntD) (p : Nat) (x : EntD) : entCells (insP l p x) = entCells (l.take p) ++ entCells [x] ++ entCells (l.drop p) := by
  unfold insP
  rw [show x :: l.drop p = [x] ++ l.drop p from rfl, entCells_append, entCells_append, List.append_assoc]
theorem insP_len (l : List EntD) (p : Nat) (x : EntD) (h : p ≤ l.length) : (insP l p x).length = l.length + 1 := by
  unfold insP; simp; omega
theorem entCells_take (l : List EntD) (p : Nat) : (entCells l).take (p * 2) = entCells (l.take p) := by
  conv => lhs; rw [← List.take_append_drop p l, entCells_append]
  have : (entCells (l.take p)).length ≤ p * 2 := by rw [entCells_len, List.length_take]; omega
  rcases Nat.lt_or_ge l.length p with h | h
  · rw [List.drop_of_length_le (by omega)]
    show List.take (p * 2) (_ ++ []) = _
    rw [List.append_nil, List.take_of_length_le this]
  · rw [List.take_append_of_le_length (by rw [entCells_len, List.length_take]; omega), List.take_of_length_le this]
theorem below_setRow {B g : Nat} {w0 w : World} (hb : Below B w0 w) (hBg : B ≤ g) (cs : Array Value) : Below B w0 (w.setRow g cs) :=
  hb.trans ⟨rfl, rfl, rfl, by simp [World.setRow], fun k hk => setRow_other w g k cs (by omega)⟩
theorem sizeEnt : (Try.prog.info? 25).map (·.size) = some 2 := by kernel_rfl
set_option maxRecDepth 100000 in
set_option maxHeartbeats 2000000 in
theorem insert_grow (B vb g c p : Nat) (l : List EntD) (x : EntD) (w : World) (ho : OwnE w B (.slice (some ⟨g, 0, none⟩) l.length c) l) (hB : B ≤ w.heap.size) (hx : Has w vb (.cells #[.string (bs x.1), .int .i64 x.2] 25)) (hp : p < l.length) (hlen : l.length ≤ 999999) (hroom : c < l.length + 1) : Calls Try.prog 40 #[.slice (some ⟨g, 0, none⟩) l.length c, .int .i64 p, .slice (some ⟨vb, 0, none⟩) 1 1] w (InsR B w (insP l p x)) := by
  obtain ⟨A', c', hv, hc, hcm, he⟩ := ho.at_
  injection hv with hA hn' hcc
  subst hA hcc
  obtain ⟨n, hn⟩ : ∃ n, n = l.length := ⟨_, rfl⟩
  obtain ⟨i0, hi, hz0, hz1, hz2⟩ := info_parts infoEnt
  have hgw : g < w.heap.size := by
    rcases he with h | ⟨b', o', h, hb, _⟩
    · rw [h] at hp; simp at hp
    · injection h with h; injection h with h1 h2; omega
  have hBg : B ≤ g := (ho.lt g rfl).1
  have hcl := he.cells
  have hdrop := he.drop p
  rw [← hn] at hc hlen hroom hp ⊢
  obtain rfl : c = n := by omega
  have HN := Lib.hid hn
  have hold : (Builtin.firstCells i0.size p (.slice (some ⟨g, 0, none⟩) p c)).run Try.prog w.drew = .ok (entCells (l.take p)).toArray w.drew := by
    rw [hz1]
    refine run_firstCells_some w.drew 2 p ⟨g, 0, none⟩ p c (entCells (l.take p)) (by rw [entCells_len, List.length_take]; omega) (fun j v hj => ?_)
    rw [Addr.add_lit]
    refine hcl j v ?_
    rw [← entCells_take, List.getElem?_take] at hj
    split at hj
    · exact hj
    · cases hj
  have hrz := fun ty => Lib.run_append_grow_zeros w 22 3 ty 25 i0 _ .i64 .i64 Try.underlying22 Try.underlying3 hi hz0 (some ⟨g, 0, none⟩) p c (entCells (l.take p)) hold (c + 1 - p) (by omega) (by omega) (by omega) (by omega) (by rw [hz2]; omega) (by rw [hz2, show p + (c + 1 - p) = c + 1 by omega]; exact growslice_fits (by omega) (by omega))
  have hik : p + (c + 1 - p) = c + 1 := by omega
  rw [hik] at hrz
  have hge := grownCap_ge w (c + 1) c 25
  have hle := grownCap_le_maxLen w (c + 1) c 25 (by unfold maxLen; omega)
  generalize grownCap w (c + 1) c 25 = G at hrz hge hle
  have hG63 : G ≤ 9223372036854775807 := by unfold maxLen at hle; omega
  obtain ⟨R, hR⟩ : ∃ R : Array Value, R = (entCells (l.take p)).toArray ++ Builtin.zeroCells (Value.agg #[.string ⟨#[]⟩, .int .i64 0]).cells (c + 1 - p) ++ Builtin.zeroCells (Value.agg #[.string ⟨#[]⟩, .int .i64 0]).cells (G - (c + 1)) := ⟨_, rfl⟩
  obtain ⟨W1, hW1⟩ : ∃ W1, W1 = w.drew.alloc (.cells R 25) := ⟨_, rfl⟩
  rw [← hR, ← hW1] at hrz
  have hkk : (c : Int) + 1 - (p : Int) = ((c + 1 - p : Nat) : Int) := by omega
  have E1 : Ext w W1 := by rw [hW1]; exact ((Ext.refl _).drew).alloc _
  have hb1 : Has W1 w.heap.size (.cells R 25) := by rw [hW1]; exact Has.new w.drew _
  have hRl : R.size = G * 2 := by
    rw [hR, Array.size_append, Array.size_append, zeroCells_size, zeroCells_size]
    simp only [List.size_toArray, entCells_len, List.length_take]
    show _ + (c + 1 - p) * 2 + (G - (c + 1)) * 2 = _
    omega
  have hRt : R.toList.take (p * 2) = entCells (l.take p) := by
    rw [hR]
    have hl : (entCells (l.take p)).length = p * 2 := by rw [entCells_len, List.length_take]; omega
    rw [Array.toList_append, Array.toList_append, List.append_assoc, List.take_append_of_le_length (by simp; omega), List.take_of_length_le (by simp; omega)]
  have hX1 := hx.ext E1
  have hcpA := fun ty dc => run_copy_two (P := Try.prog) W1 22 22 ty 25 w.heap.size (p * 2) (c + 1 - p) dc ⟨vb, 0, none⟩ 1 1 1 R 25 (entCells [x]) Try.underlying22 sizeEnt hb1 (by simp only [Nat.min_def]; split <;> omega) rfl
    (fun j u hu => by rw [Addr.add_lit]; exact EntsAt.cells (ents_one hX1) j u hu) (by show p * 2 + 2 ≤ R.size; rw [hRl]; omega) (entCells_one [x])
  obtain ⟨R2, hR2⟩ : ∃ R2 : List Value, R2 = R.toList.take (p * 2) ++ entCells [x] ++ R.toList.drop (p * 2 + (entCells [x]).length) := ⟨_, rfl⟩
  obtain ⟨W2, hW2⟩ : ∃ W2, W2 = W1.setRow w.heap.size R2.toArray := ⟨_, rfl⟩
  simp only [← hR2, ← hW2] at hcpA
  have hb2 : Has W2 w.heap.size (.cells R2.toArray 25) := by rw [hW2]; exact setRow_heap W1 w.heap.size R R2.toArray 25 (0, 0) hb1
  have E2 : Below B w W2 := by rw [hW2]; exact below_setRow (Below.mono E1 hB) hB _
  have hdr2 : EntsAt W2.drew (some ⟨g, 0 + p * 2, none⟩) (l.drop p) := by
    rw [hW2]
    rcases hdrop.ext E1 with h | ⟨b', o', h, hb, h2⟩
    · exact .inl h
    · injection h with h; injection h with q1 q2
      subst q1 q2
      refine .inr ⟨_, _, rfl, by simpa using hb, fun k hk => ?_⟩
      have := h2 k hk
      rw [← cell_setRow_other W1 w.heap.size R2.toArray ⟨g, 0 + p * 2 + k * 2, none⟩ (by show g ≠ _; omega), ← cell_setRow_other W1 w.heap.size R2.toArray ⟨g, 0 + p * 2 + k * 2 + 1, none⟩ (by show g ≠ _; omega)] at this
      exact this
  have hdl : (entCells (l.drop p)).length = (c - p) * 2 := by rw [entCells_len, List.length_drop, ← hn]
  have hl1 : (entCells (l.take p)).length = p * 2 := by rw [entCells_len, List.length_take]; omega
  have hcpB := fun ty dc sc => run_copy_two (P := Try.prog) W2.drew 22 22 ty 25 w.heap.size ((p + 1) * 2) (c + 1 - (p + 1)) dc ⟨g, p * 2, none⟩ (c - p) sc (c - p) R2.toArray 25 (entCells (l.drop p)) Try.underlying22 sizeEnt hb2 (by simp only [Nat.min_def]; split <;> omega) hdl
    (fun j u hu => by rw [Addr.add_lit]; have := EntsAt.cells hdr2 j u hu; rwa [Nat.zero_add] at this) (by
      rw [hdl]
      have : R2.length = R.toList.length := by rw [hR2]; simp; rw [hRl]; show _ + (2 + (_ - (_ + 2))) = _; omega
      simp only [List.size_toArray, this, Array.length_toList, hRl]; omega) (entCells_one _)
  obtain ⟨R3, hR3⟩ : ∃ R3 : List Value, R3 = R2.take ((p + 1) * 2) ++ entCells (l.drop p) ++ R2.drop ((p + 1) * 2 + (entCells (l.drop p)).length) := ⟨_, rfl⟩
  obtain ⟨W3, hW3⟩ : ∃ W3, W3 = W2.drew.setRow w.heap.size R3.toArray := ⟨_, rfl⟩
  simp only [← hR3, ← hW3] at hcpB
  have hb3 : Has W3 w.heap.size (.cells R3.toArray 25) := by rw [hW3]; exact setRow_heap W2.drew w.heap.size R2.toArray R3.toArray 25 (0, 0) hb2
  have E3 : Below B w W3 := by rw [hW3]; exact below_setRow (Below.drew E2) hB _
  obtain ⟨k1, k2, k3⟩ := rows_grow hl1 (show (entCells [x]).length = 2 from rfl) hdl (by omega) hRt (by rw [Array.length_toList, hRl]; omega) R2 R3 hR2 hR3
  have hfin : Hid (OwnE W3 B (.slice (some ⟨w.heap.size, 0, none⟩) (c + 1) G) (insP l p x)) := by
    show OwnE _ _ _ _
    unfold OwnE
    rw [insP_len l p x (by omega), ← hn]
    refine ⟨by rw [entCells_len, insP_len l p x (by omega), ← hn], .inr ⟨w.heap.size, G, R3.toArray, rfl, hB, hb3, hge, hle, ?_, ?_⟩⟩
    · simp only [List.size_toArray, k2, Array.length_toList, hRl]
    · rw [entCells_ins]; exact k3
  have hfinE := Lib.hid E3
  simp only [← hkk] at hrz
  have HRZ := Lib.hid hrz
  have HCA := Lib.hid hcpA
  have HCB := Lib.hid hcpB
  have g1 : IntKind.i64.wrap ((p : Int) + 1) = (p : Int) + 1 := wrap_i64_in (by omega) (by omega)
  have g2 : (0 : Int) ≤ (p : Int) + 1 := by omega
  have g3 : ((p : Int) + 1).toNat = p + 1 := by omega
  have hGi : ¬ (G = p) := by omega
  have hGim : ¬ (G = p + 1) := by omega
  have hci : ¬ (c = p) := by omega
  have hpc : (p : Int) ≤ (c : Int) := by omega
  have hne : ¬ ((p : Int) = (c : Int)) := by omega
  clear ho hn hR hRl hRt hW1 hb1 hX1 hcpA hR2 hW2 hb2 E2 hdr2 hdl hl1 hcpB hR3 hW3 hb3 E3 k1 k2 k3 hrz hold hik hdrop hcl he E1 hx hn' hkk hle
  go_enter Try.func40, Try.ntmps40
  go_wp2_with (first
    | (at_builtin; refine Lib.wpList_append_run _ rfl _ _ 22 3 rfl _ _ rfl rfl _ _ (HRZ.out _) ?_)
    | (with_reducible refine wpList_copy_run2 _ rfl (.tmp 43) (.tmp 44) 22 22 rfl _ _ rfl rfl (HCA.out _ _) ?_))
  go_region_law (refine step_copy_run2 rfl _ _ 22 22 rfl (.slice (some ⟨w.heap.size, (p + 1) * 2, none⟩) (c + 1 - (p + 1)) (G - (p + 1))) (.slice (some ⟨g, p * 2, none⟩) (c - p) (c - p)) (by simp [Act.eval, Act.put]) (by simp [Act.eval, Act.put]) (HCB.out _ _ _) ?_)
  go_wp2_with fail
  go_ret
  exact ⟨_, rfl, hfin.out, hfinE.out⟩
theorem has_shape {w : World} {b : Nat} {C : Array Value} {t : TypeId} {fr : Nat × Nat} (h : Has w b (.cells C t fr)) : w.shape? b = some (t, C.size) := by
  unfold Has at h
  simp [World.shape?, h]
set_option maxRecDepth 100000 in
set_option maxHeartbeats 2000000 in
theorem insert_room (B vb g c p : Nat) (l : List EntD) (x : EntD) (w : World) (ho : OwnE w B (.slice (some ⟨g, 0, none⟩) l.length c) l) (hB : B ≤ w.heap.size) (hx : Has w vb (.cells #[.string (bs x.1), .int .i64 x.2] 25)) (hvg : vb ≠ g) (hp : p < l.length) (hlen : l.length ≤ 999999) (hroom : l.length + 1 ≤ c) : Calls Try.prog 40 #[.slice (some ⟨g, 0, none⟩) l.length c, .int .i64 p, .slice (some ⟨vb, 0, none⟩) 1 1] w (InsR B w (insP l p x)) := by
  obtain ⟨A', c', hv, hc, hcm, he⟩ := ho.at_
  injection hv with hA hn' hcc
  subst hA hcc
  obtain ⟨n, hn⟩ : ∃ n, n = l.length := ⟨_, rfl⟩
  have hBg : B ≤ g := (ho.lt g rfl).1
  obtain ⟨R, hbR, hRl, hRt⟩ : ∃ R : Array Value, Has w g (.cells R 25) ∧ R.size = c * 2 ∧ R.toList.take (l.length * 2) = entCells l := by
    rcases ho.2 with ⟨h, _⟩ | ⟨g', cap, cur, h, _, hg, _, _, hs, ht⟩
    · cases h
    · injection h with h1 h2 h3
      injection h1 with h1
      injection h1 with h1
      subst h1 h3
      exact ⟨cur, hg, hs, ht⟩
  have hdrop := he.drop p
  rw [← hn] at hc hlen hroom hp hRt ⊢
  have HN := Lib.hid hn
  have hRp : R.toList.take (p * 2) = entCells (l.take p) := by
    rw [← entCells_take, ← hRt, List.take_take, Nat.min_eq_left (by omega)]
  have hdl : (entCells (l.drop p)).length = (n - p) * 2 := by rw [entCells_len, List.length_drop, ← hn]
  have hl1 : (entCells (l.take p)).length = p * 2 := by rw [entCells_len, List.length_take]; omega
  have hgw := hbR.lt
  have hov : ∀ W, W = w → ∀ lb cb, (callFunc 48 #[.slice (some ⟨vb, 0, none⟩) 1 1, .slice (some ⟨g, (p + 1) * 2, none⟩) lb cb]).run Try.prog W = .ok (.value (.bool false)) W := fun W hW lb cb => by
    subst hW
    rw [run_callFunc_extern Try.func48 (by kernel_rfl) (by kernel_rfl) (by kernel_rfl) (e := Extern.SlicesOverlaps.overlaps #[22, 22] #[4]) (by kernel_rfl),
      Lib.run_overlaps_apart _ 22 4 25 Try.underlying22 2 Try.sizeOf25 ⟨vb, 0, none⟩ ⟨g, (p + 1) * 2, none⟩ 1 1 lb cb hvg _ _ _ _ (has_shape hx) (has_shape hbR) (by rw [hRl]; omega) (hx.free 0) (hx.free 2)]
    rfl
  have hcpA := fun ty dc sc => run_copy_two (P := Try.prog) w.drew 22 22 ty 25 g ((p + 1) * 2) (n - p) dc ⟨g, p * 2, none⟩ (n + 1 - p) sc (n - p) R 25 (entCells (l.drop p)) Try.underlying22 sizeEnt hbR (by simp only [Nat.min_def]; split <;> omega) hdl
    (fun j u hu => by rw [Addr.add_lit]; have := EntsAt.cells hdrop j u hu; rwa [Nat.zero_add] at this) (by rw [hdl, hRl]; omega) (entCells_one _)
  obtain ⟨R2, hR2⟩ : ∃ R2 : List Value, R2 = R.toList.take ((p + 1) * 2) ++ entCells (l.drop p) ++ R.toList.drop ((p + 1) * 2 + (entCells (l.drop p)).length) := ⟨_, rfl⟩
  obtain ⟨W2, hW2⟩ : ∃ W2, W2 = w.drew.setRow g R2.toArray := ⟨_, rfl⟩
  simp only [← hR2, ← hW2] at hcpA
  have hb2 : Has W2 g (.cells R2.toArray 25) := by rw [hW2]; exact setRow_heap w.drew g R R2.toArray 25 (0, 0) hbR
  have E2 : Below B w W2 := by rw [hW2]; exact below_setRow (Below.drew (Below.refl B w)) hBg _
  have hX2 : Has W2 vb (.cells #[.string (bs x.1), .int .i64 x.2] 25) := by
    rw [hW2]; unfold Has; rw [setRow_other w.drew g vb R2.toArray hvg]; exact hx
  have hR2l : R2.length = c * 2 := by rw [hR2]; simp only [List.length_append, List.length_take, List.length_drop, Array.length_toList, hRl, hdl]; omega
  have hcpB := fun ty dc => run_copy_two (P := Try.prog) W2 22 22 ty 25 g (p * 2) (n + 1 - p) dc ⟨vb, 0, none⟩ 1 1 1 R2.toArray 25 (entCells [x]) Try.underlying22 sizeEnt hb2 (by simp only [Nat.min_def]; split <;> omega) rfl
    (fun j u hu => by rw [Addr.add_lit]; exact EntsAt.cells (ents_one hX2) j u hu) (by simp only [List.size_toArray, hR2l]; show p * 2 + 2 ≤ _; omega) (entCells_one [x])
  obtain ⟨R3, hR3⟩ : ∃ R3 : List Value, R3 = R2.take (p * 2) ++ entCells [x] ++ R2.drop (p * 2 + (entCells [x]).length) := ⟨_, rfl⟩
  obtain ⟨W3, hW3⟩ : ∃ W3, W3 = W2.setRow g R3.toArray := ⟨_, rfl⟩
  simp only [← hR3, ← hW3] at hcpB
  have hb3 : Has W3 g (.cells R3.toArray 25) := by rw [hW3]; exact setRow_heap W2 g R2.toArray R3.toArray 25 (0, 0) hb2
  have E3 : Below B w W3 := by rw [hW3]; exact below_setRow E2 hBg _
  obtain ⟨k1, k2, k3⟩ := rows_room hl1 (show (entCells [x]).length = 2 from rfl) hdl (by omega) hRp (by rw [Array.length_toList, hRl]; omega) R2 R3 hR2 hR3
  have hfin : Hid (OwnE W3 B (.slice (some ⟨g, 0, none⟩) (n + 1) c) (insP l p x)) := by
    show OwnE _ _ _ _
    unfold OwnE
    rw [insP_len l p x (by omega), ← hn]
    refine ⟨by rw [entCells_len, insP_len l p x (by omega), ← hn], .inr ⟨g, c, R3.toArray, rfl, hBg, hb3, hroom, hcm, ?_, ?_⟩⟩
    · simp only [List.size_toArray, k2, Array.length_toList, hRl]
    · rw [entCells_ins]; exact k3
  have hfinE := Lib.hid E3
  have HCA := Lib.hid hcpA
  have HCB := Lib.hid hcpB
  have hov2 := fun lb cb => hov w rfl lb cb
  have g1 : IntKind.i64.wrap ((p : Int) + 1) = (p : Int) + 1 := wrap_i64_in (by omega) (by omega)
  have g2 : (0 : Int) ≤ (p : Int) + 1 := by omega
  have g3 : ((p : Int) + 1).toNat = p + 1 := by omega
  have hcp : ¬ (c = p) := by omega
  have hcp1 : ¬ (c = p + 1) := by omega
  have hpn : (p : Int) ≤ (n : Int) + 1 := by omega
  have hpn2 : p ≤ n := by omega
  have hpn3 : p ≤ n + 1 := by omega
  have hne : ¬ ((p : Int) = (n : Int)) := by omega
  have hcc : c ≤ 9223372036854775807 := by unfold maxLen at hcm; omega
  clear ho hn hbR hRl hRt hx hov hcpA hR2 hW2 hb2 E2 hX2 hR2l hcpB hR3 hW3 hb3 E3 k1 k2 k3 hdrop hdl hl1 hRp he hn' hcm
  go_enter Try.func40, Try.ntmps40
  go_wp2_with (simp only [hov2])
  go_region_law (refine step_copy_run2 rfl _ _ 22 22 rfl (.slice (some ⟨g, (p + 1) * 2, none⟩) (n - p) (c - (p + 1))) (.slice (some ⟨g, p * 2, none⟩) (n + 1 - p) (c - p)) (by simp [Act.eval, Act.put]) (by simp [Act.eval, Act.put]) (HCA.out _ _ _) ?_)
  go_wp2_with (with_reducible refine wpList_copy_run2 _ rfl (.tmp 80) (.tmp 81) 22 22 rfl _ _ rfl rfl (HCB.out _ _) ?_)
  go_ret
  exact ⟨_, rfl, hfin.out, hfinE.out⟩
end Go.Proofs.Ytneideokodhciaa
