/- Layer 7 (sizes): Drop and Find of the program; may; few; Same of two equal rows. -/
import Derived.Test.YtmppjbimdonfmaaDoorSizR
import Derived.Test.YtmppjbimdonfmaaDoorNamC
namespace Go.Proofs.YtmppjbimdonfmaaDoor
open Go.ChangeShapes Go.WideShapes Go.ChangeAt Go.RowKit

theorem drop_none (w : World) (nm : List UInt8) : Calls Tryd.prog 51 #[.slice none 0 0, .string (bs nm)] w (Ret w (.slice none 0 0)) := by
  have hS := search_any none [] 0 nm w (.inl rfl) List.Pairwise.nil (by decide)
  rw [show pos [] nm = 0 from rfl, show has [] nm = false from rfl] at hS
  have HS := Lib.hid hS
  clear hS
  go_enter Tryd.func51, Tryd.ntmps51
  go_wp2_with fail
  refine (HS.out).mono ?_
  rintro e w1 ⟨rfl, b1⟩
  go_wp2_with fail
  go_ret
  exact Ret.mk rfl b1
set_option maxRecDepth 100000 in
set_option maxHeartbeats 2000000 in
theorem sdrop_no (b o cap : Nat) (l : List EntD) (nm : List UInt8) (w : World) (h : EntsAt w (some ⟨b, o, none⟩) l) (hr : Rise l) (hlen : l.length ≤ 1000) (hh : has l nm = false) : Calls Tryd.prog 51 #[.slice (some ⟨b, o, none⟩) l.length cap, .string (bs nm)] w (Ret w (.slice (some ⟨b, o, none⟩) l.length cap)) := by
  have hS := search_any (some ⟨b, o, none⟩) l cap nm w h hr (by omega)
  rw [hh] at hS
  have HS := Lib.hid hS
  clear hS hh
  go_enter Tryd.func51, Tryd.ntmps51
  go_wp2_with fail
  refine (HS.out).mono ?_
  rintro e w1 ⟨rfl, b1⟩
  go_wp2_with fail
  go_ret
  exact Ret.mk rfl b1
set_option maxRecDepth 100000 in
set_option maxHeartbeats 2000000 in
theorem sdrop_yes (b o cap : Nat) (l : List EntD) (nm : List UInt8) (w : World) (h : EntsAt w (some ⟨b, o, none⟩) l) (hr : Rise l) (hcap : l.length ≤ cap) (hcap2 : cap ≤ maxLen) (hlen : l.length ≤ 1000) (hh : has l nm = true) : Calls Tryd.prog 51 #[.slice (some ⟨b, o, none⟩) l.length cap, .string (bs nm)] w (OwnR w (spl l (pos l nm) (pos l nm + 1) [])) := by
  have hS := search_any (some ⟨b, o, none⟩) l cap nm w h hr (by omega)
  rw [hh] at hS
  have hpl := (has_lt hr hh).1
  obtain ⟨p, hp⟩ : ∃ p, p = pos l nm := ⟨_, rfl⟩
  rw [← hp] at hS hpl ⊢
  have HSp := fun (w1 : World) (hE : Ext w w1) => splice_some b o cap l p (p + 1) none 0 [] w1 (h.ext hE) (.inl rfl) (fun _ => rfl) (by omega) (by omega) hcap hcap2 hlen (by decide)
  obtain ⟨n, hn⟩ : ∃ n, n = l.length := ⟨_, rfl⟩
  rw [← hn] at hS HSp hlen ⊢
  have HSP := Lib.hid HSp
  have HS := Lib.hid hS
  have hpn : p < n := by omega
  clear hS hh HSp hp hn hpl
  have g1 : IntKind.i64.wrap ((p : Int) + 1) = ((p + 1 : Nat) : Int) := by rw [wrap_i64_in (by omega) (by omega)]; omega
  go_enter Tryd.func51, Tryd.ntmps51
  go_wp2_with fail
  refine (HS.out).mono ?_
  rintro e w1 ⟨rfl, b1⟩
  go_wp2_with fail
  refine (HSP.out w1 b1).mono ?_
  rintro e w2 ⟨v, rfl, ho, b2⟩
  go_wp2_with fail
  go_ret
  exact ⟨v, rfl, ho.base b1.size, b1.trans b2⟩
/-- What Drop leaves: as the reference has it. -/
theorem res_cell_tmp {P : Program} {fn : Func} {p t : Tmp} {ty : TypeId} (h : fn.results = #[.cell p ty, .tmp t]) (tmps : Array Value) (w : World) (g : Nat) (tt : TypeId) (cs : Array Value) (d : TypeDesc) (v : Value)
    (hp : tmps.getD p undef = .pointer (some ⟨g, 0, none⟩)) (hv : tmps.getD t undef = v) (hg : Has w g (.cells cs tt))
    (hu : P.underlying ty = some d) (hd : (match d with | .struct _ | .array _ _ => true | _ => false) = true) (hi : (P.info? ty).map (·.size) = some cs.size) :
    (results fn tmps).run P w = .ok (.tuple #[.agg cs, v]) w := by
  have hp' : tmps[p]?.getD undef = .pointer (some ⟨g, 0, none⟩) := by simpa using hp
  have hv' : tmps[t]?.getD undef = v := by simpa using hv
  have hl := run_loadVar_row (P := P) w g tt ty cs (0, 0) d hg hu hd hi
  simp [results, h, hp', hv', asAddr, hl]
theorem Has.set {w : World} {b : Nat} {C : Array Value} {t : TypeId} {fr : Nat × Nat} (h : Has w b (.cells C t fr)) (i : Nat) (v : Value) : Has (w.setCell ⟨b, i, none⟩ v) b (.cells (C.setIfInBounds i v) t fr) := by
  unfold Has at h ⊢
  unfold World.setCell
  rw [Array.getElem?_modify, if_pos rfl, h]; rfl
theorem line_size (a b c : Value) : (Tryd.prog.info? 48).map (·.size) = some (#[a, b, c] : Array Value).size := by
  have h : (Tryd.prog.info? 48).map (·.size) = some 3 := by kernel_rfl
  exact h
abbrev ZL : Array Value := #[.int .i64 0, .int .i64 0, .string ⟨#[]⟩]
def put3 (w : World) (b : Nat) (v0 v1 v2 : Value) : World := ((w.setCell ⟨b, 0, none⟩ v0).setCell ⟨b, 1, none⟩ v1).setCell ⟨b, 2, none⟩ v2
theorem Has.put3 {w : World} {b : Nat} {u0 u1 u2 : Value} {t : TypeId} {fr : Nat × Nat} (h : Has w b (.cells #[u0, u1, u2] t fr)) (v0 v1 v2 : Value) : Has (put3 w b v0 v1 v2) b (.cells #[v0, v1, v2] t fr) :=
  ((h.set 0 v0).set 1 v1).set 2 v2
theorem Ext.put3 {a w : World} (h : Ext a w) {b : Nat} (hp : a.heap.size ≤ b) (v0 v1 v2 : Value) : Ext a (put3 w b v0 v1 v2) :=
  ((h.setCell hp v0).setCell hp v1).setCell hp v2
def findV (l : List EntD) (nm : List UInt8) : Value := if has l nm = true then .tuple #[lineA (l.getD (pos l nm) ([], 0, 0)), .bool true] else .tuple #[.agg ZL, .bool false]
set_option maxRecDepth 100000 in
set_option maxHeartbeats 2000000 in
theorem sfind_any (A : Option Addr) (l : List EntD) (cap : Nat) (nm : List UInt8) (w : World) (h : EntsAt w A l) (hr : Rise l) (hlen : l.length ≤ 1000) : Calls Tryd.prog 54 #[.slice A l.length cap, .string (bs nm)] w (Ret w (findV l nm)) := by
  have E0 : Ext w (w.alloc (.cells ZL 48)) := (Ext.refl _).alloc _
  have hB0 := Has.new w (.cells ZL 48)
  have hS := search_any A l cap nm _ (h.ext E0) hr (by omega)
  cases hh : has l nm
  · rw [hh] at hS
    have HS := Lib.hid hS
    have hf : Hid (findV l nm = .tuple #[.agg ZL, .bool false]) := by show _ = _; unfold findV; rw [hh, if_neg (by decide)]
    have HB := Lib.hid hB0
    clear hS hh hB0
    go_enter Tryd.func54, Tryd.ntmps54
    go_wp2_with fail
    refine (HS.out).mono ?_
    rintro e w1 ⟨rfl, b1⟩
    have hB1 := HB.out.ext b1
    obtain ⟨c0, c1, c2⟩ : w1.cell? ⟨w.heap.size, 0, none⟩ = some (.int .i64 0) ∧ w1.cell? ⟨w.heap.size, 1, none⟩ = some (.int .i64 0) ∧ w1.cell? ⟨w.heap.size, 2, none⟩ = some (.string ⟨#[]⟩) := ⟨hB1.cell 0, hB1.cell 1, hB1.cell 2⟩
    obtain ⟨f0, f1, f2⟩ : w1.frozen? ⟨w.heap.size, 0, none⟩ = false ∧ w1.frozen? ⟨w.heap.size, 1, none⟩ = false ∧ w1.frozen? ⟨w.heap.size, 2, none⟩ = false := ⟨hB1.free 0, hB1.free 1, hB1.free 2⟩
    go_wp2_with fail
    refine bodyPost_ret (res_cell_tmp rfl _ _ w.heap.size _ ZL _ (.bool false) rfl rfl (hB1.put3 _ _ _) Tryd.underlying48 rfl (line_size _ _ _)) rfl ?_
    exact Ret.mk (by rw [hf.out]) ((E0.trans b1).put3 (Nat.le_refl _) _ _ _)
  · rw [hh] at hS
    obtain ⟨p, hp⟩ : ∃ p, p = pos l nm := ⟨_, rfl⟩
    have hpl : p < l.length := by rw [hp]; exact (has_lt hr hh).1
    have hf : Hid (findV l nm = .tuple #[lineA l[p], .bool true]) := by
      show _ = _
      unfold findV
      rw [hh, if_pos rfl, ← hp, List.getD_eq_getElem?_getD, List.getElem?_eq_getElem hpl]; rfl
    obtain ⟨n, hn⟩ : ∃ n, n = l.length := ⟨_, rfl⟩
    rw [← hp, ← hn] at hS
    rw [← hn]
    have HS := Lib.hid hS
    have HB := Lib.hid hB0
    have hpn : (p : Int) < (n : Int) := by omega
    obtain ⟨y, hy⟩ : ∃ y, y = l[p] := ⟨_, rfl⟩
    have HAT := Lib.hid (fun (w1 : World) (hE : Ext w w1) => h.at_ hE p hpl)
    rw [← hy] at hf HAT
    clear hS hh hp hB0 hn hpl hy
    unfold lineA at hf
    go_enter Tryd.func54, Tryd.ntmps54
    go_wp2_with fail
    refine (HS.out).mono ?_
    rintro e w1 ⟨rfl, b1⟩
    have hB1 := HB.out.ext b1
    obtain ⟨c0, c1, c2⟩ : w1.cell? ⟨w.heap.size, 0, none⟩ = some (.int .i64 0) ∧ w1.cell? ⟨w.heap.size, 1, none⟩ = some (.int .i64 0) ∧ w1.cell? ⟨w.heap.size, 2, none⟩ = some (.string ⟨#[]⟩) := ⟨hB1.cell 0, hB1.cell 1, hB1.cell 2⟩
    obtain ⟨f0, f1, f2⟩ : w1.frozen? ⟨w.heap.size, 0, none⟩ = false ∧ w1.frozen? ⟨w.heap.size, 1, none⟩ = false ∧ w1.frozen? ⟨w.heap.size, 2, none⟩ = false := ⟨hB1.free 0, hB1.free 1, hB1.free 2⟩
    obtain ⟨b, o, rfl, hbw, d0, d1, d2⟩ := HAT.out w1 (E0.trans b1)
    go_wp2_with fail
    refine bodyPost_ret (res_cell_tmp rfl _ _ w.heap.size _ _ _ (.bool true) rfl rfl (hB1.put3 _ _ _) Tryd.underlying48 rfl (line_size _ _ _)) rfl ?_
    exact Ret.mk (by rw [hf.out]) ((E0.trans b1).put3 (Nat.le_refl _) _ _ _)
end Go.Proofs.YtmppjbimdonfmaaDoor
