/- Layer 15: what a path's call tells, in a box. | Layer 15: the program's Path. -/
import Derived.Test.YtjblimclakfhfaaBunL
import Derived.Scope
namespace Go.Proofs.Ytjblimclakfhfaa
open Go.ChangeShapes Go.WideShapes Go.ChangeAt Go.RowKit

abbrev fndC (x : FndD) : List Value := [.int .i64 x.dir, .string (bs x.name), .int .i64 x.no, .bool x.slash]
theorem infoFound15 : (Try.prog.info? 33).map (·.size) = some 4 := by kernel_rfl
theorem fndC_one (x : FndD) : ∀ u ∈ fndC x, u.oneCell' = true := by
  intro u hu
  simp only [List.mem_cons, List.not_mem_nil, or_false] at hu
  rcases hu with rfl | rfl | rfl | rfl <;> rfl
theorem Has.putFnd {w : World} {b : Nat} {t : TypeId} {x : FndD} (y : FndD) (h : Has w b (.cells (fndC x).toArray t)) : Has (w.setCells b 0 (fndC y)) b (.cells (fndC y).toArray t) := by
  have h0 := Has.setCell h 0 (.int .i64 y.dir)
  have h1 := Has.setCell h0 1 (.string (bs y.name))
  have h2 := Has.setCell h1 2 (.int .i64 y.no)
  have h3 := Has.setCell h2 3 (.bool y.slash)
  exact h3
theorem found_set {w : World} {b : Nat} {t : TypeId} {x : FndD} (y : FndD) (h : Has w b (.cells (fndC x).toArray t)) :
    Has ((((w.setCell ⟨b, 0, none⟩ (.int .i64 y.dir)).setCell ⟨b, 1, none⟩ (.string (bs y.name))).setCell ⟨b, 2, none⟩ (.int .i64 y.no)).setCell ⟨b, 3, none⟩ (.bool y.slash)) b (.cells (fndC y).toArray t) ∧ Only [b] w ((((w.setCell ⟨b, 0, none⟩ (.int .i64 y.dir)).setCell ⟨b, 1, none⟩ (.string (bs y.name))).setCell ⟨b, 2, none⟩ (.int .i64 y.no)).setCell ⟨b, 3, none⟩ (.bool y.slash)) :=
  ⟨h.putFnd y, only_setCells (fndC y) 0 w⟩
theorem wpList_store_found {ops : Array Oper} {rest : List Oper} {op : Oper} {a : Act} {w : World} {Q : Exit → Act → World → Prop} (hgd : op.guard = none) (x y : Operand) (ho : op.op = .store 33 x y)
    (b : Nat) (d d' : FndD) (hx : a.eval x = .pointer (some ⟨b, 0, none⟩)) (hy : a.eval y = .agg (fndC d').toArray) (hb : Has w b (.cells (fndC d).toArray 33))
    (h : ∀ w', Has w' b (.cells (fndC d').toArray 33) → Only [b] w w' → wpList Try.prog ops Q rest (a.put op.dst undef) w') : wpList Try.prog ops Q (op :: rest) a w := by
  refine wpList_store_mid hgd 33 x y ho b 0 (fndC d').toArray hx hy hb.there infoFound15 (all_oneCell_toArray (cs := fndC d') (fndC_one d')) ?_
  exact h _ (hb.putFnd d') (only_setCells (fndC d') 0 w)
theorem res_found {fn : Func} {p t : Tmp} (h : fn.results = #[.cell p 33, .tmp t]) (tmps : Array Value) (w : World) (g : Nat) (d : FndD) (v : Value)
    (hp : tmps.getD p undef = .pointer (some ⟨g, 0, none⟩)) (hv : tmps.getD t undef = v) (hg : Has w g (.cells (fndC d).toArray 33)) :
    (results fn tmps).run Try.prog w = .ok (.tuple #[.agg (fndC d).toArray, v]) w :=
  res_cell_tmp h tmps w g 33 _ _ v hp hv hg Try.underlying33 rfl infoFound15
theorem part_len {d p : List UInt8} (h : p ∈ partsN d) : p.length ≤ d.length := by
  have key : ∀ (L : List (List UInt8)), p ∈ L → p.length ≤ total L := by
    intro L hp
    induction L with
    | nil => cases hp
    | cons x L ih =>
      unfold total
      rcases List.mem_cons.1 hp with rfl | hp
      · omega
      · have := ih hp; omega
  have := key _ h
  have := parts_total d
  omega
theorem from_one15 (bl o n m cap : Nat) (h0 : n = m + 1) (hc : n ≤ cap) : ∃ X : Addr, (∀ W, (Instr.slice 25 (.slice (some ⟨bl, o, none⟩) n cap) (some (.int .i64 1)) none none).run Try.prog W = .ok (.slice (some X) m (cap - 1)) W) ∧ (0 < m → X = ⟨bl, o + 1, none⟩) ∧ X.block = bl := by
  have h4 : n - 1 = m := by omega
  have hu := Try.underlying25
  have h1 : (1 : Int) ≤ n := by omega
  have hi : (Try.prog.info? 9).map (·.size) = some 1 := by kernel_rfl
  by_cases h : cap = 1
  · refine ⟨⟨bl, o, none⟩, fun W => ?_, fun h2 => by omega, rfl⟩
    subst h
    go_simp
    intro h; omega
  · refine ⟨⟨bl, o + 1, none⟩, fun W => ?_, fun _ => rfl, rfl⟩
    go_simp
    intro h; omega
end Go.Proofs.Ytjblimclakfhfaa

namespace Go.Proofs.Ytjblimclakfhfaa
open Go.ChangeShapes Go.WideShapes Go.ChangeAt Go.RowKit

def lenV : Value → Nat
  | .slice _ n _ => n
  | _ => 0
/-- What is left of a way: links, then names. -/
def tripM (w : World) (b : Nat) : Nat := (9 - (intOf ((w.cell? ⟨b, 5, none⟩).getD undef)).toNat) * 20000000 + lenV ((w.cell? ⟨b, 4, none⟩).getD undef)
theorem tripM_eq {w : World} {b bW : Nat} {cu cg at_ : Int} {A : Option Addr} {len cap h : Nat} {m : Bool} (t : TripAt w b bW cu cg at_ A len cap (h : Int) m) : tripM w b = (9 - h) * 20000000 + len := by
  have h5 := Has.cell t 5
  have h4 := Has.cell t 4
  unfold tripM
  rw [h5, h4]
  simp [intOf, lenV]
def FndR (w : World) (R : FndD × Int) : Ending → World → Prop := Ret w (.tuple #[.agg (fndC R.1).toArray, .int .i64 R.2])
theorem FndR.mk {w w0 w' : World} {b8 : Nat} {R : FndD × Int} {d : FndD} {e : Int} (hE : Ext w w0) (hb : w.heap.size ≤ b8) (O : Only [b8] w0 w') (h : R = (d, e)) : FndR w R (.returned (.tuple #[.agg (fndC d).toArray, .int .i64 e])) w' := by
  subst h
  exact ⟨rfl, O.after hE (fun x hx => by rw [List.mem_singleton] at hx; omega)⟩
set_option maxRecDepth 100000 in
set_option maxHeartbeats 16000000 in
theorem ppath15_any {c : Nat} (B : Nat) (g : GhW) (S : TreeD) (cu cg : Int) (p0 : List UInt8) (fol : Bool) (w : World) (h : WAt w B g S) (T : Tre c S) (hc : c ≤ 1000000) (hp0 : p0.length ≤ 1000000) :
    Calls Try.prog 10 #[.pointer (some ⟨g.bW, 0, none⟩), .agg #[.int .i64 cu, .int .i64 cg], .string (bs p0), .bool fol] w (FndR w (pathF S cu cg p0 fol)) := by
  obtain ⟨W0, hW0⟩ : ∃ W, W = (w.alloc (.cells #[.int .i64 cu, .int .i64 cg] 24)).alloc (.cells #[.int .i64 0, .string ⟨#[]⟩, .int .i64 0, .bool false] 33) := ⟨_, rfl⟩
  obtain ⟨b5, hb5⟩ : ∃ b, b = w.heap.size := ⟨_, rfl⟩
  obtain ⟨b8, hb8⟩ : ∃ b, b = w.heap.size + 1 := ⟨_, rfl⟩
  have E0 : Ext w W0 := by rw [hW0]; exact ((Ext.refl _).alloc _).alloc _
  have F0 : Has W0 b8 (.cells (fndC fndZ).toArray 33) := by rw [hW0, hb8]; have := Has.new (w.alloc (.cells #[.int .i64 cu, .int .i64 cg] 24)) (.cells #[.int .i64 0, .string ⟨#[]⟩, .int .i64 0, .bool false] 33); rw [World.size_alloc] at this; exact this
  have C0 : Has W0 b5 (.cells #[.int .i64 cu, .int .i64 cg] 24) := by rw [hW0, hb5]; exact (Has.new w _).alloc _
  have hb8w : w.heap.size ≤ b8 := by omega
  obtain ⟨R, hR⟩ : ∃ R, R = pathF S cu cg p0 fol := ⟨_, rfl⟩
  rw [← hR]
  have HR := Lib.hid hR
  obtain ⟨q, hq⟩ : ∃ q, q = pathN p0 := ⟨_, rfl⟩
  have HQ := Lib.hid hq
  have hl0 : ((S.devs.length : Int) == 0) = false := by have := T.devs; simpa using (show ¬ (S.devs.length : Int) = 0 by omega)
  clear hR
  go_enter Try.func10, Try.ntmps10
  go_upto_region 1 with fail
  rw [← hW0, ← hb5]
  rw [show b5 + 1 = b8 by omega]
  clear hW0 hb5 hb8
  refine wp_scope_straight ?_
  go_wp2_with fail
  refine (pdevs_any B g S _ (h.ext E0) T.devs).mono ?_
  rintro e w1 ⟨rfl, b1⟩
  go_wp2_with fail
  refine (ppath_any p0 _ hp0).mono ?_
  rw [← hq]
  rintro e w2 ⟨rfl, b2⟩
  have E2 := (E0.trans b1).trans b2
  have F2 := (F0.ext b1).ext b2
  have C2 := (C0.ext b1).ext b2
  clear hq F0 C0 E0 b1 b2 hl0
  by_cases hq0 : q = 0
  case neg =>
    have t0 : (q == 0) = false := by simpa using hq0
    have t0b : (q != 0) = true := by simpa using hq0
    have e1 : Hid (R = (fndZ, q)) := by show _ = _; rw [HR.out, HQ.out]; unfold pathF; rw [if_neg (by rw [← HQ.out]; exact hq0)]
    clear hq0
    go_wp2_with (refine wpList_store_found rfl _ _ rfl b8 fndZ fndZ rfl rfl F2 ?_; intro w9 R9 O9)
    refine bodyPost_ret (v := .tuple #[.agg (fndC fndZ).toArray, .int .i64 q]) (res_found Try.results10 _ _ b8 fndZ _ rfl rfl R9) rfl ?_
    exact FndR.mk E2 hb8w O9 e1.out
  have t0 : (q == 0) = true := by simpa using hq0
  have t0b : (q != 0) = false := by simpa using hq0
  have HR2 : Hid (R = seekF S cu cg fol 1 (partsN p0) 0 (slashB p0)) := by show _ = _; rw [HR.out]; unfold pathF; rw [if_pos (by rw [← HQ.out]; exact hq0)]
  have HPL : Hid (∀ p ∈ partsN p0, p.length ≤ 1100000) := by show ∀ p ∈ _, _; intro p hp; have := part_len hp; omega
  have hpl := parts_len p0
  clear HR HQ hq0
  go_upto_region 6 with fail
  have X0 := C2.cell 0
  have X1 := C2.cell 1
  have Xz := C2.lt
  have hW1 : Ext w2 w2.drew := (Ext.refl _).drew
  have hW2 : Ext w2 (w2.drew.alloc (.cells #[.string (bs p0)] 9)) := hW1.alloc _
  have KS : Hid (∀ w', Ext w2 w' → w'.cell? ⟨b5, 0, none⟩ = some (.int .i64 cu) ∧ w'.cell? ⟨b5, 1, none⟩ = some (.int .i64 cg)) := fun w' h => ⟨(h.cell Xz).trans X0, (h.cell Xz).trans X1⟩
  go_region_held3 (fun w' => w'.cell? ⟨b5, 0, none⟩ = some (.int .i64 cu) ∧ w'.cell? ⟨b5, 1, none⟩ = some (.int .i64 cg))
    ((first | exact KS.out _ hW1 | exact KS.out _ hW2 | exact KS.out _ hk3 | exact KS.out _ hk4 | exact KS.out _ (hk4.alloc _)))
    ((first | (go_at_call 39; refine (pparts_any p0 _).mono ?_; rintro e wp ⟨rfl, rfl⟩) | (go_at_call 38; refine (collect_any _ p0 (by omega) _ (by simp) ((Has.new _ _).cell 0)).mono ?_; rintro e wk ⟨v3, rfl, ok3, bk3⟩; have hk3 := hW2.trans bk3; obtain ⟨A3, c3, rfl, hA31, hA32, hA33, hA34⟩ := OwnT.at_ ok3) | (go_at_call 40; refine (pslash_any p0 _ (by omega)).mono ?_; rintro e w4 ⟨rfl, bs4⟩; have hk4 := hk3.trans bs4)))
  obtain ⟨W5, hW5⟩ : ∃ W, W = w4.alloc (.cells #[.pointer (some ⟨g.bW, 0, none⟩), .int .i64 cu, .int .i64 cg, .int .i64 1, .slice A3 (partsN p0).length c3, .int .i64 0, .bool (slashB p0)] 97) := ⟨_, rfl⟩
  obtain ⟨b, hb⟩ : ∃ b, b = w4.heap.size := ⟨_, rfl⟩
  have T5 : TripAt W5 b g.bW cu cg 1 A3 (partsN p0).length c3 0 (slashB p0) := by rw [hW5, hb]; exact Has.new _ _
  have E45 : Ext w4 W5 := by rw [hW5]; exact (Ext.refl _).alloc _
  have E5 : Ext w W5 := (E2.trans hk4).trans E45
  have F5 := (F2.ext hk4).ext E45
  have hat5 := (hA33.ext bs4).ext E45
  have hoff5 : Off A3 b := fun x hx => by
    have := (World.ownsRow.lt ok3 x.block (by rw [hx]; rfl)).2
    have := bs4.size
    omega
  have hbw : w.heap.size ≤ b := by have := (E2.trans hk4).size; omega
  rw [← hW5, ← hb]
  have HP1 : Hid ((partsN p0).length ≤ 1050000) := by show _ ≤ _; omega
  obtain ⟨l0, hl0⟩ : ∃ l0, l0 = partsN p0 := ⟨_, rfl⟩
  obtain ⟨m0, hm0⟩ : ∃ m0, m0 = slashB p0 := ⟨_, rfl⟩
  rw [← hl0] at T5 hat5 HR2 HPL HP1 hA31
  rw [← hm0] at T5 HR2
  have HA31 := Lib.hid hA31
  clear hW5 hb X0 X1 Xz hW1 hW2 KS hk3 hk4 hA31 hA32 hA33 ok3 bk3 bs4 E45 E2 F2 C2 hpl hl0 hm0 t0 t0b
  go_wp2_with fail
  refine wp_label ?_
  go_wp2_with fail
  go_loopw [] (fun wr => ∃ (at_ : Int) (l : List (List UInt8)) (h : Nat) (m : Bool) (A : Option Addr) (cap : Nat), TripAt wr b g.bW cu cg at_ A l.length cap (h : Int) m ∧ TxtAt wr A l ∧ (A = none → cap = 0) ∧ l.length ≤ cap ∧ Off A b ∧ Hid (∀ p ∈ l, p.length ≤ 1100000) ∧ l.length ≤ 1050000 * (h + 1) ∧ h ≤ 8 ∧ Hid (R = seekF S cu cg fol at_ l h m) ∧ Has wr b8 (.cells (fndC fndZ).toArray 33) ∧ Ext w wr) (fun wr => tripM wr b)
  case atStart => exact ⟨1, l0, 0, m0, A3, c3, T5, hat5, hA34, HA31.out, hoff5, HPL, by have := HP1.out; omega, by decide, HR2, F5, E5⟩
  case round =>
    obtain ⟨at_, l, hp, m, A, cap, Tr, hat, hA0, hlc, hoff, HL, hll, hh8, HR, Fr, Er⟩ := hrel
    have T4 := Has.cell Tr 4
    have Tz := Has.lt Tr
    have hMr := Lib.hid (tripM_eq Tr)
    have hbb : b ≠ b8 := has_ne Tr Fr (by decide)
    cases l with
    | nil =>
      have e1 : Hid (R = (⟨0, [], at_, true⟩, 0)) := by show _ = _; rw [HR.out, seek_nil]
      have T3 := Has.cell Tr 3
      clear HR
      go_wp2_with (refine wpList_store_found rfl _ _ rfl b8 fndZ ⟨0, [], at_, true⟩ rfl rfl Fr ?_; intro w9 R9 O9)
      refine bodyPost_ret (v := .tuple #[.agg (fndC ⟨0, [], at_, true⟩).toArray, .int .i64 0]) (res_found Try.results10 _ _ b8 ⟨0, [], at_, true⟩ _ rfl rfl R9) rfl ?_
      exact FndR.mk Er hb8w O9 e1.out
    | cons p l =>
      obtain ⟨bl, o, rfl, hbl, hcl⟩ : ∃ bl o, A = some ⟨bl, o, none⟩ ∧ bl < wr.heap.size ∧ ∀ k, (h : k < (p :: l).length) → wr.cell? ⟨bl, o + k, none⟩ = some (.string (bs (p :: l)[k])) := by
        rcases hat with h0 | h0
        · cases h0
        · exact h0
      obtain ⟨n, hn⟩ : ∃ n, n = (p :: l).length := ⟨_, rfl⟩
      have hnl : n = l.length + 1 := by rw [hn]; rfl
      have hc0 : wr.cell? ⟨bl, o, none⟩ = some (.string (bs p)) := hcl 0 (by simp)
      obtain ⟨X, hsl, hX, hXb⟩ := from_one15 bl o n l.length cap hnl (by omega)
      have hne : bl ≠ b := hoff _ rfl
      have hpl : p.length ≤ 1100000 := HL.out p (List.mem_cons_self ..)
      obtain ⟨W1, hW1⟩ : ∃ W, W = wr.setCell ⟨b, 4, none⟩ (.slice (some X) l.length (cap - 1)) := ⟨_, rfl⟩
      have O1 : Only [b] wr W1 := by rw [hW1]; exact Only.setCell _ _ _ _
      have T1 : TripAt W1 b g.bW cu cg at_ (some X) l.length (cap - 1) (hp : Int) m := by rw [hW1]; exact Has.setCell Tr 4 (.slice (some X) l.length (cap - 1))
      have hat1 : TxtAt W1 (some X) l := by
        by_cases hl0 : l = []
        · exact .inl hl0
        · have hpos : 0 < l.length := List.length_pos_iff.2 hl0
          rw [hX hpos]
          refine .inr ⟨bl, o + 1, rfl, by have := O1.size; omega, fun k hk => ?_⟩
          have h1 := hcl (k + 1) (by simp; omega)
          have e : W1.heap[bl]? = wr.heap[bl]? := O1.block bl hbl (by rw [List.mem_singleton]; exact hne)
          rw [show o + 1 + k = o + (k + 1) by omega]
          have e2 : W1.cell? ⟨bl, o + (k + 1), none⟩ = wr.cell? ⟨bl, o + (k + 1), none⟩ := by simp [World.cell?, e]
          rw [e2]; exact h1
      have hoff1 : Off (some X) b := fun x hx => by cases hx; rw [hXb]; exact hne
      have F1 := O1.has Fr (by rw [List.mem_singleton]; exact Ne.symm hbb)
      have E1 : Ext w W1 := O1.after Er (fun x hx => by rw [List.mem_singleton] at hx; omega)
      have HLC := Lib.hid (show l.length ≤ cap - 1 by omega)
      have HLL := Lib.hid (show l.length + 1 ≤ 1050000 * (hp + 1) by omega)
      have HLP : Hid (∀ q ∈ l, q.length ≤ 1100000) := by show ∀ q ∈ l, _; intro q hq; exact HL.out q (List.mem_cons_of_mem _ hq)
      have F4 := Has.free Tr 4
      have q0 : (0 : Int) < (n : Int) := by omega
      rw [← hn] at T4
      obtain ⟨lb, hlb⟩ : ∃ lb, lb = l.isEmpty := ⟨_, rfl⟩
      have tl : ((l.length : Int) == 0) = lb := by rw [hlb]; cases l <;> simp <;> omega
      have HLB := Lib.hid hlb
      have T4b := Has.cell T1 4
      clear hat hcl hX hXb hlc hll HL hoff hA0 hlb hnl hn
      go_upto_region 11 with fail
      rw [← hW1]
      have K1 := h.ext E1
      have HW1 := Lib.hid hW1
      have hoffR := Lib.hid hoff1
      clear hW1 T4 T4b F4 tl hsl hc0 Tz Tr Fr q0 hoff1 hne
      have tl : ((l.length : Int) == 0) = lb := by rw [HLB.out]; cases l <;> simp <;> omega
      go_wp2_with fail
      refine (pstep_any B g S b cu cg at_ (some X) l.length (cap - 1) hp m p _ K1 T hc T1 (by omega)).mono ?_
      rintro e w2' ⟨rfl, b2⟩
      obtain ⟨x, hx⟩ : ∃ x, x = stepE S cu cg at_ p := ⟨_, rfl⟩
      obtain ⟨z, hz⟩ : ∃ z, z = if x = 0 then stepG S at_ p else 0 := ⟨_, rfl⟩
      rw [← hx]
      rw [← hz]
      have HX := Lib.hid hx
      have HZ := Lib.hid hz
      have K2 := K1.ext b2
      obtain ⟨_, _, cd, h3, _⟩ := id K2
      have v0 : w2'.cell? ⟨g.bW, 0, none⟩ = some (.pointer (some ⟨g.bT, 0, none⟩)) := h3.cell 0
      have vz := h3.lt
      have T2 := TripAt.ext T1 b2
      have F2 := F1.ext b2
      have E2 := E1.trans b2
      clear hx hz h3 T1 F1 E1 K1
      go_wp2_with fail
      refine (tget_any B g.bT g.bM S.nodes S.last z _ K2.2.1).mono ?_
      rintro e w3 ⟨A4, c4, rfl, ok4, b3⟩
      obtain ⟨nd, hnd⟩ : ∃ nd, nd = getN S.nodes z := ⟨_, rfl⟩
      obtain ⟨is, his⟩ : ∃ is, is = isN S.nodes z := ⟨_, rfl⟩
      rw [← hnd] at ok4
      rw [← hnd, ← his]
      have HND := Lib.hid hnd
      have HIS := Lib.hid his
      obtain ⟨W4, hW4⟩ : ∃ W4, W4 = w3.alloc (.cells #[.int .i64 nd.no, .int .i64 nd.dev, .int .i64 nd.kind, .int .i64 nd.mode, .int .i64 nd.uid, .int .i64 nd.gid, .int .i64 nd.mtime, .int .i64 nd.ctime, .int .i64 nd.links, .int .i64 nd.up, .string (bs nd.data), .slice A4 nd.ents.length c4] 42) := ⟨_, rfl⟩
      obtain ⟨b16, hb16⟩ : ∃ b, b = w3.heap.size := ⟨_, rfl⟩
      have E34 : Ext w3 W4 := by rw [hW4]; exact (Ext.refl _).alloc _
      have N4 : Has W4 b16 (.cells #[.int .i64 nd.no, .int .i64 nd.dev, .int .i64 nd.kind, .int .i64 nd.mode, .int .i64 nd.uid, .int .i64 nd.gid, .int .i64 nd.mtime, .int .i64 nd.ctime, .int .i64 nd.links, .int .i64 nd.up, .string (bs nd.data), .slice A4 nd.ents.length c4] 42) := by rw [hW4, hb16]; exact Has.new _ _
      have K4 := (K2.ext b3).ext E34
      have T4 := TripAt.ext (TripAt.ext T2 b3) E34
      have F4 := (F2.ext b3).ext E34
      have E4 := (E2.trans b3).trans E34
      have hat4 := ((hat1.ext b2).ext b3).ext E34
      clear hnd his v0 vz T2 F2 E2 K2 hat1 ok4
      go_upto_region 13 with fail
      rw [← hW4, ← hb16]
      clear hW4 hb16 b2 b3 E34 O1
      by_cases hx0 : x = 0
      case neg =>
        have t0 : (x == 0) = false := by simpa using hx0
        have t0b : (x != 0) = true := by simpa using hx0
        have e1 : Hid (R = (fndZ, x)) := by show _ = _; rw [HR.out, seek_err (by rw [← HX.out]; exact hx0), HX.out]
        clear hx0 HR
        go_wp2_with (refine wpList_store_found rfl _ _ rfl b8 fndZ fndZ rfl rfl F4 ?_; intro w9 R9 O9)
        refine bodyPost_ret (v := .tuple #[.agg (fndC fndZ).toArray, .int .i64 x]) (res_found Try.results10 _ _ b8 fndZ _ rfl rfl R9) rfl ?_
        exact FndR.mk E4 hb8w O9 e1.out
      have t0 : (x == 0) = true := by simpa using hx0
      have t0b : (x != 0) = false := by simpa using hx0
      have HS0 : Hid (stepE S cu cg at_ p = 0) := by show _ = _; rw [← HX.out]; exact hx0
      have HZ2 : Hid (z = stepG S at_ p) := by show _ = _; rw [HZ.out, if_pos hx0]
      obtain ⟨XP, hXP⟩ : ∃ Y, Y = bs p := ⟨_, rfl⟩
      have tX : (XP.toList == [46, 46]) = (p == [46, 46]) := by rw [hXP]; exact txt_tests.2.2.1
      have HXP := Lib.hid hXP
      rw [← hXP]
      clear hx0 HZ HX hXP
      by_cases c2 : p = [46, 46]
      · have t2 : (XP.toList == [46, 46]) = true := by rw [tX, c2]; rfl
        have hz2 : z = aboveF S at_ := by rw [HZ2.out]; unfold stepG; rw [if_pos c2]
        have HR2 : Hid (R = seekF S cu cg fol z l hp m) := by show _ = _; rw [HR.out, seek_up HS0.out c2, hz2]
        have c3 := Has.cell T4 3
        have f3 := Has.free T4 3
        have cz := Has.lt T4
        clear tX c2 hz2 HR
        go_wp2_with fail
        have O9 : Only [b] W4 (W4.setCell ⟨b, 3, none⟩ (.int .i64 z)) := Only.setCell _ _ _ _
        have T9 : TripAt (W4.setCell ⟨b, 3, none⟩ (.int .i64 z)) b g.bW cu cg z (some X) l.length (cap - 1) (hp : Int) m := Has.setCell T4 3 (.int .i64 z)
        go_roundw
        case rel => exact ⟨z, l, hp, m, some X, cap - 1, T9, hat4.only O9 hoffR.out, by simp, HLC.out, hoffR.out, HLP, by have := HLL.out; omega, hh8, HR2, O9.has F4 (by rw [List.mem_singleton]; exact Ne.symm hbb), O9.after E4 (fun x hx => by rw [List.mem_singleton] at hx; omega)⟩
        case measure => rw [tripM_eq T9, hMr.out]; simp
      have t2 : (XP.toList == [46, 46]) = false := by rw [tX]; simpa using c2
      have HC2 := Lib.hid c2
      have HZ3 : Hid (z = stepN S at_ p) := by show _ = _; rw [HZ2.out]; unfold stepG; rw [if_neg c2]
      clear tX c2 HZ2
      have c3 := Has.cell T4 3
      have c6 := Has.cell T4 6
      have cz := Has.lt T4
      cases is with
      | false =>
        have HI : Hid (isN S.nodes (stepN S at_ p) = false) := by show _ = _; rw [← HZ3.out]; exact HIS.out.symm
        cases lb with
        | true =>
          have e1 : Hid (R = (⟨at_, p, 0, m⟩, 0)) := by
            show _ = _
            rw [HR.out, seek_free HS0.out HC2.out HI.out]
            have := HLB.out
            cases l with
            | nil => rfl
            | cons a l => cases this
          clear HR
          have ED : Ext W4 W4.drew := (Ext.refl _).drew
          have FD := F4.ext ED
          go_upto_region 18 with fail
          rw [HXP.out]
          go_still_tail 10, (by kernel_rfl)
          change wpList _ _ _ _ _ W4.drew
          go_wp2_with (refine wpList_store_found rfl _ _ rfl b8 fndZ ⟨at_, p, 0, m⟩ rfl rfl FD ?_; intro w9 R9 O9)
          refine bodyPost_ret (v := .tuple #[.agg (fndC ⟨at_, p, 0, m⟩).toArray, .int .i64 0]) (res_found Try.results10 _ _ b8 ⟨at_, p, 0, m⟩ _ rfl rfl R9) rfl ?_
          exact FndR.mk (E4.trans ED) hb8w O9 e1.out
        | false =>
          have e1 : Hid (R = (fndZ, 5)) := by
            show _ = _
            rw [HR.out, seek_none HS0.out HC2.out HI.out]
            rintro rfl
            cases HLB.out
          clear HR
          go_wp2_with (refine wpList_store_found rfl _ _ rfl b8 fndZ fndZ rfl rfl F4 ?_; intro w9 R9 O9)
          refine bodyPost_ret (v := .tuple #[.agg (fndC fndZ).toArray, .int .i64 5]) (res_found Try.results10 _ _ b8 fndZ _ rfl rfl R9) rfl ?_
          exact FndR.mk E4 hb8w O9 e1.out
      | true =>
        have HI : Hid (isN S.nodes (stepN S at_ p) = true) := by show _ = _; rw [← HZ3.out]; exact HIS.out.symm
        obtain ⟨k3, hk3⟩ : ∃ k : Bool, k = (nd.kind == 3) := ⟨_, rfl⟩
        obtain ⟨k1, hk1⟩ : ∃ k : Bool, k = (nd.kind != 1) := ⟨_, rfl⟩
        have t3 := hk3.symm
        have t1 := hk1.symm
        have HK3 := Lib.hid hk3
        have HK1 := Lib.hid hk1
        have y2 : W4.cell? ⟨b16, 2, none⟩ = some (.int .i64 nd.kind) := N4.cell 2
        have y10 : W4.cell? ⟨b16, 10, none⟩ = some (.string (bs nd.data)) := N4.cell 10
        have yz := N4.lt
        obtain ⟨bv, hbv⟩ : ∃ bv : Bool, bv = (k3 && (!lb || (m || fol))) := ⟨_, rfl⟩
        have HBV := Lib.hid hbv
        clear hk3 hk1 hbv
        go_upto_region 21 with fail
        go_cut [111] (fun v wc => v = .bool bv ∧ wc = W4)
        case first =>
          have hb : Hid (bv = (k3 && (!lb || (m || fol)))) := HBV
          cases k3
          · have e : Hid (bv = false) := by show _ = _; rw [hb.out]; rfl
            clear HBV hb
            go_wp2_with fail
            go_meet
            exact ⟨by rw [e.out], rfl⟩
          · cases lb
            · have e : Hid (bv = true) := by show _ = _; rw [hb.out]; rfl
              clear HBV hb
              go_wp2_with fail
              go_meet
              exact ⟨by rw [e.out], rfl⟩
            · cases m
              · cases fol
                · have e : Hid (bv = false) := by show _ = _; rw [hb.out]; rfl
                  clear HBV hb
                  go_wp2_with fail
                  go_meet
                  exact ⟨by rw [e.out], rfl⟩
                · have e : Hid (bv = true) := by show _ = _; rw [hb.out]; rfl
                  clear HBV hb
                  go_wp2_with fail
                  go_meet
                  exact ⟨by rw [e.out], rfl⟩
              · have e : Hid (bv = true) := by show _ = _; rw [hb.out]; rfl
                clear HBV hb
                go_wp2_with fail
                go_meet
                exact ⟨by rw [e.out], rfl⟩
        case rest =>
          obtain ⟨rfl, hwc⟩ := hcut
          obtain rfl : W4 = wc := hwc.symm
          cases bv with
          | true =>
            have hb3 : k3 = true ∧ (l ≠ [] ∨ m = true ∨ fol = true) := by
              have := HBV.out
              cases k3
              · cases this
              · refine ⟨rfl, ?_⟩
                cases hm : m
                · cases hf : fol
                  · left
                    rintro rfl
                    rw [hm, hf, HLB.out] at this
                    cases this
                  · exact .inr (.inr rfl)
                · exact .inr (.inl rfl)
            have HK : Hid ((getN S.nodes (stepN S at_ p)).kind = 3) := by
              show _ = _
              have h2 := hb3.1
              rw [HK3.out, HND.out, HZ3.out] at h2
              simpa using h2
            have HOR := Lib.hid hb3.2
            have HD : Hid (nd.data = (getN S.nodes (stepN S at_ p)).data) := by show _ = _; rw [HND.out, HZ3.out]
            have hdl : nd.data.length ≤ 1048576 := by
              rw [HD.out]
              exact (T.on _ (isN_true HI.out).2.2).2
            obtain ⟨fe, hfe⟩ : ∃ fe, fe = folE hp nd.data := ⟨_, rfl⟩
            have HFE := Lib.hid hfe
            have HDL := Lib.hid hdl
            clear hb3 hfe hdl t3 t1
            go_wp2_with fail
            refine (pfollow_any b g.bW cu cg at_ (some X) (cap - 1) hp m l nd.data _ T4 hat4 (by simp) hoffR.out (by have := HLL.out; omega) HDL.out hh8).mono ?_
            rintro e w5 ⟨O5, rfl, hfol⟩
            have HFOL := Lib.hid hfol
            have F5 := O5.has F4 (by rw [List.mem_singleton]; exact Ne.symm hbb)
            have E5 := O5.after E4 (fun x hx => by rw [List.mem_singleton] at hx; omega)
            rw [← HFE.out]
            clear hfol c3 c6 cz y2 y10 yz
            by_cases hf0 : fe = 0
            case neg =>
              have t4 : (fe == 0) = false := by simpa using hf0
              have t4b : (fe != 0) = true := by simpa using hf0
              have e1 : Hid (R = (fndZ, fe)) := by
                show _ = _
                have h1 := HFE.out
                unfold folE at h1
                by_cases h8 : 8 < hp + 1
                · rw [if_pos h8] at h1
                  rw [HR.out, seek_loop HS0.out HC2.out HI.out HK.out HOR.out h8, h1]
                · rw [if_neg h8] at h1
                  by_cases h9 : nd.data = []
                  · rw [if_pos h9] at h1
                    rw [HR.out, seek_empty HS0.out HC2.out HI.out HK.out HOR.out h8 (by rw [← HD.out]; exact h9), h1]
                  · rw [if_neg h9] at h1
                    exact absurd h1 hf0
              clear hf0 HR
              go_wp2_with (refine wpList_store_found rfl _ _ rfl b8 fndZ fndZ rfl rfl F5 ?_; intro w9 R9 O9)
              refine bodyPost_ret (v := .tuple #[.agg (fndC fndZ).toArray, .int .i64 fe]) (res_found Try.results10 _ _ b8 fndZ _ rfl rfl R9) rfl ?_
              exact FndR.mk E5 hb8w O9 e1.out
            have t4 : (fe == 0) = true := by simpa using hf0
            have t4b : (fe != 0) = false := by simpa using hf0
            have h80 : ¬ 8 < hp + 1 ∧ nd.data ≠ [] := by
              have h1 := HFE.out
              rw [hf0] at h1
              unfold folE at h1
              by_cases h8 : 8 < hp + 1
              · rw [if_pos h8] at h1; cases h1
              · rw [if_neg h8] at h1
                refine ⟨h8, fun h9 => ?_⟩
                rw [if_pos h9] at h1; cases h1
            obtain ⟨A9, c9, T9, hat9, hA9, hoff9, hle9⟩ := HFOL.out (by rw [← HFE.out]; exact hf0)
            have HR2 : Hid (R = seekF S cu cg fol (if nd.data.head? = some 47 then 1 else at_) (partsN nd.data ++ l) (hp + 1) (m || (l.isEmpty && slashB nd.data))) := by
              show _ = _
              rw [HR.out, seek_link HS0.out HC2.out HI.out HK.out HOR.out h80.1 (by rw [← HD.out]; exact h80.2), HD.out]
            have HLN : Hid ((partsN nd.data ++ l).length ≤ 1050000 * (hp + 1 + 1)) := by
              show _ ≤ _
              have := parts_len nd.data
              have := HDL.out
              have := HLL.out
              rw [List.length_append]
              omega
            have HLP2 : Hid (∀ q ∈ partsN nd.data ++ l, q.length ≤ 1100000) := by
              show ∀ q ∈ _, _
              intro q hq
              rcases List.mem_append.1 hq with hq | hq
              · have := part_len hq
                have := HDL.out
                omega
              · exact HLP.out q hq
            have H8 := Lib.hid (show hp + 1 ≤ 8 by omega)
            have HLE := Lib.hid hle9
            clear hf0 h80 HR hle9
            go_wp2_with fail
            go_roundw
            case rel => exact ⟨_, _, hp + 1, _, A9, c9, T9, hat9, hA9, HLE.out, hoff9, HLP2, HLN.out, H8.out, HR2, F5, E5⟩
            case measure =>
              rw [tripM_eq T9, hMr.out]
              have := HLN.out
              have := H8.out
              omega
          | false =>
            have HN3 : Hid (¬ ((getN S.nodes (stepN S at_ p)).kind = 3 ∧ (l ≠ [] ∨ m = true ∨ fol = true))) := by
              show ¬ _
              rintro ⟨h1, h2⟩
              have h3 : k3 = true := by rw [HK3.out, HND.out, HZ3.out]; simpa using h1
              have := HBV.out
              rw [h3] at this
              rcases h2 with h2 | h2 | h2
              · have h4 : lb = false := by
                  rw [HLB.out]
                  cases l with
                  | nil => exact absurd rfl h2
                  | cons a l => rfl
                rw [h4] at this; cases this
              · rw [h2] at this; cases lb <;> cases this
              · rw [h2] at this; cases lb <;> cases m <;> cases this
            obtain ⟨bw, hbw2⟩ : ∃ bw : Bool, bw = (k1 && (!lb || m)) := ⟨_, rfl⟩
            have HBW := Lib.hid hbw2
            clear hbw2 HBV HK3 t3
            go_upto_region 25 with fail
            go_cut [136] (fun v wc => v = .bool bw ∧ wc = W4)
            case first =>
              have hb := HBW
              cases k1
              · have e : Hid (bw = false) := by show _ = _; rw [hb.out]; rfl
                clear HBW hb
                go_wp2_with fail
                go_meet
                exact ⟨by rw [e.out], rfl⟩
              · cases lb
                · have e : Hid (bw = true) := by show _ = _; rw [hb.out]; rfl
                  clear HBW hb
                  go_wp2_with fail
                  go_meet
                  exact ⟨by rw [e.out], rfl⟩
                · cases m
                  · have e : Hid (bw = false) := by show _ = _; rw [hb.out]; rfl
                    clear HBW hb
                    go_wp2_with fail
                    go_meet
                    exact ⟨by rw [e.out], rfl⟩
                  · have e : Hid (bw = true) := by show _ = _; rw [hb.out]; rfl
                    clear HBW hb
                    go_wp2_with fail
                    go_meet
                    exact ⟨by rw [e.out], rfl⟩
            case rest =>
              obtain ⟨rfl, hwc⟩ := hcut
              obtain rfl : W4 = wc := hwc.symm
              have hK1 : k1 = true ↔ (getN S.nodes (stepN S at_ p)).kind ≠ 1 := by rw [HK1.out, HND.out, HZ3.out]; simp
              have hLB : lb = false ↔ l ≠ [] := by
                rw [HLB.out]
                cases l <;> simp
              have HKK := Lib.hid hK1
              have HLL2 := Lib.hid hLB
              clear hK1 hLB t1
              cases bw with
              | true =>
                have e1 : Hid (R = (fndZ, 9)) := by
                  show _ = _
                  have h1 := HBW.out
                  have hk : k1 = true := by cases k1 <;> simp at h1 ⊢
                  rw [hk] at h1
                  rw [HR.out, seek_file HS0.out HC2.out HI.out HN3.out (HKK.out.1 hk)]
                  cases hlb : lb
                  · exact .inl (HLL2.out.1 hlb)
                  · rw [hlb] at h1
                    cases hm : m
                    · rw [hm] at h1; cases h1
                    · exact .inr rfl
                clear HR HBW T4 hat4 HKK HLL2 HN3 y2 y10 yz c3 c6 cz N4 tl t0 t0b t2 HIS HND
                have z0 := F4.cell 0
                have z1 := F4.cell 1
                have z2 := F4.cell 2
                have z3 := F4.cell 3
                have zf0 := Has.free F4 0
                have zf1 := Has.free F4 1
                have zf2 := Has.free F4 2
                have zf3 := Has.free F4 3
                have zz := F4.lt
                obtain ⟨R9, O9⟩ := found_set fndZ F4
                go_upto_region 26 with fail
                iterate 16 (first | go_values | go_skip | go_guarded | go_step | go_upon | go_in)
                refine bodyPost_ret (v := .tuple #[.agg (fndC fndZ).toArray, .int .i64 9]) (res_found Try.results10 _ _ b8 fndZ _ rfl rfl R9) rfl ?_
                exact FndR.mk E4 hb8w O9 e1.out
              | false =>
                have HN1 : Hid (¬ ((getN S.nodes (stepN S at_ p)).kind ≠ 1 ∧ (l ≠ [] ∨ m = true))) := by
                  show ¬ _
                  rintro ⟨h1, h2⟩
                  have h3 := HBW.out
                  rw [HKK.out.2 h1] at h3
                  rcases h2 with h2 | h2
                  · rw [HLL2.out.2 h2] at h3; cases h3
                  · rw [h2] at h3; cases lb <;> cases h3
                clear HBW
                cases lb with
                | true =>
                  have hl0 : l = [] := by
                    have := HLB.out
                    cases l with
                    | nil => rfl
                    | cons a l => cases this
                  have e1 : Hid (R = (⟨at_, p, z, m⟩, 0)) := by
                    show _ = _
                    rw [HR.out, seek_last HS0.out HC2.out HI.out HN3.out HN1.out hl0, HZ3.out]
                  clear HR hl0 y2 y10 yz
                  have ED : Ext W4 W4.drew := (Ext.refl _).drew
                  have FD := F4.ext ED
                  go_upto_region 28 with fail
                  rw [HXP.out]
                  go_still_tail 11, (by kernel_rfl)
                  change wpList _ _ _ _ _ W4.drew
                  have z0 := F4.cell 0
                  have z1 := F4.cell 1
                  have z2 := F4.cell 2
                  have z3 := F4.cell 3
                  have zf0 := Has.free F4 0
                  have zf1 := Has.free F4 1
                  have zf2 := Has.free F4 2
                  have zf3 := Has.free F4 3
                  have zz := F4.lt
                  obtain ⟨R9, O9⟩ := found_set (⟨at_, p, z, m⟩ : FndD) FD
                  iterate 12 (first | go_values | go_skip | go_guarded | go_step | go_upon | go_back)
                  refine bodyPost_ret (v := .tuple #[.agg (fndC ⟨at_, p, z, m⟩).toArray, .int .i64 0]) (res_found Try.results10 _ _ b8 ⟨at_, p, z, m⟩ _ rfl rfl R9) rfl ?_
                  exact FndR.mk (E4.trans ED) hb8w O9 e1.out
                | false =>
                  have HR2 : Hid (R = seekF S cu cg fol z l hp m) := by
                    show _ = _
                    rw [HR.out, seek_down HS0.out HC2.out HI.out HN3.out HN1.out (HLL2.out.1 rfl), HZ3.out]
                  have f3 := Has.free T4 3
                  clear HR y2 y10 yz c6
                  go_wp2_with fail
                  have O9 : Only [b] W4 (W4.setCell ⟨b, 3, none⟩ (.int .i64 z)) := Only.setCell _ _ _ _
                  have T9 : TripAt (W4.setCell ⟨b, 3, none⟩ (.int .i64 z)) b g.bW cu cg z (some X) l.length (cap - 1) (hp : Int) m := Has.setCell T4 3 (.int .i64 z)
                  go_roundw
                  case rel => exact ⟨z, l, hp, m, some X, cap - 1, T9, hat4.only O9 hoffR.out, by simp, HLC.out, hoffR.out, HLP, by have := HLL.out; omega, hh8, HR2, O9.has F4 (by rw [List.mem_singleton]; exact Ne.symm hbb), O9.after E4 (fun x hx => by rw [List.mem_singleton] at hx; omega)⟩
                  case measure => rw [tripM_eq T9, hMr.out]; simp
end Go.Proofs.Ytjblimclakfhfaa
