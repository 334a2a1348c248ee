/- Layer 14: Above, the program's and the reference's. | Layer 14: the reference's Above. | Layer 14: Within, the program's and the reference's. | Layer 14: Busy, the program's and the reference's. | Layer 14: Len of the table, the program's Use. | A field of a node that no box holds. | Layer 14: a directory's path, plain; the reference's Where. | strings.Builder: what copyCheck, WriteByte and WriteString do to a builder that the call has made itself. (The shelf's own contracts for them are of another body of copyCheck.) The lines follow the guide's worked contracts, turned to this dump. | Layer 14: the program's Where. | Law 14: same (Alike) of a world and the document's that hold the same tree. | Plain: a tree that grows fits (Fit). | Plain: mounts whose room changes, mounts that come: their roots stay. | Plain: what stays true of a tree in which nodes go too (Live). | Plain: what is true of every tree that the calls make (Tre); it fits (Fit). | Plain: trees stay true where a node goes, or lies elsewhere. | AttrOne, plain: what three calls on a node leave. | Plain: trees keep growing true through the changes of attributes and bytes. | Plain: the trees of the calls stay true through the changes of attributes and bytes. -/
import Derived.Test.YtebghednhjaniaaBunE
import Derived.Test.YtebghednhjaniaaBunD
import Derived.Test.YtebghednhjaniaaBunA
import Derived.Test.YtebghednhjaniaaBunB
import Derived.Test.YtebghednhjaniaaShelf
import Derived.Test.YtebghednhjaniaaBunC
import Derived.Lib.Builder
import Derived.Lib.AppendStr
namespace Go.Proofs.Ytebghednhjaniaa
open Go.ChangeShapes Go.WideShapes Go.ChangeAt Go.RowKit

def aboveF (S : TreeD) (no : Int) : Int :=
  if (getN S.nodes no).kind = 1 then
    if rootF S.devs (getN S.nodes no).dev = no ∧ 1 < (getN S.nodes no).dev then (getN S.nodes (devN S.devs (getN S.nodes no).dev).over).up else (getN S.nodes no).up
  else 0
set_option maxRecDepth 100000 in
set_option maxHeartbeats 4000000 in
theorem pabove_any (B : Nat) (g : GhW) (S : TreeD) (no : Int) (w : World) (h : WAt w B g S) (hd : 0 < S.devs.length) (hd2 : S.devs.length ≤ 8) (hr : RootsOk S.devs) (hu : NosUp S.nodes S.last) :
    Calls Try.prog 90 #[.pointer (some ⟨g.bW, 0, none⟩), .int .i64 no] w (Ret w (.int .i64 (aboveF S no))) := by
  have hm : Hid (aboveF S no = if (getN S.nodes no).kind = 1 then if rootF S.devs (getN S.nodes no).dev = no ∧ 1 < (getN S.nodes no).dev then (getN S.nodes (devN S.devs (getN S.nodes no).dev).over).up else (getN S.nodes no).up else 0) := by show _ = _; rfl
  go_enter Try.func90, Try.ntmps90
  go_wp2_with fail
  refine (pnone_any B g S _ h hd).mono ?_
  rintro e w1 ⟨rfl, b1⟩
  obtain ⟨_, _, cd, hW, _⟩ := id (h.ext b1)
  have v0 : w1.cell? ⟨g.bW, 0, none⟩ = some (.pointer (some ⟨g.bT, 0, none⟩)) := hW.cell 0
  have z1 := hW.lt
  clear hW
  go_wp2_with fail
  refine (tget_any B g.bT g.bM S.nodes S.last no _ (h.ext b1).2.1).mono ?_
  rintro e w2 ⟨A, c, rfl, ok2, b2⟩
  have hik : isN S.nodes no = false → (getN S.nodes no).kind = 0 := fun hi => by rw [(isN_false hi).1]; rfl
  have hi1 : isN S.nodes no = true → 1 ≤ no := fun hi => by
    obtain ⟨k, hk, e⟩ := isN_iff.1 hi
    have := (hu.2 _ (List.getElem_mem hk)).1
    omega
  obtain ⟨n, hn⟩ : ∃ n, n = getN S.nodes no := ⟨_, rfl⟩
  obtain ⟨i, hi⟩ : ∃ i, i = isN S.nodes no := ⟨_, rfl⟩
  rw [← hn] at ok2 hm hik
  rw [← hi] at hik hi1
  rw [← hn, ← hi]
  obtain ⟨W3, hW3⟩ : ∃ W3, W3 = w2.alloc (.cells #[.int .i64 n.no, .int .i64 n.dev, .int .i64 n.kind, .int .i64 n.mode, .int .i64 n.uid, .int .i64 n.gid, .int .i64 n.mtime, .int .i64 n.ctime, .int .i64 n.links, .int .i64 n.up, .string (bs n.data), .slice A n.ents.length c] 100) := ⟨_, rfl⟩
  have E23 : Ext w2 W3 := by rw [hW3]; exact (Ext.refl _).alloc _
  obtain ⟨b5, hb5⟩ : ∃ b, b = w2.heap.size := ⟨_, rfl⟩
  have N3 : Has W3 b5 (.cells #[.int .i64 n.no, .int .i64 n.dev, .int .i64 n.kind, .int .i64 n.mode, .int .i64 n.uid, .int .i64 n.gid, .int .i64 n.mtime, .int .i64 n.ctime, .int .i64 n.links, .int .i64 n.up, .string (bs n.data), .slice A n.ents.length c] 100) := by rw [hW3, hb5]; exact Has.new _ _
  have E3 : Ext w W3 := (b1.trans b2).trans E23
  have hbw : w.heap.size ≤ b5 := by rw [hb5]; exact (b1.trans b2).size
  have HIK := Lib.hid hik
  have HI1 := Lib.hid hi1
  have HNN := Lib.hid hn
  clear v0 hn hi hik hi1
  go_upto_region 4 with fail
  rw [← hW3]
  rw [← hb5]
  clear hW3 hb5
  have k2 : W3.cell? ⟨b5, 2, none⟩ = some (.int .i64 n.kind) := N3.cell 2
  have k1 : W3.cell? ⟨b5, 1, none⟩ = some (.int .i64 n.dev) := N3.cell 1
  have kz := N3.lt
  cases i
  · have hE : Hid (aboveF S no = 0) := by show _ = _; rw [hm.out, if_neg (by rw [HIK.out rfl]; decide)]
    clear hm
    go_wp2_with fail
    go_ret
    exact Ret.mk (ret_int hE.out.symm) E3
  · by_cases c1 : n.kind = 1
    · have t1 : (n.kind == 1) = true := by simpa using c1
      have t1b : (n.kind != 1) = false := by simpa using c1
      have hno := HI1.out rfl
      have hm2 : Hid (aboveF S no = if rootF S.devs n.dev = no ∧ 1 < n.dev then (getN S.nodes (devN S.devs n.dev).over).up else n.up) := by show _ = _; rw [hm.out, if_pos c1]
      clear hm c1
      go_wp2_with fail
      refine (proot_any B g S n.dev _ (h.ext E3) hd (by omega)).mono ?_
      rintro e w4 ⟨rfl, b4⟩
      have N4 := N3.ext b4
      have E4 := E3.trans b4
      clear k1 k2 kz
      have k1 : w4.cell? ⟨b5, 1, none⟩ = some (.int .i64 n.dev) := N4.cell 1
      have kz := N4.lt
      by_cases c2 : rootF S.devs n.dev = no
      · have t2 : (rootF S.devs n.dev == no) = true := by simpa using c2
        by_cases c3 : 1 < n.dev
        · have t3 : decide (1 < n.dev) = true := decide_eq_true c3
          have C23 := Lib.hid (And.intro c2 c3)
          clear c2 c3
          go_upto_region 7 with fail
          obtain ⟨c2, c3⟩ := C23.out
          rcases rootF_zero hr n.dev with ⟨r1, _⟩ | ⟨k, hk, e1, _, e3, _, _, _⟩
          · exfalso; omega
          have hm3 : Hid (aboveF S no = (getN S.nodes S.devs[k].over).up) := by show _ = _; rw [hm2.out, if_pos ⟨c2, c3⟩, e3]
          clear hm2
          obtain ⟨ov, hov⟩ : ∃ ov, ov = S.devs[k].over := ⟨_, rfl⟩
          obtain ⟨A7, c7, ok7, C7⟩ := tget_fix B g S ov w4 (h.ext E4)
          obtain ⟨_, _, cd4, hW4, hD4⟩ := id (h.ext E4)
          obtain ⟨_, d1, _, _, _, _⟩ := RowD.at_ hD4 k hk
          rw [← hov] at d1 hm3
          obtain ⟨m, hm7⟩ : ∃ m, m = getN S.nodes ov := ⟨_, rfl⟩
          obtain ⟨i7, hi7⟩ : ∃ i7, i7 = isN S.nodes ov := ⟨_, rfl⟩
          rw [← hm7] at ok7 C7 hm3
          rw [← hi7] at C7
          have HC7 := Lib.hid C7
          have hl4 := (h.ext E4).lt
          have u0 : ∀ u : Gr w4, u.w.cell? ⟨g.bW, 0, none⟩ = some (.pointer (some ⟨g.bT, 0, none⟩)) := Gr.cell hW4.lt (hW4.cell 0)
          have u1 : ∀ u : Gr w4, u.w.cell? ⟨g.bW, 1, none⟩ = some (.slice (some ⟨g.bD, 0, none⟩) S.devs.length cd4) := Gr.cell hW4.lt (hW4.cell 1)
          have u5 : ∀ u : Gr w4, u.w.cell? ⟨b5, 1, none⟩ = some (.int .i64 n.dev) := Gr.cell N4.lt (N4.cell 1)
          have ud : ∀ u : Gr w4, u.w.cell? ⟨g.bD, k * 6 + 1, none⟩ = some (.int .i64 ov) := Gr.cell hl4.2.2.2 d1
          have y0 : (0 : Int) ≤ n.dev - 1 := by rw [e1]; omega
          have y1 : n.dev - 1 < (S.devs.length : Int) := by rw [e1]; omega
          have y2 : (n.dev - 1).toNat = k := by rw [e1]; omega
          have y3 : IntKind.i64.wrap (n.dev - 1) = n.dev - 1 := wrap_i64_in (by omega) (by omega)
          have y4 : 1 ≤ n.dev := by omega
          have y5 : n.dev.toNat - 1 = k := by omega
          clear d1 hW4 hD4 e1 e3 hov hm7 hi7 C7 k1 c2 c3 t2 t3
          go_cut [] (fun wc => ∃ w0, Ext w4 w0 ∧ Only [b5] w0 wc ∧ Has wc b5 (.cells #[.int .i64 m.no, .int .i64 m.dev, .int .i64 m.kind, .int .i64 m.mode, .int .i64 m.uid, .int .i64 m.gid, .int .i64 m.mtime, .int .i64 m.ctime, .int .i64 m.links, .int .i64 m.up, .string (bs m.data), .slice A7 m.ents.length c7] 100))
          case first =>
            refine wp_region_node w4 18 5 52 b5 m n A7 A c7 c N4 _ (by kernel_rfl) (by kernel_rfl) rfl rfl ((Ext.refl _).drew) ?_
            simp only [List.take_succ_cons, List.take_zero, List.drop_succ_cons, List.drop_nil]
            repeat (refine wpQuietR_step (fun K hK => ?_)
                    go_simp
                    first
                      | (refine hK _ ?_; clear hK K)
                      | (apply Exists.intro
                         refine ⟨fun u => ?_, hK _ ?_⟩
                         ((with_reducible refine (HC7.out _ (Gr.h _)).mono ?_); rintro e w'' ⟨rfl, hx⟩; exact ⟨rfl, hx⟩)
                         clear hK K))
            refine wpQuietR_nil ⟨rfl, rfl, ?_⟩
            refine wpQuietR_nil ?_
            intro w' hw'
            go_wp2_with fail
            go_meet
            exact hw'
          case rest =>
          obtain ⟨w0, E40, O, N5⟩ := hcut
          have k9 : wc.cell? ⟨b5, 9, none⟩ = some (.int .i64 m.up) := N5.cell 9
          have kz5 := N5.lt
          clear kz y0 y1 y2 y3 y4 y5 u0 u1 u5 ud
          go_wp2_with fail
          go_ret
          exact Ret.mk (ret_int hm3.out.symm) (O.after (E4.trans E40) (by intro x hx; rw [List.mem_singleton] at hx; omega))
        · have t3 : decide (1 < n.dev) = false := decide_eq_false c3
          have hE : Hid (aboveF S no = n.up) := by show _ = _; rw [hm2.out, if_neg (fun h => c3 h.2)]
          have k9 : w4.cell? ⟨b5, 9, none⟩ = some (.int .i64 n.up) := N4.cell 9
          clear hm2 c2 c3
          go_wp2_with fail
          go_ret
          exact Ret.mk (ret_int hE.out.symm) E4
      · have t2 : (rootF S.devs n.dev == no) = false := by simpa using c2
        have hE : Hid (aboveF S no = n.up) := by show _ = _; rw [hm2.out, if_neg (fun h => c2 h.1)]
        have k9 : w4.cell? ⟨b5, 9, none⟩ = some (.int .i64 n.up) := N4.cell 9
        clear hm2 c2
        go_wp2_with fail
        go_ret
        exact Ret.mk (ret_int hE.out.symm) E4
    · have t1 : (n.kind == 1) = false := by simpa using c1
      have t1b : (n.kind != 1) = true := by simpa using c1
      have hE : Hid (aboveF S no = 0) := by show _ = _; rw [hm.out, if_neg c1]
      clear hm c1
      go_wp2_with fail
      go_ret
      exact Ret.mk (ret_int hE.out.symm) E3
end Go.Proofs.Ytebghednhjaniaa

namespace Go.Proofs.Ytebghednhjaniaa
open Go.ChangeShapes Go.WideShapes Go.ChangeAt Go.RowKit

set_option maxRecDepth 100000 in
set_option maxHeartbeats 4000000 in
theorem rabove_any (B : Nat) (g : GhF) (S : TreeD) (X : Xtra) (no : Int) (w : World) (h : FAt w B g S X) (hl : S.nodes.length ≤ 1000000) (hd2 : S.devs.length ≤ 8) (hr : RootsOk S.devs) (hu : NosUp S.nodes S.last) :
    Calls Try.prog 127 #[.pointer (some ⟨g.bF, 0, none⟩), .int .i64 no] w (Ret w (.int .i64 (aboveF S no))) := by
  have hm : Hid (aboveF S no = if (getN S.nodes no).kind = 1 then if rootF S.devs (getN S.nodes no).dev = no ∧ 1 < (getN S.nodes no).dev then (getN S.nodes (devN S.devs (getN S.nodes no).dev).over).up else (getN S.nodes no).up else 0) := by show _ = _; rfl
  go_enter Try.func127, Try.ntmps127
  go_wp2_with fail
  refine (rget_any B g S X no _ h hl hu).mono ?_
  rintro e w2 ⟨A, c, rfl, ok2, b2⟩
  have hi1 : (getN S.nodes no).kind = 1 → 1 ≤ no := fun hk => by
    obtain ⟨k, hk, e⟩ := isN_iff.1 (isN_kind hk)
    have := (hu.2 _ (List.getElem_mem hk)).1
    omega
  obtain ⟨n, hn⟩ : ∃ n, n = getN S.nodes no := ⟨_, rfl⟩
  rw [← hn] at ok2 hm hi1
  rw [← hn]
  obtain ⟨W3, hW3⟩ : ∃ W3, W3 = w2.alloc (.cells #[.int .i64 n.no, .int .i64 n.dev, .int .i64 n.kind, .int .i64 n.mode, .int .i64 n.uid, .int .i64 n.gid, .int .i64 n.mtime, .int .i64 n.ctime, .int .i64 n.links, .int .i64 n.up, .string (bs n.data), .slice A n.ents.length c] 100) := ⟨_, rfl⟩
  have E23 : Ext w2 W3 := by rw [hW3]; exact (Ext.refl _).alloc _
  obtain ⟨b5, hb5⟩ : ∃ b, b = w2.heap.size := ⟨_, rfl⟩
  have N3 : Has W3 b5 (.cells #[.int .i64 n.no, .int .i64 n.dev, .int .i64 n.kind, .int .i64 n.mode, .int .i64 n.uid, .int .i64 n.gid, .int .i64 n.mtime, .int .i64 n.ctime, .int .i64 n.links, .int .i64 n.up, .string (bs n.data), .slice A n.ents.length c] 100) := by rw [hW3, hb5]; exact Has.new _ _
  have E3 : Ext w W3 := b2.trans E23
  have hbw : w.heap.size ≤ b5 := by rw [hb5]; exact b2.size
  have HI1 := Lib.hid hi1
  have HNN := Lib.hid hn
  clear hn hi1
  go_upto_region 2 with fail
  rw [← hW3]
  rw [← hb5]
  clear hW3 hb5
  have k2 : W3.cell? ⟨b5, 2, none⟩ = some (.int .i64 n.kind) := N3.cell 2
  have k1 : W3.cell? ⟨b5, 1, none⟩ = some (.int .i64 n.dev) := N3.cell 1
  have kz := N3.lt
  by_cases c1 : n.kind = 1
  · have t1 : (n.kind == 1) = true := by simpa using c1
    have t1b : (n.kind != 1) = false := by simpa using c1
    have hno := HI1.out c1
    have hm2 : Hid (aboveF S no = if rootF S.devs n.dev = no ∧ 1 < n.dev then (getN S.nodes (devN S.devs n.dev).over).up else n.up) := by show _ = _; rw [hm.out, if_pos c1]
    clear hm c1
    by_cases c3 : 1 < n.dev
    · have t3 : decide (1 < n.dev) = true := decide_eq_true c3
      have C3 := Lib.hid c3
      go_wp2_with fail
      refine (rroot_any B g S X n.dev _ (h.ext E3) (by omega)).mono ?_
      rintro e w4 ⟨rfl, b4⟩
      have N4 := N3.ext b4
      have E4 := E3.trans b4
      clear k1 k2 kz
      have k1 : w4.cell? ⟨b5, 1, none⟩ = some (.int .i64 n.dev) := N4.cell 1
      have kz := N4.lt
      by_cases c2 : rootF S.devs n.dev = no
      · have t2 : (rootF S.devs n.dev == no) = true := by simpa using c2
        have C2 := Lib.hid c2
        clear c2 c3
        go_upto_region 5 with fail
        have c2 := C2.out
        have c3 := C3.out
        rcases rootF_zero hr n.dev with ⟨r1, _⟩ | ⟨k, hk, e1, _, e3, _, _, _⟩
        · exfalso; omega
        have hm3 : Hid (aboveF S no = (getN S.nodes S.devs[k].over).up) := by show _ = _; rw [hm2.out, if_pos ⟨c2, c3⟩, e3]
        obtain ⟨ov, hov⟩ : ∃ ov, ov = S.devs[k].over := ⟨_, rfl⟩
        obtain ⟨A7, c7, ok7, C7⟩ := rget_fix B g S X ov w4 (h.ext E4) hl hu
        obtain ⟨_, cn4, cd4, hW4, _, hD4⟩ := id (h.ext E4)
        obtain ⟨_, d1, _, _, _, _⟩ := RowD.at_ hD4 k hk
        rw [← hov] at d1 hm3
        obtain ⟨m, hm7⟩ : ∃ m, m = getN S.nodes ov := ⟨_, rfl⟩
        rw [← hm7] at ok7 C7 hm3
        have HC7 := Lib.hid C7
        have hl4 := (h.ext E4).lt
        have u1 : ∀ u : Gr w4, u.w.cell? ⟨g.bF, 1, none⟩ = some (.slice (some ⟨g.bE, 0, none⟩) S.devs.length cd4) := Gr.cell hW4.lt (hW4.cell 1)
        have u5 : ∀ u : Gr w4, u.w.cell? ⟨b5, 1, none⟩ = some (.int .i64 n.dev) := Gr.cell N4.lt (N4.cell 1)
        have ud : ∀ u : Gr w4, u.w.cell? ⟨g.bE, k * 6 + 1, none⟩ = some (.int .i64 ov) := Gr.cell hl4.2.2 d1
        have y0 : (0 : Int) ≤ n.dev - 1 := by rw [e1]; omega
        have y1 : n.dev - 1 < (S.devs.length : Int) := by rw [e1]; omega
        have y2 : (n.dev - 1).toNat = k := by rw [e1]; omega
        have y3 : IntKind.i64.wrap (n.dev - 1) = n.dev - 1 := wrap_i64_in (by omega) (by omega)
        have y4 : 1 ≤ n.dev := by omega
        have y5 : n.dev.toNat - 1 = k := by omega
        clear d1 hW4 hD4 e1 e3 hov hm7 C7 k1 c2 c3 t2 t3 hm2
        go_cut [] (fun wc => ∃ w0, Ext w4 w0 ∧ Only [b5] w0 wc ∧ Has wc b5 (.cells #[.int .i64 m.no, .int .i64 m.dev, .int .i64 m.kind, .int .i64 m.mode, .int .i64 m.uid, .int .i64 m.gid, .int .i64 m.mtime, .int .i64 m.ctime, .int .i64 m.links, .int .i64 m.up, .string (bs m.data), .slice A7 m.ents.length c7] 100))
        case first =>
          refine wp_region_node w4 12 5 34 b5 m n A7 A c7 c N4 _ (by kernel_rfl) (by kernel_rfl) rfl rfl ((Ext.refl _).drew) ?_
          simp only [List.take_succ_cons, List.take_zero, List.drop_succ_cons, List.drop_nil]
          repeat (refine wpQuietR_step (fun K hK => ?_)
                  go_simp
                  first
                    | (refine hK _ ?_; clear hK K)
                    | (apply Exists.intro
                       refine ⟨fun u => ?_, hK _ ?_⟩
                       ((with_reducible refine (HC7.out _ (Gr.h _)).mono ?_); rintro e w'' ⟨rfl, hx⟩; exact ⟨rfl, hx⟩)
                       clear hK K))
          refine wpQuietR_nil ⟨rfl, rfl, ?_⟩
          refine wpQuietR_nil ?_
          intro w' hw'
          go_wp2_with fail
          go_meet
          exact hw'
        case rest =>
        obtain ⟨w0, E40, O, N5⟩ := hcut
        have k9 : wc.cell? ⟨b5, 9, none⟩ = some (.int .i64 m.up) := N5.cell 9
        have kz5 := N5.lt
        clear kz y0 y1 y2 y3 y4 y5 u1 u5 ud
        go_wp2_with fail
        go_ret
        exact Ret.mk (ret_int hm3.out.symm) (O.after (E4.trans E40) (by intro x hx; rw [List.mem_singleton] at hx; omega))
      · have t2 : (rootF S.devs n.dev == no) = false := by simpa using c2
        have hE : Hid (aboveF S no = n.up) := by show _ = _; rw [hm2.out, if_neg (fun h => c2 h.1)]
        have k9 : w4.cell? ⟨b5, 9, none⟩ = some (.int .i64 n.up) := N4.cell 9
        clear hm2 c2 c3
        go_wp2_with fail
        go_ret
        exact Ret.mk (ret_int hE.out.symm) E4
    · have t3 : decide (1 < n.dev) = false := decide_eq_false c3
      have hE : Hid (aboveF S no = n.up) := by show _ = _; rw [hm2.out, if_neg (fun h => c3 h.2)]
      have k9 : W3.cell? ⟨b5, 9, none⟩ = some (.int .i64 n.up) := N3.cell 9
      clear hm2 c3
      go_wp2_with fail
      go_ret
      exact Ret.mk (ret_int hE.out.symm) E3
  · have t1 : (n.kind == 1) = false := by simpa using c1
    have t1b : (n.kind != 1) = true := by simpa using c1
    have hE : Hid (aboveF S no = 0) := by show _ = _; rw [hm.out, if_neg c1]
    clear hm c1
    go_wp2_with fail
    go_ret
    exact Ret.mk (ret_int hE.out.symm) E3
end Go.Proofs.Ytebghednhjaniaa

namespace Go.Proofs.Ytebghednhjaniaa
open Go.ChangeShapes Go.WideShapes Go.ChangeAt Go.RowKit

def wiF (S : TreeD) (base : Int) : Nat → Int → Bool
  | 0, _ => false
  | f + 1, no => if no = 0 then false else if no = base then true else wiF S base f (aboveF S no)
/-- Whoever goes up comes to an end: a number that falls. -/
structure Rank (S : TreeD) (r : Int → Nat) : Prop where
  step : ∀ no, no ≠ 0 → aboveF S no ≠ 0 → aboveF S no ≠ no → r (aboveF S no) < r no
  top : ∀ no, r no ≤ S.nodes.length
def withinF (S : TreeD) (no base : Int) : Bool := wiF S base (S.nodes.length + 1) no
theorem wi_zero (S : TreeD) (base : Int) (f : Nat) : wiF S base f 0 = false := by cases f <;> simp [wiF]
theorem wi_stay {S : TreeD} {base no : Int} (h : aboveF S no = no) (hb : no ≠ base) : ∀ f, wiF S base f no = false
  | 0 => rfl
  | f + 1 => by
    unfold wiF
    split
    · rfl
    · rw [h]; exact wi_stay h hb f
theorem wi_stable {S : TreeD} {r : Int → Nat} (R : Rank S r) (base : Int) : ∀ (n : Nat) (no : Int), r no ≤ n → ∀ f g, r no < f → r no < g → wiF S base f no = wiF S base g no := by
  intro n
  induction n with
  | zero =>
    intro no hn f g hf hg
    match f, g, hf, hg with
    | f + 1, g + 1, _, _ =>
      unfold wiF
      split
      · rfl
      · split
        · rfl
        · rename_i h0 hb
          by_cases hu : aboveF S no = 0
          · rw [hu, wi_zero, wi_zero]
          · by_cases hs : aboveF S no = no
            · rw [hs, wi_stay hs hb, wi_stay hs hb]
            · have := R.step no h0 hu hs; omega
  | succ n ih =>
    intro no hn f g hf hg
    match f, g, hf, hg with
    | f + 1, g + 1, hf, hg =>
      unfold wiF
      split
      · rfl
      · split
        · rfl
        · rename_i h0 hb
          by_cases hu : aboveF S no = 0
          · rw [hu, wi_zero, wi_zero]
          · by_cases hs : aboveF S no = no
            · rw [hs, wi_stay hs hb, wi_stay hs hb]
            · have := R.step no h0 hu hs
              exact ih _ (by omega) f g (by omega) (by omega)
theorem within_zero (S : TreeD) (base : Int) : withinF S 0 base = false := wi_zero S base _
theorem within_base {S : TreeD} {no base : Int} (h0 : no ≠ 0) (h : no = base) : withinF S no base = true := by
  unfold withinF wiF; rw [if_neg h0, if_pos h]
theorem within_stay {S : TreeD} {no base : Int} (h : aboveF S no = no) (hb : no ≠ base) : withinF S no base = false := wi_stay h hb _
theorem within_step {S : TreeD} {r : Int → Nat} (R : Rank S r) {no base : Int} (h0 : no ≠ 0) (hb : no ≠ base) (hs : aboveF S no ≠ no) : withinF S no base = withinF S (aboveF S no) base := by
  have e : withinF S no base = wiF S base S.nodes.length (aboveF S no) := by
    conv => lhs; unfold withinF wiF
    rw [if_neg h0, if_neg hb]
  rw [e]
  by_cases hu : aboveF S no = 0
  · rw [hu, within_zero, wi_zero]
  · have h1 := R.step no h0 hu hs
    have h2 := R.top no
    exact wi_stable R base _ _ (Nat.le_refl _) _ _ (by omega) (by omega)
set_option maxRecDepth 100000 in
set_option maxHeartbeats 4000000 in
theorem pwithin_any (B : Nat) (g : GhW) (S : TreeD) (r : Int → Nat) (no base : Int) (w : World) (h : WAt w B g S) (hd : 0 < S.devs.length) (hd2 : S.devs.length ≤ 8) (hr : RootsOk S.devs) (hu : NosUp S.nodes S.last) (R : Rank S r) :
    Calls Try.prog 139 #[.pointer (some ⟨g.bW, 0, none⟩), .int .i64 no, .int .i64 base] w (Ret w (.bool (withinF S no base))) := by
  have HR := Lib.hid R
  clear R
  obtain ⟨res, hres⟩ : ∃ res, res = withinF S no base := ⟨_, rfl⟩
  rw [← hres]
  have HRES := Lib.hid hres
  clear hres
  go_enter Try.func139, Try.ntmps139
  go_wp2_with fail
  go_loopw [1, 7] (fun v1 _ wr => ∃ n : Int, v1 = .int .i64 n ∧ Hid (withinF S n base = res) ∧ Ext w wr) (fun v1 _ _ => if intOf v1 = 0 then 0 else r (intOf v1) + 1)
  case atStart => exact ⟨no, rfl, HRES.out.symm, Ext.refl _⟩
  case round =>
    obtain ⟨n, rfl, hw, hE⟩ := hrel
    by_cases h0 : n = 0
    · have hf : Hid (res = false) := by show _ = _; rw [← hw.out, h0, within_zero]
      subst h0
      go_wp2_with fail
      go_ret
      exact Ret.mk (ret_bool hf.out.symm) hE
    · have t0 : (n == 0) = false := by simpa using h0
      have t0b : (n != 0) = true := by simpa using h0
      by_cases hb : n = base
      · have t1 : (n == base) = true := by simpa using hb
        have hf : Hid (res = true) := by show _ = _; rw [← hw.out, within_base h0 hb]
        clear h0 hb
        go_wp2_with fail
        go_ret
        exact Ret.mk (ret_bool hf.out.symm) hE
      · have t1 : (n == base) = false := by simpa using hb
        have H0 := Lib.hid h0
        have HB := Lib.hid hb
        clear h0 hb
        go_wp2_with fail
        refine (pabove_any B g S n _ (h.ext hE) hd hd2 hr hu).mono ?_
        rintro e w2 ⟨rfl, b2⟩
        obtain ⟨u, hu'⟩ : ∃ u, u = aboveF S n := ⟨_, rfl⟩
        rw [← hu']
        have HU := Lib.hid hu'
        clear hu'
        by_cases hs : u = n
        · have t2 : (u == n) = true := by simpa using hs
          have hf : Hid (res = false) := by show _ = _; rw [← hw.out, within_stay (by rw [← HU.out]; exact hs) HB.out]
          clear hs
          go_wp2_with fail
          go_ret
          exact Ret.mk (ret_bool hf.out.symm) (hE.trans b2)
        · have t2 : (u == n) = false := by simpa using hs
          have hst : Hid (withinF S u base = res) := by show _ = _; rw [← hw.out, HU.out]; exact (within_step HR.out H0.out HB.out (by rw [← HU.out]; exact hs)).symm
          have hms : Hid (u ≠ 0 → r u < r n) := by
            show u ≠ 0 → r u < r n
            intro h; rw [HU.out]; exact HR.out.step n H0.out (by rw [← HU.out]; exact h) (by rw [← HU.out]; exact hs)
          clear hs
          have hms2 : Hid ((if u = 0 then 0 else r u + 1) < (if n = 0 then 0 else r n + 1)) := by
            show (if u = 0 then 0 else r u + 1) < (if n = 0 then 0 else r n + 1)
            rw [if_neg H0.out]
            split
            · omega
            · rename_i h; have := hms.out h; omega
          go_wp2_with fail
          go_roundw
          case rel => exact ⟨u, rfl, hst, hE.trans b2⟩
          case measure => exact hms2.out
set_option maxRecDepth 100000 in
set_option maxHeartbeats 4000000 in
theorem rwithin_any (B : Nat) (g : GhF) (S : TreeD) (X : Xtra) (no base : Int) (w : World) (h : FAt w B g S X) (hl : S.nodes.length ≤ 100000) (hd2 : S.devs.length ≤ 8) (hr : RootsOk S.devs) (hu : NosUp S.nodes S.last) :
    Calls Try.prog 182 #[.pointer (some ⟨g.bF, 0, none⟩), .int .i64 no, .int .i64 base] w (Ret w (.bool (withinF S no base))) := by
  obtain ⟨res, hres⟩ : ∃ res, res = withinF S no base := ⟨_, rfl⟩
  rw [← hres]
  have HRES := Lib.hid hres
  clear hres
  obtain ⟨L, hL⟩ : ∃ L, L = S.nodes.length := ⟨_, rfl⟩
  have hL2 : L ≤ 100000 := by omega
  have HL := Lib.hid hL
  clear hL
  go_enter Try.func182, Try.ntmps182
  go_wp2_with fail
  go_loopw [1, 7] (fun v1 v7 wr => ∃ (n : Int) (k : Nat), v1 = .int .i64 n ∧ v7 = .int .i64 k ∧ k ≤ L + 1 ∧ Hid (wiF S base (L + 1 - k) n = res) ∧ Ext w wr) (fun _ v7 _ => L + 1 - (intOf v7).toNat)
  case atStart => exact ⟨no, 0, rfl, rfl, by omega, by show _ = _; rw [HRES.out, HL.out]; rfl, Ext.refl _⟩
  case round =>
    obtain ⟨n, k, rfl, rfl, hk, hw, hE⟩ := hrel
    obtain ⟨_, cn, cd, hF, _, _⟩ := id (h.ext hE)
    have c0 : wr.cell? ⟨g.bF, 0, none⟩ = some (.slice (some ⟨g.bN, 0, none⟩) L cn) := by rw [HL.out]; exact hF.cell 0
    have zF := hF.lt
    clear hF
    by_cases hkl : (k : Int) ≤ L
    · have tk : decide ((k : Int) ≤ L) = true := decide_eq_true hkl
      obtain ⟨f, hf⟩ : ∃ f, L + 1 - k = f + 1 := ⟨L - k, by omega⟩
      have hw2 : Hid ((if n = 0 then false else if n = base then true else wiF S base f (aboveF S n)) = res) := by
        show _ = _
        rw [← hw.out, hf]; rfl
      have hf2 : f = L + 1 - (k + 1) := by omega
      have HF2 := Lib.hid hf2
      clear hf hf2 hw
      by_cases h0 : n = 0
      · have hv : Hid (res = false) := by show _ = _; rw [← hw2.out, if_pos h0]
        subst h0
        go_wp2_with fail
        go_ret
        exact Ret.mk (ret_bool hv.out.symm) hE
      · have t0 : (n == 0) = false := by simpa using h0
        have t0b : (n != 0) = true := by simpa using h0
        by_cases hb : n = base
        · have t1 : (n == base) = true := by simpa using hb
          have hv : Hid (res = true) := by show _ = _; rw [← hw2.out, if_neg h0, if_pos hb]
          clear h0 hb
          go_wp2_with fail
          go_ret
          exact Ret.mk (ret_bool hv.out.symm) hE
        · have t1 : (n == base) = false := by simpa using hb
          have hw3 : Hid (wiF S base f (aboveF S n) = res) := by show _ = _; rw [← hw2.out, if_neg h0, if_neg hb]
          clear h0 hb hw2
          go_wp2_with fail
          refine (rabove_any B g S X n _ (h.ext hE) (by have := HL.out; omega) hd2 hr hu).mono ?_
          rintro e w2 ⟨rfl, b2⟩
          clear c0 zF
          go_wp2_with fail
          go_roundw
          case rel => exact ⟨aboveF S n, k + 1, rfl, by go_num, by omega, by show _ = _; rw [← HF2.out]; exact hw3.out, hE.trans b2⟩
          case measure => simp [intOf]; omega
    · have tk : decide ((k : Int) ≤ L) = false := decide_eq_false hkl
      have hv : Hid (res = false) := by
        show _ = _
        rw [← hw.out, show L + 1 - k = 0 by omega]; rfl
      go_wp2_with fail
      go_ret
      exact Ret.mk (ret_bool hv.out.symm) hE
end Go.Proofs.Ytebghednhjaniaa

namespace Go.Proofs.Ytebghednhjaniaa
open Go.ChangeShapes Go.WideShapes Go.ChangeAt Go.RowKit

def busyF (S : TreeD) (no : Int) : Bool := (S.devs.drop 1).any fun d => withinF S d.over no
theorem busy_yes {S : TreeD} {no : Int} {k : Nat} (hk : k + 1 < S.devs.length) (h : withinF S S.devs[k + 1].over no = true) : busyF S no = true := by
  unfold busyF
  rw [List.any_eq_true]
  exact ⟨S.devs[k + 1], by rw [List.mem_drop_iff_getElem]; exact ⟨k, by omega, by congr 1; omega⟩, h⟩
theorem busy_no {S : TreeD} {no : Int} (h : ∀ j, (hj : j + 1 < S.devs.length) → withinF S S.devs[j + 1].over no = false) : busyF S no = false := by
  unfold busyF
  rw [List.any_eq_false]
  intro d hd
  rw [List.mem_drop_iff_getElem] at hd
  obtain ⟨k, hk, rfl⟩ := hd
  have := h k (by omega)
  have e : S.devs[1 + k] = S.devs[k + 1] := by congr 1; omega
  rw [e, this]; decide
theorem from_oneD (bl n m cap : Nat) (h0 : n = m + 1) (hc : n ≤ cap) : ∃ X : Addr, (∀ W, (Instr.slice 49 (.slice (some ⟨bl, 0, none⟩) n cap) (some (.int .i64 1)) none none).run Try.prog W = .ok (.slice (some X) m (cap - 1)) W) ∧ (0 < m → X = ⟨bl, 6, none⟩) := by
  have h4 : n - 1 = m := by omega
  have hu := Try.underlying49
  have h1 : (1 : Int) ≤ n := by omega
  have hi : (Try.prog.info? 145).map (·.size) = some 6 := by kernel_rfl
  by_cases h : cap = 1
  · refine ⟨⟨bl, 0, none⟩, fun W => ?_, fun h2 => by omega⟩
    subst h
    go_simp
    intro h; omega
  · refine ⟨⟨bl, 6, none⟩, fun W => ?_, fun _ => rfl⟩
    go_simp
    intro h; omega
theorem RowD.cap {w : World} {B : Nat} {t : TypeId} {g cap : Nat} {ds : List DevD} (h : RowD w B t (.slice (some ⟨g, 0, none⟩) ds.length cap) ds) : ds.length ≤ cap := by
  rcases h.2 with ⟨h0, _⟩ | ⟨g', cap', cur, h0, hb, hg, h1, h2, h3, h4⟩
  · cases h0
  · injection h0 with h0 e1 e2
    omega
set_option maxRecDepth 100000 in
set_option maxHeartbeats 4000000 in
theorem pbusy_any (B : Nat) (g : GhW) (S : TreeD) (r : Int → Nat) (no : Int) (w : World) (h : WAt w B g S) (hd : 0 < S.devs.length) (hd2 : S.devs.length ≤ 8) (hr : RootsOk S.devs) (hu : NosUp S.nodes S.last) (R : Rank S r) :
    Calls Try.prog 149 #[.pointer (some ⟨g.bW, 0, none⟩), .int .i64 no] w (Ret w (.bool (busyF S no))) := by
  have h0 := h
  obtain ⟨h1, h2, cd, h3, h4⟩ := h
  have hcap := RowD.cap h4
  obtain ⟨n, hn⟩ : ∃ n, n = S.devs.length := ⟨_, rfl⟩
  obtain ⟨m, hm⟩ : ∃ m, n = m + 1 := ⟨n - 1, by omega⟩
  obtain ⟨X, hX1, hX2⟩ := from_oneD g.bD n m cd hm (by omega)
  rw [← hn] at h3
  have hm8 : m ≤ 8 := by omega
  have HN := Lib.hid hn
  have HM := Lib.hid hm
  have HX2 := Lib.hid hX2
  have HR := Lib.hid R
  clear hn hm hX2 R hcap
  go_enter Try.func149, Try.ntmps149
  go_wp2_with fail
  refine (pnone_any B g S _ h0 hd).mono ?_
  rintro e w1 ⟨rfl, b1⟩
  have hW := (h3.ext b1).lt
  have c1 := (h3.ext b1).cell 1
  simp only [List.getElem?_toArray, List.getElem?_cons_succ, List.getElem?_cons_zero] at c1
  go_wp2_with fail
  go_loopw [15] (fun i wr => ∃ k : Nat, k ≤ m ∧ i = .int .i64 k ∧ Hid (∀ j, (hj : j + 1 < S.devs.length) → j < k → withinF S S.devs[j + 1].over no = false) ∧ Ext w wr) (fun i _ => m - (intOf i).toNat)
  case atStart => exact ⟨0, Nat.zero_le _, rfl, fun j _ h => by omega, b1⟩
  case round =>
    obtain ⟨k, hk, rfl, ha, hE⟩ := hrel
    by_cases hlt : (k : Int) < m
    · have hkl : k + 1 < S.devs.length := by have := HN.out; have := HM.out; omega
      obtain rfl := HX2.out (by omega)
      obtain ⟨d0, d1, d2, d3, d4, d5⟩ := RowD.at_ (show RowD wr B 145 _ S.devs from ownsRow_only h4 (Only.of_ext (L := []) hE) (by simp)) (k + 1) hkl
      rw [show (k + 1) * 6 = 6 + k * 6 by omega] at d0 d1 d2 d3 d4 d5
      have hbD : g.bD < wr.heap.size := (h0.ext hE).lt.2.2.2
      obtain ⟨x, hx⟩ : ∃ x, x = S.devs[k + 1] := ⟨_, rfl⟩
      rw [← hx] at d0 d1 d2 d3 d4 d5
      have HXX := Lib.hid hx
      clear hx c1 hW
      go_wp2_with fail
      refine (pwithin_any B g S r x.over no _ ((h0.ext hE).ext ((Ext.refl _).alloc _)) hd hd2 hr hu HR.out).mono ?_
      rintro e w2 ⟨rfl, b2⟩
      have hE2 := (hE.alloc (.cells #[.int .i64 x.root, .int .i64 x.over, .int .i64 x.q.blocks, .int .i64 x.q.nodes, .int .i64 x.q.mostB, .int .i64 x.q.mostN] 145)).trans b2
      cases hq : withinF S x.over no
      · have ha2 : Hid (∀ j, (hj : j + 1 < S.devs.length) → j < k + 1 → withinF S S.devs[j + 1].over no = false) := by
          show ∀ j, (hj : j + 1 < S.devs.length) → j < k + 1 → withinF S S.devs[j + 1].over no = false
          intro j hj hj2
          by_cases e : j = k
          · subst e; rw [← HXX.out]; exact hq
          · exact ha.out j hj (by omega)
        clear hq d0 d1 d2 d3 d4 d5
        go_wp2_with fail
        go_roundw
        case rel => exact ⟨k + 1, by omega, by go_num, ha2, hE2⟩
        case measure => simp [intOf]; omega
      · have hf : Hid (busyF S no = true) := busy_yes hkl (by rw [← HXX.out]; exact hq)
        clear hq d0 d1 d2 d3 d4 d5
        go_wp2_with fail
        go_ret
        exact Ret.mk (ret_bool hf.out.symm) hE2
    · have hf : Hid (busyF S no = false) := busy_no fun j hj => ha.out j hj (by have := HN.out; have := HM.out; omega)
      clear c1 hW
      go_wp2_with fail
      go_ret
      exact Ret.mk (ret_bool hf.out.symm) hE
set_option maxRecDepth 100000 in
set_option maxHeartbeats 4000000 in
theorem rbusy_any (B : Nat) (g : GhF) (S : TreeD) (X : Xtra) (no : Int) (w : World) (h : FAt w B g S X) (hl : S.nodes.length ≤ 100000) (hd2 : S.devs.length ≤ 8) (hr : RootsOk S.devs) (hu : NosUp S.nodes S.last) :
    Calls Try.prog 150 #[.pointer (some ⟨g.bF, 0, none⟩), .int .i64 no] w (Ret w (.bool (busyF S no))) := by
  obtain ⟨n, hn⟩ : ∃ n, n = S.devs.length := ⟨_, rfl⟩
  have hn8 : n ≤ 8 := by omega
  have HN := Lib.hid hn
  clear hn
  go_enter Try.func150, Try.ntmps150
  go_wp2_with fail
  go_loopw [5] (fun i wr => ∃ k : Nat, i = .int .i64 (k + 1) ∧ k ≤ n ∧ Hid (∀ j, (hj : j + 1 < S.devs.length) → j < k → withinF S S.devs[j + 1].over no = false) ∧ Ext w wr) (fun i _ => n + 1 - (intOf i).toNat)
  case atStart => exact ⟨0, rfl, Nat.zero_le _, fun j _ h => by omega, Ext.refl _⟩
  case round =>
    obtain ⟨k, rfl, hk, ha, hE⟩ := hrel
    obtain ⟨_, cn, cd, hF, _, hD⟩ := id (h.ext hE)
    have c1 : wr.cell? ⟨g.bF, 1, none⟩ = some (.slice (some ⟨g.bE, 0, none⟩) n cd) := by rw [HN.out]; exact hF.cell 1
    have zF := hF.lt
    clear hF
    by_cases hlt : (k : Int) + 1 < n
    · have hkl : k + 1 < S.devs.length := by have := HN.out; omega
      obtain ⟨d0, d1, d2, d3, d4, d5⟩ := RowD.at_ hD (k + 1) hkl
      have hbE : g.bE < wr.heap.size := (h.ext hE).lt.2.2
      obtain ⟨x, hx⟩ : ∃ x, x = S.devs[k + 1] := ⟨_, rfl⟩
      rw [← hx] at d1
      have HXX := Lib.hid hx
      have q1 : (0 : Int) ≤ (k : Int) + 1 := by omega
      have q2 : ((k : Int) + 1).toNat = k + 1 := by omega
      have q3 : IntKind.i64.wrap ((k : Int) + 1) = (k : Int) + 1 := wrap_i64_in (by omega) (by omega)
      clear hx d0 d2 d3 d4 d5 hD
      go_wp2_with fail
      refine (rwithin_any B g S X x.over no _ (h.ext hE) hl hd2 hr hu).mono ?_
      rintro e w2 ⟨rfl, b2⟩
      cases hq : withinF S x.over no
      · have ha2 : Hid (∀ j, (hj : j + 1 < S.devs.length) → j < k + 1 → withinF S S.devs[j + 1].over no = false) := by
          show ∀ j, (hj : j + 1 < S.devs.length) → j < k + 1 → withinF S S.devs[j + 1].over no = false
          intro j hj hj2
          by_cases e : j = k
          · subst e; rw [← HXX.out]; exact hq
          · exact ha.out j hj (by omega)
        clear hq d1 c1 zF
        go_wp2_with fail
        go_roundw
        case rel => exact ⟨k + 1, by go_num, by omega, ha2, hE.trans b2⟩
        case measure => simp [intOf]; omega
      · have hf : Hid (busyF S no = true) := busy_yes hkl (by rw [← HXX.out]; exact hq)
        clear hq d1 c1 zF
        go_wp2_with fail
        go_ret
        exact Ret.mk (ret_bool hf.out.symm) (hE.trans b2)
    · have hf : Hid (busyF S no = false) := busy_no fun j hj => ha.out j hj (by have := HN.out; omega)
      go_wp2_with fail
      go_ret
      exact Ret.mk (ret_bool hf.out.symm) hE
end Go.Proofs.Ytebghednhjaniaa

namespace Go.Proofs.Ytebghednhjaniaa
open Go.ChangeShapes Go.WideShapes Go.ChangeAt Go.RowKit

set_option maxRecDepth 100000 in
set_option maxHeartbeats 1000000 in
theorem tlen_any (B bT bM : Nat) (ns : List NodeD) (last : Int) (w : World) (h : TAt w B bT bM ns last) : Calls Try.prog 27 #[.pointer (some ⟨bT, 0, none⟩)] w (Ret w (.int .i64 ns.length)) := by
  obtain ⟨h1, h2, h3, es, cl, h4, h5⟩ := h
  have c0 := h3.cell 0
  simp only [List.getElem?_toArray, List.getElem?_cons_zero] at c0
  have z0 := h3.lt
  have z1 := h4.lt
  have hlen : (es.size : Int) = ns.length := by have := h5.1; rw [Array.length_toList] at this; omega
  have H4 : w.heap[bM]? = some (.map es cl) := h4
  have hr : (Builtin.len_ #[155] 3 #[.map (some bM)]).run Try.prog w = .ok (.int .i64 es.size) w := by simp [Builtin.len_, run_underlying Try.underlying155, MapKept.run_getObj_map h4, goInt, Result.andThen]
  have HL := Lib.hid hlen
  clear h3 h4 h5 hlen H4
  go_enter Try.func27, Try.ntmps27
  go_wp2_with fail
  go_ret
  exact Ret.mk (ret_int HL.out) (Ext.refl _)
theorem res_cell1 {P : Program} {fn : Func} {p : Tmp} {ty : TypeId} (h : fn.results = #[.cell p ty]) (tmps : Array Value) (w : World) (g : Nat) (tt : TypeId) (cs : Array Value) (d : TypeDesc)
    (hp : tmps.getD p undef = .pointer (some ⟨g, 0, none⟩)) (hg : Has w g (.cells cs tt))
    (hu : P.underlying ty = some d) (hd : (match d with | .struct _ | .array _ _ => true | _ => false) = true) (hi : (P.info? ty).map (·.size) = some cs.size) :
    (results fn tmps).run P w = .ok (.agg cs) w := by
  have hp' : tmps[p]?.getD undef = .pointer (some ⟨g, 0, none⟩) := by simpa using hp
  have hl := run_loadVar_row (P := P) w g tt ty cs (0, 0) d hg hu hd hi
  simp [results, h, hp', asAddr, hl]
/-- A space goes into a space's box. -/
theorem wpList_store_space {ops : Array Oper} {rest : List Oper} {op : Oper} {a : Act} {w : World} {Q : Exit → Act → World → Prop} (hgd : op.guard = none) (x y : Operand) (ho : op.op = .store 53 x y)
    (b : Nat) (q : SpaceD) (hx : a.eval x = .pointer (some ⟨b, 0, none⟩)) (hy : a.eval y = .agg #[.int .i64 q.blocks, .int .i64 q.nodes, .int .i64 q.mostB, .int .i64 q.mostN]) {m : SpaceD} (hb : Has w b (.cells #[.int .i64 m.blocks, .int .i64 m.nodes, .int .i64 m.mostB, .int .i64 m.mostN] 53))
    (h : ∀ w', Has w' b (.cells #[.int .i64 q.blocks, .int .i64 q.nodes, .int .i64 q.mostB, .int .i64 q.mostN] 53) → Only [b] w w' → wpList Try.prog ops Q rest (a.put op.dst undef) w') : wpList Try.prog ops Q (op :: rest) a w := by
  refine wpList_store_mid hgd 53 x y ho b 0 #[.int .i64 q.blocks, .int .i64 q.nodes, .int .i64 q.mostB, .int .i64 q.mostN] hx hy hb.there infoSpace4 (space_all q) ?_
  exact h _ (hb.setSpace q) (only_setCells [.int .i64 q.blocks, .int .i64 q.nodes, .int .i64 q.mostB, .int .i64 q.mostN] 0 w)
set_option maxRecDepth 100000 in
set_option maxHeartbeats 2000000 in
theorem puse_any (B : Nat) (g : GhW) (S : TreeD) (d : Int) (w : World) (h : WAt w B g S) (hd : 0 < S.devs.length) (hd2 : S.devs.length ≤ 8) (hr : RootsOk S.devs) : Calls Try.prog 28 #[.pointer (some ⟨g.bW, 0, none⟩), .int .i64 d] w (Ret w (.agg #[.int .i64 (useF S.devs d).blocks, .int .i64 (useF S.devs d).nodes, .int .i64 (useF S.devs d).mostB, .int .i64 (useF S.devs d).mostN])) := by
  obtain ⟨W0, hW0⟩ : ∃ W0, W0 = w.alloc (.cells #[.int .i64 spaceZ.blocks, .int .i64 spaceZ.nodes, .int .i64 spaceZ.mostB, .int .i64 spaceZ.mostN] 53) := ⟨_, rfl⟩
  obtain ⟨b0, hb0⟩ : ∃ b, b = w.heap.size := ⟨_, rfl⟩
  have N0 : Has W0 b0 (.cells #[.int .i64 spaceZ.blocks, .int .i64 spaceZ.nodes, .int .i64 spaceZ.mostB, .int .i64 spaceZ.mostN] 53) := by rw [hW0, hb0]; exact Has.new _ _
  have E0 : Ext w W0 := by rw [hW0]; exact (Ext.refl _).alloc _
  have hbw : w.heap.size ≤ b0 := by omega
  have HW0 : Hid (w.alloc (.cells #[.int .i64 0, .int .i64 0, .int .i64 0, .int .i64 0] 53) = W0) := Lib.hid hW0.symm
  have HB0 : Hid (w.heap.size = b0) := Lib.hid hb0.symm
  clear hW0 hb0
  rcases rootF_zero hr d with ⟨e1, e2⟩ | ⟨k, hk, e1, e2, e3, e4, e5, e6⟩
  · have hv : Hid (useF S.devs d = spaceZ) := by show _ = _; unfold useF; rw [e2]; rfl
    have t1 : (rootF S.devs d == 0) = true := by simpa using e1
    clear e1 e2
    go_enter Try.func28, Try.ntmps28
    go_upto_region 1 with fail
    rw [HW0.out, HB0.out]
    go_wp2_with fail
    refine (proot_any B g S d _ (h.ext E0) hd (by omega)).mono ?_
    rintro e w1 ⟨rfl, b1⟩
    have N1 := N0.ext b1
    go_wp2_with (refine wpList_store_space rfl _ _ rfl b0 spaceZ rfl rfl N1 ?_; intro w2 N2 O2)
    exact bodyPost_ret (res_cell1 rfl _ _ b0 _ _ _ rfl N2 Try.underlying53 rfl infoSpace4) rfl (Ret.mk (by rw [hv.out]) (O2.after (E0.trans b1) (by intro x hx; rw [List.mem_singleton] at hx; omega)))
  · have hv : Hid (useF S.devs d = S.devs[k].q) := by show _ = _; unfold useF; rw [e2, e3]; rfl
    have t1 : (rootF S.devs d == 0) = false := by rw [e4]; simpa using (by omega : S.devs[k].root ≠ 0)
    have y0 : (0 : Int) ≤ d - 1 := by omega
    have y1 : d - 1 < (S.devs.length : Int) := by omega
    have y2 : (d - 1).toNat = k := by omega
    have y3 : IntKind.i64.wrap (d - 1) = d - 1 := wrap_i64_in (by omega) (by omega)
    have y4 : 1 ≤ d := by omega
    have y5 : d.toNat - 1 = k := by omega
    clear e1 e2 e3 e4 e5 e6
    go_enter Try.func28, Try.ntmps28
    go_upto_region 1 with fail
    rw [HW0.out, HB0.out]
    go_wp2_with fail
    refine (proot_any B g S d _ (h.ext E0) hd (by omega)).mono ?_
    rintro e w1 ⟨rfl, b1⟩
    have N1 := N0.ext b1
    obtain ⟨h1, h2, cd, h3, h4⟩ := (h.ext E0).ext b1
    have hW := h3.lt
    have c1 := h3.cell 1
    simp only [List.getElem?_toArray, List.getElem?_cons_succ, List.getElem?_cons_zero] at c1
    obtain ⟨d0, d1, d2, d3, d4, d5⟩ := RowD.at_ h4 k hk
    have zD := (h.ext (E0.trans b1)).lt.2.2.2
    generalize S.devs[k] = x at hv d0 d1 d2 d3 d4 d5
    clear h2 h3 h4
    go_wp2_with (refine wpList_store_space rfl _ _ rfl b0 x.q rfl rfl N1 ?_; intro w2 N2 O2)
    exact bodyPost_ret (res_cell1 rfl _ _ b0 _ _ _ rfl N2 Try.underlying53 rfl infoSpace4) rfl (Ret.mk (by rw [hv.out]) (O2.after (E0.trans b1) (by intro x hx; rw [List.mem_singleton] at hx; omega)))
end Go.Proofs.Ytebghednhjaniaa

namespace Go.Proofs.Ytebghednhjaniaa
open Go.ChangeShapes Go.WideShapes Go.ChangeAt Go.RowKit

theorem field_node (a0 a1 a2 a3 a4 a5 a6 a7 a8 a9 a10 a11 : Value) (w : World) :
    (Instr.field 100 (.agg #[a0, a1, a2, a3, a4, a5, a6, a7, a8, a9, a10, a11]) 11).run Try.prog w = .ok a11 w ∧ (Instr.field 100 (.agg #[a0, a1, a2, a3, a4, a5, a6, a7, a8, a9, a10, a11]) 2).run Try.prog w = .ok a2 w := by
  constructor <;> kernel_rfl
end Go.Proofs.Ytebghednhjaniaa

namespace Go.Proofs.Ytebghednhjaniaa
open Go.ChangeShapes Go.WideShapes Go.ChangeAt Go.RowKit

def childF (S : TreeD) (no : Int) : Int :=
  if rootF S.devs (getN S.nodes no).dev = no ∧ 1 < (getN S.nodes no).dev then (devN S.devs (getN S.nodes no).dev).over else no
def nmF (S : TreeD) (no : Int) : Option (List UInt8) := (nameOf (getN S.nodes (aboveF S no)).ents (childF S no)).map (·.1)
/-- The names on the way up, the lowest first. -/
def whL (S : TreeD) : Nat → Int → Option (List (List UInt8))
  | 0, _ => none
  | f + 1, no => if no = 1 then some [] else match nmF S no with
    | none => none
    | some x => (whL S f (aboveF S no)).map (x :: ·)
def pathB (l : List (List UInt8)) : List UInt8 := l.reverse.flatMap fun x => 47 :: x
def pathT (l : List (List UInt8)) : List UInt8 := if l = [] then [47] else pathB l
def whereF (S : TreeD) (no : Int) : Option (List UInt8) := (whL S (S.nodes.length + 1) no).map pathT
/-- No entry is without a name, and none has a long one. -/
def NamesOk (S : TreeD) : Prop := ∀ n ∈ S.nodes, ∀ x ∈ n.ents, x.1 ≠ [] ∧ x.1.length ≤ 255
theorem pathB_snoc (l : List (List UInt8)) (x : List UInt8) : pathB (l ++ [x]) = 47 :: x ++ pathB l := by
  unfold pathB; rw [List.reverse_append]; rfl
theorem pathB_len (l : List (List UInt8)) (h : ∀ x ∈ l, x.length ≤ 255) : (pathB l).length ≤ l.length * 256 := by
  induction l with
  | nil => simp [pathB]
  | cons x l ih =>
    have h1 := ih fun y hy => h y (by simp [hy])
    have h2 := h x (by simp)
    have e : pathB (x :: l) = pathB l ++ 47 :: x := by unfold pathB; simp
    rw [e, List.length_append]
    simp only [List.length_cons]
    omega
theorem pathB_nil {l : List (List UInt8)} : pathB l = [] ↔ l = [] := by
  constructor
  · intro h
    cases l with
    | nil => rfl
    | cons x l =>
      have e : pathB (x :: l) = pathB l ++ 47 :: x := by unfold pathB; simp
      rw [e] at h; simp at h
  · rintro rfl; rfl
theorem wh_succ (S : TreeD) (f : Nat) (no : Int) (h : no ≠ 1) : whL S (f + 1) no = match nmF S no with | none => none | some x => (whL S f (aboveF S no)).map (x :: ·) := by
  conv => lhs; unfold whL
  rw [if_neg h]
def WhR (w : World) (o : Option (List UInt8)) (e : Ending) (w' : World) : Prop :=
  (match o with
    | some s => e = .returned (.tuple #[.string (bs s), .bool true])
    | none => e = .returned (.tuple #[.string (bs []), .bool false])) ∧ Ext w w'
theorem WhR.no {w w' : World} {o : Option (List UInt8)} (h : o = none) (hE : Ext w w') : WhR w o (.returned (.tuple #[.string ⟨#[]⟩, .bool false])) w' := by
  subst h; exact ⟨rfl, hE⟩
theorem WhR.yes {w w' : World} {o : Option (List UInt8)} {s : List UInt8} (h : o = some s) (hE : Ext w w') : WhR w o (.returned (.tuple #[.string (bs s), .bool true])) w' := by
  subst h; exact ⟨rfl, hE⟩
theorem nameOf_drop {l : List EntD} {k : Nat} (hk : k < l.length) (no : Int) : nameOf (l.drop k) no = if l[k].2 == no then some l[k] else nameOf (l.drop (k + 1)) no := by
  rw [List.drop_eq_getElem_cons hk]
  unfold nameOf
  rw [List.find?_cons]
  cases l[k].2 == no <;> rfl
theorem nameOf_mem {l : List EntD} {no : Int} {x : EntD} (h : nameOf l no = some x) : x ∈ l := List.mem_of_find?_eq_some h
set_option maxRecDepth 100000 in
set_option maxHeartbeats 8000000 in
theorem rwhere_any (B : Nat) (g : GhF) (S : TreeD) (X : Xtra) (no : Int) (w : World) (h : FAt w B g S X) (hl : S.nodes.length ≤ 100000) (hd : 0 < S.devs.length) (hd2 : S.devs.length ≤ 8) (hr : RootsOk S.devs) (hu : NosUp S.nodes S.last) (hn : NamesOk S) (hel : ∀ n ∈ S.nodes, n.ents.length ≤ 1000000) :
    Calls Try.prog 148 #[.pointer (some ⟨g.bF, 0, none⟩), .int .i64 no] w (WhR w (whereF S no)) := by
  obtain ⟨res, hres⟩ : ∃ res, res = whereF S no := ⟨_, rfl⟩
  rw [← hres]
  have HRES := Lib.hid hres
  clear hres
  obtain ⟨L, hL⟩ : ∃ L, L = S.nodes.length := ⟨_, rfl⟩
  obtain ⟨D, hD⟩ : ∃ D, D = S.devs.length := ⟨_, rfl⟩
  have hL2 : L ≤ 100000 := by omega
  have hD1 : (0 : Int) < D := by omega
  have HL := Lib.hid hL
  have HDL := Lib.hid hD
  clear hL hD
  go_enter Try.func148, Try.ntmps148
  go_wp2_with fail
  go_loopw [1, 6, 7] (fun v1 v6 v7 wr => ∃ (n : Int) (k : Nat) (acc : List (List UInt8)), v1 = .int .i64 n ∧ v6 = .string (bs (pathB acc)) ∧ v7 = .int .i64 k ∧ k ≤ L + 1 ∧ acc.length ≤ k ∧ Hid (∀ x ∈ acc, x.length ≤ 255) ∧ Hid ((whL S (L + 1 - k) n).map (fun l => pathT (acc ++ l)) = res) ∧ Ext w wr) (fun _ _ v7 _ => L + 1 - (intOf v7).toNat)
  case atStart => exact ⟨no, 0, [], rfl, rfl, rfl, by omega, Nat.le_refl _, fun x hx => by simp at hx, by show _ = _; rw [HRES.out, HL.out]; rfl, Ext.refl _⟩
  case round =>
    obtain ⟨n, k, acc, rfl, rfl, rfl, hk, hak, hac, hw, hE⟩ := hrel
    obtain ⟨_, cn, cd, hF, _, _⟩ := id (h.ext hE)
    have c0 : wr.cell? ⟨g.bF, 0, none⟩ = some (.slice (some ⟨g.bN, 0, none⟩) L cn) := by rw [HL.out]; exact hF.cell 0
    have c1 : wr.cell? ⟨g.bF, 1, none⟩ = some (.slice (some ⟨g.bE, 0, none⟩) D cd) := by rw [HDL.out]; exact hF.cell 1
    have zF := hF.lt
    have hpl := pathB_len acc hac.out
    clear hF
    by_cases hkl : (k : Int) ≤ L
    · have tk : decide ((k : Int) ≤ L) = true := decide_eq_true hkl
      obtain ⟨f, hf⟩ : ∃ f, L + 1 - k = f + 1 := ⟨L - k, by omega⟩
      have hf2 : f = L + 1 - (k + 1) := by omega
      rw [hf] at hw
      have HF2 := Lib.hid hf2
      clear hf hf2
      by_cases h1 : n = 1
      · have hv : Hid (res = some (pathT acc)) := by
          show _ = _
          rw [← hw.out, h1]; unfold whL; simp
        have hsz : ((bs (pathB acc)).size : Int) = (pathB acc).length := by rw [bs_size]
        subst h1
        by_cases ha : acc = []
        · subst ha
          have e1 : ((bs (pathB [])).toList == ([] : List UInt8)) = true := by rw [bs_toList]; rfl
          go_wp2_with fail
          go_ret2
          exact WhR.yes (s := [47]) (by rw [hv.out]; rfl) hE
        · have e1 : ((bs (pathB acc)).toList == ([] : List UInt8)) = false := by
            rw [bs_toList]
            have : pathB acc ≠ [] := fun h => ha (pathB_nil.1 h)
            simpa using this
          have hp : Hid (pathT acc = pathB acc) := by show _ = _; unfold pathT; rw [if_neg ha]
          clear ha
          go_wp2_with fail
          go_ret2
          exact WhR.yes (by rw [hv.out, hp.out]) hE
      · have t1 : (n == 1) = false := by simpa using h1
        have hw2 : Hid (((match nmF S n with | none => none | some x => (whL S f (aboveF S n)).map (x :: ·)) : Option (List (List UInt8))).map (fun l => pathT (acc ++ l)) = res) := by
          show _ = _
          rw [← hw.out, wh_succ S f n h1]
        clear h1 hw
        go_wp2_with fail
        refine (rabove_any B g S X n _ (h.ext hE) (by omega) hd2 hr hu).mono ?_
        rintro e w2 ⟨rfl, b2⟩
        obtain ⟨u, hu'⟩ : ∃ u, u = aboveF S n := ⟨_, rfl⟩
        rw [← hu']
        have HU := Lib.hid hu'
        have hE2 := hE.trans b2
        clear hu' c0 c1 zF
        go_wp2_with fail
        refine (rget_any B g S X n _ (h.ext hE2) (by omega) hu).mono ?_
        rintro e w3 ⟨A3, c3, rfl, ok3, b3⟩
        have hch : Hid (childF S n = if rootF S.devs (getN S.nodes n).dev = n ∧ 1 < (getN S.nodes n).dev then (devN S.devs (getN S.nodes n).dev).over else n) := by show _ = _; rfl
        obtain ⟨m, hm⟩ : ∃ m, m = getN S.nodes n := ⟨_, rfl⟩
        rw [← hm] at ok3 hch ⊢
        obtain ⟨W4, hW4⟩ : ∃ W4, W4 = w3.alloc (.cells #[.int .i64 m.no, .int .i64 m.dev, .int .i64 m.kind, .int .i64 m.mode, .int .i64 m.uid, .int .i64 m.gid, .int .i64 m.mtime, .int .i64 m.ctime, .int .i64 m.links, .int .i64 m.up, .string (bs m.data), .slice A3 m.ents.length c3] 100) := ⟨_, rfl⟩
        obtain ⟨b10, hb10⟩ : ∃ b, b = w3.heap.size := ⟨_, rfl⟩
        have N4 : Has W4 b10 (.cells #[.int .i64 m.no, .int .i64 m.dev, .int .i64 m.kind, .int .i64 m.mode, .int .i64 m.uid, .int .i64 m.gid, .int .i64 m.mtime, .int .i64 m.ctime, .int .i64 m.links, .int .i64 m.up, .string (bs m.data), .slice A3 m.ents.length c3] 100) := by rw [hW4, hb10]; exact Has.new _ _
        have hE4 : Ext w W4 := (hE2.trans b3).trans (by rw [hW4]; exact (Ext.refl _).alloc _)
        have HM := Lib.hid hm
        clear hm ok3
        go_upto_region 11 with fail
        rw [← hW4]
        rw [← hb10]
        clear hW4 hb10
        have k1 : W4.cell? ⟨b10, 1, none⟩ = some (.int .i64 m.dev) := N4.cell 1
        have kz := N4.lt
        obtain ⟨tb, htb⟩ : ∃ tb : Bool, tb = decide (1 < m.dev ∧ rootF S.devs m.dev = n) := ⟨_, rfl⟩
        have HTB := Lib.hid htb
        clear htb
        go_cut [53] (fun v wc => v = .bool tb ∧ Ext W4 wc)
        case first =>
          by_cases c3a : 1 < m.dev
          · have t3 : decide (1 < m.dev) = true := decide_eq_true c3a
            have hb : Hid (tb = (rootF S.devs m.dev == n)) := by show _ = _; rw [HTB.out, Bool.eq_iff_iff]; simp [c3a]
            clear c3a
            go_wp2_with fail
            refine (rroot_any B g S X m.dev _ (h.ext hE4) (by omega)).mono ?_
            rintro e w5 ⟨rfl, b5⟩
            go_wp2_with fail
            go_meet
            exact ⟨by rw [hb.out], b5⟩
          · have t3 : decide (1 < m.dev) = false := decide_eq_false c3a
            have hb : Hid (tb = false) := by show _ = _; rw [HTB.out]; simp [c3a]
            clear c3a
            go_wp2_with fail
            go_meet
            exact ⟨by rw [hb.out], Ext.refl _⟩
        case rest =>
        obtain ⟨rfl, E5⟩ := hcut
        obtain ⟨W5, hW5⟩ : ∃ W5, W5 = wc := ⟨_, rfl⟩
        rw [← hW5] at E5 ⊢
        have hE5 := hE4.trans E5
        have N5 := N4.ext E5
        clear hW5 k1 kz
        obtain ⟨ch, hch2⟩ : ∃ ch, ch = childF S n := ⟨_, rfl⟩
        have HCH := Lib.hid hch2
        clear hch2
        go_upto_if 53 with fail
        go_cut [9] (fun v wc => v = .int .i64 ch ∧ Ext W5 wc)
        case first =>
          cases tb
          · have hv : Hid (ch = n) := by
              show _ = _
              have h1 := HTB.out
              rw [HCH.out, hch.out, if_neg]
              intro h2
              rw [decide_eq_true ⟨h2.2, h2.1⟩] at h1
              cases h1
            go_wp2_with fail
            go_meet
            exact ⟨by rw [hv.out], Ext.refl _⟩
          · have h1 := HTB.out
            have h2 : 1 < m.dev ∧ rootF S.devs m.dev = n := of_decide_eq_true h1.symm
            have hv : Hid (ch = (devN S.devs m.dev).over) := by
              show _ = _
              rw [HCH.out, hch.out, if_pos ⟨h2.2, h2.1⟩]
            obtain ⟨q, hq, e1, e3⟩ : ∃ q : Nat, ∃ hq : q < S.devs.length, m.dev = q + 1 ∧ devN S.devs m.dev = S.devs[q] := by
              rcases rootF_zero hr m.dev with ⟨r1, r2⟩ | ⟨q, hq, e1, _, e3, _, _, _⟩
              · exfalso
                have hn0 : n = 0 := by rw [← h2.2]; exact r1
                have : getN S.nodes n = nodeZ := (isN_false (hu.zero (.inl (by omega)))).1
                rw [HM.out, this] at h2
                have := h2.1
                simp [nodeZ] at this
              · exact ⟨q, hq, e1, e3⟩
            obtain ⟨_, cn5, cd5, hF5, _, hD5⟩ := id (h.ext hE5)
            obtain ⟨_, d1, _, _, _, _⟩ := RowD.at_ hD5 q hq
            rw [e3] at hv
            obtain ⟨ov, hov⟩ : ∃ ov, ov = S.devs[q].over := ⟨_, rfl⟩
            rw [← hov] at d1 hv
            have p1 : W5.cell? ⟨g.bF, 1, none⟩ = some (.slice (some ⟨g.bE, 0, none⟩) S.devs.length cd5) := hF5.cell 1
            have pz := hF5.lt
            have p2 : W5.cell? ⟨b10, 1, none⟩ = some (.int .i64 m.dev) := N5.cell 1
            have pz2 := N5.lt
            have pz3 := (h.ext hE5).lt.2.2
            have y0 : (0 : Int) ≤ m.dev - 1 := by rw [e1]; omega
            have y1 : m.dev - 1 < (S.devs.length : Int) := by rw [e1]; omega
            have y2 : (m.dev - 1).toNat = q := by rw [e1]; omega
            have y3 : IntKind.i64.wrap (m.dev - 1) = m.dev - 1 := wrap_i64_in (by omega) (by omega)
            have y4 : 1 ≤ m.dev := by omega
            have y5 : m.dev.toNat - 1 = q := by omega
            clear h1 h2 e1 e3 hov hF5 hD5
            go_upto_region 12 with fail
            go_quiet (fail)
            go_wp2_with fail
            go_meet
            exact ⟨by rw [hv.out], (Ext.refl _).drewN nq⟩
        case rest =>
        obtain ⟨rfl, E6⟩ := hcut
        have hE6 := hE5.trans E6
        clear hch N5 N4
        go_wp2_with fail
        refine (rget_any B g S X u _ (h.ext hE6) (by omega) hu).mono ?_
        rintro e w7 ⟨A7, c7, rfl, ok7, b7⟩
        have hE7 := hE6.trans b7
        obtain ⟨mu, hmu⟩ : ∃ mu, mu = getN S.nodes u := ⟨_, rfl⟩
        rw [← hmu] at ok7 ⊢
        have hnm : Hid (nmF S n = (nameOf mu.ents ch).map (·.1)) := by show _ = _; unfold nmF; rw [← HU.out, ← hmu, ← HCH.out]
        have hmun : (∀ x ∈ mu.ents, x.1 ≠ [] ∧ x.1.length ≤ 255) ∧ mu.ents.length ≤ 1000000 := by
          cases hi : isN S.nodes u
          · rw [hmu, (isN_false hi).1]; exact ⟨fun x hx => by simp [nodeZ] at hx, by simp [nodeZ]⟩
          · rw [hmu]; exact ⟨hn _ (isN_true hi).2.2, hel _ (isN_true hi).2.2⟩
        have HMN := Lib.hid hmun
        obtain ⟨E, hEE⟩ : ∃ E, E = mu.ents.length := ⟨_, rfl⟩
        have hE1M : E ≤ 1000000 := by rw [hEE]; exact hmun.2
        rw [← hEE]
        have HEL := Lib.hid hEE
        have hat : EntsAt w7 A7 mu.ents := ok7.ents.ents
        have hf11 := fun a0 a1 a2 a3 a4 a5 a6 a7 a8 a9 a10 a11 w => (field_node a0 a1 a2 a3 a4 a5 a6 a7 a8 a9 a10 a11 w).1
        clear hmu hmun hEE ok7
        go_wp2_with fail
        clear hf11
        go_loopw [12, 13] (fun v12 v13 wq => ∃ (j : Nat) (nm : List UInt8), v13 = .int .i64 ((j : Int) - 1) ∧ j ≤ E ∧ v12 = .string (bs nm) ∧ Hid (nm = ((nameOf (mu.ents.drop j) ch).map (·.1)).getD []) ∧ Ext w7 wq) (fun _ v13 _ => (intOf v13 + 1).toNat)
        case atStart => exact ⟨E, [], by first | rfl | (congr 1), Nat.le_refl _, rfl, by show _ = _; rw [HEL.out, List.drop_length]; rfl, Ext.refl _⟩
        case round =>
          obtain ⟨j, nm, rfl, hj, rfl, hnmj, hq7⟩ := hrel
          by_cases hj0 : j = 0
          · subst hj0
            have hnv : Hid (nm = ((nmF S n).getD [])) := by
              show _ = _
              rw [hnmj.out, List.drop_zero, hnm.out]
            have hE8 := hE7.trans hq7
            cases hx : nmF S n with
            | none =>
              have hnil : Hid (nm = []) := by show _ = _; rw [hnv.out, hx]; rfl
              have hv : Hid (res = none) := by show _ = _; rw [← hw2.out, hx]; rfl
              have e1 : ((bs nm).toList == ([] : List UInt8)) = true := by rw [bs_toList, hnil.out]; rfl
              clear hx
              go_wp2_with fail
              go_ret2
              exact WhR.no hv.out hE8
            | some x =>
              have hnx : Hid (nm = x) := by show _ = _; rw [hnv.out, hx]; rfl
              have hw3 : Hid ((whL S f u).map (fun l => pathT ((acc ++ [x]) ++ l)) = res) := by
                show _ = _
                rw [← hw2.out, hx, ← HU.out]
                simp only [Option.map_map]
                congr 1
                funext l
                simp
              have hxo : x ≠ [] ∧ x.length ≤ 255 := by
                have := hnm.out
                rw [hx] at this
                obtain ⟨y, hy, hyx⟩ := Option.map_eq_some_iff.1 this.symm
                rw [← hyx]
                exact HMN.out.1 y (nameOf_mem hy)
              have e1 : ((bs nm).toList == ([] : List UInt8)) = false := by
                rw [bs_toList, hnx.out]
                simpa using hxo.1
              have hlx := hxo.2
              have hnl : nm.length ≤ 255 := by rw [hnx.out]; exact hlx
              have hs1 : ((⟨#[47]⟩ : ByteArray) ++ bs nm) = bs (47 :: nm) := bs_append [47] nm
              have hs2 : (bs (47 :: nm) ++ bs (pathB acc)) = bs (47 :: nm ++ pathB acc) := bs_append _ _
              have hsn : ((bs nm).size : Int) = nm.length := by rw [bs_size]
              have hsn2 : (bs nm).size = nm.length := bs_size nm
              have hsp : (bs (pathB acc)).size = (pathB acc).length := bs_size _
              have hs47 : (bs (47 :: nm)).size = nm.length + 1 := by rw [bs_size]; rfl
              have HX := Lib.hid hx
              have hac2 : Hid (∀ y ∈ acc ++ [x], y.length ≤ 255) := by
                show ∀ y ∈ acc ++ [x], y.length ≤ 255
                intro y hy
                rcases List.mem_append.1 hy with hy | hy
                · exact hac.out y hy
                · rw [List.mem_singleton.1 hy]; exact hlx
              have hpl2 : (pathB acc).length ≤ 100001 * 256 := by omega
              clear hx hxo hlx hpl
              go_wp2_with fail
              go_roundw
              case rel => exact ⟨u, k + 1, acc ++ [x], rfl, by rw [pathB_snoc, hnx.out]; rfl, by go_num, by omega, by simp; omega, hac2, by show _ = _; rw [← HF2.out]; exact hw3.out, hE8⟩
              case measure => simp [intOf]; omega
          · obtain ⟨i, rfl⟩ : ∃ i, j = i + 1 := ⟨j - 1, by omega⟩
            have hil : i < mu.ents.length := by have := HEL.out; omega
            obtain ⟨bE, oE, rfl, hbE, ca, cb⟩ := hat.at_ hq7 i hil
            have hdrop := nameOf_drop hil ch
            obtain ⟨y, hy⟩ : ∃ y, y = mu.ents[i] := ⟨_, rfl⟩
            rw [← hy] at ca cb hdrop
            have HDR := Lib.hid hdrop
            have q1 : (((i + 1 : Nat) : Int) - 1) = i := by omega
            rw [q1]
            have hcm : Hid (∀ f : Nat, True) := fun _ => trivial
            clear hy hdrop hj0
            by_cases he : y.2 = ch
            · have t9 : (y.2 == ch) = true := by simpa using he
              have hn2 : Hid (y.1 = ((nameOf (mu.ents.drop i) ch).map (·.1)).getD []) := by show _ = _; rw [HDR.out, if_pos t9]; rfl
              clear he
              go_wp2_with fail
              go_roundw
              case rel => exact ⟨i, y.1, by go_num, by omega, rfl, hn2, hq7⟩
              case measure => simp [intOf]
            · have t9 : (y.2 == ch) = false := by simpa using he
              have hn2 : Hid (nm = ((nameOf (mu.ents.drop i) ch).map (·.1)).getD []) := by show _ = _; rw [HDR.out, if_neg (by rw [t9]; decide)]; exact hnmj.out
              clear he
              go_wp2_with fail
              go_roundw
              case rel => exact ⟨i, nm, by go_num, by omega, rfl, hn2, hq7⟩
              case measure => simp [intOf]
    · have tk : decide ((k : Int) ≤ L) = false := decide_eq_false hkl
      have hv : Hid (res = none) := by
        show _ = _
        rw [← hw.out, show L + 1 - k = 0 by omega]; rfl
      go_wp2_with fail
      go_ret2
      exact WhR.no hv.out hE
end Go.Proofs.Ytebghednhjaniaa

namespace Go.Proofs.Ytebghednhjaniaa
open Go.ChangeShapes Go.WideShapes Go.ChangeAt Go.RowKit

theorem infoByte : (Try.prog.info? 5).map (fun i => (i.zero, i.size, i.bytes)) = some (some (.int .u8 0), 1, 1) := by kernel_rfl
theorem infoBld : (Try.prog.info? 187).map (·.size) = some 2 := by kernel_rfl
theorem liesBld : liesAt Try.prog Try.prog.depth 187 1 0 187 1 = true := by kernel_rfl

set_option maxHeartbeats 1000000 in
set_option maxRecDepth 100000 in
theorem bld_used (b : Nat) (w : World) (h0 : w.cell? ⟨b, 0, none⟩ = some (.pointer (some ⟨b, 0, none⟩))) :
    Calls Try.prog 174 #[.pointer (some ⟨b, 0, none⟩)] w fun e w' => e = .returned (.tuple #[]) ∧ w' = w := by
  obtain ⟨j, hj, _⟩ := Option.map_eq_some_iff.1 infoBld
  go_enter Try.func174, Try.ntmps174
  go_wp2_with fail
  rw [Lib.run_neq_ptr_same w _ Try.underlying184 hj]
  go_wp2_with fail
  go_end0
  exact ⟨rfl, rfl⟩

set_option maxHeartbeats 1000000 in
set_option maxRecDepth 100000 in
theorem bld_fresh (b : Nat) (w : World) (h0 : w.cell? ⟨b, 0, none⟩ = some (.pointer none)) (hsh : w.shape? b = some (187, 2)) (hfz : w.frozen? ⟨b, 0, none⟩ = false) :
    Calls Try.prog 174 #[.pointer (some ⟨b, 0, none⟩)] w fun e w' => e = .returned (.tuple #[]) ∧ w' = w.setCell ⟨b, 0, none⟩ (.pointer (some ⟨b, 0, none⟩)) := by
  obtain ⟨j, hj, hjs⟩ := Option.map_eq_some_iff.1 infoBld
  go_enter Try.func174, Try.ntmps174
  go_wp2_with fail
  rw [Lib.run_to_unsafe w ⟨b, 0, none⟩ Try.underlying184 Try.underlying235 hj (by rw [hjs]; decide) hsh (Nat.zero_lt_succ 1)]
  simp only [Result.andThen]
  rw [Oper.upon_value]
  go_wp2_with fail
  rw [run_callFunc_extern Try.func188 (by kernel_rfl) (by kernel_rfl) (by kernel_rfl) (e := Extern.AbiNoEscape.same) (by kernel_rfl)]
  rw [Lib.run_noEscape]
  simp only [Result.andThen]
  rw [Oper.upon_value]
  go_wp2_with fail
  rw [Lib.run_from_unsafe w ⟨b, 0, none⟩ Try.underlying235 Try.underlying184 hj hsh liesBld]
  simp only [Result.andThen]
  rw [Oper.upon_value]
  go_wp2_with fail
  go_end0
  exact ⟨rfl, rfl⟩
theorem bld_check (B b : Nat) (bs : List Value) (w : World) (h : Lib.IsBuilder 187 5 B b bs w) :
    Calls Try.prog 174 #[.pointer (some ⟨b, 0, none⟩)] w fun e w' => e = .returned (.tuple #[]) ∧ (Lib.BuilderAt 187 5 B b (.pointer (some ⟨b, 0, none⟩)) bs w' ∧ Below B w w') := by
  rcases h with h | h
  · refine (bld_fresh b w h.cell0 h.shape h.frozen0).mono ?_
    rintro e w' ⟨rfl, rfl⟩
    exact ⟨rfl, h.used _, (Below.refl B w).setCell (p := ⟨b, 0, none⟩) h.1 _⟩
  · refine (bld_used b w h.cell0).mono ?_
    rintro e w' ⟨rfl, rfl⟩
    exact ⟨rfl, h, Below.refl B _⟩

set_option maxHeartbeats 2000000 in
set_option maxRecDepth 100000 in
theorem bld_string (B b : Nat) (bs : List Value) (s : ByteArray) (w : World) (h : Lib.IsBuilder 187 5 B b bs w) (hlen : bs.length + s.size ≤ 140737488355328) (hBw : B ≤ w.heap.size) :
    Calls Try.prog 129 #[.pointer (some ⟨b, 0, none⟩), .string s] w fun e w' => e = .returned (.tuple #[.int .i64 s.size, .nilIface]) ∧ (Lib.BuilderAt 187 5 B b (.pointer (some ⟨b, 0, none⟩)) (bs ++ Lib.strCells s) w' ∧ Below B w w') := by
  obtain ⟨i0, hi, hz0, hz1, hz2⟩ := info_parts infoByte
  go_enter Try.func129, Try.ntmps129
  go_wp2_with fail
  refine (bld_check B b bs _ h).mono ?_
  rintro e w1 ⟨rfl, h1, hb1⟩
  obtain ⟨hB, v, hbk, hown, hne⟩ := h1
  have c0 : w1.cell? ⟨b, 0, none⟩ = some (.pointer (some ⟨b, 0, none⟩)) := by rw [Lib.cell_of_heap hbk]; rfl
  have c1 : w1.cell? ⟨b, 1, none⟩ = some v := by rw [Lib.cell_of_heap hbk]; rfl
  go_wp2_with (at_builtin; refine Lib.wpList_append_own_string _ rfl _ _ 185 9 rfl B 5 i0 Try.underlying185 Try.underlying9 hi hz0 hz1 hz2 _ _ _ rfl hown s rfl ?c3 ?c4 ?c5 ?_)
  case c3 => unfold maxLen; omega
  case c4 => omega
  case c5 => have := hb1.size; omega
  intro v' w2 hown' hgrow _
  have hlt : b < w1.heap.size := by
    rcases Nat.lt_or_ge b w1.heap.size with h' | h'
    · exact h'
    · simp [Array.getElem?_eq_none h'] at hbk
  have hb2 : w2.heap[b]? = some (.cells #[.pointer (some ⟨b, 0, none⟩), v] 187 (0, 0)) := by
    rw [hgrow.block b hlt (fun e => hne e.symm)]
    exact hbk
  have d0 : w2.cell? ⟨b, 0, none⟩ = some (.pointer (some ⟨b, 0, none⟩)) := by rw [Lib.cell_of_heap hb2]; rfl
  have d1 : w2.cell? ⟨b, 1, none⟩ = some v := by rw [Lib.cell_of_heap hb2]; rfl
  have f1 : w2.frozen? ⟨b, 1, none⟩ = false := Lib.frozen_of_heap hb2 1
  obtain ⟨ao, n', cap, rfl⟩ : ∃ ao n' cap, v' = .slice ao n' cap := by
    rcases hown'.2 with ⟨hv, _⟩ | ⟨g, cap, cur, hv, _⟩
    · exact ⟨_, _, _, hv⟩
    · exact ⟨_, _, _, hv⟩
  go_wp2_with fail
  go_ret2
  refine ⟨rfl, ?_, ?_⟩
  · exact Lib.BuilderAt.put (T := 187) (e := 5) hB hb2 (bs' := bs ++ Lib.strCells s) (by simpa [Lib.strCells_length] using hown') (by decide)
  · exact (hb1.grown hgrow (by have := hb1.size; omega) (fun k hk => (hown.lt k hk).1)).setCell (p := ⟨b, 1, none⟩) hB _
theorem Ext.grownBy {w w' : World} (h : Ext w w') : w.grownBy w' none := ⟨h.os, h.tape, h.output, h.size, fun k hk _ => Below.block h k hk⟩
theorem own_keep {w w' : World} {B : Nat} {e : TypeId} {size : Nat} {v : Value} {n : Nat} {xs : List Value} (h : w.ownsRow B e size v n xs) (k : Ext w w') : w'.ownsRow B e size v n xs :=
  h.kept k.grownBy (by cases v.ownBlock <;> simp)
/-- What a builder holds stays behind a call that only makes memory. -/
theorem bld_keepAt {T e : TypeId} {B b : Nat} {p : Value} {xs : List Value} {w w' : World} (h : Lib.BuilderAt T e B b p xs w) (k : Ext w w') : Lib.BuilderAt T e B b p xs w' := by
  obtain ⟨hB, v, hbk, hown, hne⟩ := h
  exact ⟨hB, v, k.block hbk, hown.kept k.grownBy (by cases v.ownBlock <;> simp), hne⟩
theorem bld_keep {T e : TypeId} {B b : Nat} {xs : List Value} {w w' : World} (h : Lib.IsBuilder T e B b xs w) (k : Ext w w') : Lib.IsBuilder T e B b xs w' :=
  h.imp (fun h => bld_keepAt h k) (fun h => bld_keepAt h k)
/-- 'string(b)' of a slice that the call owns. -/
theorem convert_own {P : Program} {w : World} {src dst e : TypeId} (hs : P.underlying src = some (.slice e)) (he : P.underlying e = some (.int .u8)) (hd : P.underlying dst = some .string)
    {B : Nat} {v : Value} (l : List UInt8) (n : Nat) (h : w.ownsRow B e 1 v n (Lib.byteCells l)) (hn : n = l.length) : (convert src dst v).run P w = .ok (.string (bs l)) w := by
  subst hn
  rcases h.2 with ⟨rfl, h0⟩ | ⟨g, cap, cur, rfl, _, hg, _, _, _, htake⟩
  · have hl : l = [] := List.eq_nil_of_length_eq_zero h0
    subst hl
    rw [run_convert_bytes_nil w src e hs he 0 0 dst hd]; rfl
  · have hc : ∀ j (hj : j < l.length), w.cell? ((⟨g, 0, none⟩ : Addr).add j) = some (.int .u8 (l[j].toNat : Int)) := by
      intro j hj
      have := h.cells (g := g) rfl j (.int .u8 (l[j].toNat : Int)) (by simp [Lib.byteCells, hj])
      exact this
    exact run_convert_bytes_back w src dst e ⟨g, 0, none⟩ cap l hs he hd hc

end Go.Proofs.Ytebghednhjaniaa

namespace Go.Proofs.Ytebghednhjaniaa
open Go.ChangeShapes Go.WideShapes Go.ChangeAt Go.RowKit

theorem nmF_zero {S : TreeD} (hu : NosUp S.nodes S.last) : nmF S 0 = none := by
  have h0 : getN S.nodes 0 = nodeZ := (isN_false (hu.zero (.inl (by decide)))).1
  have ha : aboveF S 0 = 0 := by unfold aboveF; rw [h0]; rfl
  unfold nmF
  rw [ha, h0]; rfl
theorem wh_zero {S : TreeD} (hu : NosUp S.nodes S.last) : ∀ f, whL S f 0 = none
  | 0 => rfl
  | f + 1 => by rw [wh_succ S f 0 (by decide), nmF_zero hu]
theorem wh_stay {S : TreeD} {no : Int} (h : aboveF S no = no) (h1 : no ≠ 1) : ∀ f, whL S f no = none
  | 0 => rfl
  | f + 1 => by
    rw [wh_succ S f no h1]
    cases nmF S no with
    | none => rfl
    | some x => show (whL S f (aboveF S no)).map _ = none; rw [h, wh_stay h h1 f]; rfl
theorem wh_stable {S : TreeD} {r : Int → Nat} (R : Rank S r) (hu : NosUp S.nodes S.last) : ∀ (n : Nat) (no : Int), r no ≤ n → ∀ f g, r no < f → r no < g → whL S f no = whL S g no := by
  intro n
  induction n with
  | zero =>
    intro no hn f g hf hg
    match f, g, hf, hg with
    | f + 1, g + 1, _, _ =>
      by_cases h1 : no = 1
      · subst h1; unfold whL; rfl
      · by_cases h0 : no = 0
        · subst h0; rw [wh_zero hu, wh_zero hu]
        · by_cases hs : aboveF S no = no
          · rw [wh_stay hs h1, wh_stay hs h1]
          · by_cases hz : aboveF S no = 0
            · rw [wh_succ S f no h1, wh_succ S g no h1, hz]
              cases nmF S no with
              | none => rfl
              | some x => show (whL S f 0).map _ = (whL S g 0).map _; rw [wh_zero hu, wh_zero hu]
            · have := R.step no h0 hz hs; omega
  | succ n ih =>
    intro no hn f g hf hg
    match f, g, hf, hg with
    | f + 1, g + 1, hf, hg =>
      by_cases h1 : no = 1
      · subst h1; unfold whL; rfl
      · by_cases h0 : no = 0
        · subst h0; rw [wh_zero hu, wh_zero hu]
        · by_cases hs : aboveF S no = no
          · rw [wh_stay hs h1, wh_stay hs h1]
          · rw [wh_succ S f no h1, wh_succ S g no h1]
            cases nmF S no with
            | none => rfl
            | some x =>
              show (whL S f (aboveF S no)).map _ = (whL S g (aboveF S no)).map _
              by_cases hz : aboveF S no = 0
              · rw [hz, wh_zero hu, wh_zero hu]
              · have := R.step no h0 hz hs
                rw [ih _ (by omega) f g (by omega) (by omega)]
/-- The names on the way up. -/
def wayF (S : TreeD) (no : Int) : Option (List (List UInt8)) := whL S (S.nodes.length + 1) no
theorem way_step {S : TreeD} {r : Int → Nat} (R : Rank S r) (hu : NosUp S.nodes S.last) {no : Int} (h1 : no ≠ 1) (hs : aboveF S no ≠ no) : wayF S no = match nmF S no with | none => none | some x => (wayF S (aboveF S no)).map (x :: ·) := by
  by_cases h0 : no = 0
  · subst h0
    have : aboveF S 0 = 0 := by
      have h0 : getN S.nodes 0 = nodeZ := (isN_false (hu.zero (.inl (by decide)))).1
      unfold aboveF; rw [h0]; rfl
    exact absurd this hs
  · unfold wayF
    rw [wh_succ S _ no h1]
    cases nmF S no with
    | none => rfl
    | some x =>
      show (whL S _ (aboveF S no)).map _ = (whL S _ (aboveF S no)).map _
      by_cases hz : aboveF S no = 0
      · rw [hz, wh_zero hu, wh_zero hu]
      · have h2 := R.step no h0 hz hs
        have h3 := R.top no
        rw [wh_stable R hu _ _ (Nat.le_refl _) S.nodes.length (S.nodes.length + 1) (by omega) (by omega)]
theorem way_one (S : TreeD) : wayF S 1 = some [] := by unfold wayF whL; rfl
theorem way_stay {S : TreeD} {no : Int} (h : aboveF S no = no) (h1 : no ≠ 1) : wayF S no = none := wh_stay h h1 _
/-- The first mount's root is its own upper directory. -/
def TopOk (S : TreeD) : Prop := ∀ no, no ≠ 0 → rootF S.devs (getN S.nodes no).dev = no → (getN S.nodes no).dev ≤ 1 → aboveF S no = no
theorem pathB_drop {l : List (List UInt8)} {k : Nat} (hk : k < l.length) : pathB (l.drop k) = pathB (l.drop (k + 1)) ++ 47 :: l[k] := by
  have e : ∀ (x : List UInt8) (t : List (List UInt8)), pathB (x :: t) = pathB t ++ 47 :: x := fun x t => by unfold pathB; simp
  rw [List.drop_eq_getElem_cons hk, e]
set_option maxRecDepth 100000 in
set_option maxHeartbeats 8000000 in
theorem pwhere_any (B : Nat) (g : GhW) (S : TreeD) (r : Int → Nat) (no : Int) (w : World) (h : WAt w B g S) (hl : S.nodes.length ≤ 1000) (hd : 0 < S.devs.length) (hd2 : S.devs.length ≤ 8) (hr : RootsOk S.devs) (hu : NosUp S.nodes S.last) (hn : NamesOk S) (hel : ∀ n ∈ S.nodes, n.ents.length ≤ 1000000) (R : Rank S r) (hto : TopOk S) (h11 : aboveF S 1 = 1) :
    Calls Try.prog 50 #[.pointer (some ⟨g.bW, 0, none⟩), .int .i64 no] w (WhR w (whereF S no)) := by
  obtain ⟨res, hres⟩ : ∃ res, res = wayF S no := ⟨_, rfl⟩
  have hwf : Hid (whereF S no = res.map pathT) := by show _ = _; rw [hres]; rfl
  have HRES := Lib.hid hres
  have HR := Lib.hid R
  have HTO := Lib.hid hto
  have H11 := Lib.hid h11
  have htop := fun n => R.top n
  have HTP := Lib.hid htop
  clear hres R hto htop h11
  obtain ⟨i0, hi, hz0, hz1, hz2⟩ := info_parts infoStr
  go_enter Try.func50, Try.ntmps50
  go_wp2_with fail
  refine (pnone_any B g S _ h hd).mono ?_
  rintro e w1 ⟨rfl, b1⟩
  go_wp2_with fail
  refine (pabove_any B g S no _ (h.ext b1) hd hd2 hr hu).mono ?_
  rintro e w2 ⟨rfl, b2⟩
  have E2 := b1.trans b2
  go_wp2_with fail
  go_loopw [1, 6, 7] (fun v1 v6 v7 wr => ∃ (n u : Int) (acc : List (List UInt8)), v1 = .int .i64 n ∧ v7 = .int .i64 u ∧ Hid (u = aboveF S n) ∧ OwnT wr w.heap.size v6 acc ∧ acc.length + (if n = 0 then 0 else r n + 1) ≤ 1002 ∧ Hid (∀ x ∈ acc, x.length ≤ 255) ∧ Hid ((wayF S n).map (fun l => acc ++ l) = res) ∧ Ext w wr) (fun v1 _ _ _ => if intOf v1 = 0 then 0 else r (intOf v1) + 1)
  case atStart =>
    refine ⟨no, aboveF S no, [], rfl, rfl, rfl, ⟨rfl, .inl ⟨rfl, rfl⟩⟩, ?_, fun x hx => by simp at hx, ?_, E2⟩
    · have := HTP.out no
      split <;> simp <;> omega
    · show _ = _
      rw [HRES.out]; cases wayF S no <;> rfl
  case round =>
    obtain ⟨n, u, acc, rfl, rfl, hu1, hown, hacl, hac, hw, hE⟩ := hrel
    by_cases hs : u = n
    · have ts : (u == n) = true := by simpa using hs
      have tsb : (u != n) = false := by simpa using hs
      have hfin : Hid (res = if n = 1 then some acc else none) := by
        show _ = _
        rw [← hw.out]
        by_cases h1 : n = 1
        · rw [if_pos h1, h1, way_one]; simp
        · rw [if_neg h1, way_stay (by rw [← hu1.out]; exact hs) h1]; rfl
      obtain ⟨A6, cap6, rfl, hle6, hmx6, hat6, _⟩ := hown.at_
      obtain ⟨m, hm⟩ : ∃ m, m = acc.length := ⟨_, rfl⟩
      have hm2 : m ≤ 1002 := by omega
      rw [← hm]
      have HM := Lib.hid hm
      have hpl := pathB_len acc hac.out
      clear hs hm hown hle6 hmx6
      go_wp2_with fail
      go_loopw [15] (fun i wq => ∃ j : Nat, i = .int .i64 ((j : Int) - 1) ∧ j ≤ m ∧ Lib.IsBuilder 187 5 wr.heap.size wr.heap.size (Lib.byteCells (pathB (acc.drop j))) wq ∧ Ext wr wq) (fun i _ => (intOf i + 1).toNat)
      case atStart => exact ⟨m, rfl, Nat.le_refl _, by rw [HM.out, List.drop_length]; exact Lib.fresh_isBuilder _ _ wr, (Ext.refl _).alloc _⟩
      case round =>
        obtain ⟨j, rfl, hj, hB, hq⟩ := hrel
        by_cases hj0 : j = 0
        · subst hj0
          rw [List.drop_zero] at hB
          by_cases h1 : n = 1
          · have t1 : (n == 1) = true := by simpa using h1
            have t1b : (n != 1) = false := by simpa using h1
            have hv : Hid (res = some acc) := by show _ = _; rw [hfin.out, if_pos h1]
            clear h1 hat6
            go_wp2_with fail
            refine (Try.Builder_Len _ _ _ _ hB).mono ?_
            rintro e w5 ⟨rfl, rfl⟩
            by_cases ha : acc = []
            · have hp0 : (Lib.byteCells (pathB acc)).length = 0 := by rw [ha]; rfl
              rw [hp0]
              go_wp2_with fail
              go_ret2
              exact WhR.yes (s := [47]) (by rw [hwf.out, hv.out, ha]; rfl) (hE.trans hq)
            · have hp0 : ((((Lib.byteCells (pathB acc)).length : Nat) : Int) == 0) = false := by
                have h2 : pathB acc ≠ [] := fun h => ha (pathB_nil.1 h)
                have h3 : (Lib.byteCells (pathB acc)).length ≠ 0 := by simpa [Lib.byteCells] using h2
                simpa using h3
              have hpt : Hid (pathT acc = pathB acc) := by show _ = _; unfold pathT; rw [if_neg ha]
              generalize (((Lib.byteCells (pathB acc)).length : Nat) : Int) = bl at hp0
              clear ha
              go_wp2_with fail
              refine (Try.Builder_String_any _ _ _ _ hB hq.size).mono ?_
              rintro e w6 ⟨rfl, b6⟩
              go_wp2_with fail
              go_ret2
              exact WhR.yes (by rw [hwf.out, hv.out, ← hpt.out]; rfl) (hE.trans (Below.trans hq b6))
          · have t1 : (n == 1) = false := by simpa using h1
            have t1b : (n != 1) = true := by simpa using h1
            have hv : Hid (res = none) := by show _ = _; rw [hfin.out, if_neg h1]
            clear h1
            go_wp2_with fail
            go_ret2
            exact WhR.no (by rw [hwf.out, hv.out]; rfl) (hE.trans hq)
        · obtain ⟨i, rfl⟩ : ∃ i, j = i + 1 := ⟨j - 1, by omega⟩
          have hil : i < acc.length := by have := HM.out; omega
          obtain ⟨bE, oE, rfl, hbE, ca⟩ := hat6.at_ hq i hil
          have hdrop := pathB_drop hil
          have hxl := hac.out _ (List.getElem_mem hil)
          obtain ⟨y, hy⟩ : ∃ y, y = acc[i] := ⟨_, rfl⟩
          rw [← hy] at ca hdrop hxl
          have HDR := Lib.hid hdrop
          have q1 : (((i + 1 : Nat) : Int) - 1) = i := by omega
          rw [q1]
          have hs1 : ((⟨#[47]⟩ : ByteArray) ++ bs y) = bs (47 :: y) := bs_append [47] y
          have hsy : (bs y).size = y.length := bs_size y
          have hdl : (pathB (acc.drop (i + 1))).length ≤ 1002 * 256 := by
            have := pathB_len (acc.drop (i + 1)) (fun x hx => hac.out x (List.mem_of_mem_drop hx))
            rw [List.length_drop] at this
            have := HM.out
            omega
          clear hy hdrop hj0
          go_wp2_with fail
          refine (bld_string _ _ _ _ _ hB (by rw [bs_size]; simp [Lib.byteCells]; omega) hq.size).mono ?_
          rintro e w5 ⟨rfl, h5, b5⟩
          have H5 := Lib.hid h5
          clear h5
          go_wp2_with fail
          go_roundw
          case rel => exact ⟨i, by go_num, by omega, .inr (by rw [HDR.out]; have := H5.out; simpa [Lib.byteCells, Lib.strCells, bs] using this), Below.trans hq b5⟩
          case measure => simp [intOf]
    · have ts : (u == n) = false := by simpa using hs
      have tsb : (u != n) = true := by simpa using hs
      have hn1 : n ≠ 1 ∨ u ≠ n := .inr hs
      have hst : aboveF S n ≠ n := by rw [← hu1.out]; exact hs
      have HST := Lib.hid hst
      clear hs hn1 hst
      obtain ⟨_, _, cdr, hWr, _⟩ := id (h.ext hE)
      have v0 : wr.cell? ⟨g.bW, 0, none⟩ = some (.pointer (some ⟨g.bT, 0, none⟩)) := hWr.cell 0
      have vz := hWr.lt
      clear hWr
      go_wp2_with fail
      refine (tget_any B g.bT g.bM S.nodes S.last n _ (h.ext hE).2.1).mono ?_
      rintro e w3 ⟨A3, c3, rfl, ok3, b3⟩
      obtain ⟨m, hm⟩ : ∃ m, m = getN S.nodes n := ⟨_, rfl⟩
      obtain ⟨im, him⟩ : ∃ im, im = isN S.nodes n := ⟨_, rfl⟩
      rw [← hm] at ok3
      rw [← hm, ← him]
      obtain ⟨W4, hW4⟩ : ∃ W4, W4 = w3.alloc (.cells #[.int .i64 m.no, .int .i64 m.dev, .int .i64 m.kind, .int .i64 m.mode, .int .i64 m.uid, .int .i64 m.gid, .int .i64 m.mtime, .int .i64 m.ctime, .int .i64 m.links, .int .i64 m.up, .string (bs m.data), .slice A3 m.ents.length c3] 100) := ⟨_, rfl⟩
      obtain ⟨b8, hb8⟩ : ∃ b, b = w3.heap.size := ⟨_, rfl⟩
      have N4 : Has W4 b8 (.cells #[.int .i64 m.no, .int .i64 m.dev, .int .i64 m.kind, .int .i64 m.mode, .int .i64 m.uid, .int .i64 m.gid, .int .i64 m.mtime, .int .i64 m.ctime, .int .i64 m.links, .int .i64 m.up, .string (bs m.data), .slice A3 m.ents.length c3] 100) := by rw [hW4, hb8]; exact Has.new _ _
      have E34 : Ext wr W4 := b3.trans (by rw [hW4]; exact (Ext.refl _).alloc _)
      have hE4 : Ext w W4 := hE.trans E34
      have HM := Lib.hid hm
      clear hm him ok3 v0 vz
      go_upto_region 8 with fail
      rw [← hW4]
      rw [← hb8]
      clear hW4 hb8
      have k1 : W4.cell? ⟨b8, 1, none⟩ = some (.int .i64 m.dev) := N4.cell 1
      have kz := N4.lt
      go_wp2_with fail
      refine (proot_any B g S m.dev _ (h.ext hE4) hd (by omega)).mono ?_
      rintro e w5 ⟨rfl, b5⟩
      have hE5 := hE4.trans b5
      have N5 := N4.ext b5
      clear k1 kz
      obtain ⟨ch, hch⟩ : ∃ ch, ch = childF S n := ⟨_, rfl⟩
      have HCH := Lib.hid hch
      clear hch
      go_upto_if 41 with fail
      go_cut [1] (fun v wc => v = .int .i64 ch ∧ Ext w5 wc)
      case first =>
        by_cases hrt : rootF S.devs m.dev = n
        · have tr : (rootF S.devs m.dev == n) = true := by simpa using hrt
          have hfacts : n ≠ 0 ∧ 1 < m.dev := by
            have hn0 : n ≠ 0 := by
              intro h0
              have h00 : getN S.nodes n = nodeZ := by rw [h0]; exact (isN_false (hu.zero (.inl (by decide)))).1
              have : aboveF S n = n := by unfold aboveF; rw [h00, h0]; rfl
              exact HST.out this
            refine ⟨hn0, ?_⟩
            by_cases h' : 1 < m.dev
            · exact h'
            · exact absurd (HTO.out n hn0 (by rw [← HM.out]; exact hrt) (by rw [← HM.out]; exact Int.not_lt.1 h')) HST.out
          have hv : Hid (ch = (devN S.devs m.dev).over) := by
            show _ = _
            rw [HCH.out]; unfold childF; rw [← HM.out, if_pos ⟨hrt, hfacts.2⟩]
          obtain ⟨q, hq, e1, e3⟩ : ∃ q : Nat, ∃ hq : q < S.devs.length, m.dev = q + 1 ∧ devN S.devs m.dev = S.devs[q] := by
            rcases rootF_zero hr m.dev with ⟨r1, r2⟩ | ⟨q, hq, e1, _, e3, _, _, _⟩
            · exact absurd (by rw [← hrt]; exact r1) hfacts.1
            · exact ⟨q, hq, e1, e3⟩
          obtain ⟨_, _, cd5, hW5, hD5⟩ := id (h.ext hE5)
          obtain ⟨_, d1, _, _, _, _⟩ := RowD.at_ hD5 q hq
          rw [e3] at hv
          obtain ⟨ov, hov⟩ : ∃ ov, ov = S.devs[q].over := ⟨_, rfl⟩
          rw [← hov] at d1 hv
          have p1 : w5.cell? ⟨g.bW, 1, none⟩ = some (.slice (some ⟨g.bD, 0, none⟩) S.devs.length cd5) := hW5.cell 1
          have pz := hW5.lt
          have p2 : w5.cell? ⟨b8, 1, none⟩ = some (.int .i64 m.dev) := N5.cell 1
          have pz2 := N5.lt
          have pz3 := (h.ext hE5).lt.2.2.2
          have y0 : (0 : Int) ≤ m.dev - 1 := by rw [e1]; omega
          have y1 : m.dev - 1 < (S.devs.length : Int) := by rw [e1]; omega
          have y2 : (m.dev - 1).toNat = q := by rw [e1]; omega
          have y3 : IntKind.i64.wrap (m.dev - 1) = m.dev - 1 := wrap_i64_in (by omega) (by omega)
          have y4 : 1 ≤ m.dev := by omega
          have y5 : m.dev.toNat - 1 = q := by omega
          clear hfacts e1 e3 hov hW5 hD5 hrt
          go_upto_region 9 with fail
          go_quiet (fail)
          go_wp2_with fail
          go_meet
          exact ⟨by rw [hv.out], (Ext.refl _).drewN nq⟩
        · have tr : (rootF S.devs m.dev == n) = false := by simpa using hrt
          have hv : Hid (ch = n) := by
            show _ = _
            rw [HCH.out]; unfold childF; rw [← HM.out, if_neg (fun h2 => hrt h2.1)]
          clear hrt
          go_wp2_with fail
          go_meet
          exact ⟨by rw [hv.out], Ext.refl _⟩
      case rest =>
      obtain ⟨rfl, E6⟩ := hcut
      obtain ⟨W6, hW6⟩ : ∃ W6, W6 = wc := ⟨_, rfl⟩
      rw [← hW6] at E6 ⊢
      have hE6 := hE5.trans E6
      clear hW6 N5 N4
      obtain ⟨_, _, cd6, hW6, _⟩ := id (h.ext hE6)
      have v0 : W6.cell? ⟨g.bW, 0, none⟩ = some (.pointer (some ⟨g.bT, 0, none⟩)) := hW6.cell 0
      have vz := hW6.lt
      clear hW6
      go_wp2_with fail
      refine (tget_any B g.bT g.bM S.nodes S.last u _ (h.ext hE6).2.1).mono ?_
      rintro e w7 ⟨A7, c7, rfl, ok7, b7⟩
      obtain ⟨mu, hmu⟩ : ∃ mu, mu = getN S.nodes u := ⟨_, rfl⟩
      obtain ⟨iu, hiu⟩ : ∃ iu, iu = isN S.nodes u := ⟨_, rfl⟩
      rw [← hmu] at ok7
      rw [← hmu, ← hiu]
      have hmun : (∀ x ∈ mu.ents, x.1 ≠ [] ∧ x.1.length ≤ 255) ∧ mu.ents.length ≤ 1000000 ∧ (iu = false → mu.ents = []) := by
        cases hi : isN S.nodes u
        · rw [hmu, (isN_false hi).1]; exact ⟨fun x hx => by simp [nodeZ] at hx, by simp [nodeZ], fun _ => rfl⟩
        · rw [hmu]; exact ⟨hn _ (isN_true hi).2.2, hel _ (isN_true hi).2.2, fun h => by rw [hiu, hi] at h; cases h⟩
      have hnm : Hid (nmF S n = (nameOf mu.ents ch).map (·.1)) := by show _ = _; unfold nmF; rw [← hu1.out, ← hmu, ← HCH.out]
      obtain ⟨W8, hW8⟩ : ∃ W8, W8 = w7.alloc (.cells #[.int .i64 mu.no, .int .i64 mu.dev, .int .i64 mu.kind, .int .i64 mu.mode, .int .i64 mu.uid, .int .i64 mu.gid, .int .i64 mu.mtime, .int .i64 mu.ctime, .int .i64 mu.links, .int .i64 mu.up, .string (bs mu.data), .slice A7 mu.ents.length c7] 100) := ⟨_, rfl⟩
      obtain ⟨b10, hb10⟩ : ∃ b, b = w7.heap.size := ⟨_, rfl⟩
      have N8 : Has W8 b10 (.cells #[.int .i64 mu.no, .int .i64 mu.dev, .int .i64 mu.kind, .int .i64 mu.mode, .int .i64 mu.uid, .int .i64 mu.gid, .int .i64 mu.mtime, .int .i64 mu.ctime, .int .i64 mu.links, .int .i64 mu.up, .string (bs mu.data), .slice A7 mu.ents.length c7] 100) := by rw [hW8, hb10]; exact Has.new _ _
      have E78 : Ext w7 W8 := by rw [hW8]; exact (Ext.refl _).alloc _
      have hE8 : Ext w W8 := (hE6.trans b7).trans E78
      have ok8 := ok7.ext E78
      have HMN := Lib.hid hmun
      clear hmu hiu hmun v0 vz ok7
      go_upto_region 11 with fail
      rw [← hW8]
      rw [← hb10]
      clear hW8 hb10
      have k11 : W8.cell? ⟨b10, 11, none⟩ = some (.slice A7 mu.ents.length c7) := N8.cell 11
      have kz := N8.lt
      go_wp2_with fail
      refine (name_any A7 mu.ents c7 ch _ ok8.ents.ents HMN.out.2.1).mono ?_
      rintro e w9 ⟨he, b9⟩
      have hE9 := hE8.trans b9
      have hown9 := own_keep hown ((((E34.trans b5).trans E6).trans b7).trans (E78.trans b9))
      clear k11 kz
      cases hx : nameOf mu.ents ch with
      | none =>
        rw [hx] at he
        subst he
        have hv : Hid (whereF S no = none) := by
          show _ = _
          rw [hwf.out, ← hw.out]
          by_cases h1 : n = 1
          · exact absurd (by rw [h1]; exact H11.out) HST.out
          · rw [way_step HR.out hu h1 HST.out, hnm.out, hx]; rfl
        clear hx
        cases iu
        all_goals
          go_wp2_with fail
          go_ret2
          exact WhR.no hv.out hE9
      | some x =>
        rw [hx] at he
        have hiu : iu = true := by
          cases iu
          · have := HMN.out.2.2 rfl
            rw [this] at hx
            cases hx
          · rfl
        subst hiu
        subst he
        have hxo := HMN.out.1 x (nameOf_mem hx)
        have hw3 : Hid ((wayF S u).map (fun l => (acc ++ [x.1]) ++ l) = res) := by
          show _ = _
          rw [← hw.out]
          by_cases h1 : n = 1
          · exact absurd (by rw [h1]; exact H11.out) HST.out
          · rw [way_step HR.out hu h1 HST.out, hnm.out, hx, ← hu1.out]
            simp only [Option.map_some, Option.map_map]
            congr 1
            funext l
            simp
        have hac2 : Hid (∀ y ∈ acc ++ [x.1], y.length ≤ 255) := by
          show ∀ y ∈ acc ++ [x.1], y.length ≤ 255
          intro y hy
          rcases List.mem_append.1 hy with hy | hy
          · exact hac.out y hy
          · rw [List.mem_singleton.1 hy]; exact hxo.2
        have hms : Hid ((if u = 0 then 0 else r u + 1) < (if n = 0 then 0 else r n + 1)) := by
          show (if u = 0 then 0 else r u + 1) < (if n = 0 then 0 else r n + 1)
          have hn0 : n ≠ 0 := by
            intro h0
            have h00 : getN S.nodes n = nodeZ := by rw [h0]; exact (isN_false (hu.zero (.inl (by decide)))).1
            have : aboveF S n = n := by unfold aboveF; rw [h00, h0]; rfl
            exact HST.out this
          rw [if_neg hn0]
          split
          · omega
          · rename_i h
            have := HR.out.step n hn0 (by rw [← hu1.out]; exact h) HST.out
            rw [← hu1.out] at this
            omega
        have hal : acc.length ≤ 1002 := by omega
        have hgt : acc.length + 1 + (if u = 0 then 0 else r u + 1) ≤ 1002 := by have := hms.out; omega
        have HGT := Lib.hid hgt
        have HX := Lib.hid hx
        clear hx hxo hgt hacl
        unfold OwnT at hown
        go_wp2_with (at_builtin; refine wpList_append_own _ rfl _ _ 91 rfl w.heap.size 9 i0 (.string ⟨#[]⟩) 1 16 Try.underlying91 hi hz0 hz1 hz2 rfl (by decide) _ _ _ rfl (hown9.alloc _) ⟨w9.heap.size, 0, none⟩ 1 1 (txtCells [x.1]) rfl rfl (txt_news w9 x.1) (txtCells_one [x.1]) (by unfold maxLen; omega) (by omega) (by have := hE9.size; simp; omega) ?_)
        intro v' w10 hown10 hgrow _
        obtain ⟨ho10, hE10⟩ := txt_app hown9 hE9 hown10 hgrow
        clear hown10 hgrow hown hown9
        have HO10 := Lib.hid ho10
        clear ho10
        go_wp2_with fail
        refine (pabove_any B g S u _ (h.ext hE10) hd hd2 hr hu).mono ?_
        rintro e w11 ⟨rfl, b11⟩
        go_wp2_with fail
        go_roundw
        case rel => exact ⟨u, aboveF S u, acc ++ [x.1], rfl, rfl, rfl, own_keep HO10.out b11, by rw [List.length_append]; exact HGT.out, hac2, hw3, hE10.trans b11⟩
        case measure => exact hms.out
end Go.Proofs.Ytebghednhjaniaa

namespace Go.Proofs.Ytebghednhjaniaa
open Go.ChangeShapes Go.WideShapes Go.ChangeAt Go.RowKit

attribute [local irreducible] wpQuiet
/-- Numbers, mounts, entries that are not too many. -/
structure Base (S : TreeD) : Prop where
  nos : NosUp S.nodes S.last
  last : 1 ≤ S.last
  devs : 0 < S.devs.length
  eight : S.devs.length ≤ 8
  roots : RootsOk S.devs
  count : S.nodes.length ≤ S.last
  ents : ∀ n ∈ S.nodes, n.ents.length ≤ 1000000
theorem Good.base {S : TreeD} (h : Good S) (hl : S.last ≤ 1000) : Base S := ⟨h.nos, h.last, h.devs, h.eight, h.roots, h.count, fun n hn => by have := h.small n hn; omega⟩
/-- What a tree must be for the two to be compared. -/
structure Fit (S : TreeD) : Prop where
  good : Base S
  names : NamesOk S
  top : TopOk S
  one : aboveF S 1 = 1
  rank : ∃ r, Rank S r
  short : S.last ≤ 1000
theorem Fit.len {S : TreeD} (h : Fit S) : S.nodes.length ≤ 1000 := by have := h.good.count; have := h.short; omega
theorem Fit.ents {S : TreeD} (h : Fit S) : ∀ n ∈ S.nodes, n.ents.length ≤ 1000000 := h.good.ents
theorem WhR.val (o : Option (List UInt8)) : ∃ X b, ∀ w e w', WhR w o e w' → e = .returned (.tuple #[.string X, .bool b]) ∧ Ext w w' := by
  cases o with
  | none => exact ⟨_, _, fun w e w' h => h⟩
  | some s => exact ⟨_, _, fun w e w' h => h⟩
set_option maxRecDepth 100000 in
set_option maxHeartbeats 8000000 in
theorem same14_any (B B' : Nat) (g : GhW) (f : GhF) (S : TreeD) (X : Xtra) (w : World) (K : WAt w B g S) (F : FAt w B' f S X) (H : Fit S) :
    Calls Try.prog 88 #[.pointer (some ⟨g.bW, 0, none⟩), .pointer (some ⟨f.bF, 0, none⟩)] w (Ret w (.bool true)) := by
  have HF := Lib.hid H
  have hd := H.good.devs
  have hd2 := H.good.eight
  have hr := H.good.roots
  have hu := H.good.nos
  have hl := H.len
  have hl1 := H.good.last
  have hl2 := H.short
  clear H
  have KD : Hid (∀ u : Gr w, Calls Try.prog 26 #[.pointer (some ⟨g.bW, 0, none⟩)] u.w (Ret u.w (.int .i64 S.devs.length))) := by
    show ∀ u : Gr w, _
    exact fun u => pdevs_any B g S _ (K.ext u.h) hd
  have KL : Hid (∀ u : Gr w, Calls Try.prog 27 #[.pointer (some ⟨g.bT, 0, none⟩)] u.w (Ret u.w (.int .i64 S.nodes.length))) := by
    show ∀ u : Gr w, _
    exact fun u => tlen_any B g.bT g.bM S.nodes S.last _ (K.ext u.h).2.1
  obtain ⟨_, _, cd, kW, _⟩ := id K
  obtain ⟨_, cn, ce, kF, _, _⟩ := id F
  have y0 := Gr.cell kW.lt (kW.cell 0)
  have y1 := Gr.cell kF.lt (kF.cell 0)
  have y2 := Gr.cell kF.lt (kF.cell 1)
  clear kW kF
  go_enter Try.func88, Try.ntmps88
  go_upto_region 1 with fail
  refine wp_region_grow w (by kernel_rfl) (by kernel_rfl) (Ext.refl _).drew ?_
  repeat (quiet_step (first
    | ((with_reducible refine (KD.out _).mono ?_); rintro e w'' ⟨rfl, hEx⟩; exact ⟨rfl, ⟨w'', Ext.trans (Gr.h _) hEx⟩, rfl⟩)
    | ((with_reducible refine (KL.out _).mono ?_); rintro e w'' ⟨rfl, hEx⟩; exact ⟨rfl, ⟨w'', Ext.trans (Gr.h _) hEx⟩, rfl⟩)))
  refine wpQuiet_nil ?_
  rintro w1 ⟨⟨w1', E1⟩, h1⟩
  dsimp only at h1
  subst h1
  clear y0 y1 y2 KD KL
  obtain ⟨D, hD⟩ : ∃ D, D = S.devs.length := ⟨_, rfl⟩
  have HD := Lib.hid hD
  have hD1 : 0 < D := by omega
  have hD8 : D ≤ 8 := by omega
  clear hD
  go_wp2_with fail
  go_loopw [5] (fun v5 wr => ∃ d : Nat, v5 = .int .i64 d ∧ d ≤ D + 2 ∧ Ext w wr) (fun v _ => D + 2 - (intOf v).toNat)
  case atStart => exact ⟨0, rfl, by omega, E1⟩
  case round =>
    obtain ⟨d, rfl, hdd, hE⟩ := hrel
    have Kr := K.ext hE
    have Fr := F.ext hE
    obtain ⟨_, cnr, cer, kF, _, kD⟩ := id Fr
    have c1 : wr.cell? ⟨f.bF, 1, none⟩ = some (.slice (some ⟨f.bE, 0, none⟩) D cer) := by rw [HD.out]; exact kF.cell 1
    have zF := kF.lt
    by_cases hin : d ≤ D + 1
    · have tin : decide ((d : Int) ≤ (D : Int) + 1) = true := decide_eq_true (by omega)
      obtain ⟨W6, hW6⟩ : ∃ W6, W6 = wr.alloc (.cells #[.int .i64 0, .int .i64 0, .int .i64 0, .int .i64 0] 53) := ⟨_, rfl⟩
      obtain ⟨b6, hb6⟩ : ∃ b, b = wr.heap.size := ⟨_, rfl⟩
      have N6 : Has W6 b6 (.cells #[.int .i64 spaceZ.blocks, .int .i64 spaceZ.nodes, .int .i64 spaceZ.mostB, .int .i64 spaceZ.mostN] 53) := by rw [hW6, hb6]; exact Has.new _ _
      have E6 : Ext wr W6 := by rw [hW6]; exact (Ext.refl _).alloc _
      have hb6' : wr.heap.size ≤ b6 := by omega
      clear kF kD
      go_upto_region 7 with fail
      rw [← hW6]
      rw [← hb6]
      have Hb6 := Lib.hid hb6'
      clear hW6 hb6 hb6'
      go_wp2_with fail
      refine (rroot_any B' f S X d _ (Fr.ext E6) (by omega)).mono ?_
      rintro e w7 ⟨rfl, b7⟩
      have N7 := N6.ext b7
      have E7 := E6.trans b7
      obtain ⟨_, _, ce7, kF7, _, kD7⟩ := id (Fr.ext E7)
      have c7 : w7.cell? ⟨f.bF, 1, none⟩ = some (.slice (some ⟨f.bE, 0, none⟩) D ce7) := by rw [HD.out]; exact kF7.cell 1
      have z7 := kF7.lt
      have z7E := (Fr.ext E7).lt.2.2
      clear kF7
      obtain ⟨q, hq⟩ : ∃ q, q = useF S.devs d := ⟨_, rfl⟩
      have HQ := Lib.hid hq
      clear hq
      go_upto_if 49 with fail
      go_cut [6] (fun v wc => v = .pointer (some ⟨b6, 0, none⟩) ∧ Has wc b6 (.cells #[.int .i64 q.blocks, .int .i64 q.nodes, .int .i64 q.mostB, .int .i64 q.mostN] 53) ∧ Ext wr wc)
      case first =>
        rcases rootF_zero hr d with ⟨e1, e2⟩ | ⟨k, hk, e1, e2, e3, e4, e5, e6⟩
        · have hv : q = spaceZ := by rw [HQ.out]; unfold useF; rw [e2]; rfl
          have t1 : (rootF S.devs d != 0) = false := by simpa using e1
          have t1b : (rootF S.devs d == 0) = true := by simpa using e1
          clear e1 e2 kD7
          go_wp2_with fail
          go_meet
          exact ⟨rfl, by rw [hv]; exact N7, E7⟩
        · have hv : q = S.devs[k].q := by rw [HQ.out]; unfold useF; rw [e2, e3]; rfl
          have t1 : (rootF S.devs d != 0) = true := by rw [e4]; simpa using (by omega : S.devs[k].root ≠ 0)
          have t1b : (rootF S.devs d == 0) = false := by rw [e4]; simpa using (by omega : S.devs[k].root ≠ 0)
          obtain ⟨d0, d1, d2, d3, d4, d5⟩ := RowD.at_ kD7 k hk
          rw [← hv] at d2 d3 d4 d5
          have hkD : k < D := by have := HD.out; omega
          have e1' : (d : Int) - 1 = k := by omega
          have y0 : (0 : Int) ≤ (k : Int) := Int.natCast_nonneg _
          have y1 : (k : Int) < (D : Int) := by omega
          have y2 : ((d : Int) - 1).toNat = k := by omega
          have y3 : IntKind.i64.wrap ((d : Int) - 1) = k := by rw [e1']; exact wrap_i64_in (by omega) (by omega)
          clear e1 e2 e3 e4 e5 e6 hv kD7 hkD d0 d1 hk
          go_wp2_with (refine wpList_store_space rfl _ _ rfl b6 q rfl rfl N7 ?_; intro w8 N8 O8)
          go_meet
          exact ⟨rfl, N8, O8.after E7 (by intro x hx; rw [List.mem_singleton] at hx; have := Hb6.out; omega)⟩
      case rest =>
      obtain ⟨rfl, N8, E8⟩ := hcut
      obtain ⟨W8, hW8⟩ : ∃ W8, W8 = wc := ⟨_, rfl⟩
      rw [← hW8] at N8 E8 ⊢
      have KR : Hid (∀ u : Gr W8, Calls Try.prog 94 #[.pointer (some ⟨g.bW, 0, none⟩), .int .i64 d] u.w (Ret u.w (.int .i64 (rootF S.devs d)))) := by
        show ∀ u : Gr W8, _
        exact fun u => proot_any B g S d _ ((Kr.ext E8).ext u.h) hd (by omega)
      have KQ : Hid (∀ u : Gr W8, Calls Try.prog 64 #[.pointer (some ⟨f.bF, 0, none⟩), .int .i64 d] u.w (Ret u.w (.int .i64 (rootF S.devs d)))) := by
        show ∀ u : Gr W8, _
        exact fun u => rroot_any B' f S X d _ ((Fr.ext E8).ext u.h) (by omega)
      have KU : Hid (∀ u : Gr W8, Calls Try.prog 28 #[.pointer (some ⟨g.bW, 0, none⟩), .int .i64 d] u.w (Ret u.w (.agg #[.int .i64 q.blocks, .int .i64 q.nodes, .int .i64 q.mostB, .int .i64 q.mostN]))) := by
        show ∀ u : Gr W8, _
        intro u
        rw [HQ.out]
        exact puse_any B g S d _ ((Kr.ext E8).ext u.h) hd hd2 hr
      have y0 := Gr.cell N8.lt (N8.cell 0)
      have y1 := Gr.cell N8.lt (N8.cell 1)
      have y2 := Gr.cell N8.lt (N8.cell 2)
      have y3 := Gr.cell N8.lt (N8.cell 3)
      have hc8 : Ext w W8 := hE.trans E8
      clear hW8 N8 N7 N6 c1 c7 zF z7 z7E kD7 E8 E7 E6 b7
      go_upto_region 9 with fail
      refine wp_region_grow W8 (by kernel_rfl) (by kernel_rfl) (Ext.refl _).drew ?_
      repeat (quiet_step (first
        | ((with_reducible refine (KR.out _).mono ?_); rintro e w'' ⟨rfl, hEx⟩; exact ⟨rfl, ⟨w'', Ext.trans (Gr.h _) hEx⟩, rfl⟩)
        | ((with_reducible refine (KQ.out _).mono ?_); rintro e w'' ⟨rfl, hEx⟩; exact ⟨rfl, ⟨w'', Ext.trans (Gr.h _) hEx⟩, rfl⟩)
        | ((with_reducible refine (KU.out _).mono ?_); rintro e w'' ⟨rfl, hEx⟩; exact ⟨rfl, ⟨w'', Ext.trans (Gr.h _) hEx⟩, rfl⟩)))
      refine wpQuiet_nil ?_
      rintro w9 ⟨⟨w9', E9⟩, h9⟩
      dsimp only at h9
      subst h9
      clear y0 y1 y2 y3 KR KQ KU
      go_wp2_with fail
      go_roundw
      case rel => exact ⟨d + 1, by go_num, by omega, hc8.trans E9⟩
      case measure => simp [intOf]; omega
    · have tin : decide ((d : Int) ≤ (D : Int) + 1) = false := decide_eq_false (by omega)
      clear hin kF kD
      obtain ⟨L, hL⟩ : ∃ L : Nat, S.last = L := ⟨S.last.toNat, by omega⟩
      have hL1 : 1 ≤ L := by omega
      have hL2 : L ≤ 1000 := by omega
      have HL := Lib.hid hL
      clear hL hl1 hl2
      go_wp2_with fail
      go_loopw [7] (fun v7 wq => ∃ k : Nat, v7 = .int .i64 ((k : Int) - 1) ∧ k ≤ L + 3 ∧ Ext w wq) (fun v _ => ((L : Int) + 2 - intOf v).toNat)
      case atStart => exact ⟨0, rfl, by omega, hE⟩
      case round =>
        clear hE Kr Fr c1 zF
        obtain ⟨k, rfl, hkL, hE⟩ := hrel
        have Kr := K.ext hE
        have Fr := F.ext hE
        obtain ⟨_, cnr, cer, kF, _, kD⟩ := id Fr
        have c2 : wr.cell? ⟨f.bF, 2, none⟩ = some (.int .i64 (L : Int)) := by rw [← HL.out]; exact kF.cell 2
        have zF := kF.lt
        clear kF kD
        by_cases hin : k ≤ L + 2
        · have tin2 : decide ((k : Int) - 1 ≤ (L : Int) + 1) = true := decide_eq_true (by omega)
          go_upto_region 14 with fail
          obtain ⟨no, hno⟩ : ∃ no, no = (k : Int) - 1 := ⟨_, rfl⟩
          rw [← hno]
          have hn1 : -1 ≤ no := by omega
          have hn2 : no ≤ 1002 := by omega
          have HNO := Lib.hid hno
          obtain ⟨_, _, cdr, kW, _⟩ := id Kr
          have v0 : wr.cell? ⟨g.bW, 0, none⟩ = some (.pointer (some ⟨g.bT, 0, none⟩)) := kW.cell 0
          have vz := kW.lt
          obtain ⟨A, c, ok, C14⟩ := tget_fix B g S no wr Kr
          obtain ⟨m, hm⟩ : ∃ m, m = getN S.nodes no := ⟨_, rfl⟩
          have hme : m.ents.length ≤ 1000000 := by
            cases hi : isN S.nodes no
            · rw [hm, (isN_false hi).1]; simp [nodeZ]
            · rw [hm]; exact HF.out.ents _ (isN_true hi).2.2
          obtain ⟨im, him⟩ : ∃ im, im = isN S.nodes no := ⟨_, rfl⟩
          rw [← hm] at ok C14
          rw [← him] at C14
          have HM := Lib.hid hm
          have HC14 := Lib.hid C14
          clear kW hm him C14 hno tin2 c2
          go_wp2_with fail
          refine (HC14.out _ (Ext.refl _)).mono ?_
          rintro e w3 ⟨rfl, b3⟩
          obtain ⟨W4, hW4⟩ : ∃ W4, W4 = w3.alloc (.cells #[.int .i64 m.no, .int .i64 m.dev, .int .i64 m.kind, .int .i64 m.mode, .int .i64 m.uid, .int .i64 m.gid, .int .i64 m.mtime, .int .i64 m.ctime, .int .i64 m.links, .int .i64 m.up, .string (bs m.data), .slice A m.ents.length c] 100) := ⟨_, rfl⟩
          obtain ⟨b8, hb8⟩ : ∃ b, b = w3.heap.size := ⟨_, rfl⟩
          have N4 : Has W4 b8 (.cells #[.int .i64 m.no, .int .i64 m.dev, .int .i64 m.kind, .int .i64 m.mode, .int .i64 m.uid, .int .i64 m.gid, .int .i64 m.mtime, .int .i64 m.ctime, .int .i64 m.links, .int .i64 m.up, .string (bs m.data), .slice A m.ents.length c] 100) := by rw [hW4, hb8]; exact Has.new _ _
          have E4 : Ext wr W4 := b3.trans (by rw [hW4]; exact (Ext.refl _).alloc _)
          clear v0 vz
          go_upto_region 15 with fail
          rw [← hW4]
          rw [← hb8]
          clear hW4 hb8
          obtain ⟨r, R⟩ := HF.out.rank
          obtain ⟨X5, t5, hX5⟩ := WhR.val (whereF S no)
          have HX5 := Lib.hid hX5
          have HR := Lib.hid R
          clear hX5 R
          go_wp2_with fail
          refine (pwhere_any B g S r no _ (Kr.ext E4) hl hd hd2 hr hu HF.out.names HF.out.ents HR.out HF.out.top HF.out.one).mono ?_
          intro e w5 hwh
          obtain ⟨rfl, b5⟩ := HX5.out _ _ _ hwh
          clear hwh
          go_wp2_with fail
          refine (rwhere_any B' f S X no _ (Fr.ext (E4.trans b5)) (by omega) hd hd2 hr hu HF.out.names HF.out.ents).mono ?_
          intro e w6 hwh
          obtain ⟨rfl, b6⟩ := HX5.out _ _ _ hwh
          clear hwh
          have N6 := N4.ext (b5.trans b6)
          have E6 := E4.trans (b5.trans b6)
          go_upto_region 17 with fail
          obtain ⟨A', c', ok', C17⟩ := rget_fix B' f S X no w6 (Fr.ext E6) (by omega) hu
          rw [← HM.out] at ok' C17
          have HC17 := Lib.hid C17
          have ok6 := ok.ext E6
          have KS : Hid (∀ u : Gr w6, Calls Try.prog 58 #[.agg #[.int .i64 m.no, .int .i64 m.dev, .int .i64 m.kind, .int .i64 m.mode, .int .i64 m.uid, .int .i64 m.gid, .int .i64 m.mtime, .int .i64 m.ctime, .int .i64 m.links, .int .i64 m.up, .string (bs m.data), .slice A m.ents.length c], .agg #[.int .i64 m.no, .int .i64 m.dev, .int .i64 m.kind, .int .i64 m.mode, .int .i64 m.uid, .int .i64 m.gid, .int .i64 m.mtime, .int .i64 m.ctime, .int .i64 m.links, .int .i64 m.up, .string (bs m.data), .slice A' m.ents.length c']] u.w (Ret u.w (.bool true))) := by
            show ∀ u : Gr w6, _
            intro u
            exact same_node m A A' c c' u.w (ok6.ext u.h).ents.ents (ok'.ext u.h).ents.ents hme
          have K1 : Hid (∀ u : Gr w6, Calls Try.prog 52 #[.pointer (some ⟨g.bW, 0, none⟩), .int .i64 no] u.w (Ret u.w (.int .i64 (overF S.devs no)))) := by
            show ∀ u : Gr w6, _
            exact fun u => pover_any B g S no _ ((Kr.ext E6).ext u.h) hd (by omega)
          have K2 : Hid (∀ u : Gr w6, Calls Try.prog 102 #[.pointer (some ⟨f.bF, 0, none⟩), .int .i64 no] u.w (Ret u.w (.int .i64 (overF S.devs no)))) := by
            show ∀ u : Gr w6, _
            exact fun u => rover_any B' f S X no _ ((Fr.ext E6).ext u.h) (by omega)
          have K3 : Hid (∀ u : Gr w6, Calls Try.prog 90 #[.pointer (some ⟨g.bW, 0, none⟩), .int .i64 no] u.w (Ret u.w (.int .i64 (aboveF S no)))) := by
            show ∀ u : Gr w6, _
            exact fun u => pabove_any B g S no _ ((Kr.ext E6).ext u.h) hd hd2 hr hu
          have K4 : Hid (∀ u : Gr w6, Calls Try.prog 127 #[.pointer (some ⟨f.bF, 0, none⟩), .int .i64 no] u.w (Ret u.w (.int .i64 (aboveF S no)))) := by
            show ∀ u : Gr w6, _
            exact fun u => rabove_any B' f S X no _ ((Fr.ext E6).ext u.h) (by omega) hd2 hr hu
          have K5 : Hid (∀ u : Gr w6, Calls Try.prog 149 #[.pointer (some ⟨g.bW, 0, none⟩), .int .i64 no] u.w (Ret u.w (.bool (busyF S no)))) := by
            show ∀ u : Gr w6, _
            exact fun u => pbusy_any B g S r no _ ((Kr.ext E6).ext u.h) hd hd2 hr hu HR.out
          have K6 : Hid (∀ u : Gr w6, Calls Try.prog 150 #[.pointer (some ⟨f.bF, 0, none⟩), .int .i64 no] u.w (Ret u.w (.bool (busyF S no)))) := by
            show ∀ u : Gr w6, _
            exact fun u => rbusy_any B' f S X no _ ((Fr.ext E6).ext u.h) (by omega) hd2 hr hu
          have zb := N6.lt
          obtain ⟨x0', x1', x2', x3', x4', x5', x6', x7', x8', x9', x10', x11'⟩ := N6.node12
          have y0 := Gr.cell zb x0'
          have y1 := Gr.cell zb x1'
          have y2 := Gr.cell zb x2'
          have y3 := Gr.cell zb x3'
          have y4 := Gr.cell zb x4'
          have y5 := Gr.cell zb x5'
          have y6 := Gr.cell zb x6'
          have y7 := Gr.cell zb x7'
          have y8 := Gr.cell zb x8'
          have y9 := Gr.cell zb x9'
          have y10 := Gr.cell zb x10'
          have y11 := Gr.cell zb x11'
          obtain ⟨ov, hov⟩ : ∃ ov, ov = overF S.devs no := ⟨_, rfl⟩
          obtain ⟨ab, hab⟩ : ∃ ab, ab = aboveF S no := ⟨_, rfl⟩
          obtain ⟨bu, hbu⟩ : ∃ bu, bu = busyF S no := ⟨_, rfl⟩
          rw [← hov] at K1 K2
          rw [← hab] at K3 K4
          rw [← hbu] at K5 K6
          have hE6 := hE.trans E6
          clear x0' x1' x2' x3' x4' x5' x6' x7' x8' x9' x10' x11' C17 hov hab hbu N4 N6 ok ok' ok6 E4 b5 b6 b3 E6
          refine wp_region_grow w6 (by kernel_rfl) (by kernel_rfl) (Ext.refl _).drew ?_
          repeat (quiet_step (first
            | ((with_reducible refine (HC17.out _ (Gr.h _)).mono ?_); rintro e w'' ⟨rfl, hEx⟩; exact ⟨rfl, ⟨w'', Ext.trans (Gr.h _) hEx⟩, rfl⟩)
            | ((with_reducible refine (KS.out _).mono ?_); rintro e w'' ⟨rfl, hEx⟩; exact ⟨rfl, ⟨w'', Ext.trans (Gr.h _) hEx⟩, rfl⟩)
            | ((with_reducible refine (K1.out _).mono ?_); rintro e w'' ⟨rfl, hEx⟩; exact ⟨rfl, ⟨w'', Ext.trans (Gr.h _) hEx⟩, rfl⟩)
            | ((with_reducible refine (K2.out _).mono ?_); rintro e w'' ⟨rfl, hEx⟩; exact ⟨rfl, ⟨w'', Ext.trans (Gr.h _) hEx⟩, rfl⟩)
            | ((with_reducible refine (K3.out _).mono ?_); rintro e w'' ⟨rfl, hEx⟩; exact ⟨rfl, ⟨w'', Ext.trans (Gr.h _) hEx⟩, rfl⟩)
            | ((with_reducible refine (K4.out _).mono ?_); rintro e w'' ⟨rfl, hEx⟩; exact ⟨rfl, ⟨w'', Ext.trans (Gr.h _) hEx⟩, rfl⟩)
            | ((with_reducible refine (K5.out _).mono ?_); rintro e w'' ⟨rfl, hEx⟩; exact ⟨rfl, ⟨w'', Ext.trans (Gr.h _) hEx⟩, rfl⟩)
            | ((with_reducible refine (K6.out _).mono ?_); rintro e w'' ⟨rfl, hEx⟩; exact ⟨rfl, ⟨w'', Ext.trans (Gr.h _) hEx⟩, rfl⟩)))
          refine wpQuiet_nil ?_
          rintro w7 ⟨⟨w7', b7'⟩, h7⟩
          dsimp only at h7
          subst h7
          clear y0 y1 y2 y3 y4 y5 y6 y7 y8 y9 y10 y11 K1 K2 K3 K4 K5 K6 KS
          go_wp2_with fail
          go_roundw
          case rel => exact ⟨k + 1, by rw [HNO.out]; go_num, by omega, hE6.trans b7'⟩
          case measure => have := HNO.out; simp [intOf]; omega
        · have tin2 : decide ((k : Int) - 1 ≤ (L : Int) + 1) = false := decide_eq_false (by omega)
          go_wp2_with fail
          go_ret
          exact Ret.mk rfl hE
end Go.Proofs.Ytebghednhjaniaa

namespace Go.Proofs.Ytebghednhjaniaa

theorem app_left {α : Type} (l : List α) (x : α) (k : Nat) (h : k < l.length) (h' : k < (l ++ [x]).length) : (l ++ [x])[k]'h' = l[k] := List.getElem_append_left h
theorem app_right {α : Type} (l : List α) (x : α) (k : Nat) (h : k = l.length) (h' : k < (l ++ [x]).length) : (l ++ [x])[k]'h' = x := by subst h; simp
theorem mod_at (l : List DevD) (i : Nat) (f : DevD → DevD) (k : Nat) (h : k < (l.modify i f).length) (h2 : k < l.length) : (l.modify i f)[k]'h = if i = k then f l[k] else l[k] := List.getElem_modify ..
theorem mem_getN {S : TreeD} (hu : NosUp S.nodes S.last) {n : NodeD} (h : n ∈ S.nodes) : getN S.nodes n.no = n ∧ isN S.nodes n.no = true := by
  obtain ⟨k, hk, rfl⟩ := List.getElem_of_mem h
  have e := getO_at hu hk
  exact ⟨by unfold getN; rw [e]; rfl, by unfold isN; rw [e]; rfl⟩
/-- There is a directory of this number. -/
def DirT (S : TreeD) (no : Int) : Prop := ∃ m ∈ S.nodes, m.no = no ∧ m.kind = 1
structure Grown (S : TreeD) : Prop where
  good : Good S
  names : NamesOk S
  on : OnDev S
  first : ∃ m ∈ S.nodes, m.no = 1
  one : ∀ n ∈ S.nodes, n.no = 1 → n.kind = 1 ∧ n.dev = 1 ∧ n.up = 1
  ups : ∀ n ∈ S.nodes, n.kind = 1 → n.up ≤ n.no ∧ ∃ m ∈ S.nodes, m.no = n.up
  root1 : ∀ h : 0 < S.devs.length, S.devs[0].root = 1
  overs : ∀ k, (h : k + 1 < S.devs.length) → S.devs[k + 1].over < S.devs[k + 1].root ∧ DirT S S.devs[k + 1].over
theorem getN_node {S : TreeD} {no : Int} (h : (getN S.nodes no).kind = 1) : isN S.nodes no = true ∧ (getN S.nodes no).no = no ∧ getN S.nodes no ∈ S.nodes := by
  cases hi : isN S.nodes no
  · rw [(isN_false hi).1] at h; cases h
  · exact ⟨rfl, (isN_true hi).2⟩
theorem Grown.above {S : TreeD} (h : Grown S) (no : Int) (h0 : aboveF S no ≠ 0) (hs : aboveF S no ≠ no) : aboveF S no < no ∧ ∃ m ∈ S.nodes, m.no = aboveF S no := by
  unfold aboveF at h0 hs ⊢
  by_cases hk : (getN S.nodes no).kind = 1
  · obtain ⟨_, hn, hm⟩ := getN_node hk
    rw [if_pos hk] at h0 hs ⊢
    by_cases hr : rootF S.devs (getN S.nodes no).dev = no ∧ 1 < (getN S.nodes no).dev
    · rw [if_pos hr] at h0 hs ⊢
      rcases rootF_zero h.good.roots (getN S.nodes no).dev with ⟨e1, _⟩ | ⟨k, hkl, e1, _, e3, e4, e5, _⟩
      · obtain ⟨h1, h2⟩ := hr
        rw [e1] at h1
        rw [← h1] at hm hn
        have := h.good.nos.2 _ hm
        omega
      · obtain ⟨j, rfl⟩ : ∃ j, k = j + 1 := ⟨k - 1, by omega⟩
        have ho := h.overs j hkl
        rw [e3] at h0 hs ⊢
        obtain ⟨o1, m, hm2, hm3, hm4⟩ := ho
        have hg := (mem_getN h.good.nos hm2).1
        rw [hm3] at hg
        rw [hg] at h0 hs ⊢
        have hu := h.ups m hm2 hm4
        refine ⟨?_, hu.2⟩
        rw [← hr.1, e4]
        omega
    · rw [if_neg hr] at h0 hs ⊢
      have hu := h.ups _ hm hk
      refine ⟨?_, hu.2⟩
      rw [hn] at hu
      omega
  · rw [if_neg hk] at h0; exact absurd rfl h0
/-- How many nodes have a smaller number. -/
def rankF (S : TreeD) (no : Int) : Nat := (S.nodes.filter fun m => decide (m.no < no)).length
theorem rank_lt {ns : List NodeD} {a b : Int} (hab : a < b) (h : ∃ m ∈ ns, m.no = a) : (ns.filter fun m => decide (m.no < a)).length < (ns.filter fun m => decide (m.no < b)).length := by
  have mono : ∀ l : List NodeD, (l.filter fun m => decide (m.no < a)).length ≤ (l.filter fun m => decide (m.no < b)).length := by
    intro l
    induction l with
    | nil => exact Nat.le_refl _
    | cons x l ih =>
      simp only [List.filter_cons]
      by_cases h1 : x.no < a
      · rw [if_pos (by simpa using h1), if_pos (by simp; omega)]; simp only [List.length_cons]; omega
      · rw [if_neg (by simpa using h1)]
        split
        · simp only [List.length_cons]; omega
        · exact ih
  induction ns with
  | nil => obtain ⟨m, hm, _⟩ := h; cases hm
  | cons x l ih =>
    obtain ⟨m, hm, he⟩ := h
    simp only [List.filter_cons]
    rcases List.mem_cons.1 hm with rfl | hm
    · have := mono l
      rw [if_neg (by simp; omega), if_pos (by simp; omega)]
      simp only [List.length_cons]; omega
    · have := ih ⟨m, hm, he⟩
      by_cases h1 : x.no < a
      · rw [if_pos (by simpa using h1), if_pos (by simp; omega)]; simp only [List.length_cons]; omega
      · rw [if_neg (by simpa using h1)]
        split
        · simp only [List.length_cons]; omega
        · exact this
theorem Grown.rank {S : TreeD} (h : Grown S) : Rank S (rankF S) :=
  ⟨fun no _ h1 h2 => by obtain ⟨g1, g2⟩ := h.above no h1 h2; exact rank_lt g1 g2, fun no => List.length_filter_le ..⟩
theorem Grown.dev1 {S : TreeD} (h : Grown S) : rootF S.devs 1 = 1 := by
  unfold rootF hasD devN
  have := h.good.devs
  rw [if_pos (by simp; omega)]
  simp only [show ((1 : Int) - 1).toNat = 0 by decide]
  rw [List.getD_eq_getElem?_getD, List.getElem?_eq_getElem this]
  exact h.root1 this
theorem Grown.aboveOne {S : TreeD} (h : Grown S) : aboveF S 1 = 1 := by
  obtain ⟨m, hm, he⟩ := h.first
  have hg := (mem_getN h.good.nos hm).1
  rw [he] at hg
  obtain ⟨a1, a2, a3⟩ := h.one m hm he
  unfold aboveF
  rw [hg, if_pos a1, if_neg (by rw [a2]; omega), a3]
theorem Grown.fit {S : TreeD} (h : Grown S) (hl : S.last ≤ 1000) : Fit S := by
  refine ⟨h.good.base hl, h.names, ?_, h.aboveOne, ⟨_, h.rank⟩, hl⟩
  intro no h0 h1 h2
  rcases rootF_zero h.good.roots (getN S.nodes no).dev with ⟨e1, _⟩ | ⟨k, hkl, e1, _, e3, e4, e5, _⟩
  · rw [e1] at h1; exact absurd h1.symm h0
  · have : (getN S.nodes no).dev = 1 := by omega
    rw [this, h.dev1] at h1
    rw [← h1]; exact h.aboveOne
/-! ### It stays. -/
theorem grown_root {S : TreeD} (h : Grown S) {over b n : Int} (h8 : S.devs.length < 8) (hl : limitsF b n = true) (ho : DirT S over) : Grown (rootT S over b n) := by
  have sub : ∀ m ∈ S.nodes, m ∈ (rootT S over b n).nodes := fun m hm => List.mem_append_left _ hm
  have new : rootNode S ∈ (rootT S over b n).nodes := List.mem_append_right _ (List.mem_singleton.2 rfl)
  have hl1 := h.good.last
  have hlen : (rootT S over b n).devs.length = S.devs.length + 1 := by simp [rootT]
  refine ⟨good_root h.good h8 hl, ?_, ?_, ?_, ?_, ?_, ?_, ?_⟩
  · intro m hm
    rcases List.mem_append.1 hm with hm | hm
    · exact h.names m hm
    · rw [List.mem_singleton] at hm; subst hm; intro x hx; simp [rootNode, nodeZ] at hx
  · intro m hm
    rcases List.mem_append.1 hm with hm | hm
    · have := h.on m hm
      refine ⟨?_, this.2⟩
      have h2 := this.1
      unfold hasD at h2 ⊢
      rw [hlen]
      simp at h2 ⊢
      omega
    · rw [List.mem_singleton] at hm; subst hm
      refine ⟨?_, by simp [rootNode, nodeZ]⟩
      unfold hasD
      rw [hlen]
      show (decide ((1 : Int) ≤ (S.devs.length : Int) + 1) && decide ((S.devs.length : Int) + 1 ≤ ((S.devs.length + 1 : Nat) : Int))) = true
      rw [Bool.and_eq_true, decide_eq_true_eq, decide_eq_true_eq]
      omega
  · obtain ⟨m, hm, he⟩ := h.first
    exact ⟨m, sub m hm, he⟩
  · intro m hm he
    rcases List.mem_append.1 hm with hm | hm
    · exact h.one m hm he
    · rw [List.mem_singleton] at hm; subst hm; simp [rootNode] at he; omega
  · intro m hm hk
    rcases List.mem_append.1 hm with hm | hm
    · obtain ⟨u1, m2, hm2, u2⟩ := h.ups m hm hk
      exact ⟨u1, m2, sub m2 hm2, u2⟩
    · rw [List.mem_singleton] at hm; subst hm
      exact ⟨Int.le_refl _, _, new, rfl⟩
  · intro h0
    have := h.root1 h.good.devs
    exact (congrArg DevD.root (app_left S.devs _ 0 h.good.devs h0)).trans this
  · intro k hk
    rw [hlen] at hk
    by_cases hk2 : k + 1 < S.devs.length
    · obtain ⟨o1, m, hm, o2⟩ := h.overs k hk2
      have e : (rootT S over b n).devs[k + 1]'(by rw [hlen]; omega) = S.devs[k + 1] := List.getElem_append_left hk2
      rw [e]
      exact ⟨o1, m, sub m hm, o2⟩
    · have e : (rootT S over b n).devs[k + 1]'(by rw [hlen]; omega) = ⟨S.last + 1, over, ⟨1, 1, b, n⟩⟩ := by
        exact app_right S.devs _ (k + 1) (by omega) (by show k + 1 < (rootT S over b n).devs.length; rw [hlen]; omega)
      rw [e]
      obtain ⟨m, hm, o2, o3⟩ := ho
      have := (h.good.nos.2 m hm).2
      exact ⟨by show over < S.last + 1; omega, m, sub m hm, o2, o3⟩
theorem grown_mount {S : TreeD} (h : Grown S) (a b n : Int) : Grown (mountT S a b n) := by
  unfold mountT
  split
  · rename_i h0
    refine grown_root h (mountE_zero h0).1 (mountE_zero h0).2 ?_
    unfold mountE at h0
    split at h0
    · cases h0
    · rename_i hi
      split at h0
      · cases h0
      · rename_i hk
        have hi2 : isN S.nodes a = true := by simpa using hi
        exact ⟨_, (isN_true hi2).2.2, (isN_true hi2).2.1, Decidable.not_not.1 hk⟩
  · exact h
theorem setQ_at {ds : List DevD} {d : Int} {q : SpaceD} {k : Nat} (hk : k < (setQ ds d q).length) (hk2 : k < ds.length) : (setQ ds d q)[k].root = ds[k].root ∧ (setQ ds d q)[k].over = ds[k].over := by
  have e := mod_at ds (d - 1).toNat (fun x => { x with q := q }) k hk hk2
  exact ⟨(congrArg DevD.root e).trans (by split <;> rfl), (congrArg DevD.over e).trans (by split <;> rfl)⟩
theorem grown_make {S : TreeD} (h : Grown S) {n : NodeD} (he : n.ents = []) (hd : n.data.length ≤ 1048576) (hu : n.kind = 1 → ∃ m ∈ S.nodes, m.no = n.up) : Grown (makeT S n) := by
  have hg := good_make h.good he
  unfold makeT at hg ⊢
  split at hg
  · rename_i h0
    rw [if_pos h0]
    have hl1 := h.good.last
    have hhas : hasD S.devs n.dev = true := by
      cases hh : hasD S.devs n.dev
      · unfold makeE rootF at h0; rw [hh] at h0; simp at h0
      · rfl
    obtain ⟨Q, hQ⟩ : ∃ Q, Q = setQ S.devs n.dev (takeQ (devN S.devs n.dev).q (blocksF n.kind n.data.length) 1) := ⟨_, rfl⟩
    have hlen : Q.length = S.devs.length := by rw [hQ, setQ_len]
    have hq : ∀ k, (hk : k < Q.length) → (hk2 : k < S.devs.length) → Q[k].root = S.devs[k].root ∧ Q[k].over = S.devs[k].over := by
      intro k hk hk2
      subst hQ
      exact setQ_at hk hk2
    have hhq : ∀ d, hasD Q d = hasD S.devs d := by intro d; unfold hasD; rw [hlen]
    rw [← hQ] at hg ⊢
    refine ⟨hg, ?_, ?_, ?_, ?_, ?_, ?_, ?_⟩
    · intro m hm
      rcases List.mem_append.1 hm with hm | hm
      · exact h.names m hm
      · rw [List.mem_singleton] at hm; subst hm
        intro x hx
        have : x ∈ n.ents := hx
        rw [he] at this; cases this
    · intro m hm
      rcases List.mem_append.1 hm with hm | hm
      · have := h.on m hm
        exact ⟨(hhq _).trans this.1, this.2⟩
      · rw [List.mem_singleton] at hm; subst hm
        exact ⟨(hhq _).trans hhas, hd⟩
    · obtain ⟨m, hm, e⟩ := h.first
      exact ⟨m, List.mem_append_left _ hm, e⟩
    · intro m hm e
      rcases List.mem_append.1 hm with hm | hm
      · exact h.one m hm e
      · rw [List.mem_singleton] at hm; subst hm
        have : S.last + 1 = 1 := e
        omega
    · intro m hm hk
      rcases List.mem_append.1 hm with hm | hm
      · obtain ⟨u1, m2, hm2, u2⟩ := h.ups m hm hk
        exact ⟨u1, m2, List.mem_append_left _ hm2, u2⟩
      · rw [List.mem_singleton] at hm; subst hm
        obtain ⟨m2, hm2, u2⟩ := hu hk
        have := (h.good.nos.2 m2 hm2).2
        refine ⟨?_, m2, List.mem_append_left _ hm2, u2⟩
        show n.up ≤ S.last + 1
        omega
    · intro hk
      have := (hq 0 hk h.good.devs).1
      exact this.trans (h.root1 h.good.devs)
    · intro k hk
      have hk2 : k + 1 < S.devs.length := by have : k + 1 < Q.length := hk; omega
      obtain ⟨q1, q2⟩ := hq (k + 1) hk hk2
      obtain ⟨o1, m, hm, o2⟩ := h.overs k hk2
      show Q[k + 1].over < Q[k + 1].root ∧ DirT _ Q[k + 1].over
      rw [q1, q2]
      exact ⟨o1, m, List.mem_append_left _ hm, o2⟩
  · rename_i h0
    rw [if_neg h0]; exact h
theorem set_has {ns : List NodeD} {n m : NodeD} (h : m ∈ ns) : (if m.no = n.no then n else m) ∈ setN ns n := by
  unfold setN
  rw [List.mem_map]
  refine ⟨m, h, ?_⟩
  by_cases e : m.no = n.no
  · rw [if_pos e, if_pos (by simpa using e)]
  · rw [if_neg e, if_neg (by simpa using e)]
/-- A node is put in the place of the one of its number, alike in kind, mount and the directory above. -/
theorem grown_set {S : TreeD} (h : Grown S) {n : NodeD} (hr : Rise n.ents) (hs : n.ents.length ≤ S.last) (hn : ∀ x ∈ n.ents, x.1 ≠ [] ∧ x.1.length ≤ 255) (hd : n.data.length ≤ 1048576)
    (hsame : ∀ m ∈ S.nodes, m.no = n.no → n.kind = m.kind ∧ n.dev = m.dev ∧ n.up = m.up) (hin : isN S.nodes n.no = true) : Grown (setT S n) := by
  have hg := good_set h.good hr hs
  have hm0 := (isN_true hin).2
  have keep : ∀ m ∈ S.nodes, ∃ m' ∈ (setT S n).nodes, m'.no = m.no ∧ m'.kind = m.kind := by
    intro m hm
    refine ⟨_, set_has hm, ?_⟩
    split
    · rename_i e; exact ⟨e.symm, (hsame m hm e).1⟩
    · exact ⟨rfl, rfl⟩
  have hme := hsame _ hm0.2 hm0.1
  refine ⟨hg, ?_, ?_, ?_, ?_, ?_, h.root1, ?_⟩
  · intro m hm
    rcases mem_setN hm with hm | rfl
    · exact h.names m hm
    · exact hn
  · intro m hm
    rcases mem_setN hm with hm | rfl
    · exact h.on m hm
    · exact ⟨by rw [hme.2.1]; exact (h.on _ hm0.2).1, hd⟩
  · obtain ⟨m, hm, e⟩ := h.first
    obtain ⟨m', hm', e', _⟩ := keep m hm
    exact ⟨m', hm', e'.trans e⟩
  · intro m hm e
    rcases mem_setN hm with hm | rfl
    · exact h.one m hm e
    · have := h.one _ hm0.2 (hm0.1.trans e)
      rw [hme.1, hme.2.1, hme.2.2]; exact this
  · intro m hm hk
    have fin : ∀ u, (∃ m2 ∈ S.nodes, m2.no = u) → ∃ m2 ∈ (setT S n).nodes, m2.no = u := by
      rintro u ⟨m2, hm2, e⟩
      obtain ⟨m', hm', e', _⟩ := keep m2 hm2
      exact ⟨m', hm', e'.trans e⟩
    rcases mem_setN hm with hm | rfl
    · obtain ⟨u1, u2⟩ := h.ups m hm hk
      exact ⟨u1, fin _ u2⟩
    · obtain ⟨u1, u2⟩ := h.ups _ hm0.2 (hme.1.symm.trans hk)
      rw [hme.2.2]
      exact ⟨by rw [hm0.1] at u1; exact u1, fin _ u2⟩
  · intro k hk
    obtain ⟨o1, m, hm, o2, o3⟩ := h.overs k hk
    obtain ⟨m', hm', e1, e2⟩ := keep m hm
    exact ⟨o1, m', hm', e1.trans o2, e2.trans o3⟩
theorem mem_putF {l : List EntD} {x y : EntD} (h : y ∈ putF l x) : y ∈ l ∨ y = x := by
  unfold putF lessF moreF at h
  simp only [List.mem_append, List.mem_singleton, List.mem_filter] at h
  rcases h with (h | h) | h
  · exact .inl h.1
  · exact .inr h
  · exact .inl h.1
theorem checkN_short {l : List UInt8} (h : checkN l = 0) : l ≠ [] ∧ l.length ≤ 255 := by
  unfold checkN at h
  split at h
  · cases h
  · split at h
    · cases h
    · rename_i h1 h2
      exact ⟨fun e => h1 (.inl e), by omega⟩
theorem grown_grow {S : TreeD} (h : Grown S) (it : ItemD) (hs : shortI it) : Grown (growT S it) := by
  unfold growT
  split
  · exact grown_mount h _ _ _
  · split
    · rename_i hc
      split
      · rename_i h0
        unfold comesI at hc
        simp only [Bool.and_eq_true, decide_eq_true_eq] at hc
        obtain ⟨⟨⟨⟨c1, c2⟩, c3⟩, c4⟩, c5⟩ := hc
        obtain ⟨g1, g2, g3⟩ := getN_node c1
        have hl := h.good.last
        have hgm : Grown (makeT S (nodeI S it)) := by
          refine grown_make h rfl ?_ ?_
          · show (if it.kind = 1 then [] else it.data : List UInt8).length ≤ 1048576
            have := hs.2
            split
            · decide
            · omega
          · intro hk
            refine ⟨_, g3, ?_⟩
            have : it.kind = 1 := hk
            show _ = if it.kind = 1 then atI S it else 0
            rw [if_pos this, g2]
        have hgn := good_getN h.good (atI S it)
        have hmem : getN S.nodes (atI S it) ∈ (makeT S (nodeI S it)).nodes := by
          unfold makeT; rw [if_pos h0]; exact List.mem_append_left _ g3
        have hng := mem_getN hgm.good.nos hmem
        refine grown_set hgm (rise_putF _ hgn.1) ?_ ?_ ?_ ?_ ?_
        · rw [makeT_last h0]
          have := putF_len (getN S.nodes (atI S it)).ents (it.name, S.last + 1)
          have h2 := hgn.2
          show ((putF (getN S.nodes (atI S it)).ents (it.name, S.last + 1)).length : Int) ≤ S.last + 1
          omega
        · intro x hx
          rcases mem_putF hx with hx | rfl
          · exact h.names _ g3 x hx
          · exact checkN_short c4
        · exact (h.on _ g3).2
        · intro m hm e
          have e2 : m.no = (getN S.nodes (atI S it)).no := e
          have := (mem_getN hgm.good.nos hm).1
          rw [e2, hng.1] at this
          rw [← this]
          exact ⟨rfl, rfl, rfl⟩
        · exact hng.2
      · exact h
    · exact h
theorem grown_all {S : TreeD} (h : Grown S) (l : List ItemD) (hs : ∀ x ∈ l, shortI x) : Grown (growAll S l) := by
  unfold growAll
  induction l generalizing S with
  | nil => exact h
  | cons x l ih => rw [List.foldl_cons]; exact ih (grown_grow h x (hs x (List.mem_cons_self ..))) fun y hy => hs y (List.mem_cons_of_mem _ hy)
theorem grown_first {b n : Int} (hl : limitsF b n = true) : Grown (rootT emptyT 0 b n) := by
  refine ⟨good_first hl, ?_, ?_, ⟨rootNode emptyT, List.mem_append_right _ (List.mem_singleton.2 rfl), rfl⟩, ?_, ?_, fun _ => rfl, ?_⟩
  · intro m hm x hx
    simp [rootT, emptyT] at hm
    subst hm; cases hx
  · intro m hm
    simp [rootT, emptyT] at hm
    subst hm
    exact ⟨rfl, by decide⟩
  · intro m hm _
    simp [rootT, emptyT] at hm
    subst hm; exact ⟨rfl, rfl, rfl⟩
  · intro m hm _
    simp [rootT, emptyT] at hm
    subst hm
    exact ⟨Int.le_refl _, _, List.mem_append_right _ (List.mem_singleton.2 rfl), rfl⟩
  · intro k hk
    have : k + 1 < 1 := hk
    omega
/-- The law's trees fit. -/
theorem fit_grow {b n : Int} (hl : limitsF b n = true) {l : List ItemD} (hf : FewI l) : Grown (growAll (rootT emptyT 0 b n) l) ∧ Fit (growAll (rootT emptyT 0 b n) l) := by
  have h := grown_all (grown_first hl) l hf.1
  refine ⟨h, h.fit ?_⟩
  have := (good_all (good_first hl) l).2
  have h2 := hf.2
  have h3 : (rootT emptyT 0 b n).last = 1 := rfl
  rw [h3] at this
  omega
end Go.Proofs.Ytebghednhjaniaa

namespace Go.Proofs.Ytebghednhjaniaa

theorem hasD_len {ds es : List DevD} (h : es.length = ds.length) (d : Int) : hasD es d = hasD ds d := by unfold hasD; rw [h]
theorem hasD_lt {ds : List DevD} {k : Int} (hh : hasD ds k = true) : 1 ≤ k ∧ (k - 1).toNat < ds.length := by
  unfold hasD at hh
  simp only [Bool.and_eq_true, decide_eq_true_eq] at hh
  omega
theorem rootQ (ds : List DevD) (d : Int) (q : SpaceD) (k : Int) : rootF (setQ ds d q) k = rootF ds k := by
  unfold rootF
  rw [hasD_len (setQ_len ds d q)]
  by_cases hh : hasD ds k = true
  · rw [if_pos hh, if_pos hh]
    have h1 := (hasD_lt hh).2
    have h2 : (k - 1).toNat < (setQ ds d q).length := by rw [setQ_len]; exact h1
    unfold devN
    rw [List.getD_eq_getElem?_getD, List.getD_eq_getElem?_getD, List.getElem?_eq_getElem h1, List.getElem?_eq_getElem h2]
    exact (setQ_at h2 h1).1
  · rw [if_neg hh, if_neg hh]
theorem rootApp {ds : List DevD} {d : DevD} {i : Int} (h : hasD ds i = true) : rootF (ds ++ [d]) i = rootF ds i := by
  have h2 : hasD (ds ++ [d]) i = true := by
    unfold hasD at h ⊢
    rw [List.length_append]
    simp at h ⊢
    omega
  unfold rootF
  rw [if_pos h, if_pos h2]
  unfold devN
  rw [List.getD_eq_getElem?_getD, List.getD_eq_getElem?_getD, List.getElem?_append_left (hasD_lt h).2]
theorem hasApp {ds : List DevD} {d : DevD} {i : Int} (h : hasD ds i = true) : hasD (ds ++ [d]) i = true := by
  unfold hasD at h ⊢
  rw [List.length_append]
  simp at h ⊢
  omega
theorem rootAt {ds : List DevD} {k : Nat} (hk : k < ds.length) : rootF ds ((k : Int) + 1) = ds[k].root := by
  unfold rootF hasD devN
  rw [if_pos (by simp; omega), show ((k : Int) + 1 - 1).toNat = k by omega, List.getD_eq_getElem?_getD, List.getElem?_eq_getElem hk]
  rfl
end Go.Proofs.Ytebghednhjaniaa

namespace Go.Proofs.Ytebghednhjaniaa

structure Live (S : TreeD) : Prop where
  nos : NosUp S.nodes S.last
  last : 1 ≤ S.last
  devs : 0 < S.devs.length
  eight : S.devs.length ≤ 8
  roots : RootsOk S.devs
  count : S.nodes.length ≤ S.last
  on : OnDev S
  first : ∃ m ∈ S.nodes, m.no = 1
  one : ∀ n ∈ S.nodes, n.no = 1 → n.dev = 1
  root1 : rootF S.devs 1 = 1
theorem Grown.live {S : TreeD} (h : Grown S) : Live S := ⟨h.good.nos, h.good.last, h.good.devs, h.good.eight, h.good.roots, h.good.count, h.on, h.first, fun n hn e => (h.one n hn e).2.1, h.dev1⟩
theorem Live.setQ {S : TreeD} (h : Live S) (d : Int) (q : SpaceD) (hq : Fine q) : Live ⟨S.nodes, setQ S.devs d q, S.last⟩ :=
  ⟨h.nos, h.last, by show 0 < (Proofs.Ytebghednhjaniaa.setQ _ _ _).length; rw [setQ_len]; exact h.devs, by show (Proofs.Ytebghednhjaniaa.setQ _ _ _).length ≤ 8; rw [setQ_len]; exact h.eight, roots_setQ h.roots _ _ hq, h.count,
    fun n hn => ⟨(hasD_len (setQ_len S.devs d q) _).trans (h.on n hn).1, (h.on n hn).2⟩, h.first, h.one, (rootQ S.devs d q 1).trans h.root1⟩
theorem Live.drop {S : TreeD} (h : Live S) (no : Int) (h1 : no ≠ 1) : Live ⟨dropN S.nodes no, S.devs, S.last⟩ :=
  ⟨h.nos.drop no, h.last, h.devs, h.eight, h.roots, by
    have h1 : (dropN S.nodes no).length ≤ S.nodes.length := List.length_filter_le ..
    have := h.count
    show ((dropN S.nodes no).length : Int) ≤ S.last
    omega, fun n hn => h.on n (List.mem_filter.1 hn).1, by
    obtain ⟨m, hm, e⟩ := h.first
    exact ⟨m, List.mem_filter.2 ⟨hm, by rw [e]; simpa using Ne.symm h1⟩, e⟩, fun n hn e => h.one n (List.mem_filter.1 hn).1 e, h.root1⟩
theorem Live.set {S : TreeD} (h : Live S) (n : NodeD) (hd : hasD S.devs n.dev = true) (hl : n.data.length ≤ 1048576) (h1 : n.no = 1 → n.dev = 1) : Live (setT S n) :=
  ⟨h.nos.set n, h.last, h.devs, h.eight, h.roots, by show ((setN S.nodes n).length : Int) ≤ S.last; rw [setN_len]; exact h.count, fun m hm => by
    rcases mem_setN hm with hm | rfl
    · exact h.on m hm
    · exact ⟨hd, hl⟩, by
    obtain ⟨m, hm, e⟩ := h.first
    refine ⟨_, set_has hm, ?_⟩
    split
    · rename_i e2; rw [← e2]; exact e
    · exact e, fun m hm e => by
    rcases mem_setN hm with hm | rfl
    · exact h.one m hm e
    · exact h1 e, h.root1⟩
theorem Live.fine {S : TreeD} (h : Live S) {d : Int} (hd : hasD S.devs d = true) (b n : Int) : Fine (takeQ (devN S.devs d).q b n) := by
  rcases rootF_zero h.roots d with ⟨_, e2⟩ | ⟨k, hk, _, _, e3, _, _, e6⟩
  · rw [e2] at hd; cases hd
  · rw [e3]; exact takeQ_fine e6
theorem Live.killed {S : TreeD} (h : Live S) {no : Int} (hk : killB S no = true) : isN S.nodes no = true ∧ no ≠ 1 := by
  unfold killB at hk
  rw [Bool.and_eq_true] at hk
  refine ⟨hk.1, fun e => ?_⟩
  have := h.one _ (isN_true hk.1).2.2 ((isN_true hk.1).2.1.trans e)
  have h2 := hk.2
  rw [this, h.root1, e] at h2
  simp at h2
theorem Live.kill {S : TreeD} (h : Live S) (no : Int) : Live (killT S no) := by
  unfold killT
  split
  · rename_i hk
    obtain ⟨hi, h1⟩ := h.killed hk
    have ho := h.on _ (isN_true hi).2.2
    exact (h.setQ (getN S.nodes no).dev _ (h.fine ho.1 _ _)).drop no h1
  · exact h
theorem Live.fill {S : TreeD} (h : Live S) (no : Int) (data : List UInt8) (hd : data.length ≤ 1048576) : Live (fillT S no data) := by
  unfold fillT
  split
  · rename_i h0
    have hi : isN S.nodes no = true := by
      cases hi : isN S.nodes no
      · unfold fillE at h0; rw [hi] at h0; simp at h0
      · rfl
    have ho := h.on _ (isN_true hi).2.2
    exact (h.setQ (getN S.nodes no).dev _ (h.fine ho.1 _ _)).set { getN S.nodes no with data := data } ((hasD_len (setQ_len S.devs _ _) _).trans ho.1) hd (fun e => by have := h.one _ (isN_true hi).2.2; exact this e)
  · exact h
theorem Live.root {S : TreeD} (h : Live S) (over b n : Int) (h8 : S.devs.length < 8) (hl : limitsF b n = true) : Live (rootT S over b n) := by
  have hl1 := h.last
  have hlen : (rootT S over b n).devs.length = S.devs.length + 1 := by simp [rootT]
  refine ⟨h.nos.add (rootNode S) rfl (by omega), by show 1 ≤ S.last + 1; omega, by rw [hlen]; omega, by rw [hlen]; omega, ?_, ?_, ?_, ?_, ?_, ?_⟩
  · intro d hd
    rcases List.mem_append.1 hd with hd | hd
    · exact h.roots d hd
    · rw [List.mem_singleton] at hd
      subst hd
      refine ⟨by show 0 < S.last + 1; omega, ?_⟩
      rcases limits_cases b n with ⟨h1, h2, h3, h4, _⟩ | ⟨h0, _⟩
      · exact ⟨show (0 : Int) ≤ 1 by decide, show (0 : Int) ≤ 1 by decide, h1, h3, h2, h4⟩
      · rw [h0] at hl; cases hl
  · have := h.count; show ((S.nodes ++ [rootNode S]).length : Int) ≤ S.last + 1; simp; exact this
  · intro m hm
    rcases List.mem_append.1 hm with hm | hm
    · have := h.on m hm
      refine ⟨?_, this.2⟩
      have h2 := this.1
      unfold hasD at h2 ⊢
      rw [hlen]
      simp at h2 ⊢
      omega
    · rw [List.mem_singleton] at hm; subst hm
      refine ⟨?_, by simp [rootNode, nodeZ]⟩
      unfold hasD
      rw [hlen]
      show (decide ((1 : Int) ≤ (S.devs.length : Int) + 1) && decide ((S.devs.length : Int) + 1 ≤ ((S.devs.length + 1 : Nat) : Int))) = true
      rw [Bool.and_eq_true, decide_eq_true_eq, decide_eq_true_eq]
      omega
  · obtain ⟨m, hm, e⟩ := h.first
    exact ⟨m, List.mem_append_left _ hm, e⟩
  · intro m hm e
    rcases List.mem_append.1 hm with hm | hm
    · exact h.one m hm e
    · rw [List.mem_singleton] at hm; subst hm; simp [rootNode] at e; omega
  · have := h.root1
    unfold rootF hasD devN at this ⊢
    have hd := h.devs
    rw [if_pos (by simp; omega)] at this ⊢
    simp only [show ((1 : Int) - 1).toNat = 0 by decide] at this ⊢
    rw [List.getD_eq_getElem?_getD] at this ⊢
    show ((S.devs ++ _)[0]?.getD devZ).root = 1
    rw [List.getElem?_append_left hd]; exact this
theorem Live.mount {S : TreeD} (h : Live S) (a b n : Int) : Live (mountT S a b n) := by
  unfold mountT
  split
  · rename_i h0
    exact h.root _ _ _ (mountE_zero h0).1 (mountE_zero h0).2
  · exact h
theorem mountT_last {S : TreeD} (a b n : Int) : (mountT S a b n).last ≤ S.last + 1 := by
  unfold mountT
  split
  · exact Int.le_refl _
  · omega
theorem killT_last (S : TreeD) (no : Int) : (killT S no).last = S.last := by unfold killT; split <;> rfl
theorem fillT_last (S : TreeD) (no : Int) (d : List UInt8) : (fillT S no d).last = S.last := by unfold fillT; split <;> rfl
end Go.Proofs.Ytebghednhjaniaa

namespace Go.Proofs.Ytebghednhjaniaa

/-- What lies above a directory: itself, if it is a mount's root; else a directory of the same mount that has its name. -/
def UpOk (S : TreeD) (n : NodeD) : Prop :=
  (rootF S.devs n.dev = n.no ∧ n.up = n.no) ∨ (rootF S.devs n.dev ≠ n.no ∧ n.up ≠ n.no ∧ ∃ m ∈ S.nodes, m.no = n.up ∧ m.kind = 1 ∧ m.dev = n.dev ∧ ∃ x ∈ m.ents, x.2 = n.no)
/-- A number that a directory may list: not its own, no mount's root, on its own mount. -/
def Kin (S : TreeD) (no dev y : Int) : Prop := y ≠ no ∧ (∀ d ∈ S.devs, y ≠ d.root) ∧ ∀ q ∈ S.nodes, q.no = y → q.dev = dev
/-- All that is true; of the directory k it is not asked that it lies where it says. -/
structure TreB (c : Nat) (k : Int) (S : TreeD) : Prop where
  nos : NosUp S.nodes S.last
  last : 1 ≤ S.last
  devs : 0 < S.devs.length
  eight : S.devs.length ≤ 8
  roots : RootsOk S.devs
  count : S.nodes.length ≤ S.last
  small : ∀ n ∈ S.nodes, n.ents.length ≤ c
  rise : ∀ n ∈ S.nodes, Rise n.ents
  names : NamesOk S
  pos : ∀ n ∈ S.nodes, ∀ x ∈ n.ents, 1 ≤ x.2 ∧ x.2 ≤ S.last
  on : OnDev S
  first : ∃ m ∈ S.nodes, m.no = 1
  one : ∀ n ∈ S.nodes, n.no = 1 → n.kind = 1 ∧ n.dev = 1 ∧ n.up = 1
  root1 : rootF S.devs 1 = 1
  dlinks : ∀ n ∈ S.nodes, n.kind = 1 → n.links = 1
  ups : ∀ n ∈ S.nodes, n.kind = 1 → n.no ≠ k → UpOk S n
  bits : ∀ n ∈ S.nodes, 0 ≤ n.mode ∧ n.mode ≤ 1023 ∧ 1 ≤ n.links ∧ n.links ≤ 1000
  kin : ∀ m ∈ S.nodes, ∀ x ∈ m.ents, Kin S m.no m.dev x.2
  over0 : ∀ h : 0 < S.devs.length, S.devs[0].over = 0
  overs : ∀ k, (h : k + 1 < S.devs.length) → ∃ m ∈ S.nodes, m.no = S.devs[k + 1].over ∧ m.kind = 1 ∧ m.dev ≤ (k : Int) + 1 ∧ rootF S.devs m.dev ≠ m.no
  rootsIn : ∀ k, (h : k < S.devs.length) → ∃ m ∈ S.nodes, m.no = S.devs[k].root ∧ m.kind = 1 ∧ m.dev = (k : Int) + 1
  deep : ∃ d : Int → Nat, ∀ n ∈ S.nodes, n.kind = 1 → n.up ≠ n.no → d n.up < d n.no
abbrev Tre (c : Nat) (S : TreeD) : Prop := TreB c 0 S
theorem Tre.ups0 {c : Nat} {S : TreeD} (h : Tre c S) : ∀ n ∈ S.nodes, n.kind = 1 → UpOk S n := fun n hn hk => h.ups n hn hk (by have := (h.nos.2 n hn).1; omega)
theorem Tre.base {c : Nat} {S : TreeD} (h : Tre c S) (hc : c ≤ 1000000) : Base S := ⟨h.nos, h.last, h.devs, h.eight, h.roots, h.count, fun n hn => by have := h.small n hn; omega⟩
theorem Tre.getN {c : Nat} {S : TreeD} (h : Tre c S) (no : Int) : Rise (getN S.nodes no).ents ∧ (getN S.nodes no).ents.length ≤ c := by
  cases hi : isN S.nodes no
  · rw [(isN_false hi).1]
    exact ⟨List.Pairwise.nil, Nat.zero_le _⟩
  · have := (isN_true hi).2.2
    exact ⟨h.rise _ this, h.small _ this⟩
/-! ### Whoever goes up comes to an end. -/
theorem cnt_lt {ns : List NodeD} {f : Int → Nat} {a b : Int} (hab : f a < f b) (h : ∃ m ∈ ns, m.no = a) : (ns.filter fun m => decide (f m.no < f a)).length < (ns.filter fun m => decide (f m.no < f b)).length := by
  have mono : ∀ l : List NodeD, (l.filter fun m => decide (f m.no < f a)).length ≤ (l.filter fun m => decide (f m.no < f b)).length := by
    intro l
    induction l with
    | nil => exact Nat.le_refl _
    | cons x l ih =>
      simp only [List.filter_cons]
      by_cases h1 : f x.no < f a
      · rw [if_pos (by simpa using h1), if_pos (by simp; omega)]; simp only [List.length_cons]; omega
      · rw [if_neg (by simpa using h1)]
        split
        · simp only [List.length_cons]; omega
        · exact ih
  induction ns with
  | nil => obtain ⟨m, hm, _⟩ := h; cases hm
  | cons x l ih =>
    obtain ⟨m, hm, he⟩ := h
    simp only [List.filter_cons]
    rcases List.mem_cons.1 hm with rfl | hm
    · have := mono l
      rw [he, if_neg (by simp), if_pos (by simpa using hab)]
      simp only [List.length_cons]; omega
    · have := ih ⟨m, hm, he⟩
      by_cases h1 : f x.no < f a
      · rw [if_pos (by simpa using h1), if_pos (by simp; omega)]; simp only [List.length_cons]; omega
      · rw [if_neg (by simpa using h1)]
        split
        · simp only [List.length_cons]; omega
        · exact this
/-- A rank of any kind makes one that is not above the number of nodes. -/
theorem rank_of {S : TreeD} {f : Int → Nat} (h : ∀ no, no ≠ 0 → aboveF S no ≠ 0 → aboveF S no ≠ no → f (aboveF S no) < f no ∧ ∃ m ∈ S.nodes, m.no = aboveF S no) : ∃ r, Rank S r :=
  ⟨fun no => (S.nodes.filter fun m => decide (f m.no < f no)).length, fun no h0 h1 h2 => cnt_lt (h no h0 h1 h2).1 (h no h0 h1 h2).2, fun _ => List.length_filter_le ..⟩
theorem Tre.up {c : Nat} {S : TreeD} (h : Tre c S) {no : Int} (hk : (Proofs.Ytebghednhjaniaa.getN S.nodes no).kind = 1) : UpOk S (Proofs.Ytebghednhjaniaa.getN S.nodes no) := h.ups0 _ (getN_node hk).2.2 hk
/-- One step up. -/
theorem Tre.above {c : Nat} {S : TreeD} (h : Tre c S) (no : Int) (h0 : aboveF S no ≠ 0) (hs : aboveF S no ≠ no) :
    ∃ n ∈ S.nodes, ∃ m ∈ S.nodes, n.no = no ∧ n.kind = 1 ∧ m.no = aboveF S no ∧ m.kind = 1 ∧ (m.dev < n.dev ∨ (m.dev = n.dev ∧ m.no = n.up ∧ n.up ≠ n.no)) := by
  unfold aboveF at h0 hs ⊢
  by_cases hk : (Proofs.Ytebghednhjaniaa.getN S.nodes no).kind = 1
  · obtain ⟨_, hn, hm⟩ := getN_node hk
    rw [if_pos hk] at h0 hs ⊢
    by_cases hr : rootF S.devs (Proofs.Ytebghednhjaniaa.getN S.nodes no).dev = no ∧ 1 < (Proofs.Ytebghednhjaniaa.getN S.nodes no).dev
    · rw [if_pos hr] at h0 hs ⊢
      rcases rootF_zero h.roots (Proofs.Ytebghednhjaniaa.getN S.nodes no).dev with ⟨e1, _⟩ | ⟨k, hkl, e1, _, e3, e4, e5, _⟩
      · obtain ⟨h1, h2⟩ := hr
        rw [e1] at h1
        rw [← h1] at hm hn
        have := h.nos.2 _ hm
        omega
      · obtain ⟨j, rfl⟩ : ∃ j, k = j + 1 := ⟨k - 1, by omega⟩
        rw [e3] at h0 hs ⊢
        obtain ⟨m, hm2, o1, o2, o3, o4⟩ := h.overs j hkl
        have hg := (mem_getN h.nos hm2).1
        rw [o1] at hg
        rw [hg] at h0 hs ⊢
        rcases h.ups0 m hm2 o2 with ⟨u1, _⟩ | ⟨_, u2, m2, hm3, u3, u4, u5, _⟩
        · exact absurd u1 o4
        · exact ⟨_, hm, m2, hm3, hn, hk, u3, u4, .inl (by omega)⟩
    · rw [if_neg hr] at h0 hs ⊢
      rcases h.up hk with ⟨_, u2⟩ | ⟨_, u2, m2, hm3, u3, u4, u5, _⟩
      · exact absurd (u2.trans hn) hs
      · exact ⟨_, hm, m2, hm3, hn, hk, u3, u4, .inr ⟨u5, u3, u2⟩⟩
  · rw [if_neg hk] at h0; exact absurd rfl h0
theorem Tre.rank {c : Nat} {S : TreeD} (h : Tre c S) : ∃ r, Rank S r := by
  obtain ⟨d, hd⟩ := h.deep
  obtain ⟨N, hN⟩ : ∃ N, N = S.nodes.length + 1 := ⟨_, rfl⟩
  obtain ⟨e, he⟩ : ∃ e : Int → Nat, e = fun no => (S.nodes.filter fun m => decide (d m.no < d no)).length := ⟨_, rfl⟩
  have hb : ∀ no, e no < N := fun no => by rw [he, hN]; exact Nat.lt_succ_of_le (List.length_filter_le ..)
  refine rank_of (f := fun no => (Proofs.Ytebghednhjaniaa.getN S.nodes no).dev.toNat * N + e no) fun no h0 h1 h2 => ?_
  obtain ⟨n, hn, m, hm, a1, a2, a3, a4, a5⟩ := h.above no h1 h2
  have g1 := (mem_getN h.nos hn).1
  have g2 := (mem_getN h.nos hm).1
  rw [a1] at g1
  rw [a3] at g2
  refine ⟨?_, m, hm, a3⟩
  show (Proofs.Ytebghednhjaniaa.getN S.nodes (aboveF S no)).dev.toNat * N + e (aboveF S no) < (Proofs.Ytebghednhjaniaa.getN S.nodes no).dev.toNat * N + e no
  rw [g1, g2]
  have p1 := (hasD_lt (h.on _ hn).1).1
  have p2 := (hasD_lt (h.on _ hm).1).1
  rcases a5 with a5 | ⟨a5, a6, a7⟩
  · have q1 : m.dev.toNat + 1 ≤ n.dev.toNat := by omega
    have q2 := hb (aboveF S no)
    have q3 := Nat.mul_le_mul_right N q1
    rw [Nat.add_mul] at q3
    omega
  · rw [a5]
    have : e (aboveF S no) < e no := by
      rw [he]
      refine cnt_lt ?_ ⟨m, hm, a3⟩
      have := hd n hn a2 a7
      rw [← a6, a3, a1] at this
      exact this
    omega
theorem Tre.aboveOne {c : Nat} {S : TreeD} (h : Tre c S) : aboveF S 1 = 1 := by
  obtain ⟨m, hm, he⟩ := h.first
  have hg := (mem_getN h.nos hm).1
  rw [he] at hg
  obtain ⟨a1, a2, a3⟩ := h.one m hm he
  unfold aboveF
  rw [hg, if_pos a1, if_neg (by rw [a2]; omega), a3]
theorem Tre.fit {c : Nat} {S : TreeD} (h : Tre c S) (hc : c ≤ 1000000) (hl : S.last ≤ 1000) : Fit S := by
  refine ⟨h.base hc, h.names, ?_, h.aboveOne, h.rank, hl⟩
  intro no h0 h1 h2
  rcases rootF_zero h.roots (Proofs.Ytebghednhjaniaa.getN S.nodes no).dev with ⟨e1, _⟩ | ⟨k, hkl, e1, _, e3, e4, e5, _⟩
  · rw [e1] at h1; exact absurd h1.symm h0
  · have : (Proofs.Ytebghednhjaniaa.getN S.nodes no).dev = 1 := by omega
    rw [this, h.root1] at h1
    rw [← h1]; exact h.aboveOne
/-! ### It stays. -/
theorem mem_set' {S : TreeD} {n m : NodeD} (h : m ∈ S.nodes) (hne : m.no ≠ n.no) : m ∈ (setT S n).nodes := by
  have := set_has (n := n) h
  rw [if_neg hne] at this
  exact this
theorem mem_set_self {S : TreeD} {n m : NodeD} (h : m ∈ S.nodes) (he : m.no = n.no) : n ∈ (setT S n).nodes := by
  have := set_has (n := n) h
  rw [if_pos he] at this
  exact this
theorem mem_setT {S : TreeD} {n m : NodeD} (h : m ∈ (setT S n).nodes) : (m ∈ S.nodes ∧ m.no ≠ n.no) ∨ m = n := by
  unfold setT setN at h
  obtain ⟨x, hx, e⟩ := List.mem_map.1 h
  split at e
  · exact .inr e.symm
  · rename_i hne
    rw [← e]
    exact .inl ⟨hx, by simpa using hne⟩
/-- A node is put in the place of the one of its number, alike in kind, mount and the directory above; all directories that lie in it keep their names. -/
theorem tre_set {c c' : Nat} {k k' : Int} {S : TreeD} (h : TreB c k S) (hkk : k = 0 ∨ k = k') {n : NodeD} (hi : isN S.nodes n.no = true) (hcc : c ≤ c') (hk : n.kind = (getN S.nodes n.no).kind) (hv : n.dev = (getN S.nodes n.no).dev) (hu : n.up = (getN S.nodes n.no).up)
    (hl : n.kind = 1 → n.links = 1) (hr : Rise n.ents) (hn : ∀ x ∈ n.ents, x.1 ≠ [] ∧ x.1.length ≤ 255) (hp : ∀ x ∈ n.ents, 1 ≤ x.2 ∧ x.2 ≤ S.last) (hs : n.ents.length ≤ c') (hd : n.data.length ≤ 1048576)
    (hb : 0 ≤ n.mode ∧ n.mode ≤ 1023 ∧ 1 ≤ n.links ∧ n.links ≤ 1000) (hx : ∀ x ∈ n.ents, Kin S n.no n.dev x.2)
    (keep : ∀ q ∈ S.nodes, q.kind = 1 → q.no ≠ k' → q.up = n.no → q.no ≠ n.no → ∃ x ∈ n.ents, x.2 = q.no) : TreB c' k' (setT S n) := by
  have hm0 := (isN_true hi).2
  obtain ⟨m0, hm0e⟩ : ∃ m0, m0 = Proofs.Ytebghednhjaniaa.getN S.nodes n.no := ⟨_, rfl⟩
  rw [← hm0e] at hk hv hu hm0
  have same : ∀ m ∈ S.nodes, m.no = n.no → m = m0 := fun m hm e => by
    have := (mem_getN h.nos hm).1
    rw [e] at this
    rw [hm0e, this]
  have move : ∀ m ∈ S.nodes, ∃ m' ∈ (setT S n).nodes, m'.no = m.no ∧ m'.kind = m.kind ∧ m'.dev = m.dev := by
    intro m hm
    by_cases e : m.no = n.no
    · have := same m hm e
      subst this
      exact ⟨n, mem_set_self hm e, e.symm, hk, hv⟩
    · exact ⟨m, mem_set' hm e, rfl, rfl, rfl⟩
  have upk : ∀ q ∈ S.nodes, q.kind = 1 → q.no ≠ k' → (q.no ≠ n.no ∨ q = m0) → ∀ q', q'.no = q.no → q'.dev = q.dev → q'.up = q.up → UpOk (setT S n) q' := by
    intro q hq hqk hqk' hqn q' e1 e2 e3
    unfold UpOk
    rw [e1, e2, e3]
    have hq0 : q.no ≠ k := by
      rcases hkk with e | e
      · have := (h.nos.2 q hq).1; omega
      · rw [e]; exact hqk'
    rcases h.ups q hq hqk hq0 with ⟨u1, u2⟩ | ⟨u1, u2, m, hm, u3, u4, u5, x, hx, u6⟩
    · exact .inl ⟨u1, u2⟩
    · refine .inr ⟨u1, u2, ?_⟩
      by_cases e : m.no = n.no
      · have hqne : q.no ≠ n.no := fun e' => u2 (by rw [← u3, e, e'])
        obtain ⟨y, hy, hy2⟩ := keep q hq hqk hqk' (by rw [← u3, e]) hqne
        have := same m hm e
        subst this
        exact ⟨n, mem_set_self hm e, by rw [← u3, e], by rw [hk]; exact u4, by rw [hv]; exact u5, y, hy, hy2⟩
      · exact ⟨m, mem_set' hm e, u3, u4, u5, x, hx, u6⟩
  refine ⟨h.nos.set n, h.last, h.devs, h.eight, h.roots, ?_, ?_, ?_, ?_, ?_, ?_, ?_, ?_, h.root1, ?_, ?_, ?_, ?_, h.over0, ?_, ?_, ?_⟩
  · show ((setN S.nodes n).length : Int) ≤ S.last; rw [setN_len]; exact h.count
  · intro m hm
    rcases mem_setT hm with ⟨hm, _⟩ | rfl
    · have := h.small m hm; omega
    · exact hs
  · intro m hm
    rcases mem_setT hm with ⟨hm, _⟩ | rfl
    · exact h.rise m hm
    · exact hr
  · intro m hm
    rcases mem_setT hm with ⟨hm, _⟩ | rfl
    · exact h.names m hm
    · exact hn
  · intro m hm
    rcases mem_setT hm with ⟨hm, _⟩ | rfl
    · exact h.pos m hm
    · exact hp
  · intro m hm
    rcases mem_setT hm with ⟨hm, _⟩ | rfl
    · exact h.on m hm
    · exact ⟨by rw [hv]; exact (h.on _ hm0.2).1, hd⟩
  · obtain ⟨m, hm, e⟩ := h.first
    obtain ⟨m', hm', e', _⟩ := move m hm
    exact ⟨m', hm', e'.trans e⟩
  · intro m hm e
    rcases mem_setT hm with ⟨hm, _⟩ | rfl
    · exact h.one m hm e
    · have := h.one _ hm0.2 (hm0.1.trans e)
      rw [hk, hv, hu]; exact this
  · intro m hm hmk
    rcases mem_setT hm with ⟨hm, _⟩ | rfl
    · exact h.dlinks m hm hmk
    · exact hl hmk
  · intro m hm hmk hmk'
    rcases mem_setT hm with ⟨hm, hne⟩ | rfl
    · exact upk m hm hmk hmk' (.inl hne) m rfl rfl rfl
    · exact upk m0 hm0.2 (hk.symm.trans hmk) (by rw [hm0.1]; exact hmk') (.inr rfl) m hm0.1.symm hv hu
  · intro m hm
    rcases mem_setT hm with ⟨hm, _⟩ | rfl
    · exact h.bits m hm
    · exact hb
  · have kset : ∀ {no dev y : Int}, Kin S no dev y → Kin (setT S n) no dev y := fun hK => ⟨hK.1, hK.2.1, fun q hq e => by
      rcases mem_setT hq with ⟨hq, _⟩ | rfl
      · exact hK.2.2 q hq e
      · rw [hv]; exact hK.2.2 m0 hm0.2 (hm0.1.trans e)⟩
    intro m hm x hxm
    rcases mem_setT hm with ⟨hm, _⟩ | rfl
    · exact kset (h.kin m hm x hxm)
    · exact kset (hx x hxm)
  · intro j hj
    obtain ⟨m, hm, o1, o2, o3, o4⟩ := h.overs j hj
    obtain ⟨m', hm', e1, e2, e3⟩ := move m hm
    exact ⟨m', hm', e1.trans o1, e2.trans o2, by rw [e3]; exact o3, by rw [e3, e1]; exact o4⟩
  · intro j hj
    obtain ⟨m, hm, o1, o2, o3⟩ := h.rootsIn j hj
    obtain ⟨m', hm', e1, e2, e3⟩ := move m hm
    exact ⟨m', hm', e1.trans o1, e2.trans o2, e3.trans o3⟩
  · obtain ⟨d, hdd⟩ := h.deep
    refine ⟨d, fun m hm hmk hmu => ?_⟩
    rcases mem_setT hm with ⟨hm, _⟩ | rfl
    · exact hdd m hm hmk hmu
    · have := hdd m0 hm0.2 (hk.symm.trans hmk) (by rw [← hu, hm0.1]; exact hmu)
      rw [← hu, hm0.1] at this
      exact this
/-- Mounts' room, and the last number, change alone. -/
theorem tre_room {c : Nat} {k : Int} {S : TreeD} (h : TreB c k S) (d : Int) (q : SpaceD) (hq : Fine q) (l : Int) (hl : S.last ≤ l) : TreB c k ⟨S.nodes, setQ S.devs d q, l⟩ := by
  have hro : RootsOk (setQ S.devs d q) := roots_setQ h.roots _ _ hq
  obtain ⟨Q, hQ⟩ : ∃ Q, Q = setQ S.devs d q := ⟨_, rfl⟩
  have hlen : Q.length = S.devs.length := by rw [hQ, setQ_len]
  have hat : ∀ k, (hk : k < Q.length) → (hk2 : k < S.devs.length) → Q[k].root = S.devs[k].root ∧ Q[k].over = S.devs[k].over := by
    intro k hk hk2
    subst hQ
    exact setQ_at hk hk2
  have hrf : ∀ i, rootF Q i = rootF S.devs i := fun i => by rw [hQ]; exact rootQ _ _ _ _
  have hh : ∀ i, hasD Q i = hasD S.devs i := fun i => hasD_len hlen i
  rw [← hQ] at hro ⊢
  refine ⟨⟨h.nos.1, fun n hn => ⟨(h.nos.2 n hn).1, by have := (h.nos.2 n hn).2; show n.no ≤ l; omega⟩⟩, by have := h.last; show 1 ≤ l; omega, by show 0 < Q.length; rw [hlen]; exact h.devs, by show Q.length ≤ 8; rw [hlen]; exact h.eight, hro,
    by have := h.count; show (S.nodes.length : Int) ≤ l; omega, h.small, h.rise, h.names, fun n hn x hx => ⟨(h.pos n hn x hx).1, by have := (h.pos n hn x hx).2; show x.2 ≤ l; omega⟩, fun n hn => ⟨(hh _).trans (h.on n hn).1, (h.on n hn).2⟩, h.first, h.one, (hrf 1).trans h.root1, h.dlinks, ?_, h.bits, ?_, ?_, ?_, ?_, h.deep⟩
  · intro n hn hk hnk
    unfold UpOk
    show (rootF Q n.dev = n.no ∧ _) ∨ (rootF Q n.dev ≠ n.no ∧ _)
    rw [hrf]; exact h.ups n hn hk hnk
  · intro m hm x hx
    have hK := h.kin m hm x hx
    refine ⟨hK.1, fun d hd => ?_, hK.2.2⟩
    obtain ⟨i, hi, rfl⟩ := List.getElem_of_mem hd
    have hi2 : i < S.devs.length := by have : i < Q.length := hi; omega
    show x.2 ≠ Q[i].root
    rw [(hat i hi hi2).1]
    exact hK.2.1 _ (List.getElem_mem hi2)
  · intro h0
    exact ((hat 0 h0 h.devs).2).trans (h.over0 h.devs)
  · intro k hk
    have hk2 : k + 1 < S.devs.length := by have : k + 1 < Q.length := hk; omega
    obtain ⟨m, hm, o1, o2, o3, o4⟩ := h.overs k hk2
    exact ⟨m, hm, o1.trans (hat (k + 1) hk hk2).2.symm, o2, o3, by show rootF Q m.dev ≠ m.no; rw [hrf]; exact o4⟩
  · intro k hk
    have hk2 : k < S.devs.length := by have : k < Q.length := hk; omega
    obtain ⟨m, hm, o1, o2⟩ := h.rootsIn k hk2
    exact ⟨m, hm, o1.trans (hat k hk hk2).1.symm, o2⟩
/-- A node comes: the last number is its own. -/
theorem tre_app {c : Nat} {S : TreeD} (h : Tre c S) {n : NodeD} (hno : n.no = S.last) (hlt : ∀ m ∈ S.nodes, m.no < S.last) (hc : (S.nodes.length : Int) + 1 ≤ S.last) (he : n.ents = []) (hd : n.data.length ≤ 1048576) (hh : hasD S.devs n.dev = true) (hb : 0 ≤ n.mode ∧ n.mode ≤ 1023 ∧ 1 ≤ n.links ∧ n.links ≤ 1000) (hkin : ∀ m ∈ S.nodes, ∀ x ∈ m.ents, x.2 = n.no → n.dev = m.dev)
    (hk : n.kind = 1 → n.links = 1 ∧ rootF S.devs n.dev ≠ n.no ∧ ∃ m ∈ S.nodes, m.no = n.up ∧ m.kind = 1 ∧ m.dev = n.dev ∧ ∃ x ∈ m.ents, x.2 = n.no) : Tre c ⟨S.nodes ++ [n], S.devs, S.last⟩ := by
  have sub : ∀ m ∈ S.nodes, m ∈ S.nodes ++ [n] := fun m hm => List.mem_append_left _ hm
  have h1 := h.last
  have new : ∀ {m : NodeD}, m ∈ S.nodes ++ [n] → m ∈ S.nodes ∨ m = n := fun hm => by
    rcases List.mem_append.1 hm with hm | hm
    · exact .inl hm
    · exact .inr (List.mem_singleton.1 hm)
  have hupn : n.kind = 1 → n.up < n.no := fun hkk => by
    obtain ⟨_, _, m, hm, e, _⟩ := hk hkk
    have := hlt m hm
    omega
  refine ⟨⟨?_, ?_⟩, h.last, h.devs, h.eight, h.roots, ?_, ?_, ?_, ?_, ?_, ?_, ?_, ?_, h.root1, ?_, ?_, ?_, ?_, h.over0, ?_, ?_, ?_⟩
  · rw [List.pairwise_append]
    refine ⟨h.nos.1, List.pairwise_singleton .., fun a ha b hb => ?_⟩
    rw [List.mem_singleton] at hb
    subst hb
    rw [hno]; exact hlt a ha
  · intro m hm
    rcases new hm with hm | rfl
    · exact h.nos.2 m hm
    · rw [hno]; exact ⟨h1, Int.le_refl _⟩
  · show ((S.nodes ++ [n]).length : Int) ≤ S.last
    simp; exact hc
  · intro m hm
    rcases new hm with hm | rfl
    · exact h.small m hm
    · rw [he]; exact Nat.zero_le _
  · intro m hm
    rcases new hm with hm | rfl
    · exact h.rise m hm
    · rw [he]; exact List.Pairwise.nil
  · intro m hm
    rcases new hm with hm | rfl
    · exact h.names m hm
    · intro x hx; rw [he] at hx; cases hx
  · intro m hm
    rcases new hm with hm | rfl
    · exact h.pos m hm
    · intro x hx; rw [he] at hx; cases hx
  · intro m hm
    rcases new hm with hm | rfl
    · exact h.on m hm
    · exact ⟨hh, hd⟩
  · obtain ⟨m, hm, e⟩ := h.first
    exact ⟨m, sub m hm, e⟩
  · intro m hm e
    rcases new hm with hm | rfl
    · exact h.one m hm e
    · obtain ⟨m, hm, e2⟩ := h.first
      have := hlt m hm
      omega
  · intro m hm hmk
    rcases new hm with hm | rfl
    · exact h.dlinks m hm hmk
    · exact (hk hmk).1
  · intro m hm hmk _
    rcases new hm with hm | rfl
    · rcases h.ups0 m hm hmk with u | ⟨u1, u2, q, hq, u3⟩
      · exact .inl u
      · exact .inr ⟨u1, u2, q, sub q hq, u3⟩
    · obtain ⟨_, k2, q, hq, k3⟩ := hk hmk
      exact .inr ⟨k2, by have := hupn hmk; omega, q, sub q hq, k3⟩
  · intro m hm
    rcases new hm with hm | rfl
    · exact h.bits m hm
    · exact hb
  · intro m hm x hx
    rcases new hm with hm1 | rfl
    · have hK := h.kin m hm1 x hx
      have hkk := hkin m hm1 x hx
      refine ⟨hK.1, hK.2.1, fun q hq e => ?_⟩
      rcases new hq with hq | e2
      · exact hK.2.2 q hq e
      · rw [e2] at e ⊢
        exact hkk e.symm
    · rw [he] at hx; cases hx
  · intro k hkk
    obtain ⟨m, hm, o⟩ := h.overs k hkk
    exact ⟨m, sub m hm, o⟩
  · intro k hkk
    obtain ⟨m, hm, o⟩ := h.rootsIn k hkk
    exact ⟨m, sub m hm, o⟩
  · obtain ⟨d, hdd⟩ := h.deep
    refine ⟨fun k => if k = n.no then d n.up + 1 else d k, fun m hm hmk hmu => ?_⟩
    rcases new hm with hm | rfl
    · have e1 : m.no ≠ n.no := by have := hlt m hm; omega
      have e2 : m.up ≠ n.no := by
        rcases h.ups0 m hm hmk with ⟨_, u⟩ | ⟨_, _, q, hq, u, _⟩
        · rw [u]; exact e1
        · have := hlt q hq; omega
      show (if m.up = n.no then _ else _) < (if m.no = n.no then _ else _)
      rw [if_neg e1, if_neg e2]
      exact hdd m hm hmk hmu
    · show (if m.up = m.no then _ else _) < (if m.no = m.no then _ else _)
      rw [if_pos rfl, if_neg hmu]
      omega
/-- A node comes under a name: the directory's entries get it. -/
theorem tre_come {c : Nat} {S : TreeD} (h : Tre c S) {d n : NodeD} {nm : List UInt8} (hi : isN S.nodes d.no = true) (hdk : (getN S.nodes d.no).kind = 1) (hk : d.kind = 1) (hv : d.dev = (getN S.nodes d.no).dev) (hu : d.up = (getN S.nodes d.no).up)
    (hl : d.links = 1) (hdat : d.data.length ≤ 1048576) (hen : d.ents = putF (getN S.nodes d.no).ents (nm, S.last + 1)) (hfree : findF (getN S.nodes d.no).ents nm = 0) (hnm : nm ≠ [] ∧ nm.length ≤ 255)
    (hne : n.ents = []) (hnd : n.data.length ≤ 1048576) (hdev : n.dev = d.dev) (hnk : n.kind = 1 → n.links = 1 ∧ n.up = d.no) (hdm : d.mode = (getN S.nodes d.no).mode) (hnb : 0 ≤ n.mode ∧ n.mode ≤ 1023 ∧ n.links = 1) (h0 : makeE S n = 0) : Tre (c + 1) (setT (makeT S n) d) := by
  have hm0 := (isN_true hi).2
  obtain ⟨m0, hm0e⟩ : ∃ m0, m0 = Proofs.Ytebghednhjaniaa.getN S.nodes d.no := ⟨_, rfl⟩
  rw [← hm0e] at hv hu hen hm0 hdk hfree hdm
  have hhas : hasD S.devs n.dev = true := by rw [hdev, hv]; exact (h.on _ hm0.2).1
  have hfine : Fine (takeQ (devN S.devs n.dev).q (blocksF n.kind n.data.length) 1) := by
    rcases rootF_zero h.roots n.dev with ⟨_, e2⟩ | ⟨k, hk, _, _, e3, _, _, e6⟩
    · rw [e2] at hhas; cases hhas
    · rw [e3]; exact takeQ_fine e6
  have hA := tre_room h n.dev _ hfine (S.last + 1) (by omega)
  have hlast : ∀ m ∈ S.nodes, m.no < S.last + 1 := fun m hm => by have := (h.nos.2 m hm).2; omega
  have hdno : d.no ≠ S.last + 1 := by have := hlast _ hm0.2; omega
  have hput : ∀ x ∈ m0.ents, x.1 ≠ nm := by
    intro x hx e
    unfold findF at hfree
    cases hf : m0.ents.find? (fun x => x.1 == nm) with
    | none => have := List.find?_eq_none.1 hf x hx; simp at this; exact this e
    | some y =>
      rw [hf] at hfree
      have := (h.pos _ hm0.2 y (List.mem_of_find?_eq_some hf)).1
      simp only at hfree
      omega
  have hkeep : ∀ x ∈ m0.ents, x ∈ d.ents := by
    intro x hx
    rw [hen]
    unfold putF lessF moreF
    simp only [List.mem_append, List.mem_filter, List.mem_singleton]
    rcases bl_tri x.1 nm with g | g | g
    · exact .inl (.inl ⟨hx, g⟩)
    · exact absurd g (hput x hx)
    · exact .inr ⟨hx, g⟩
  have hnew : (nm, S.last + 1) ∈ d.ents := by rw [hen]; unfold putF; simp
  obtain ⟨S1, hS1⟩ : ∃ S1 : TreeD, S1 = ⟨S.nodes, setQ S.devs n.dev (takeQ (devN S.devs n.dev).q (blocksF n.kind n.data.length) 1), S.last + 1⟩ := ⟨_, rfl⟩
  rw [← hS1] at hA
  have hN1 : S1.nodes = S.nodes := by rw [hS1]
  have hD1 : ∀ i, rootF S1.devs i = rootF S.devs i := fun i => by rw [hS1]; exact rootQ _ _ _ _
  have hB : Tre (c + 1) (setT S1 d) := by
    refine tre_set hA (.inl rfl) (by rw [hN1]; exact hi) (by omega) (by rw [hN1, ← hm0e, hdk]; exact hk) (by rw [hN1, ← hm0e]; exact hv) (by rw [hN1, ← hm0e]; exact hu) (fun _ => hl) ?_ ?_ ?_ ?_ hdat (by have := h.bits _ hm0.2; rw [hdm, hl]; omega) ?_ ?_
    · rw [hen]; exact rise_putF _ (h.rise _ hm0.2)
    · intro x hx
      rw [hen] at hx
      rcases mem_putF hx with hx | rfl
      · exact h.names _ hm0.2 x hx
      · exact hnm
    · intro x hx
      rw [hen] at hx
      rw [hS1]
      have := h.last
      rcases mem_putF hx with hx | rfl
      · have := h.pos _ hm0.2 x hx
        exact ⟨this.1, by show x.2 ≤ S.last + 1; omega⟩
      · exact ⟨by show 1 ≤ S.last + 1; omega, Int.le_refl _⟩
    · rw [hen]
      have := putF_len m0.ents (nm, S.last + 1)
      have := h.small _ hm0.2
      omega
    · intro x hx
      rw [hen] at hx
      rw [← hm0.1, hv]
      rcases mem_putF hx with hx | rfl
      · have hK := hA.kin m0 (by rw [hN1]; exact hm0.2) x hx
        exact hK
      · have hlm := hlast _ hm0.2
        refine ⟨by show S.last + 1 ≠ m0.no; omega, fun q hq => ?_, fun q hq e => ?_⟩
        · obtain ⟨i, hi, rfl⟩ := List.getElem_of_mem hq
          obtain ⟨m, hm, o1, _⟩ := hA.rootsIn i hi
          rw [hN1] at hm
          have := hlast m hm
          show S.last + 1 ≠ _
          omega
        · rw [hN1] at hq
          have := hlast q hq
          have : q.no = S.last + 1 := e
          omega
    · intro q hq hqk _ hqu hqn
      rw [hN1] at hq
      rcases h.ups0 q hq hqk with ⟨_, u2⟩ | ⟨_, _, m, hm, u3, _, _, x, hx, u6⟩
      · exact absurd (u2.symm.trans hqu) hqn
      · have : m = m0 := by
          have := (mem_getN h.nos hm).1
          rw [u3, hqu] at this
          rw [hm0e, this]
        subst this
        exact ⟨x, hkeep x hx, u6⟩
  have hset : setT (makeT S n) d = ⟨(setT S1 d).nodes ++ [{ n with no := S.last + 1 }], (setT S1 d).devs, (setT S1 d).last⟩ := by
    unfold makeT setT setN
    rw [if_pos h0, hS1]
    simp only [List.map_append, List.map_cons, List.map_nil]
    rw [if_neg (by simpa using (Ne.symm hdno))]
  rw [hset]
  have hlS : (setT S1 d).last = S.last + 1 := by rw [hS1]; rfl
  have hdS : (setT S1 d).devs = S1.devs := rfl
  refine tre_app hB (by rw [hlS]) ?_ ?_ hne hnd ?_ (by show 0 ≤ n.mode ∧ n.mode ≤ 1023 ∧ 1 ≤ n.links ∧ n.links ≤ 1000; omega) ?_ ?_
  · intro m hm
    rw [hlS]
    rcases mem_setT hm with ⟨hm, _⟩ | rfl
    · rw [hN1] at hm; exact hlast m hm
    · have := hlast _ hm0.2; omega
  · show ((setN S1.nodes d).length : Int) + 1 ≤ _
    rw [setN_len, hN1, hlS]
    have := h.count
    omega
  · rw [hdS]
    show hasD S1.devs n.dev = true
    rw [hS1]
    exact (hasD_len (setQ_len _ _ _) _).trans hhas
  · intro m hm x hx e
    have e' : x.2 = S.last + 1 := e
    show n.dev = m.dev
    rcases mem_setT hm with ⟨hm, _⟩ | rfl
    · rw [hN1] at hm
      have := (h.pos m hm x hx).2
      omega
    · exact hdev
  · intro hkk
    obtain ⟨k1, k2⟩ := hnk hkk
    refine ⟨k1, ?_, d, ?_, k2.symm, hk, hdev.symm, _, hnew, rfl⟩
    · rw [hdS, hD1]
      show rootF S.devs n.dev ≠ S.last + 1
      rcases rootF_zero h.roots n.dev with ⟨e1, _⟩ | ⟨k, hkl, e1, _, e3, e4, e5, _⟩
      · have := h.last; omega
      · obtain ⟨m, hm, o1, _⟩ := h.rootsIn k hkl
        have := hlast m hm
        omega
    · exact mem_set_self (S := S1) (by rw [hN1]; exact hm0.2) hm0.1
/-- A mount comes. -/
theorem tre_root {c : Nat} {S : TreeD} (h : Tre c S) {over b n : Int} (h8 : S.devs.length < 8) (hl : limitsF b n = true) (ho : ∃ m ∈ S.nodes, m.no = over ∧ m.kind = 1 ∧ rootF S.devs m.dev ≠ m.no) : Tre c (rootT S over b n) := by
  have sub : ∀ m ∈ S.nodes, m ∈ (rootT S over b n).nodes := fun m hm => List.mem_append_left _ hm
  have hself : rootNode S ∈ (rootT S over b n).nodes := List.mem_append_right _ (List.mem_singleton.2 rfl)
  have new : ∀ {m : NodeD}, m ∈ (rootT S over b n).nodes → m ∈ S.nodes ∨ m = rootNode S := fun hm => by
    rcases List.mem_append.1 hm with hm | hm
    · exact .inl hm
    · exact .inr (List.mem_singleton.1 hm)
  have hl1 := h.last
  have hlen : (rootT S over b n).devs.length = S.devs.length + 1 := by simp [rootT]
  have hrf : ∀ x ∈ S.nodes, rootF (rootT S over b n).devs x.dev = rootF S.devs x.dev := fun x hx => rootApp (h.on x hx).1
  have hold : ∀ k, (hk : k < S.devs.length) → (hk' : k < (rootT S over b n).devs.length) → (rootT S over b n).devs[k]'hk' = S.devs[k] := fun k hk hk' => app_left S.devs _ k hk hk'
  have hnew : ∀ k, (hk : k = S.devs.length) → (hk' : k < (rootT S over b n).devs.length) → (rootT S over b n).devs[k]'hk' = ⟨S.last + 1, over, ⟨1, 1, b, n⟩⟩ := fun k hk hk' => app_right S.devs _ k hk hk'
  have hrn : rootF (rootT S over b n).devs (rootNode S).dev = (rootNode S).no := by
    show rootF (rootT S over b n).devs ((S.devs.length : Int) + 1) = S.last + 1
    rw [rootAt (by rw [hlen]; omega : S.devs.length < (rootT S over b n).devs.length), hnew _ rfl]
  refine ⟨h.nos.add (rootNode S) rfl (by omega), by show 1 ≤ S.last + 1; omega, by rw [hlen]; omega, by rw [hlen]; omega, ?_, ?_, ?_, ?_, ?_, ?_, ?_, ?_, ?_, ?_, ?_, ?_, ?_, ?_, ?_, ?_, ?_, ?_⟩
  · intro d hd
    rcases List.mem_append.1 hd with hd | hd
    · exact h.roots d hd
    · rw [List.mem_singleton] at hd
      subst hd
      refine ⟨by show 0 < S.last + 1; omega, ?_⟩
      rcases limits_cases b n with ⟨h1, h2, h3, h4, _⟩ | ⟨h0, _⟩
      · exact ⟨show (0 : Int) ≤ 1 by decide, show (0 : Int) ≤ 1 by decide, h1, h3, h2, h4⟩
      · rw [h0] at hl; cases hl
  · have := h.count; show ((S.nodes ++ [rootNode S]).length : Int) ≤ S.last + 1; simp; exact this
  · intro m hm
    rcases new hm with hm | rfl
    · exact h.small m hm
    · exact Nat.zero_le _
  · intro m hm
    rcases new hm with hm | rfl
    · exact h.rise m hm
    · exact List.Pairwise.nil
  · intro m hm
    rcases new hm with hm | rfl
    · exact h.names m hm
    · intro x hx; simp [rootNode, nodeZ] at hx
  · intro m hm
    rcases new hm with hm | rfl
    · exact fun x hx => ⟨(h.pos m hm x hx).1, by have := (h.pos m hm x hx).2; show x.2 ≤ S.last + 1; omega⟩
    · intro x hx; simp [rootNode, nodeZ] at hx
  · intro m hm
    rcases new hm with hm | rfl
    · exact ⟨hasApp (h.on m hm).1, (h.on m hm).2⟩
    · refine ⟨?_, by simp [rootNode, nodeZ]⟩
      unfold hasD
      rw [hlen]
      show (decide ((1 : Int) ≤ (S.devs.length : Int) + 1) && decide ((S.devs.length : Int) + 1 ≤ ((S.devs.length + 1 : Nat) : Int))) = true
      rw [Bool.and_eq_true, decide_eq_true_eq, decide_eq_true_eq]
      omega
  · obtain ⟨m, hm, e⟩ := h.first
    exact ⟨m, sub m hm, e⟩
  · intro m hm e
    rcases new hm with hm | rfl
    · exact h.one m hm e
    · have : S.last + 1 = 1 := e
      omega
  · show rootF (S.devs ++ _) 1 = 1
    rw [rootApp (by have := h.devs; unfold hasD; simp; omega)]; exact h.root1
  · intro m hm hk
    rcases new hm with hm | rfl
    · exact h.dlinks m hm hk
    · rfl
  · intro m hm hk _
    rcases new hm with hm | rfl
    · unfold UpOk
      rw [hrf m hm]
      rcases h.ups0 m hm hk with u | ⟨u1, u2, q, hq, u3⟩
      · exact .inl u
      · exact .inr ⟨u1, u2, q, sub q hq, u3⟩
    · exact .inl ⟨hrn, rfl⟩
  · intro m hm
    rcases new hm with hm | rfl
    · exact h.bits m hm
    · exact ⟨by show (0 : Int) ≤ 493; decide, by show (493 : Int) ≤ 1023; decide, by show (1 : Int) ≤ 1; decide, by show (1 : Int) ≤ 1000; decide⟩
  · intro m hm x hx
    rcases new hm with hm | rfl
    · have hK := h.kin m hm x hx
      have hp := (h.pos m hm x hx).2
      refine ⟨hK.1, fun d hd => ?_, fun q hq e => ?_⟩
      · rcases List.mem_append.1 hd with hd | hd
        · exact hK.2.1 d hd
        · rw [List.mem_singleton] at hd
          subst hd
          show x.2 ≠ S.last + 1
          omega
      · rcases new hq with hq | rfl
        · exact hK.2.2 q hq e
        · have : S.last + 1 = x.2 := e
          omega
    · simp [rootNode, nodeZ] at hx
  · intro h0
    exact (congrArg DevD.over (hold 0 h.devs h0)).trans (h.over0 h.devs)
  · intro k hk
    rw [hlen] at hk
    by_cases hk2 : k + 1 < S.devs.length
    · obtain ⟨m, hm, o1, o2, o3, o4⟩ := h.overs k hk2
      rw [hold (k + 1) hk2]
      exact ⟨m, sub m hm, o1, o2, o3, by rw [hrf m hm]; exact o4⟩
    · obtain ⟨m, hm, o1, o2, o3⟩ := ho
      rw [hnew (k + 1) (by omega)]
      refine ⟨m, sub m hm, o1, o2, ?_, by rw [hrf m hm]; exact o3⟩
      have := (hasD_lt (h.on m hm).1).2
      omega
  · intro k hk
    rw [hlen] at hk
    by_cases hk2 : k < S.devs.length
    · obtain ⟨m, hm, o⟩ := h.rootsIn k hk2
      rw [hold k hk2]
      exact ⟨m, sub m hm, o⟩
    · rw [hnew k (by omega)]
      refine ⟨rootNode S, hself, rfl, rfl, ?_⟩
      show (S.devs.length : Int) + 1 = k + 1
      omega
  · obtain ⟨d, hd⟩ := h.deep
    refine ⟨d, fun m hm hk hmu => ?_⟩
    rcases new hm with hm | rfl
    · exact hd m hm hk hmu
    · exact absurd rfl hmu
theorem tre_mount {c : Nat} {S : TreeD} (h : Tre c S) (a b n : Int) : Tre c (mountT S a b n) := by
  unfold mountT
  split
  · rename_i h0
    refine tre_root h (mountE_zero h0).1 (mountE_zero h0).2 ?_
    unfold mountE at h0
    split at h0
    · cases h0
    · rename_i hi
      split at h0
      · cases h0
      · rename_i hk
        split at h0
        · cases h0
        · rename_i ho
          rw [not_or] at ho
          have hi2 : isN S.nodes a = true := by simpa using hi
          have hm := isN_true hi2
          exact ⟨_, hm.2.2, hm.2.1, Decidable.not_not.1 hk, by rw [hm.2.1]; exact ho.2⟩
  · exact h
theorem tre_first {b n : Int} (hl : limitsF b n = true) : Tre 0 (rootT emptyT 0 b n) := by
  have hg := grown_first hl
  have one : ∀ {m : NodeD}, m ∈ (rootT emptyT 0 b n).nodes → m = rootNode emptyT := fun hm => by simpa [rootT, emptyT] using hm
  refine ⟨hg.good.nos, hg.good.last, hg.good.devs, hg.good.eight, hg.good.roots, hg.good.count, ?_, hg.good.rise, hg.names, ?_, hg.on, hg.first, hg.one, hg.dev1, ?_, ?_, ?_, ?_, fun _ => rfl, ?_, ?_, ⟨fun _ => 0, ?_⟩⟩
  · intro m hm; rw [one hm]; exact Nat.le_refl _
  · intro m hm x hx; rw [one hm] at hx; simp [rootNode, nodeZ] at hx
  · intro m hm _; rw [one hm]; rfl
  · intro m hm _ _; rw [one hm]; exact .inl ⟨rfl, rfl⟩
  · intro m hm; rw [one hm]; exact ⟨by show (0 : Int) ≤ 493; decide, by show (493 : Int) ≤ 1023; decide, by show (1 : Int) ≤ 1; decide, by show (1 : Int) ≤ 1000; decide⟩
  · intro m hm x hx; rw [one hm] at hx; simp [rootNode, nodeZ] at hx
  · intro k hk
    have : k + 1 < 1 := hk
    omega
  · intro k hk
    have hk2 : k < 1 := hk
    have : k = 0 := by omega
    subst this
    exact ⟨rootNode emptyT, List.mem_append_right _ (List.mem_singleton.2 rfl), rfl, rfl, rfl⟩
  · intro m hm _ hu; rw [one hm] at hu; exact absurd rfl hu
theorem tre_mono {c c' : Nat} {k : Int} {S : TreeD} (h : TreB c k S) (hc : c ≤ c') : TreB c' k S :=
  { h with small := fun n hn => by have := h.small n hn; omega }
theorem tre_grow {c : Nat} {S : TreeD} (h : Tre c S) (it : ItemD) (hs : shortI it) : Tre (c + 1) (growT S it) := by
  unfold growT
  split
  · exact tre_mono (tre_mount h _ _ _) (by omega)
  · split
    · rename_i hc
      split
      · rename_i h0
        unfold comesI at hc
        simp only [Bool.and_eq_true, decide_eq_true_eq] at hc
        obtain ⟨⟨⟨⟨c1, c2⟩, c3⟩, c4⟩, c5⟩ := hc
        obtain ⟨g1, g2, g3⟩ := getN_node c1
        have e : ({ getN S.nodes (atI S it) with ents := putF (getN S.nodes (atI S it)).ents (it.name, S.last + 1) } : NodeD).no = atI S it := g2
        have hlk := h.dlinks _ g3 c1
        have hon := (h.on _ g3).2
        refine tre_come h (nm := it.name) ?_ ?_ c1 ?_ ?_ hlk hon ?_ ?_ (checkN_short c4) rfl ?_ ?_ ?_ ?_ ?_ h0
        · rw [e]; exact g1
        · rw [e]; exact c1
        · rw [e]
        · rw [e]
        · rw [e]
        · rw [e]; exact c5
        · show (if it.kind = 1 then [] else it.data : List UInt8).length ≤ 1048576
          have := hs.2
          split
          · decide
          · omega
        · rfl
        · intro hk
          refine ⟨rfl, ?_⟩
          have hk' : it.kind = 1 := hk
          show (if it.kind = 1 then atI S it else 0) = _
          rw [if_pos hk']; exact e.symm
        · rw [e]
        · exact ⟨by show 0 ≤ it.mode % 1024; omega, by show it.mode % 1024 ≤ 1023; omega, rfl⟩
      · exact tre_mono h (by omega)
    · exact tre_mono h (by omega)
theorem tre_all {c : Nat} {S : TreeD} (h : Tre c S) (l : List ItemD) (hs : ∀ x ∈ l, shortI x) : Tre (c + l.length) (growAll S l) := by
  unfold growAll
  induction l generalizing S c with
  | nil => exact h
  | cons x l ih =>
    rw [List.foldl_cons, List.length_cons, show c + (l.length + 1) = c + 1 + l.length by omega]
    exact ih (tre_grow h x (hs x (List.mem_cons_self ..))) fun y hy => hs y (List.mem_cons_of_mem _ hy)
/-- The law's trees. -/
theorem tre_growAll {b n : Int} (hl : limitsF b n = true) {l : List ItemD} (hf : FewI l) : Tre 40 (growAll (rootT emptyT 0 b n) l) :=
  tre_mono (tre_all (tre_first hl) l hf.1) (by have := hf.2; omega)
end Go.Proofs.Ytebghednhjaniaa

namespace Go.Proofs.Ytebghednhjaniaa

theorem mem_drop {ns : List NodeD} {no : Int} {m : NodeD} (h : m ∈ dropN ns no) : m ∈ ns ∧ m.no ≠ no := by
  unfold dropN at h
  rw [List.mem_filter] at h
  exact ⟨h.1, by simpa using h.2⟩
theorem drop_mem {ns : List NodeD} {no : Int} {m : NodeD} (h : m ∈ ns) (hne : m.no ≠ no) : m ∈ dropN ns no := List.mem_filter.2 ⟨h, by simpa using hne⟩
/-- A node goes, in which no directory lies. -/
theorem tre_drop {c : Nat} {k k' : Int} {S : TreeD} (h : TreB c k S) {no : Int} (h1 : no ≠ 1) (hroot : ∀ j, (hj : j < S.devs.length) → S.devs[j].root ≠ no) (hover : ∀ j, (hj : j + 1 < S.devs.length) → S.devs[j + 1].over ≠ no)
    (hup : ∀ q ∈ S.nodes, q.kind = 1 → q.no ≠ no → q.no ≠ k' → UpOk S q ∧ (rootF S.devs q.dev ≠ q.no → q.up ≠ no)) : TreB c k' ⟨dropN S.nodes no, S.devs, S.last⟩ := by
  have hlen : (dropN S.nodes no).length ≤ S.nodes.length := List.length_filter_le ..
  refine ⟨h.nos.drop no, h.last, h.devs, h.eight, h.roots, ?_, ?_, ?_, ?_, ?_, ?_, ?_, ?_, h.root1, ?_, ?_, ?_, ?_, h.over0, ?_, ?_, ?_⟩
  · have := h.count
    show ((dropN S.nodes no).length : Int) ≤ S.last
    omega
  · exact fun m hm => h.small m (mem_drop hm).1
  · exact fun m hm => h.rise m (mem_drop hm).1
  · exact fun m hm => h.names m (mem_drop hm).1
  · exact fun m hm => h.pos m (mem_drop hm).1
  · exact fun m hm => h.on m (mem_drop hm).1
  · obtain ⟨m, hm, e⟩ := h.first
    exact ⟨m, drop_mem hm (by rw [e]; exact Ne.symm h1), e⟩
  · exact fun m hm => h.one m (mem_drop hm).1
  · exact fun m hm => h.dlinks m (mem_drop hm).1
  · intro m hm hk hmk
    obtain ⟨hm, hne⟩ := mem_drop hm
    obtain ⟨u, v⟩ := hup m hm hk hne hmk
    rcases u with u | ⟨u1, u2, q, hq, u3, u4⟩
    · exact .inl u
    · exact .inr ⟨u1, u2, q, drop_mem hq (by rw [u3]; exact v u1), u3, u4⟩
  · exact fun m hm => h.bits m (mem_drop hm).1
  · intro m hm x hx
    have hK := h.kin m (mem_drop hm).1 x hx
    exact ⟨hK.1, hK.2.1, fun q hq e => hK.2.2 q (mem_drop hq).1 e⟩
  · intro j hj
    obtain ⟨m, hm, o1, o⟩ := h.overs j hj
    exact ⟨m, drop_mem hm (by rw [o1]; exact hover j hj), o1, o⟩
  · intro j hj
    obtain ⟨m, hm, o1, o⟩ := h.rootsIn j hj
    exact ⟨m, drop_mem hm (by rw [o1]; exact hroot j hj), o1, o⟩
  · obtain ⟨d, hd⟩ := h.deep
    exact ⟨d, fun m hm => hd m (mem_drop hm).1⟩
theorem node_eq {S : TreeD} (hu : NosUp S.nodes S.last) {m n : NodeD} (hm : m ∈ S.nodes) (hn : n ∈ S.nodes) (e : m.no = n.no) : m = n := by
  have h1 := (mem_getN hu hm).1
  have h2 := (mem_getN hu hn).1
  rw [e] at h1
  exact h1.symm.trans h2
theorem over_free {c : Nat} {k : Int} {S : TreeD} (h : TreB c k S) {no : Int} (h1 : 1 ≤ no) (ho : overF S.devs no = no) : ∀ j, (hj : j + 1 < S.devs.length) → S.devs[j + 1].over ≠ no := by
  intro j hj e
  unfold overF at ho
  rw [if_pos (by omega)] at ho
  cases hf : S.devs.find? (fun d => d.over == no) with
  | none =>
    have := List.find?_eq_none.1 hf _ (List.getElem_mem hj)
    simp at this
    exact this e
  | some x =>
    rw [hf] at ho
    have hx := List.find?_some hf
    have hxm := List.mem_of_find?_eq_some hf
    obtain ⟨i, hi, rfl⟩ := List.getElem_of_mem hxm
    simp only [beq_iff_eq] at hx
    cases i with
    | zero => rw [h.over0 hi] at hx; omega
    | succ i =>
      obtain ⟨m, hm, a1, _, a3⟩ := h.rootsIn (i + 1) hi
      obtain ⟨q, hq, b1, _, b3, _⟩ := h.overs i hi
      have : m = q := node_eq h.nos hm hq (by rw [a1, b1, hx]; exact ho)
      subst this
      omega
/-- A node is killed; a directory must have nothing in it. -/
theorem tre_kill {c : Nat} {k k' : Int} {S : TreeD} (h : TreB c k S) {no : Int} (hk : killB S no = true) (ho : overF S.devs no = no) (hkk : k = k' ∨ k = no ∨ k = 0) (hne : (getN S.nodes no).kind = 1 → (getN S.nodes no).ents = []) : TreB c k' (killT S no) := by
  unfold killT
  rw [if_pos hk]
  unfold killB at hk
  rw [Bool.and_eq_true] at hk
  obtain ⟨hi, hr⟩ := hk
  obtain ⟨_, hno, hm⟩ := isN_true hi
  obtain ⟨n, hn⟩ : ∃ n, n = Proofs.Ytebghednhjaniaa.getN S.nodes no := ⟨_, rfl⟩
  rw [← hn] at hno hm hr hne ⊢
  have hr2 : rootF S.devs n.dev ≠ no := by simpa using hr
  have hon := h.on n hm
  have hfine : Fine (takeQ (devN S.devs n.dev).q (-(blocksF n.kind n.data.length)) (-1)) := by
    rcases rootF_zero h.roots n.dev with ⟨_, e2⟩ | ⟨j, hj, _, _, e3, _, _, e6⟩
    · rw [e2] at hon; cases hon.1
    · rw [e3]; exact takeQ_fine e6
  have hpos := (h.nos.2 n hm).1
  have hov := over_free h (by rw [← hno]; exact hpos) ho
  have hroots : ∀ j, (hj : j < S.devs.length) → S.devs[j].root ≠ no := by
    intro j hj e
    obtain ⟨m, hm2, a1, _, a3⟩ := h.rootsIn j hj
    have : m = n := node_eq h.nos hm2 hm (by rw [a1, e, hno])
    subst this
    rw [a3, rootAt hj] at hr2
    exact hr2 e
  have hA := tre_room h n.dev _ hfine S.last (Int.le_refl _)
  unfold killQ
  obtain ⟨Q, hQ⟩ : ∃ Q, Q = setQ S.devs n.dev (takeQ (devN S.devs n.dev).q (-(blocksF n.kind n.data.length)) (-1)) := ⟨_, rfl⟩
  rw [← hQ] at hA ⊢
  have hlen : Q.length = S.devs.length := by rw [hQ, setQ_len]
  have hat : ∀ j, (hj : j < Q.length) → (hj2 : j < S.devs.length) → Q[j].root = S.devs[j].root ∧ Q[j].over = S.devs[j].over := by
    intro j hj hj2; subst hQ; exact setQ_at hj hj2
  refine tre_drop hA (fun e => ?_) (fun j hj => ?_) (fun j hj => ?_) (fun q hq hqk hqn hqk' => ?_)
  · have := (h.one n hm (by rw [hno, e])).2.1
    rw [this, h.root1, e] at hr2
    exact hr2 rfl
  · have hj2 : j < S.devs.length := by rw [← hlen]; exact hj
    show Q[j].root ≠ no
    rw [(hat j hj hj2).1]
    exact hroots j hj2
  · have hj2 : j + 1 < S.devs.length := by rw [← hlen]; exact hj
    show Q[j + 1].over ≠ no
    rw [(hat (j + 1) hj hj2).2]
    exact hov j hj2
  · have hq0 : q.no ≠ k := by
      rcases hkk with e | e | e
      · rw [e]; exact hqk'
      · rw [e]; exact hqn
      · have := (h.nos.2 q hq).1; omega
    refine ⟨hA.ups q hq hqk hq0, fun hrq e => ?_⟩
    rcases h.ups q hq hqk hq0 with ⟨u1, _⟩ | ⟨_, _, m, hm2, u3, u4, _, x, hx, _⟩
    · apply hrq
      show rootF Q q.dev = q.no
      rw [hQ, rootQ]; exact u1
    · have : m = n := node_eq h.nos hm2 hm (by rw [u3, e, hno])
      subst this
      rw [hne u4] at hx
      cases hx
/-- The way up in one mount. -/
inductive UpTo (S : TreeD) (a : Int) : Int → Prop
  | here : UpTo S a a
  | up {q : NodeD} (hq : q ∈ S.nodes) (hk : q.kind = 1) (hu : q.up ≠ q.no) (h : UpTo S a q.up) : UpTo S a q.no
open Classical in
/-- A directory lies elsewhere: not in itself. -/
theorem tre_lies {c : Nat} {S : TreeD} {n m0 t : NodeD} (h : TreB c n.no S) (hm0 : m0 ∈ S.nodes) (hno : m0.no = n.no) (hk0 : m0.kind = 1) (hk : n.kind = 1) (hv : n.dev = m0.dev) (hen : n.ents = m0.ents) (hdat : n.data.length ≤ 1048576) (hl : n.links = 1) (hmo : n.mode = m0.mode)
    (ht : t ∈ S.nodes) (htk : t.kind = 1) (htv : t.dev = n.dev) (htx : ∃ x ∈ t.ents, x.2 = n.no) (hup : n.up = t.no) (hroot : rootF S.devs n.dev ≠ n.no) (hin : ¬ UpTo S n.no t.no) : Tre c (setT S n) := by
  have hi := (mem_getN h.nos hm0).2
  rw [hno] at hi
  have htn : t.no ≠ n.no := fun e => hin (by rw [e]; exact .here)
  have hg := (mem_getN h.nos hm0).1
  rw [hno] at hg
  have move : ∀ m ∈ S.nodes, ∃ m' ∈ (setT S n).nodes, m'.no = m.no ∧ m'.kind = m.kind ∧ m'.dev = m.dev ∧ m'.ents = m.ents := by
    intro m hm
    by_cases e : m.no = n.no
    · have : m = m0 := node_eq h.nos hm hm0 (e.trans hno.symm)
      subst this
      exact ⟨n, mem_set_self hm e, e.symm, hk.trans hk0.symm, hv, hen⟩
    · exact ⟨m, mem_set' hm e, rfl, rfl, rfl, rfl⟩
  have back : ∀ m ∈ (setT S n).nodes, ∃ m' ∈ S.nodes, m'.no = m.no ∧ m'.kind = m.kind ∧ m'.dev = m.dev ∧ m'.ents = m.ents ∧ m'.mode = m.mode := by
    intro m hm
    rcases mem_setT hm with ⟨hm, _⟩ | rfl
    · exact ⟨m, hm, rfl, rfl, rfl, rfl, rfl⟩
    · exact ⟨m0, hm0, hno, hk0.trans hk.symm, hv.symm, hen.symm, hmo.symm⟩
  refine ⟨h.nos.set n, h.last, h.devs, h.eight, h.roots, ?_, ?_, ?_, ?_, ?_, ?_, ?_, ?_, h.root1, ?_, ?_, ?_, ?_, h.over0, ?_, ?_, ?_⟩
  · show ((setN S.nodes n).length : Int) ≤ S.last; rw [setN_len]; exact h.count
  · intro m hm; obtain ⟨m', hm', _, _, _, e, _⟩ := back m hm; rw [← e]; exact h.small m' hm'
  · intro m hm; obtain ⟨m', hm', _, _, _, e, _⟩ := back m hm; rw [← e]; exact h.rise m' hm'
  · intro m hm; obtain ⟨m', hm', _, _, _, e, _⟩ := back m hm; rw [← e]; exact h.names m' hm'
  · intro m hm; obtain ⟨m', hm', _, _, _, e, _⟩ := back m hm; rw [← e]; exact h.pos m' hm'
  · intro m hm
    rcases mem_setT hm with ⟨hm, _⟩ | rfl
    · exact h.on m hm
    · exact ⟨by rw [hv]; exact (h.on _ hm0).1, hdat⟩
  · obtain ⟨m, hm, e⟩ := h.first
    obtain ⟨m', hm', e', _⟩ := move m hm
    exact ⟨m', hm', e'.trans e⟩
  · intro m hm e
    rcases mem_setT hm with ⟨hm, _⟩ | rfl
    · exact h.one m hm e
    · have h1 := (h.one _ hm0 (hno.trans e)).2.1
      rw [hv, h1, h.root1] at hroot
      exact absurd e.symm hroot
  · intro m hm hmk
    rcases mem_setT hm with ⟨hm, _⟩ | rfl
    · exact h.dlinks m hm hmk
    · exact hl
  · intro m hm hmk _
    rcases mem_setT hm with ⟨hm, hne⟩ | rfl
    · rcases h.ups m hm hmk hne with u | ⟨u1, u2, q, hq, u3, u4, u5, x, hx, u6⟩
      · exact .inl u
      · obtain ⟨q', hq', e1, e2, e3, e4⟩ := move q hq
        exact .inr ⟨u1, u2, q', hq', e1.trans u3, e2.trans u4, e3.trans u5, x, by rw [e4]; exact hx, u6⟩
    · obtain ⟨x, hx, hx2⟩ := htx
      exact .inr ⟨hroot, by rw [hup]; exact htn, t, mem_set' ht htn, hup.symm, htk, htv, x, hx, hx2⟩
  · intro m hm
    rcases mem_setT hm with ⟨hm, _⟩ | rfl
    · exact h.bits m hm
    · have := h.bits m0 hm0
      rw [hmo, hl]; omega
  · intro m hm x hx
    obtain ⟨m', hm', e1, e2, e3, e4, _⟩ := back m hm
    rw [← e4] at hx
    have hK := h.kin m' hm' x hx
    rw [e1, e3] at hK
    refine ⟨hK.1, hK.2.1, fun q hq e => ?_⟩
    obtain ⟨q', hq', f1, _, f3, _⟩ := back q hq
    rw [← f3]
    exact hK.2.2 q' hq' (f1.trans e)
  · intro j hj
    obtain ⟨m, hm, o1, o2, o3, o4⟩ := h.overs j hj
    obtain ⟨m', hm', e1, e2, e3, _⟩ := move m hm
    exact ⟨m', hm', e1.trans o1, e2.trans o2, by rw [e3]; exact o3, by rw [e3, e1]; exact o4⟩
  · intro j hj
    obtain ⟨m, hm, o1, o2, o3⟩ := h.rootsIn j hj
    obtain ⟨m', hm', e1, e2, e3, _⟩ := move m hm
    exact ⟨m', hm', e1.trans o1, e2.trans o2, e3.trans o3⟩
  · obtain ⟨d, hd⟩ := h.deep
    refine ⟨fun q => if UpTo S n.no q then d q + d t.no + 1 else d q, fun m hm hmk hmu => ?_⟩
    show (if UpTo S n.no m.up then _ else _) < (if UpTo S n.no m.no then _ else _)
    rcases mem_setT hm with ⟨hm, hne⟩ | rfl
    · have hdm := hd m hm hmk hmu
      by_cases hU : UpTo S n.no m.up
      · rw [if_pos hU, if_pos (.up hm hmk hmu hU)]
        omega
      · have hN : ¬ UpTo S n.no m.no := by
          intro hx
          have aux : ∀ a, UpTo S n.no a → a = m.no → False := by
            intro a ha
            cases ha with
            | here => exact fun e => hne e.symm
            | up hq hqk hqu hq2 =>
              intro e
              have : _ = m := node_eq h.nos hq hm e
              subst this
              exact hU hq2
          exact aux _ hx rfl
        rw [if_neg hU, if_neg hN]
        exact hdm
    · rw [hup, if_neg hin, if_pos .here]
      omega
theorem UpTo.mono {S T : TreeD} {a b : Int} (h : UpTo T a b) (hm : ∀ q ∈ T.nodes, q.kind = 1 → ∃ q' ∈ S.nodes, q'.no = q.no ∧ q'.kind = 1 ∧ q'.up = q.up) : UpTo S a b := by
  induction h with
  | here => exact .here
  | up hq hk hu _ ih =>
    obtain ⟨q', hq', e1, e2, e3⟩ := hm _ hq hk
    rw [← e1]
    exact .up hq' e2 (by rw [e1, e3]; exact hu) (by rw [e3]; exact ih)
/-- Whoever is on the way up is above. -/
theorem UpTo.within {c : Nat} {S : TreeD} (h : Tre c S) {a b : Int} (ha : a ≠ 0) (hU : UpTo S a b) : withinF S b a = true := by
  obtain ⟨r, R⟩ := h.rank
  induction hU with
  | here => exact within_base ha rfl
  | @up q hq hk hu _ ih =>
    by_cases e : q.no = a
    · exact within_base (by have := (h.nos.2 q hq).1; omega) e
    · have hg := (mem_getN h.nos hq).1
      have hab : aboveF S q.no = q.up := by
        unfold aboveF
        rw [hg, if_pos hk]
        rcases h.ups0 q hq hk with ⟨_, u2⟩ | ⟨u1, _⟩
        · exact absurd u2 hu
        · rw [if_neg (fun x => u1 x.1)]
      rw [within_step R (by have := (h.nos.2 q hq).1; omega) e (by rw [hab]; exact hu), hab]
      exact ih
end Go.Proofs.Ytebghednhjaniaa

namespace Go.Proofs.Ytebghednhjaniaa

/-- Nothing but the node has changed, its bytes and its entries least of all. -/
def StepN (S : TreeD) (no : Int) (T : TreeD) : Prop :=
  T.devs = S.devs ∧ T.last = S.last ∧ (∀ k, isN T.nodes k = isN S.nodes k) ∧ (∀ k, k ≠ no → getN T.nodes k = getN S.nodes k) ∧ (getN T.nodes no).data = (getN S.nodes no).data ∧ (getN T.nodes no).ents = (getN S.nodes no).ents ∧ (NosUp S.nodes S.last → NosUp T.nodes T.last) ∧ T.nodes.length = S.nodes.length
theorem StepN.refl (S : TreeD) (no : Int) : StepN S no S := ⟨rfl, rfl, fun _ => rfl, fun _ _ => rfl, rfl, rfl, fun h => h, rfl⟩
theorem StepN.trans {S T U : TreeD} {no : Int} (h : StepN S no T) (k : StepN T no U) : StepN S no U :=
  ⟨k.1.trans h.1, k.2.1.trans h.2.1, fun i => (k.2.2.1 i).trans (h.2.2.1 i), fun i hi => (k.2.2.2.1 i hi).trans (h.2.2.2.1 i hi), k.2.2.2.2.1.trans h.2.2.2.2.1, k.2.2.2.2.2.1.trans h.2.2.2.2.2.1, fun hu => k.2.2.2.2.2.2.1 (h.2.2.2.2.2.2.1 hu), k.2.2.2.2.2.2.2.trans h.2.2.2.2.2.2.2⟩
theorem stepN_set {S : TreeD} {no : Int} {n : NodeD} (hi : isN S.nodes no = true) (hn : n.no = no) (hd : n.data = (getN S.nodes no).data) (he : n.ents = (getN S.nodes no).ents) : StepN S no (setT S n) ∧ getN (setT S n).nodes no = n := by
  have hg : getN (setT S n).nodes no = n := by subst hn; exact getN_set_eq S.nodes n hi
  refine ⟨⟨rfl, rfl, fun k => isN_set S.nodes n k, fun k hk => getN_set_ne S.nodes n (by rw [hn]; exact hk), ?_, ?_, fun hu => hu.set n, setN_len S.nodes n⟩, hg⟩
  · show (getN (setT S n).nodes no).data = _; rw [hg]; exact hd
  · show (getN (setT S n).nodes no).ents = _; rw [hg]; exact he
theorem own_of {S : TreeD} {cu no : Int} (h : ownE S cu no = 0) : isN S.nodes no = true ∧ (getN S.nodes no).no = no := ⟨(ownE_zero h).1, (isN_true (ownE_zero h).1).2.1⟩
theorem modeE_own {S : TreeD} {cu no m : Int} (h : modeE S cu no m = 0) : ownE S cu no = 0 := by
  unfold modeE at h
  split at h
  · rename_i h2; exact absurd h h2
  · rename_i h2; simpa using h2
theorem ownrE_own {S : TreeD} {cu no u g : Int} (h : ownrE S cu no u g = 0) : ownE S cu no = 0 := by
  unfold ownrE at h
  split at h
  · rename_i h2; exact absurd h h2
  · rename_i h2; simpa using h2
theorem timeE_own {S : TreeD} {cu no t : Int} (h : timeE S cu no t = 0) : ownE S cu no = 0 := by
  unfold timeE at h
  split at h
  · rename_i h2; exact absurd h h2
  · rename_i h2; simpa using h2
theorem modeT_step (S : TreeD) (cu now no m : Int) : StepN S no (modeT S cu now no m) ∧ (modeE S cu no m = 0 → getN (modeT S cu now no m).nodes no = { getN S.nodes no with mode := m, ctime := now }) ∧ (modeE S cu no m ≠ 0 → modeT S cu now no m = S) := by
  by_cases h : modeE S cu no m = 0
  · obtain ⟨h1, h2⟩ := own_of (modeE_own h)
    have := stepN_set (S := S) (no := no) (n := { getN S.nodes no with mode := m, ctime := now }) h1 h2 rfl rfl
    unfold modeT
    rw [if_pos h]
    exact ⟨this.1, fun _ => this.2, fun h3 => absurd h h3⟩
  · unfold modeT
    rw [if_neg h]
    exact ⟨StepN.refl _ _, fun h3 => absurd h3 h, fun _ => rfl⟩
theorem ownrT_step (S : TreeD) (cu now no u g : Int) : StepN S no (ownrT S cu now no u g) ∧ (ownrE S cu no u g = 0 → getN (ownrT S cu now no u g).nodes no = { getN S.nodes no with uid := u, gid := g, ctime := now }) ∧ (ownrE S cu no u g ≠ 0 → ownrT S cu now no u g = S) := by
  by_cases h : ownrE S cu no u g = 0
  · obtain ⟨h1, h2⟩ := own_of (ownrE_own h)
    have := stepN_set (S := S) (no := no) (n := { getN S.nodes no with uid := u, gid := g, ctime := now }) h1 h2 rfl rfl
    unfold ownrT
    rw [if_pos h]
    exact ⟨this.1, fun _ => this.2, fun h3 => absurd h h3⟩
  · unfold ownrT
    rw [if_neg h]
    exact ⟨StepN.refl _ _, fun h3 => absurd h3 h, fun _ => rfl⟩
theorem timeT_step (S : TreeD) (cu now no t : Int) : StepN S no (timeT S cu now no t) ∧ (timeE S cu no t = 0 → getN (timeT S cu now no t).nodes no = { getN S.nodes no with mtime := t, ctime := now }) ∧ (timeE S cu no t ≠ 0 → timeT S cu now no t = S) := by
  by_cases h : timeE S cu no t = 0
  · obtain ⟨h1, h2⟩ := own_of (timeE_own h)
    have := stepN_set (S := S) (no := no) (n := { getN S.nodes no with mtime := t, ctime := now }) h1 h2 rfl rfl
    unfold timeT
    rw [if_pos h]
    exact ⟨this.1, fun _ => this.2, fun h3 => absurd h h3⟩
  · unfold timeT
    rw [if_neg h]
    exact ⟨StepN.refl _ _, fun h3 => absurd h3 h, fun _ => rfl⟩
/-- What AttrOne asks of the three calls. -/
theorem attrOne_plain (S : TreeD) (cu no a u t : Int) (T1 T2 T3 : TreeD) (h1 : T1 = modeT S cu 3 no a) (h2 : T2 = ownrT T1 cu 3 no a u) (h3 : T3 = timeT T2 cu 3 no t) :
    StepN S no T3 ∧ (ownE S cu no ≠ 0 → modeE S cu no a ≠ 0 ∧ ownrE T1 cu no a u ≠ 0 ∧ timeE T2 cu no t ≠ 0 ∧ T3 = S) ∧
    (modeE S cu no a = 0 → (getN T3.nodes no).mode = a) ∧ (ownrE T1 cu no a u = 0 → (getN T3.nodes no).uid = a ∧ (getN T3.nodes no).gid = u) := by
  have s1 := modeT_step S cu 3 no a
  have s2 := ownrT_step T1 cu 3 no a u
  have s3 := timeT_step T2 cu 3 no t
  rw [← h1] at s1
  rw [← h2] at s2
  rw [← h3] at s3
  refine ⟨(s1.1.trans s2.1).trans s3.1, fun ho => ?_, fun he => ?_, fun he => ?_⟩
  · have e1 : modeE S cu no a ≠ 0 := fun h => ho (modeE_own h)
    have q1 := s1.2.2 e1
    have e2 : ownrE T1 cu no a u ≠ 0 := fun h => ho (by rw [q1] at h; exact ownrE_own h)
    have q2 := s2.2.2 e2
    have e3 : timeE T2 cu no t ≠ 0 := fun h => ho (by rw [q2, q1] at h; exact timeE_own h)
    exact ⟨e1, e2, e3, by rw [s3.2.2 e3, q2, q1]⟩
  · have m1 : (getN T1.nodes no).mode = a := by rw [s1.2.1 he]
    have m2 : (getN T2.nodes no).mode = a := by
      by_cases h : ownrE T1 cu no a u = 0
      · rw [s2.2.1 h]; exact m1
      · rw [s2.2.2 h]; exact m1
    by_cases h : timeE T2 cu no t = 0
    · rw [s3.2.1 h]; exact m2
    · rw [s3.2.2 h]; exact m2
  · have m2 : (getN T2.nodes no).uid = a ∧ (getN T2.nodes no).gid = u := by rw [s2.2.1 he]; exact ⟨rfl, rfl⟩
    by_cases h : timeE T2 cu no t = 0
    · rw [s3.2.1 h]; exact m2
    · rw [s3.2.2 h]; exact m2
theorem ownE_zero_iff (S : TreeD) (cu no : Int) : ownE S cu no = 0 ↔ (isN S.nodes no = true ∧ ownsB cu (getN S.nodes no).uid = true) := by
  constructor
  · intro h; exact ⟨(ownE_zero h).1, (ownE_zero h).2.1⟩
  · rintro ⟨h1, h2⟩
    unfold ownE
    rw [if_neg (by rw [h1]; decide), if_neg (by rw [h2]; decide)]
end Go.Proofs.Ytebghednhjaniaa

namespace Go.Proofs.Ytebghednhjaniaa

theorem grown_same {S : TreeD} (h : Grown S) {no : Int} {n : NodeD} (hi : isN S.nodes no = true) (hn : n.no = no) (he : n.ents = (getN S.nodes no).ents) (hd : n.data.length ≤ 1048576)
    (hk : n.kind = (getN S.nodes no).kind) (hv : n.dev = (getN S.nodes no).dev) (hu : n.up = (getN S.nodes no).up) : Grown (setT S n) := by
  have hm := (isN_true hi).2
  have hg := good_getN h.good no
  refine grown_set h (by rw [he]; exact hg.1) (by rw [he]; exact hg.2) (by rw [he]; exact h.names _ hm.2) hd ?_ (by rw [hn]; exact hi)
  intro m hmm e
  have := (mem_getN h.good.nos hmm).1
  rw [e, hn] at this
  rw [← this]
  exact ⟨hk, hv, hu⟩
theorem grown_mode {S : TreeD} (h : Grown S) (cu now no m : Int) : Grown (modeT S cu now no m) := by
  unfold modeT
  split
  · rename_i h0
    obtain ⟨hi, hn⟩ := own_of (modeE_own h0)
    exact grown_same h hi hn rfl (h.on _ (isN_true hi).2.2).2 rfl rfl rfl
  · exact h
theorem grown_ownr {S : TreeD} (h : Grown S) (cu now no u g : Int) : Grown (ownrT S cu now no u g) := by
  unfold ownrT
  split
  · rename_i h0
    obtain ⟨hi, hn⟩ := own_of (ownrE_own h0)
    exact grown_same h hi hn rfl (h.on _ (isN_true hi).2.2).2 rfl rfl rfl
  · exact h
theorem grown_time {S : TreeD} (h : Grown S) (cu now no t : Int) : Grown (timeT S cu now no t) := by
  unfold timeT
  split
  · rename_i h0
    obtain ⟨hi, hn⟩ := own_of (timeE_own h0)
    exact grown_same h hi hn rfl (h.on _ (isN_true hi).2.2).2 rfl rfl rfl
  · exact h
/-- The mounts' room changes alone. -/
theorem grown_setQ {S : TreeD} (h : Grown S) (d : Int) (q : SpaceD) (hq : Fine q) : Grown ⟨S.nodes, setQ S.devs d q, S.last⟩ := by
  obtain ⟨Q, hQ⟩ : ∃ Q, Q = setQ S.devs d q := ⟨_, rfl⟩
  have hlen : Q.length = S.devs.length := by rw [hQ, setQ_len]
  have hg : Good ⟨S.nodes, setQ S.devs d q, S.last⟩ := ⟨h.good.nos, h.good.last, by show 0 < (setQ _ _ _).length; rw [setQ_len]; exact h.good.devs, by show (setQ _ _ _).length ≤ 8; rw [setQ_len]; exact h.good.eight, roots_setQ h.good.roots _ _ hq, h.good.count, h.good.rise, h.good.small⟩
  have hat : ∀ k, (hk : k < Q.length) → (hk2 : k < S.devs.length) → Q[k].root = S.devs[k].root ∧ Q[k].over = S.devs[k].over := by
    intro k hk hk2
    subst hQ
    exact setQ_at hk hk2
  rw [← hQ] at hg ⊢
  refine ⟨hg, h.names, fun n hn => ?_, h.first, h.one, h.ups, ?_, ?_⟩
  · have := h.on n hn
    refine ⟨?_, this.2⟩
    have h2 := this.1
    unfold hasD at h2 ⊢
    show (decide (1 ≤ n.dev) && decide (n.dev ≤ (Q.length : Int))) = true
    rw [hlen]; exact h2
  · intro hk
    exact ((hat 0 hk h.good.devs).1).trans (h.root1 h.good.devs)
  · intro k hk
    have hk2 : k + 1 < S.devs.length := by have : k + 1 < Q.length := hk; omega
    obtain ⟨q1, q2⟩ := hat (k + 1) hk hk2
    show Q[k + 1].over < Q[k + 1].root ∧ DirT _ Q[k + 1].over
    rw [q1, q2]
    exact h.overs k hk2
theorem grown_fine {S : TreeD} (h : Grown S) {d : Int} (hd : hasD S.devs d = true) (b n : Int) : Fine (takeQ (devN S.devs d).q b n) := by
  rcases rootF_zero h.good.roots d with ⟨_, e2⟩ | ⟨k, hk, _, _, e3, _, _, e6⟩
  · rw [e2] at hd; cases hd
  · rw [e3]; exact takeQ_fine e6
theorem fillE_is {S : TreeD} {no dl : Int} (h : fillE S no dl = 0) : isN S.nodes no = true := by
  cases hi : isN S.nodes no
  · unfold fillE at h; rw [hi] at h; simp at h
  · rfl
theorem grown_fill {S : TreeD} (h : Grown S) (no : Int) (data : List UInt8) (hd : data.length ≤ 1048576) : Grown (fillT S no data) := by
  unfold fillT
  split
  · rename_i h0
    have hi := fillE_is h0
    have ho := h.on _ (isN_true hi).2.2
    exact grown_same (no := no) (n := { getN S.nodes no with data := data }) (grown_setQ h (getN S.nodes no).dev _ (grown_fine h ho.1 _ _)) hi (isN_true hi).2.1 rfl hd rfl rfl rfl
  · exact h
theorem fillT_is (S : TreeD) (no : Int) (data : List UInt8) (k : Int) (h : isN S.nodes k = true) : isN (fillT S no data).nodes k = true := by
  unfold fillT
  split
  · rw [isN_set]; exact h
  · exact h
theorem wriE_zero {S : TreeD} {cu cg no dl : Int} (h : wriE S cu cg no dl = 0) : isN S.nodes no = true ∧ dl ≤ 1048576 ∧ fillE S no dl = 0 := by
  unfold wriE at h
  split at h
  · cases h
  · rename_i hi
    split at h
    · cases h
    · split at h
      · cases h
      · split at h
        · cases h
        · split at h
          · cases h
          · exact ⟨by simpa using hi, by omega, h⟩
theorem grown_wri {S : TreeD} (h : Grown S) (cu cg now no : Int) (data : List UInt8) : Grown (wriT S cu cg now no data) := by
  unfold wriT
  split
  · rename_i h0
    obtain ⟨hi, hd, _⟩ := wriE_zero h0
    have hG := grown_fill h no data (by omega)
    have hi2 := fillT_is S no data no hi
    exact grown_same hG (n := { getN (fillT S no data).nodes no with mtime := now, ctime := now }) hi2 (isN_true hi2).2.1 rfl (hG.on _ (isN_true hi2).2.2).2 rfl rfl rfl
  · exact h
theorem setT_last (S : TreeD) (n : NodeD) : (setT S n).last = S.last := rfl
theorem modeT_last (S : TreeD) (cu now no m : Int) : (modeT S cu now no m).last = S.last := by unfold modeT; split <;> rfl
theorem ownrT_last (S : TreeD) (cu now no u g : Int) : (ownrT S cu now no u g).last = S.last := by unfold ownrT; split <;> rfl
theorem timeT_last (S : TreeD) (cu now no t : Int) : (timeT S cu now no t).last = S.last := by unfold timeT; split <;> rfl
theorem wriT_last (S : TreeD) (cu cg now no : Int) (d : List UInt8) : (wriT S cu cg now no d).last = S.last := by
  unfold wriT
  split
  · show (fillT S no d).last = _
    unfold fillT; split <;> rfl
  · rfl
end Go.Proofs.Ytebghednhjaniaa

namespace Go.Proofs.Ytebghednhjaniaa

/-- Such a tree is one of nodes that come and go. -/
theorem Tre.live {c : Nat} {S : TreeD} (h : Tre c S) : Live S := ⟨h.nos, h.last, h.devs, h.eight, h.roots, h.count, h.on, h.first, fun n hn e => (h.one n hn e).2.1, h.root1⟩
theorem tre_same {c : Nat} {S : TreeD} (h : Tre c S) {no : Int} {n : NodeD} (hi : isN S.nodes no = true) (hn : n.no = no) (he : n.ents = (getN S.nodes no).ents) (hd : n.data.length ≤ 1048576)
    (hk : n.kind = (getN S.nodes no).kind) (hv : n.dev = (getN S.nodes no).dev) (hu : n.up = (getN S.nodes no).up) (hl : n.links = (getN S.nodes no).links) (hm : 0 ≤ n.mode ∧ n.mode ≤ 1023) : Tre c (setT S n) := by
  subst hn
  have hm0 := (isN_true hi).2
  have hb := h.bits _ hm0.2
  refine tre_set h (.inl rfl) hi (Nat.le_refl _) hk hv hu (fun hk1 => by rw [hl]; exact h.dlinks _ hm0.2 (by rw [← hk]; exact hk1)) (by rw [he]; exact h.rise _ hm0.2) (by rw [he]; exact h.names _ hm0.2) (by rw [he]; exact h.pos _ hm0.2) (by rw [he]; exact h.small _ hm0.2) hd
    ⟨hm.1, hm.2, by rw [hl]; exact hb.2.2.1, by rw [hl]; exact hb.2.2.2⟩ (fun x hx => ?_) (fun q hq hqk _ hqu hqn => ?_)
  · rw [he] at hx
    have := h.kin _ hm0.2 x hx
    rw [hm0.1, ← hv] at this
    exact this
  · rw [he]
    rcases h.ups0 q hq hqk with ⟨_, u2⟩ | ⟨_, _, m, hm, u3, _, _, x, hx, u6⟩
    · exact absurd (u2.symm.trans hqu) hqn
    · have := (mem_getN h.nos hm).1
      rw [u3, hqu] at this
      rw [this]
      exact ⟨x, hx, u6⟩
theorem Tre.bitsN {c : Nat} {S : TreeD} (h : Tre c S) {no : Int} (hi : isN S.nodes no = true) : 0 ≤ (Proofs.Ytebghednhjaniaa.getN S.nodes no).mode ∧ (Proofs.Ytebghednhjaniaa.getN S.nodes no).mode ≤ 1023 := by
  have := h.bits _ (isN_true hi).2.2
  exact ⟨this.1, this.2.1⟩
theorem tre_mode {c : Nat} {S : TreeD} (h : Tre c S) (cu now no m : Int) : Tre c (modeT S cu now no m) := by
  unfold modeT
  split
  · rename_i h0
    obtain ⟨hi, hn⟩ := own_of (modeE_own h0)
    refine tre_same h hi hn rfl (h.on _ (isN_true hi).2.2).2 rfl rfl rfl rfl ?_
    unfold modeE at h0
    split at h0
    · rename_i h1; exact absurd h0 h1
    · split at h0
      · cases h0
      · rename_i h1
        rw [not_or, not_or] at h1
        exact ⟨by show 0 ≤ m; omega, by show m ≤ 1023; omega⟩
  · exact h
theorem tre_ownr {c : Nat} {S : TreeD} (h : Tre c S) (cu now no u g : Int) : Tre c (ownrT S cu now no u g) := by
  unfold ownrT
  split
  · rename_i h0
    obtain ⟨hi, hn⟩ := own_of (ownrE_own h0)
    exact tre_same h hi hn rfl (h.on _ (isN_true hi).2.2).2 rfl rfl rfl rfl (h.bitsN hi)
  · exact h
theorem tre_time {c : Nat} {S : TreeD} (h : Tre c S) (cu now no t : Int) : Tre c (timeT S cu now no t) := by
  unfold timeT
  split
  · rename_i h0
    obtain ⟨hi, hn⟩ := own_of (timeE_own h0)
    exact tre_same h hi hn rfl (h.on _ (isN_true hi).2.2).2 rfl rfl rfl rfl (h.bitsN hi)
  · exact h
theorem tre_fill {c : Nat} {S : TreeD} (h : Tre c S) (no : Int) (data : List UInt8) (hd : data.length ≤ 1048576) : Tre c (fillT S no data) := by
  unfold fillT
  split
  · rename_i h0
    have hi := fillE_is h0
    have ho := h.on _ (isN_true hi).2.2
    exact tre_same (no := no) (n := { getN S.nodes no with data := data }) (tre_room h (getN S.nodes no).dev _ (h.live.fine ho.1 _ _) S.last (Int.le_refl _)) hi (isN_true hi).2.1 rfl hd rfl rfl rfl rfl (h.bitsN hi)
  · exact h
theorem tre_wri {c : Nat} {S : TreeD} (h : Tre c S) (cu cg now no : Int) (data : List UInt8) : Tre c (wriT S cu cg now no data) := by
  unfold wriT
  split
  · rename_i h0
    obtain ⟨hi, hd, _⟩ := wriE_zero h0
    have hG := tre_fill h no data (by omega)
    have hi2 := fillT_is S no data no hi
    exact tre_same hG (n := { getN (fillT S no data).nodes no with mtime := now, ctime := now }) hi2 (isN_true hi2).2.1 rfl (hG.on _ (isN_true hi2).2.2).2 rfl rfl rfl rfl (hG.bitsN hi2)
  · exact h
end Go.Proofs.Ytebghednhjaniaa
