/- Layer 11 (ents): Put, whole. -/
import Derived.Test.YtneideokodhciaaEntM
namespace Go.Proofs.Ytneideokodhciaa
open Go.ChangeShapes Go.WideShapes Go.ChangeAt Go.RowKit

theorem Ext.trans' {a b c : World} (h : Ext a b) (k : Below a.heap.size b c) : Ext a c := Below.trans h k
theorem OwnE.keep {w w' : World} {B : Nat} {v : Value} {l : List EntD} (h : OwnE w B v l) (k : Ext w w') : OwnE w' B v l :=
  World.ownsRow.kept (row := none) h ⟨k.os, k.tape, k.output, k.size, fun j hj _ => Below.block k j hj⟩ (by cases v.ownBlock <;> simp)
theorem insert_any (B vb p : Nat) (v : Value) (l : List EntD) (x : EntD) (w : World) (ho : OwnE w B v l) (hB : B ≤ w.heap.size) (hx : Has w vb (.cells #[.string (bs x.1), .int .i64 x.2] 25)) (hvb : v.ownBlock ≠ some vb) (hp : p ≤ l.length) (hlen : l.length ≤ 999999) : Calls Try.prog 40 #[v, .int .i64 p, .slice (some ⟨vb, 0, none⟩) 1 1] w (InsR B w (insP l p x)) := by
  by_cases he : p = l.length
  · subst he
    have : insP l l.length x = l ++ [x] := by unfold insP; rw [List.take_length, List.drop_length]
    rw [this]
    exact insert_end B vb v l x w ho hB hx hlen
  · obtain ⟨g, c, rfl⟩ : ∃ g c, v = .slice (some ⟨g, 0, none⟩) l.length c := by
      rcases ho.2 with ⟨_, h0⟩ | ⟨g, cap, _, h, _⟩
      · omega
      · exact ⟨g, cap, h⟩
    have hvg : vb ≠ g := fun e => hvb (by rw [e]; rfl)
    by_cases hr : c < l.length + 1
    · exact insert_grow B vb g c p l x w ho hB hx (by omega) hlen hr
    · exact insert_room B vb g c p l x w ho hB hx hvg (by omega) hlen (by omega)
set_option maxRecDepth 100000 in
set_option maxHeartbeats 1000000 in
theorem put_no (A : Option Addr) (l : List EntD) (cap : Nat) (nm : List UInt8) (no : Int) (w : World) (h : EntsAt w A l) (hnone : A = none → cap = 0) (hr : Rise l) (hlen : l.length ≤ 999999) (hh : has l nm = false) : Calls Try.prog 12 #[.slice A l.length cap, .string (bs nm), .int .i64 no] w (OwnR w (putP l nm no)) := by
  have hcut : Hid (putP l nm no = insP l (pos l nm) (nm, no)) := by show _ = _; unfold putP insP; rw [hh]; rfl
  have hpl := pos_le l nm
  have HH := Lib.hid hh
  clear hh
  go_enter Try.func12, Try.ntmps12
  go_wp2_with fail
  refine (search_any _ l cap nm _ h hr (by omega)).mono ?_
  rintro e w1 ⟨rfl, b1⟩
  rw [HH.out]
  go_wp2_with fail
  refine (clone_any A l cap _ (h.ext b1) hnone (by omega)).mono ?_
  rintro e w2 ⟨v, rfl, ho, b2⟩
  have hvlt : v.ownBlock ≠ some w2.heap.size := by
    intro hv
    have := (ho.lt _ hv).2
    omega
  have hB : w.heap.size ≤ w2.heap.size := by have := b1.size; have := b2.size; omega
  have ho2 : OwnE (w2.alloc (.cells #[.string (bs nm), .int .i64 no] 25)) w.heap.size v l := OwnE.base (OwnE.keep ho ((Ext.refl _).alloc _)) b1.size
  go_wp2_with fail
  refine (insert_any w.heap.size w2.heap.size (pos l nm) v l (nm, no) _ ho2 (by simp; omega) (Has.new w2 _) hvlt hpl hlen).mono ?_
  rintro e w3 ⟨v', rfl, ho3, b3⟩
  go_wp2_with fail
  go_ret
  exact ⟨v', rfl, by rw [hcut.out]; exact ho3, (((b1.trans b2).alloc _).trans' b3)⟩
theorem put_any (A : Option Addr) (l : List EntD) (cap : Nat) (nm : List UInt8) (no : Int) (w : World) (h : EntsAt w A l) (hnone : A = none → cap = 0) (hr : Rise l) (hcap : l.length ≤ cap) (hcap2 : cap ≤ maxLen) (hlen : l.length ≤ 999999) : Calls Try.prog 12 #[.slice A l.length cap, .string (bs nm), .int .i64 no] w (OwnR w (putP l nm no)) := by
  cases hh : has l nm
  · exact put_no A l cap nm no w h hnone hr hlen hh
  · exact put_yes A l cap nm no w h hr hcap hcap2 hlen hh
end Go.Proofs.Ytneideokodhciaa
