/- Layer 11 (ents): Find, Name, Drop. -/
import Derived.Test.YtneideokodhciaaEntG
namespace Go.Proofs.Ytneideokodhciaa
open Go.ChangeShapes Go.WideShapes Go.ChangeAt Go.RowKit

def numOf (l : List EntD) (nm : List UInt8) : Int := if has l nm = true then (l.getD (pos l nm) ([], 0)).2 else 0
theorem has_lt {l : List EntD} {nm : List UInt8} (hr : Rise l) (h : has l nm = true) : ∃ hp : pos l nm < l.length, (l[pos l nm]'hp).1 = nm := by
  rw [has_pos l nm hr] at h
  split at h
  · rename_i hp; exact ⟨hp, by simpa using h⟩
  · cases h
set_option maxRecDepth 100000 in
set_option maxHeartbeats 1000000 in
theorem find_any (A : Option Addr) (l : List EntD) (cap : Nat) (nm : List UInt8) (w : World) (h : EntsAt w A l) (hr : Rise l) (hlen : l.length ≤ 1000000) : Calls Try.prog 17 #[.slice A l.length cap, .string (bs nm)] w (Ret w (.int .i64 (numOf l nm))) := by
  have hf : Hid (numOf l nm = if has l nm = true then (l.getD (pos l nm) ([], 0)).2 else 0) := rfl
  cases hh : has l nm
  · rw [hh] at hf
    have HH := Lib.hid hh
    clear hh
    go_enter Try.func17, Try.ntmps17
    go_wp2_with fail
    refine (search_any A l cap nm _ h hr hlen).mono ?_
    rintro e w1 ⟨rfl, b1⟩
    rw [HH.out]
    go_wp2_with fail
    go_ret
    exact Ret.mk (ret_int (by rw [hf.out]; rfl)) b1
  · rw [hh] at hf
    obtain ⟨hp, -⟩ := has_lt hr hh
    obtain ⟨p, hpp⟩ : ∃ p, p = pos l nm := ⟨_, rfl⟩
    have HH := Lib.hid hh
    rw [← hpp] at hf
    have hpl : p < l.length := by rw [hpp]; exact hp
    have HP := Lib.hid hpp
    clear hh hp hpp
    obtain ⟨n, hn⟩ : ∃ n, n = l.length := ⟨_, rfl⟩
    have hpn : (p : Int) < (n : Int) := by omega
    have HN := Lib.hid hn
    clear hn
    go_enter Try.func17, Try.ntmps17
    rw [← HN.out]
    go_wp2_with fail
    rw [HN.out]
    refine (search_any A l cap nm _ h hr hlen).mono ?_
    rintro e w1 ⟨rfl, b1⟩
    rw [HH.out, ← HP.out, ← HN.out]
    obtain ⟨b, o, rfl, hbw, ca, cb⟩ := h.at_ b1 p hpl
    have hx : Hid ((l.getD p ([], 0)).2 = (l[p]).2) := by show _ = _; rw [List.getD_eq_getElem?_getD, List.getElem?_eq_getElem hpl]; rfl
    generalize l[p] = x at ca cb hx
    go_wp2_with fail
    go_ret
    exact Ret.mk (ret_int (by rw [hf.out, if_pos trivial, hx.out])) b1
/-- The first name with a number. -/
def nameOf (l : List EntD) (no : Int) : Option EntD := l.find? (·.2 == no)
theorem find_take (l : List EntD) (no : Int) (k : Nat) (hk : k < l.length) (h : ∀ x ∈ l.take k, (x.2 == no) = false) (hx : (l[k].2 == no) = true) : nameOf l no = some l[k] := by
  unfold nameOf
  have e : l = l.take k ++ l[k] :: l.drop (k + 1) := by
    conv => lhs; rw [← List.take_append_drop k l, List.drop_eq_getElem_cons hk]
  rw [List.find?_eq_some_iff_append]
  refine ⟨hx, l.take k, l.drop (k + 1), e, fun a ha => by rw [h a ha]; rfl⟩
set_option maxRecDepth 100000 in
set_option maxHeartbeats 1000000 in
theorem name_any (A : Option Addr) (l : List EntD) (cap : Nat) (no : Int) (w : World) (h : EntsAt w A l) (hlen : l.length ≤ 1000000) : Calls Try.prog 16 #[.slice A l.length cap, .int .i64 no] w (Ret w (match nameOf l no with | some x => .tuple #[.string (bs x.1), .bool true] | none => .tuple #[.string (bs []), .bool false])) := by
  obtain ⟨R, hR⟩ : ∃ R, R = (match nameOf l no with | some x => Value.tuple #[.string (bs x.1), .bool true] | none => .tuple #[.string (bs []), .bool false]) := ⟨_, rfl⟩
  rw [← hR]
  have HR := Lib.hid hR
  clear hR
  obtain ⟨n, hn⟩ : ∃ n, n = l.length := ⟨_, rfl⟩
  rw [← hn] at hlen ⊢
  have HN := Lib.hid hn
  clear hn
  go_enter Try.func16, Try.ntmps16
  go_wp2_with fail
  go_loopw [10] (fun i wr => ∃ k : Nat, k ≤ n ∧ i = .int .i64 k ∧ Hid (∀ x ∈ l.take k, (x.2 == no) = false) ∧ Ext w wr) (fun i _ => n - (intOf i).toNat)
  case atStart => exact ⟨0, Nat.zero_le _, rfl, fun x hx => by simp at hx, Ext.refl _⟩
  case round =>
    obtain ⟨k, hk, rfl, ha, hE⟩ := hrel
    by_cases hlt : (k : Int) < n
    · have hkl : k < l.length := by have := HN.out; omega
      obtain ⟨b, o, rfl, hbw, ca, cb⟩ := h.at_ hE k hkl
      generalize hx : l[k] = x at ca cb
      have HX := Lib.hid hx
      by_cases he : (x.2 == no) = true
      · have hres : Hid (R = .tuple #[.string (bs x.1), .bool true]) := by
          show _ = _
          rw [HR.out, find_take l no k hkl ha.out (by rw [hx]; exact he), hx]
        clear hx
        go_wp2_with fail
        go_ret2
        exact Ret.mk (by rw [hres.out]; rfl) (hE.alloc _)
      · have he2 : (x.2 == no) = false := by simpa using he
        have ha2 : Hid (∀ y ∈ l.take (k + 1), (y.2 == no) = false) := by
          show ∀ y ∈ l.take (k + 1), (y.2 == no) = false
          intro y hy
          rw [List.take_succ_eq_append_getElem hkl, List.mem_append] at hy
          rcases hy with hy | hy
          · exact ha.out y hy
          · rw [List.mem_singleton.1 hy, hx]; exact he2
        clear hx he
        go_wp2_with fail
        go_roundw
        case rel => exact ⟨k + 1, by omega, by go_num, ha2, hE.alloc _⟩
        case measure => simp [intOf]; omega
    · have hkn : k = n := by omega
      have hres : Hid (R = .tuple #[.string (bs []), .bool false]) := by
        show _ = _
        have hno : nameOf l no = none := by
          unfold nameOf
          rw [List.find?_eq_none]
          intro x hx
          have := ha.out x (by rw [hkn, HN.out, List.take_length]; exact hx)
          rw [this]; decide
        rw [HR.out, hno]
      clear hkn
      go_wp2_with fail
      go_ret2
      exact Ret.mk (by rw [hres.out]; rfl) hE
end Go.Proofs.Ytneideokodhciaa
