/- Layer 2 (name): the laws' walks from the row's own arguments. -/
import Derived.Test.YtmppjbimdonfmaaDoorNamN
namespace Go.Proofs.YtmppjbimdonfmaaDoor
open Go.ChangeShapes Go.WideShapes Go.ChangeAt Go.RowKit

set_option maxRecDepth 100000 in
theorem nameTells_walk {H : Type} {enc : TypeId × Value → H} (W : World) (base : Nat) (v0 : Value) (d0 : DataW H) (p0 : List MemPlace)
    (_ : W.ShapedOpen Tryd.prog)
    (k0 : Value.okWide Tryd.prog W .any base 9 v0) (h0 : DataW.Trod enc Tryd.prog W 0 (fun _ => true) true 9 v0 d0 p0)
    : Calls Tryd.prog 3 #[v0] W (Ret W (.bool true)) := by
  obtain ⟨a0, rfl, rfl, rfl, w0⟩ := Go.ChangeMaps.open_string Tryd.underlying9 k0 h0
  obtain ⟨l, rfl⟩ : ∃ l, a0 = bs l := ⟨_, (bs_self a0).symm⟩
  exact nameTells_any l W
set_option maxRecDepth 100000 in
theorem nameParts_walk {H : Type} {enc : TypeId × Value → H} (W : World) (base : Nat) (v0 : Value) (d0 : DataW H) (p0 : List MemPlace)
    (_ : W.ShapedOpen Tryd.prog)
    (k0 : Value.okWide Tryd.prog W .any base 9 v0) (h0 : DataW.Trod enc Tryd.prog W 0 (fun _ => true) true 9 v0 d0 p0)
    : Calls Tryd.prog 4 #[v0] W (Ret W (.bool true)) := by
  obtain ⟨a0, rfl, rfl, rfl, w0⟩ := Go.ChangeMaps.open_string Tryd.underlying9 k0 h0
  obtain ⟨l, rfl⟩ : ∃ l, a0 = bs l := ⟨_, (bs_self a0).symm⟩
  exact nameParts_any l W
set_option maxRecDepth 100000 in
theorem nameStops_walk {H : Type} {enc : TypeId × Value → H} (W : World) (base : Nat) (v0 v1 : Value) (d0 d1 : DataW H) (p0 p1 : List MemPlace)
    (_ : W.ShapedOpen Tryd.prog)
    (k0 : Value.okWide Tryd.prog W .any base 9 v0) (h0 : DataW.Trod enc Tryd.prog W 0 (fun _ => true) true 9 v0 d0 p0)
    (k1 : Value.okWide Tryd.prog W .any base 5 v1) (h1 : DataW.Trod enc Tryd.prog W 0 (fun _ => true) true 5 v1 d1 p1)
    : Calls Tryd.prog 5 #[v0, v1] W (Ret W (.bool true)) := by
  obtain ⟨a0, rfl, rfl, rfl, w0⟩ := Go.ChangeMaps.open_string Tryd.underlying9 k0 h0
  obtain ⟨a1, rfl, rfl, rfl, w1⟩ := open_int Tryd.underlying5 k1 h1
  obtain ⟨l, rfl⟩ : ∃ l, a0 = bs l := ⟨_, (bs_self a0).symm⟩
  have hb : 0 ≤ a1 ∧ a1 ≤ 255 := by have h : IntKind.u8.min ≤ a1 ∧ a1 ≤ IntKind.u8.max := by simpa [Lit.wf] using w1
                                    exact h
  obtain ⟨n, rfl⟩ : ∃ n : Nat, a1 = n := ⟨a1.toNat, by omega⟩
  exact nameStops_any l n (by omega) W
end Go.Proofs.YtmppjbimdonfmaaDoor
