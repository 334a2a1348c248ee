/- Layer 6 (info): the law InfoTells: its walk. -/
import Derived.Test.YtanaifobmkjpaaaDoorInfA
namespace Go.Proofs.YtanaifobmkjpaaaDoor
open Go.ChangeShapes Go.WideShapes Go.ChangeAt Go.RowKit

set_option maxRecDepth 100000 in
theorem infoTells_walk {H : Type} {enc : TypeId × Value → H} (W : World) (base : Nat) (v0 v1 v2 : Value) (d0 d1 d2 : DataW H) (p0 p1 p2 : List MemPlace)
    (hs : W.ShapedOpen Tryd.prog)
    (k0 : Value.okWide Tryd.prog W .any base 9 v0) (h0 : DataW.Trod enc Tryd.prog W 0 (fun _ => true) true 9 v0 d0 p0)
    (k1 : Value.okWide Tryd.prog W .any base 3 v1) (h1 : DataW.Trod enc Tryd.prog W 0 (fun _ => true) true 3 v1 d1 p1)
    (k2 : Value.okWide Tryd.prog W .any base 9 v2) (h2 : DataW.Trod enc Tryd.prog W 0 (fun _ => true) true 9 v2 d2 p2)
    : Calls Tryd.prog 6 #[v0, v1, v2] W (Ret W (.bool true)) := by
  obtain ⟨a0, rfl, rfl, rfl, w0⟩ := Go.ChangeMaps.open_string Tryd.underlying9 k0 h0
  obtain ⟨a1, rfl, rfl, rfl, w1⟩ := open_int Tryd.underlying3 k1 h1
  obtain ⟨a2, rfl, rfl, rfl, w2⟩ := Go.ChangeMaps.open_string Tryd.underlying9 k2 h2
  unfold maxLen at w0 w2
  have l0 : a0.data.toList.length ≤ 9223372036854775807 := by
    have : a0.data.toList.length = a0.size := by simp
    omega
  have l2 : a2.data.toList.length ≤ 9223372036854775807 := by
    have : a2.data.toList.length = a2.size := by simp
    omega
  have h := infoTells_any a0.data.toList a2.data.toList a1 W (HasMax.of hs) l0 l2
  rw [bs_self, bs_self] at h
  exact h
end Go.Proofs.YtanaifobmkjpaaaDoor
