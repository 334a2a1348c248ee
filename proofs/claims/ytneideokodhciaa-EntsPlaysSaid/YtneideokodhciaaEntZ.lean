/- Layer 11 (ents): EntsPlays: its arguments opened. -/
import Derived.Test.YtneideokodhciaaEntY
namespace Go.Proofs.Ytneideokodhciaa
open Go.ChangeShapes Go.WideShapes Go.ChangeAt Go.RowKit

set_option maxRecDepth 100000 in
theorem entsPlays_walk {H : Type} {enc : TypeId × Value → H} (W : World) (base : Nat) (v0 v1 v2 : Value) (d0 d1 d2 : DataW H) (p0 p1 p2 : List MemPlace)
    (k0 : Value.okWide Try.prog W .any base 22 v0) (h0 : DataW.Trod enc Try.prog W 0 (fun _ => true) true 22 v0 d0 p0)
    (k1 : Value.okWide Try.prog W .any base 9 v1) (h1 : DataW.Trod enc Try.prog W 0 (fun _ => true) true 9 v1 d1 p1)
    (k2 : Value.okWide Try.prog W .any base 3 v2) (h2 : DataW.Trod enc Try.prog W 0 (fun _ => true) true 3 v2 d2 p2)
    : Calls Try.prog 5 #[v0, v1, v2] W (Ret W (.bool true)) := by
  obtain ⟨A, l, cap, rfl, he, _, hl, hc, _⟩ := open_ents k0 h0
  obtain ⟨a1, rfl, rfl, rfl, w1⟩ := Go.ChangeMaps.open_string Try.underlying9 k1 h1
  obtain ⟨a2, rfl, rfl, rfl, w2⟩ := open_int Try.underlying3 k2 h2
  have hl9 : l.length ≤ 9223372036854775807 := by clear w1 w2 k1 k2 h0 h1 h2; unfold maxLen at hc; omega
  have := entsPlays_core A l cap a1.data.toList a2 W he hl9
  rwa [bs_self] at this
end Go.Proofs.Ytneideokodhciaa
