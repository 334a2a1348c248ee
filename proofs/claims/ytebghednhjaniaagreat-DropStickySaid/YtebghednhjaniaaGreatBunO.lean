/- Plain: what is left where a node goes. -/
import Derived.Test.YtebghednhjaniaaGreatBunF
namespace Go.Proofs.YtebghednhjaniaaGreat

theorem Live.len {S : TreeD} (h : Live S) (hl : S.last ≤ 1000) : S.nodes.length ≤ 1000 := by have := h.count; omega
theorem Live.kept {S : TreeD} (h : Live S) {no : Int} (hk : killB S no = true) : dropN S.nodes no ≠ [] := by
  obtain ⟨m, hm, e⟩ := h.first
  have h1 := (h.killed hk).2
  intro h0
  have : m ∈ dropN S.nodes no := List.mem_filter.2 ⟨hm, by rw [e]; simpa using Ne.symm h1⟩
  rw [h0] at this; cases this
end Go.Proofs.YtebghednhjaniaaGreat
