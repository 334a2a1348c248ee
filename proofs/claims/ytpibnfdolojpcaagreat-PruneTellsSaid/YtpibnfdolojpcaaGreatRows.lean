/-
  No cell of these rows narrows 'for every input' (looked for: loops, veiled, ifaces, maps, wideKeys, modest, calm, conditions, laid).
  DERIVED. THE GIVEN ROWS OF THIS SEAT. 7 by the template 'for every input the law returns true; each argument reads behind the call as it read before'; 0 by the template 'total and deterministic' (their statements: YtpibnfdolojpcaaGreatTotals.lean).
  GIVEN WITH THE SEED: the statements are not yours to turn. If you find one false, say at which input.
  Laid BY PROGRAM, IN A SANDBOX (cutbox-rows.mjs): the forced cells as the released guide's own fill.sh prints them over the translation 577192521af97d05… (all of the seat's roots in one cut). By AI agents, Wed Nov 11 2026. No macro, syntax, notation, axiom, sorry.
-/
import Derived.Test.YtpibnfdolojpcaaGreatChecked
import GoSem.Claim
import GoSem.ClaimJoined
import GoSem.ClaimMapViews
import Derived.JoinedTies
import Derived.KernelRfl
namespace Go.Proofs.YtpibnfdolojpcaaGreat
/- THE CELL 'sum', in the pinned program and in every row, IS THE sha256 OF THE DUMP (.gsa) THAT YtpibnfdolojpcaaGreatProg.lean LOADS. Nothing in Lean hashes anything: it is a label: what it is worth is what the hold of that sum in a sandbox is worth. -/
noncomputable def Tryz.pinned : Pinned := { name := "ytpibnfdolojpcaagreat", sum := "577192521af97d05750301c15dadc29b5b59f9b0d3d15ea4758b63644b3ea859", checked := Tryz.checked }
namespace Rows
def none {H : Type} : Left H := { results := [], args := [] }

/-- 'ragpickerlaw24.WalkOnce': WHATEVER THE INPUT: true; the input reads as it did. -/
def walkOnceSpec : ChangeSpec := { name := "walkOnce", fn := fun _ => fun
  | [d] => { results := [.lit (.bool true)], args := [d] }
  | _ => none }
def walkOnceRow : OpenClaim := { program := "ytpibnfdolojpcaagreat", sum := "577192521af97d05750301c15dadc29b5b59f9b0d3d15ea4758b63644b3ea859", func := "ragpicker/ragpickerlaw24.WalkOnce", spec := "walkOnce", inPlace := ["internal/bytealg.IndexByteString", "internal/bytealg.IndexString", "slices.overlaps[ragpicker/api.Ent]"], unfollowed := true, recurses := true, named := ["internal/bytealg.MaxLen"], apart := false }
def WalkOnceSaid : Prop := walkOnceRow.holds Tryz.pinned (OpenSpec.ofChange walkOnceSpec)

/-- ITS FALSE NEIGHBOUR: 'it returns false'. Refute it at one input. -/
def walkOnceWrong : ChangeSpec := { name := "walkOnce", fn := fun _ => fun
  | [d] => { results := [.lit (.bool false)], args := [d] }
  | _ => none }
def WalkOnceWrongFalsely : Prop := walkOnceRow.holds Tryz.pinned (OpenSpec.ofChange walkOnceWrong)

/-- 'ragpickerlaw24.WalkTells': WHATEVER THE INPUT: true; the input reads as it did. -/
def walkTellsSpec : ChangeSpec := { name := "walkTells", fn := fun _ => fun
  | [d1, d2] => { results := [.lit (.bool true)], args := [d1, d2] }
  | _ => none }
def walkTellsRow : OpenClaim := { program := "ytpibnfdolojpcaagreat", sum := "577192521af97d05750301c15dadc29b5b59f9b0d3d15ea4758b63644b3ea859", func := "ragpicker/ragpickerlaw24.WalkTells", spec := "walkTells", inPlace := ["internal/bytealg.IndexByteString", "internal/bytealg.IndexString", "slices.overlaps[ragpicker/api.Ent]"], unfollowed := true, recurses := true, named := ["internal/bytealg.MaxLen"], apart := false }
def WalkTellsSaid : Prop := walkTellsRow.holds Tryz.pinned (OpenSpec.ofChange walkTellsSpec)

/-- ITS FALSE NEIGHBOUR: 'it returns false'. Refute it at one input. -/
def walkTellsWrong : ChangeSpec := { name := "walkTells", fn := fun _ => fun
  | [d1, d2] => { results := [.lit (.bool false)], args := [d1, d2] }
  | _ => none }
def WalkTellsWrongFalsely : Prop := walkTellsRow.holds Tryz.pinned (OpenSpec.ofChange walkTellsWrong)

/-- 'ragpickerlaw25.WeighTop': WHATEVER THE INPUT: true; the input reads as it did. -/
def weighTopSpec : ChangeSpec := { name := "weighTop", fn := fun _ => fun
  | [d] => { results := [.lit (.bool true)], args := [d] }
  | _ => none }
def weighTopRow : OpenClaim := { program := "ytpibnfdolojpcaagreat", sum := "577192521af97d05750301c15dadc29b5b59f9b0d3d15ea4758b63644b3ea859", func := "ragpicker/ragpickerlaw25.WeighTop", spec := "weighTop", inPlace := ["internal/bytealg.IndexByteString", "internal/bytealg.IndexString", "slices.overlaps[ragpicker/api.Ent]"], unfollowed := true, recurses := true, named := ["internal/bytealg.MaxLen"], apart := false }
def WeighTopSaid : Prop := weighTopRow.holds Tryz.pinned (OpenSpec.ofChange weighTopSpec)

/-- ITS FALSE NEIGHBOUR: 'it returns false'. Refute it at one input. -/
def weighTopWrong : ChangeSpec := { name := "weighTop", fn := fun _ => fun
  | [d] => { results := [.lit (.bool false)], args := [d] }
  | _ => none }
def WeighTopWrongFalsely : Prop := weighTopRow.holds Tryz.pinned (OpenSpec.ofChange weighTopWrong)

/-- 'ragpickerlaw25.WeighTells': WHATEVER THE INPUT: true; the input reads as it did. -/
def weighTellsSpec : ChangeSpec := { name := "weighTells", fn := fun _ => fun
  | [d] => { results := [.lit (.bool true)], args := [d] }
  | _ => none }
def weighTellsRow : OpenClaim := { program := "ytpibnfdolojpcaagreat", sum := "577192521af97d05750301c15dadc29b5b59f9b0d3d15ea4758b63644b3ea859", func := "ragpicker/ragpickerlaw25.WeighTells", spec := "weighTells", inPlace := ["internal/bytealg.IndexByteString", "internal/bytealg.IndexString", "slices.overlaps[ragpicker/api.Ent]", "internal/abi.NoEscape"], unfollowed := true, recurses := true, named := ["internal/bytealg.MaxLen"], apart := false }
def WeighTellsSaid : Prop := weighTellsRow.holds Tryz.pinned (OpenSpec.ofChange weighTellsSpec)

/-- ITS FALSE NEIGHBOUR: 'it returns false'. Refute it at one input. -/
def weighTellsWrong : ChangeSpec := { name := "weighTells", fn := fun _ => fun
  | [d] => { results := [.lit (.bool false)], args := [d] }
  | _ => none }
def WeighTellsWrongFalsely : Prop := weighTellsRow.holds Tryz.pinned (OpenSpec.ofChange weighTellsWrong)

/-- 'ragpickerlaw27.PruneGone': WHATEVER THE INPUT: true; the input reads as it did. -/
def pruneGoneSpec : ChangeSpec := { name := "pruneGone", fn := fun _ => fun
  | [d] => { results := [.lit (.bool true)], args := [d] }
  | _ => none }
def pruneGoneRow : OpenClaim := { program := "ytpibnfdolojpcaagreat", sum := "577192521af97d05750301c15dadc29b5b59f9b0d3d15ea4758b63644b3ea859", func := "ragpicker/ragpickerlaw27.PruneGone", spec := "pruneGone", inPlace := ["internal/bytealg.IndexByteString", "internal/bytealg.IndexString", "slices.overlaps[ragpicker/api.Ent]"], unfollowed := true, recurses := true, named := ["internal/bytealg.MaxLen"], apart := false }
def PruneGoneSaid : Prop := pruneGoneRow.holds Tryz.pinned (OpenSpec.ofChange pruneGoneSpec)

/-- ITS FALSE NEIGHBOUR: 'it returns false'. Refute it at one input. -/
def pruneGoneWrong : ChangeSpec := { name := "pruneGone", fn := fun _ => fun
  | [d] => { results := [.lit (.bool false)], args := [d] }
  | _ => none }
def PruneGoneWrongFalsely : Prop := pruneGoneRow.holds Tryz.pinned (OpenSpec.ofChange pruneGoneWrong)

/-- 'ragpickerlaw27.PruneOwn': WHATEVER THE INPUT: true; the input reads as it did. -/
def pruneOwnSpec : ChangeSpec := { name := "pruneOwn", fn := fun _ => fun
  | [d] => { results := [.lit (.bool true)], args := [d] }
  | _ => none }
def pruneOwnRow : OpenClaim := { program := "ytpibnfdolojpcaagreat", sum := "577192521af97d05750301c15dadc29b5b59f9b0d3d15ea4758b63644b3ea859", func := "ragpicker/ragpickerlaw27.PruneOwn", spec := "pruneOwn", inPlace := ["internal/bytealg.IndexByteString", "internal/bytealg.IndexString", "slices.overlaps[ragpicker/api.Ent]"], unfollowed := true, recurses := true, named := ["internal/bytealg.MaxLen"], apart := false }
def PruneOwnSaid : Prop := pruneOwnRow.holds Tryz.pinned (OpenSpec.ofChange pruneOwnSpec)

/-- ITS FALSE NEIGHBOUR: 'it returns false'. Refute it at one input. -/
def pruneOwnWrong : ChangeSpec := { name := "pruneOwn", fn := fun _ => fun
  | [d] => { results := [.lit (.bool false)], args := [d] }
  | _ => none }
def PruneOwnWrongFalsely : Prop := pruneOwnRow.holds Tryz.pinned (OpenSpec.ofChange pruneOwnWrong)

/-- 'ragpickerlaw27.PruneTells': WHATEVER THE INPUT: true; the input reads as it did. -/
def pruneTellsSpec : ChangeSpec := { name := "pruneTells", fn := fun _ => fun
  | [d] => { results := [.lit (.bool true)], args := [d] }
  | _ => none }
def pruneTellsRow : OpenClaim := { program := "ytpibnfdolojpcaagreat", sum := "577192521af97d05750301c15dadc29b5b59f9b0d3d15ea4758b63644b3ea859", func := "ragpicker/ragpickerlaw27.PruneTells", spec := "pruneTells", inPlace := ["internal/bytealg.IndexByteString", "internal/bytealg.IndexString", "slices.overlaps[ragpicker/api.Ent]", "internal/abi.NoEscape"], unfollowed := true, recurses := true, named := ["internal/bytealg.MaxLen"], apart := false }
def PruneTellsSaid : Prop := pruneTellsRow.holds Tryz.pinned (OpenSpec.ofChange pruneTellsSpec)

/-- ITS FALSE NEIGHBOUR: 'it returns false'. Refute it at one input. -/
def pruneTellsWrong : ChangeSpec := { name := "pruneTells", fn := fun _ => fun
  | [d] => { results := [.lit (.bool false)], args := [d] }
  | _ => none }
def PruneTellsWrongFalsely : Prop := pruneTellsRow.holds Tryz.pinned (OpenSpec.ofChange pruneTellsWrong)

/- THE SECOND FORM. 'bulk': how many values and letters a reading holds, each counted each time it is reached (what is shared counts as often as it is met; a slice's spare places count too). A statement '..UptoSaid' is the law's where the arguments, and the package variables that the reading takes, are together of bulk at most 1048576: NARROWER than '..Said'. Prove '..Said' where nothing that the law and all that it calls make is longer than what came in: it says more and counts as full. Else prove '..UptoSaid'. A law counts once. -/
mutual
def uptoBulk {H : Type} : DataW H → Nat
  | .lit (.string bytes) => bytes.length + 1
  | .lit _ => 1
  | .nil => 1
  | .ptr d => uptoBulk d + 1
  | .slice elems spare => uptoBulkAll elems + uptoBulkAll spare + 1
  | .agg parts => uptoBulkAll parts + 1
  | .iface _ d => uptoBulk d + 1
  | .map entries => uptoBulkEntries entries + 1
  | .held _ => 1
def uptoBulkAll {H : Type} : List (DataW H) → Nat
  | [] => 0
  | d :: r => uptoBulk d + uptoBulkAll r
def uptoBulkEntries {H : Type} : List (Lit × DataW H) → Nat
  | [] => 0
  | x :: r => uptoBulkEntry x + uptoBulkEntries r
def uptoBulkEntry {H : Type} : Lit × DataW H → Nat
  | (.string bytes, d) => bytes.length + uptoBulk d + 1
  | (_, d) => uptoBulk d + 1
 end
def uptoSmall : (H : Type) → List (DataW H) → Bool := fun _ ds => decide (uptoBulkAll ds ≤ 1048576)
def OpenSpec.upto (s : _root_.Go.ChangeSpec) : _root_.Go.OpenSpec := { _root_.Go.OpenSpec.ofChange s with cond := some uptoSmall }

/-- 'ragpickerlaw24.WalkOnce', WHERE WHAT IT READS IS OF BULK AT MOST 1048576: true; the input reads as it did. -/
def walkOnceUptoRow : OpenClaim := { program := "ytpibnfdolojpcaagreat", sum := "577192521af97d05750301c15dadc29b5b59f9b0d3d15ea4758b63644b3ea859", func := "ragpicker/ragpickerlaw24.WalkOnce", spec := "walkOnce", inPlace := ["internal/bytealg.IndexByteString", "internal/bytealg.IndexString", "slices.overlaps[ragpicker/api.Ent]"], unfollowed := true, recurses := true, named := ["internal/bytealg.MaxLen"], apart := false, narrowed := true }
def WalkOnceUptoSaid : Prop := walkOnceUptoRow.holds Tryz.pinned (OpenSpec.upto walkOnceSpec)

/-- 'ragpickerlaw24.WalkTells', WHERE WHAT IT READS IS OF BULK AT MOST 1048576: true; the input reads as it did. -/
def walkTellsUptoRow : OpenClaim := { program := "ytpibnfdolojpcaagreat", sum := "577192521af97d05750301c15dadc29b5b59f9b0d3d15ea4758b63644b3ea859", func := "ragpicker/ragpickerlaw24.WalkTells", spec := "walkTells", inPlace := ["internal/bytealg.IndexByteString", "internal/bytealg.IndexString", "slices.overlaps[ragpicker/api.Ent]"], unfollowed := true, recurses := true, named := ["internal/bytealg.MaxLen"], apart := false, narrowed := true }
def WalkTellsUptoSaid : Prop := walkTellsUptoRow.holds Tryz.pinned (OpenSpec.upto walkTellsSpec)

/-- 'ragpickerlaw25.WeighTop', WHERE WHAT IT READS IS OF BULK AT MOST 1048576: true; the input reads as it did. -/
def weighTopUptoRow : OpenClaim := { program := "ytpibnfdolojpcaagreat", sum := "577192521af97d05750301c15dadc29b5b59f9b0d3d15ea4758b63644b3ea859", func := "ragpicker/ragpickerlaw25.WeighTop", spec := "weighTop", inPlace := ["internal/bytealg.IndexByteString", "internal/bytealg.IndexString", "slices.overlaps[ragpicker/api.Ent]"], unfollowed := true, recurses := true, named := ["internal/bytealg.MaxLen"], apart := false, narrowed := true }
def WeighTopUptoSaid : Prop := weighTopUptoRow.holds Tryz.pinned (OpenSpec.upto weighTopSpec)

/-- 'ragpickerlaw25.WeighTells', WHERE WHAT IT READS IS OF BULK AT MOST 1048576: true; the input reads as it did. -/
def weighTellsUptoRow : OpenClaim := { program := "ytpibnfdolojpcaagreat", sum := "577192521af97d05750301c15dadc29b5b59f9b0d3d15ea4758b63644b3ea859", func := "ragpicker/ragpickerlaw25.WeighTells", spec := "weighTells", inPlace := ["internal/bytealg.IndexByteString", "internal/bytealg.IndexString", "slices.overlaps[ragpicker/api.Ent]", "internal/abi.NoEscape"], unfollowed := true, recurses := true, named := ["internal/bytealg.MaxLen"], apart := false, narrowed := true }
def WeighTellsUptoSaid : Prop := weighTellsUptoRow.holds Tryz.pinned (OpenSpec.upto weighTellsSpec)

/-- 'ragpickerlaw27.PruneGone', WHERE WHAT IT READS IS OF BULK AT MOST 1048576: true; the input reads as it did. -/
def pruneGoneUptoRow : OpenClaim := { program := "ytpibnfdolojpcaagreat", sum := "577192521af97d05750301c15dadc29b5b59f9b0d3d15ea4758b63644b3ea859", func := "ragpicker/ragpickerlaw27.PruneGone", spec := "pruneGone", inPlace := ["internal/bytealg.IndexByteString", "internal/bytealg.IndexString", "slices.overlaps[ragpicker/api.Ent]"], unfollowed := true, recurses := true, named := ["internal/bytealg.MaxLen"], apart := false, narrowed := true }
def PruneGoneUptoSaid : Prop := pruneGoneUptoRow.holds Tryz.pinned (OpenSpec.upto pruneGoneSpec)

/-- 'ragpickerlaw27.PruneOwn', WHERE WHAT IT READS IS OF BULK AT MOST 1048576: true; the input reads as it did. -/
def pruneOwnUptoRow : OpenClaim := { program := "ytpibnfdolojpcaagreat", sum := "577192521af97d05750301c15dadc29b5b59f9b0d3d15ea4758b63644b3ea859", func := "ragpicker/ragpickerlaw27.PruneOwn", spec := "pruneOwn", inPlace := ["internal/bytealg.IndexByteString", "internal/bytealg.IndexString", "slices.overlaps[ragpicker/api.Ent]"], unfollowed := true, recurses := true, named := ["internal/bytealg.MaxLen"], apart := false, narrowed := true }
def PruneOwnUptoSaid : Prop := pruneOwnUptoRow.holds Tryz.pinned (OpenSpec.upto pruneOwnSpec)

/-- 'ragpickerlaw27.PruneTells', WHERE WHAT IT READS IS OF BULK AT MOST 1048576: true; the input reads as it did. -/
def pruneTellsUptoRow : OpenClaim := { program := "ytpibnfdolojpcaagreat", sum := "577192521af97d05750301c15dadc29b5b59f9b0d3d15ea4758b63644b3ea859", func := "ragpicker/ragpickerlaw27.PruneTells", spec := "pruneTells", inPlace := ["internal/bytealg.IndexByteString", "internal/bytealg.IndexString", "slices.overlaps[ragpicker/api.Ent]", "internal/abi.NoEscape"], unfollowed := true, recurses := true, named := ["internal/bytealg.MaxLen"], apart := false, narrowed := true }
def PruneTellsUptoSaid : Prop := pruneTellsUptoRow.holds Tryz.pinned (OpenSpec.upto pruneTellsSpec)

end Rows
end Go.Proofs.YtpibnfdolojpcaaGreat
