/-
  No cell of these rows narrows 'for every input' (looked for: loops, veiled, ifaces, maps, wideKeys, modest, calm, conditions, laid).
  DERIVED. THE GIVEN ROWS OF THIS SEAT. 5 by the template 'for every input the law returns true; each argument reads behind the call as it read before'; 0 by the template 'total and deterministic' (their statements: YtebghednhjaniaaGreatTotals.lean).
  GIVEN WITH THE SEED: the statements are not yours to turn. If you find one false, say at which input.
  Laid BY PROGRAM, IN A SANDBOX (cutbox-rows.mjs): the forced cells as the released guide's own fill.sh prints them over the translation 93d10b83c90620aa… (all of the seat's roots in one cut). By AI agents, Wed Nov 11 2026. No macro, syntax, notation, axiom, sorry.
-/
import Derived.Test.YtebghednhjaniaaGreatChecked
import GoSem.Claim
import GoSem.ClaimJoined
import GoSem.ClaimMapViews
import Derived.JoinedTies
import Derived.KernelRfl
namespace Go.Proofs.YtebghednhjaniaaGreat
/- THE CELL 'sum', in the pinned program and in every row, IS THE sha256 OF THE DUMP (.gsa) THAT YtebghednhjaniaaGreatProg.lean LOADS. Nothing in Lean hashes anything: it is a label: what it is worth is what the hold of that sum in a sandbox is worth. -/
noncomputable def Tryz.pinned : Pinned := { name := "ytebghednhjaniaagreat", sum := "93d10b83c90620aae544587107417d65edb1b13a7e5819507865b5c059ff451f", checked := Tryz.checked }
namespace Rows
def none {H : Type} : Left H := { results := [], args := [] }

/-- 'ragpickerlaw17.BringPlays': WHATEVER THE INPUT: true; the input reads as it did. -/
def bringPlaysSpec : ChangeSpec := { name := "bringPlays", fn := fun _ => fun
  | [d1, d2, d3] => { results := [.lit (.bool true)], args := [d1, d2, d3] }
  | _ => none }
def bringPlaysRow : OpenClaim := { program := "ytebghednhjaniaagreat", sum := "93d10b83c90620aae544587107417d65edb1b13a7e5819507865b5c059ff451f", func := "ragpicker/ragpickerlaw17.BringPlays", spec := "bringPlays", inPlace := ["internal/bytealg.IndexByteString", "internal/bytealg.IndexString", "slices.overlaps[ragpicker/api.Ent]", "internal/abi.NoEscape"], unfollowed := true, recurses := true, named := ["internal/bytealg.MaxLen"], apart := false }
def BringPlaysSaid : Prop := bringPlaysRow.holds Tryz.pinned (OpenSpec.ofChange bringPlaysSpec)

/-- ITS FALSE NEIGHBOUR: 'it returns false'. Refute it at one input. -/
def bringPlaysWrong : ChangeSpec := { name := "bringPlays", fn := fun _ => fun
  | [d1, d2, d3] => { results := [.lit (.bool false)], args := [d1, d2, d3] }
  | _ => none }
def BringPlaysWrongFalsely : Prop := bringPlaysRow.holds Tryz.pinned (OpenSpec.ofChange bringPlaysWrong)

/-- 'ragpickerlaw18.DropPlays': WHATEVER THE INPUT: true; the input reads as it did. -/
def dropPlaysSpec : ChangeSpec := { name := "dropPlays", fn := fun _ => fun
  | [d1, d2] => { results := [.lit (.bool true)], args := [d1, d2] }
  | _ => none }
def dropPlaysRow : OpenClaim := { program := "ytebghednhjaniaagreat", sum := "93d10b83c90620aae544587107417d65edb1b13a7e5819507865b5c059ff451f", func := "ragpicker/ragpickerlaw18.DropPlays", spec := "dropPlays", inPlace := ["internal/bytealg.IndexByteString", "internal/bytealg.IndexString", "slices.overlaps[ragpicker/api.Ent]", "internal/abi.NoEscape"], unfollowed := true, recurses := true, named := ["internal/bytealg.MaxLen"], apart := false }
def DropPlaysSaid : Prop := dropPlaysRow.holds Tryz.pinned (OpenSpec.ofChange dropPlaysSpec)

/-- ITS FALSE NEIGHBOUR: 'it returns false'. Refute it at one input. -/
def dropPlaysWrong : ChangeSpec := { name := "dropPlays", fn := fun _ => fun
  | [d1, d2] => { results := [.lit (.bool false)], args := [d1, d2] }
  | _ => none }
def DropPlaysWrongFalsely : Prop := dropPlaysRow.holds Tryz.pinned (OpenSpec.ofChange dropPlaysWrong)

/-- 'ragpickerlaw18.DropSticky': WHATEVER THE INPUT: true; the input reads as it did. -/
def dropStickySpec : ChangeSpec := { name := "dropSticky", fn := fun _ => fun
  | [d1, d2] => { results := [.lit (.bool true)], args := [d1, d2] }
  | _ => none }
def dropStickyRow : OpenClaim := { program := "ytebghednhjaniaagreat", sum := "93d10b83c90620aae544587107417d65edb1b13a7e5819507865b5c059ff451f", func := "ragpicker/ragpickerlaw18.DropSticky", spec := "dropSticky", inPlace := ["internal/bytealg.IndexByteString", "internal/bytealg.IndexString", "slices.overlaps[ragpicker/api.Ent]", "internal/abi.NoEscape"], unfollowed := true, recurses := true, named := ["internal/bytealg.MaxLen"], apart := false }
def DropStickySaid : Prop := dropStickyRow.holds Tryz.pinned (OpenSpec.ofChange dropStickySpec)

/-- ITS FALSE NEIGHBOUR: 'it returns false'. Refute it at one input. -/
def dropStickyWrong : ChangeSpec := { name := "dropSticky", fn := fun _ => fun
  | [d1, d2] => { results := [.lit (.bool false)], args := [d1, d2] }
  | _ => none }
def DropStickyWrongFalsely : Prop := dropStickyRow.holds Tryz.pinned (OpenSpec.ofChange dropStickyWrong)

/-- 'ragpickerlaw19.RenamePlays': WHATEVER THE INPUT: true; the input reads as it did. -/
def renamePlaysSpec : ChangeSpec := { name := "renamePlays", fn := fun _ => fun
  | [d1, d2] => { results := [.lit (.bool true)], args := [d1, d2] }
  | _ => none }
def renamePlaysRow : OpenClaim := { program := "ytebghednhjaniaagreat", sum := "93d10b83c90620aae544587107417d65edb1b13a7e5819507865b5c059ff451f", func := "ragpicker/ragpickerlaw19.RenamePlays", spec := "renamePlays", inPlace := ["internal/bytealg.IndexByteString", "internal/bytealg.IndexString", "slices.overlaps[ragpicker/api.Ent]", "internal/abi.NoEscape"], unfollowed := true, recurses := true, named := ["internal/bytealg.MaxLen"], apart := false }
def RenamePlaysSaid : Prop := renamePlaysRow.holds Tryz.pinned (OpenSpec.ofChange renamePlaysSpec)

/-- ITS FALSE NEIGHBOUR: 'it returns false'. Refute it at one input. -/
def renamePlaysWrong : ChangeSpec := { name := "renamePlays", fn := fun _ => fun
  | [d1, d2] => { results := [.lit (.bool false)], args := [d1, d2] }
  | _ => none }
def RenamePlaysWrongFalsely : Prop := renamePlaysRow.holds Tryz.pinned (OpenSpec.ofChange renamePlaysWrong)

/-- 'ragpickerlaw21.SysFails': WHATEVER THE INPUT: true; the input reads as it did. -/
def sysFailsSpec : ChangeSpec := { name := "sysFails", fn := fun _ => fun
  | [d1, d2, d3] => { results := [.lit (.bool true)], args := [d1, d2, d3] }
  | _ => none }
def sysFailsRow : OpenClaim := { program := "ytebghednhjaniaagreat", sum := "93d10b83c90620aae544587107417d65edb1b13a7e5819507865b5c059ff451f", func := "ragpicker/ragpickerlaw21.SysFails", spec := "sysFails", inPlace := ["internal/bytealg.IndexByteString", "internal/bytealg.IndexString", "slices.overlaps[ragpicker/api.Ent]", "internal/abi.NoEscape"], unfollowed := true, recurses := true, named := ["internal/bytealg.MaxLen"], apart := false }
def SysFailsSaid : Prop := sysFailsRow.holds Tryz.pinned (OpenSpec.ofChange sysFailsSpec)

/-- ITS FALSE NEIGHBOUR: 'it returns false'. Refute it at one input. -/
def sysFailsWrong : ChangeSpec := { name := "sysFails", fn := fun _ => fun
  | [d1, d2, d3] => { results := [.lit (.bool false)], args := [d1, d2, d3] }
  | _ => none }
def SysFailsWrongFalsely : Prop := sysFailsRow.holds Tryz.pinned (OpenSpec.ofChange sysFailsWrong)

/- THE SECOND FORM. 'bulk': how many values and letters a reading holds, each counted each time it is reached (what is shared counts as often as it is met; a slice's spare places count too). A statement '..UptoSaid' is the law's where the arguments, and the package variables that the reading takes, are together of bulk at most 1048576: NARROWER than '..Said'. Prove '..Said' where nothing that the law and all that it calls make is longer than what came in: it says more and counts as full. Else prove '..UptoSaid'. A law counts once. -/
mutual
def uptoBulk {H : Type} : DataW H → Nat
  | .lit (.string bytes) => bytes.length + 1
  | .lit _ => 1
  | .nil => 1
  | .ptr d => uptoBulk d + 1
  | .slice elems spare => uptoBulkAll elems + uptoBulkAll spare + 1
  | .agg parts => uptoBulkAll parts + 1
  | .iface _ d => uptoBulk d + 1
  | .map entries => uptoBulkEntries entries + 1
  | .held _ => 1
def uptoBulkAll {H : Type} : List (DataW H) → Nat
  | [] => 0
  | d :: r => uptoBulk d + uptoBulkAll r
def uptoBulkEntries {H : Type} : List (Lit × DataW H) → Nat
  | [] => 0
  | x :: r => uptoBulkEntry x + uptoBulkEntries r
def uptoBulkEntry {H : Type} : Lit × DataW H → Nat
  | (.string bytes, d) => bytes.length + uptoBulk d + 1
  | (_, d) => uptoBulk d + 1
 end
def uptoSmall : (H : Type) → List (DataW H) → Bool := fun _ ds => decide (uptoBulkAll ds ≤ 1048576)
def OpenSpec.upto (s : _root_.Go.ChangeSpec) : _root_.Go.OpenSpec := { _root_.Go.OpenSpec.ofChange s with cond := some uptoSmall }

/-- 'ragpickerlaw17.BringPlays', WHERE WHAT IT READS IS OF BULK AT MOST 1048576: true; the input reads as it did. -/
def bringPlaysUptoRow : OpenClaim := { program := "ytebghednhjaniaagreat", sum := "93d10b83c90620aae544587107417d65edb1b13a7e5819507865b5c059ff451f", func := "ragpicker/ragpickerlaw17.BringPlays", spec := "bringPlays", inPlace := ["internal/bytealg.IndexByteString", "internal/bytealg.IndexString", "slices.overlaps[ragpicker/api.Ent]", "internal/abi.NoEscape"], unfollowed := true, recurses := true, named := ["internal/bytealg.MaxLen"], apart := false, narrowed := true }
def BringPlaysUptoSaid : Prop := bringPlaysUptoRow.holds Tryz.pinned (OpenSpec.upto bringPlaysSpec)

/-- 'ragpickerlaw18.DropPlays', WHERE WHAT IT READS IS OF BULK AT MOST 1048576: true; the input reads as it did. -/
def dropPlaysUptoRow : OpenClaim := { program := "ytebghednhjaniaagreat", sum := "93d10b83c90620aae544587107417d65edb1b13a7e5819507865b5c059ff451f", func := "ragpicker/ragpickerlaw18.DropPlays", spec := "dropPlays", inPlace := ["internal/bytealg.IndexByteString", "internal/bytealg.IndexString", "slices.overlaps[ragpicker/api.Ent]", "internal/abi.NoEscape"], unfollowed := true, recurses := true, named := ["internal/bytealg.MaxLen"], apart := false, narrowed := true }
def DropPlaysUptoSaid : Prop := dropPlaysUptoRow.holds Tryz.pinned (OpenSpec.upto dropPlaysSpec)

/-- 'ragpickerlaw18.DropSticky', WHERE WHAT IT READS IS OF BULK AT MOST 1048576: true; the input reads as it did. -/
def dropStickyUptoRow : OpenClaim := { program := "ytebghednhjaniaagreat", sum := "93d10b83c90620aae544587107417d65edb1b13a7e5819507865b5c059ff451f", func := "ragpicker/ragpickerlaw18.DropSticky", spec := "dropSticky", inPlace := ["internal/bytealg.IndexByteString", "internal/bytealg.IndexString", "slices.overlaps[ragpicker/api.Ent]", "internal/abi.NoEscape"], unfollowed := true, recurses := true, named := ["internal/bytealg.MaxLen"], apart := false, narrowed := true }
def DropStickyUptoSaid : Prop := dropStickyUptoRow.holds Tryz.pinned (OpenSpec.upto dropStickySpec)

/-- 'ragpickerlaw19.RenamePlays', WHERE WHAT IT READS IS OF BULK AT MOST 1048576: true; the input reads as it did. -/
def renamePlaysUptoRow : OpenClaim := { program := "ytebghednhjaniaagreat", sum := "93d10b83c90620aae544587107417d65edb1b13a7e5819507865b5c059ff451f", func := "ragpicker/ragpickerlaw19.RenamePlays", spec := "renamePlays", inPlace := ["internal/bytealg.IndexByteString", "internal/bytealg.IndexString", "slices.overlaps[ragpicker/api.Ent]", "internal/abi.NoEscape"], unfollowed := true, recurses := true, named := ["internal/bytealg.MaxLen"], apart := false, narrowed := true }
def RenamePlaysUptoSaid : Prop := renamePlaysUptoRow.holds Tryz.pinned (OpenSpec.upto renamePlaysSpec)

/-- 'ragpickerlaw21.SysFails', WHERE WHAT IT READS IS OF BULK AT MOST 1048576: true; the input reads as it did. -/
def sysFailsUptoRow : OpenClaim := { program := "ytebghednhjaniaagreat", sum := "93d10b83c90620aae544587107417d65edb1b13a7e5819507865b5c059ff451f", func := "ragpicker/ragpickerlaw21.SysFails", spec := "sysFails", inPlace := ["internal/bytealg.IndexByteString", "internal/bytealg.IndexString", "slices.overlaps[ragpicker/api.Ent]", "internal/abi.NoEscape"], unfollowed := true, recurses := true, named := ["internal/bytealg.MaxLen"], apart := false, narrowed := true }
def SysFailsUptoSaid : Prop := sysFailsUptoRow.holds Tryz.pinned (OpenSpec.upto sysFailsSpec)

end Rows
end Go.Proofs.YtebghednhjaniaaGreat
