/-
  No cell of these rows narrows 'for every input' (looked for: loops, veiled, ifaces, maps, wideKeys, modest, calm, conditions, laid).
  DERIVED. THE GIVEN ROWS OF THIS SEAT. 14 by the template 'for every input the law returns true; each argument reads behind the call as it read before'; 0 by the template 'total and deterministic' (their statements: YtebghednhjaniaaTotals.lean).
  GIVEN WITH THE SEED: the statements are not yours to turn. If you find one false, say at which input.
  Laid BY PROGRAM, IN A SANDBOX (cutbox-rows.mjs): the forced cells as the released guide's own fill.sh prints them over the translation ff5ffcff01be2ef2… (all of the seat's roots in one cut). By AI agents, Wed Nov 11 2026. No macro, syntax, notation, axiom, sorry.
-/
import Derived.Test.YtebghednhjaniaaChecked
import GoSem.Claim
import GoSem.ClaimJoined
import GoSem.ClaimMapViews
import Derived.JoinedTies
import Derived.KernelRfl
namespace Go.Proofs.Ytebghednhjaniaa
/- THE CELL 'sum', in the pinned program and in every row, IS THE sha256 OF THE DUMP (.gsa) THAT YtebghednhjaniaaProg.lean LOADS. Nothing in Lean hashes anything: it is a label: what it is worth is what the hold of that sum in a sandbox is worth. -/
noncomputable def Try.pinned : Pinned := { name := "ytebghednhjaniaa", sum := "ff5ffcff01be2ef2b1f5b37fe3cd089d8162f68d219f00e9c4083b5b9b4b96f0", checked := Try.checked }
namespace Rows
def none {H : Type} : Left H := { results := [], args := [] }

/-- 'ragpickerlaw14.MountPlays': WHATEVER THE INPUT: true; the input reads as it did. -/
def mountPlaysSpec : ChangeSpec := { name := "mountPlays", fn := fun _ => fun
  | [d1, d2, d3] => { results := [.lit (.bool true)], args := [d1, d2, d3] }
  | _ => none }
def mountPlaysRow : OpenClaim := { program := "ytebghednhjaniaa", sum := "ff5ffcff01be2ef2b1f5b37fe3cd089d8162f68d219f00e9c4083b5b9b4b96f0", func := "ragpicker/ragpickerlaw14.MountPlays", spec := "mountPlays", inPlace := ["internal/abi.NoEscape"], apart := false }
def MountPlaysSaid : Prop := mountPlaysRow.holds Try.pinned (OpenSpec.ofChange mountPlaysSpec)

/-- ITS FALSE NEIGHBOUR: 'it returns false'. Refute it at one input. -/
def mountPlaysWrong : ChangeSpec := { name := "mountPlays", fn := fun _ => fun
  | [d1, d2, d3] => { results := [.lit (.bool false)], args := [d1, d2, d3] }
  | _ => none }
def MountPlaysWrongFalsely : Prop := mountPlaysRow.holds Try.pinned (OpenSpec.ofChange mountPlaysWrong)

/-- 'ragpickerlaw20.AttrPlays': WHATEVER THE INPUT: true; the input reads as it did. -/
def attrPlaysSpec : ChangeSpec := { name := "attrPlays", fn := fun _ => fun
  | [d1, d2] => { results := [.lit (.bool true)], args := [d1, d2] }
  | _ => none }
def attrPlaysRow : OpenClaim := { program := "ytebghednhjaniaa", sum := "ff5ffcff01be2ef2b1f5b37fe3cd089d8162f68d219f00e9c4083b5b9b4b96f0", func := "ragpicker/ragpickerlaw20.AttrPlays", spec := "attrPlays", inPlace := ["internal/abi.NoEscape"], apart := false }
def AttrPlaysSaid : Prop := attrPlaysRow.holds Try.pinned (OpenSpec.ofChange attrPlaysSpec)

/-- ITS FALSE NEIGHBOUR: 'it returns false'. Refute it at one input. -/
def attrPlaysWrong : ChangeSpec := { name := "attrPlays", fn := fun _ => fun
  | [d1, d2] => { results := [.lit (.bool false)], args := [d1, d2] }
  | _ => none }
def AttrPlaysWrongFalsely : Prop := attrPlaysRow.holds Try.pinned (OpenSpec.ofChange attrPlaysWrong)

/-- 'ragpickerlaw16.PeekLooks': WHATEVER THE INPUT: true; the input reads as it did. -/
def peekLooksSpec : ChangeSpec := { name := "peekLooks", fn := fun _ => fun
  | [d1, d2] => { results := [.lit (.bool true)], args := [d1, d2] }
  | _ => none }
def peekLooksRow : OpenClaim := { program := "ytebghednhjaniaa", sum := "ff5ffcff01be2ef2b1f5b37fe3cd089d8162f68d219f00e9c4083b5b9b4b96f0", func := "ragpicker/ragpickerlaw16.PeekLooks", spec := "peekLooks", unfollowed := true, recurses := true, apart := false }
def PeekLooksSaid : Prop := peekLooksRow.holds Try.pinned (OpenSpec.ofChange peekLooksSpec)

/-- ITS FALSE NEIGHBOUR: 'it returns false'. Refute it at one input. -/
def peekLooksWrong : ChangeSpec := { name := "peekLooks", fn := fun _ => fun
  | [d1, d2] => { results := [.lit (.bool false)], args := [d1, d2] }
  | _ => none }
def PeekLooksWrongFalsely : Prop := peekLooksRow.holds Try.pinned (OpenSpec.ofChange peekLooksWrong)

/-- 'ragpickerlaw16.PeekTells': WHATEVER THE INPUT: true; the input reads as it did. -/
def peekTellsSpec : ChangeSpec := { name := "peekTells", fn := fun _ => fun
  | [d1, d2, d3] => { results := [.lit (.bool true)], args := [d1, d2, d3] }
  | _ => none }
def peekTellsRow : OpenClaim := { program := "ytebghednhjaniaa", sum := "ff5ffcff01be2ef2b1f5b37fe3cd089d8162f68d219f00e9c4083b5b9b4b96f0", func := "ragpicker/ragpickerlaw16.PeekTells", spec := "peekTells", unfollowed := true, recurses := true, apart := false }
def PeekTellsSaid : Prop := peekTellsRow.holds Try.pinned (OpenSpec.ofChange peekTellsSpec)

/-- ITS FALSE NEIGHBOUR: 'it returns false'. Refute it at one input. -/
def peekTellsWrong : ChangeSpec := { name := "peekTells", fn := fun _ => fun
  | [d1, d2, d3] => { results := [.lit (.bool false)], args := [d1, d2, d3] }
  | _ => none }
def PeekTellsWrongFalsely : Prop := peekTellsRow.holds Try.pinned (OpenSpec.ofChange peekTellsWrong)

/-- 'ragpickerlaw15.SeekTells': WHATEVER THE INPUT: true; the input reads as it did. -/
def seekTellsSpec : ChangeSpec := { name := "seekTells", fn := fun _ => fun
  | [d1, d2, d3] => { results := [.lit (.bool true)], args := [d1, d2, d3] }
  | _ => none }
def seekTellsRow : OpenClaim := { program := "ytebghednhjaniaa", sum := "ff5ffcff01be2ef2b1f5b37fe3cd089d8162f68d219f00e9c4083b5b9b4b96f0", func := "ragpicker/ragpickerlaw15.SeekTells", spec := "seekTells", inPlace := ["internal/bytealg.IndexByteString", "internal/bytealg.IndexString"], unfollowed := true, recurses := true, named := ["internal/bytealg.MaxLen"], apart := false }
def SeekTellsSaid : Prop := seekTellsRow.holds Try.pinned (OpenSpec.ofChange seekTellsSpec)

/-- ITS FALSE NEIGHBOUR: 'it returns false'. Refute it at one input. -/
def seekTellsWrong : ChangeSpec := { name := "seekTells", fn := fun _ => fun
  | [d1, d2, d3] => { results := [.lit (.bool false)], args := [d1, d2, d3] }
  | _ => none }
def SeekTellsWrongFalsely : Prop := seekTellsRow.holds Try.pinned (OpenSpec.ofChange seekTellsWrong)

/-- 'ragpickerlaw15.SeekFollow': WHATEVER THE INPUT: true; the input reads as it did. -/
def seekFollowSpec : ChangeSpec := { name := "seekFollow", fn := fun _ => fun
  | [d1, d2, d3] => { results := [.lit (.bool true)], args := [d1, d2, d3] }
  | _ => none }
def seekFollowRow : OpenClaim := { program := "ytebghednhjaniaa", sum := "ff5ffcff01be2ef2b1f5b37fe3cd089d8162f68d219f00e9c4083b5b9b4b96f0", func := "ragpicker/ragpickerlaw15.SeekFollow", spec := "seekFollow", inPlace := ["internal/bytealg.IndexByteString", "internal/bytealg.IndexString"], unfollowed := true, recurses := true, named := ["internal/bytealg.MaxLen"], apart := false }
def SeekFollowSaid : Prop := seekFollowRow.holds Try.pinned (OpenSpec.ofChange seekFollowSpec)

/-- ITS FALSE NEIGHBOUR: 'it returns false'. Refute it at one input. -/
def seekFollowWrong : ChangeSpec := { name := "seekFollow", fn := fun _ => fun
  | [d1, d2, d3] => { results := [.lit (.bool false)], args := [d1, d2, d3] }
  | _ => none }
def SeekFollowWrongFalsely : Prop := seekFollowRow.holds Try.pinned (OpenSpec.ofChange seekFollowWrong)

/-- 'ragpickerlaw15.SeekHome': WHATEVER THE INPUT: true; the input reads as it did. -/
def seekHomeSpec : ChangeSpec := { name := "seekHome", fn := fun _ => fun
  | [d] => { results := [.lit (.bool true)], args := [d] }
  | _ => none }
def seekHomeRow : OpenClaim := { program := "ytebghednhjaniaa", sum := "ff5ffcff01be2ef2b1f5b37fe3cd089d8162f68d219f00e9c4083b5b9b4b96f0", func := "ragpicker/ragpickerlaw15.SeekHome", spec := "seekHome", inPlace := ["internal/bytealg.IndexByteString", "internal/bytealg.IndexString", "internal/abi.NoEscape"], unfollowed := true, recurses := true, named := ["internal/bytealg.MaxLen"], apart := false }
def SeekHomeSaid : Prop := seekHomeRow.holds Try.pinned (OpenSpec.ofChange seekHomeSpec)

/-- ITS FALSE NEIGHBOUR: 'it returns false'. Refute it at one input. -/
def seekHomeWrong : ChangeSpec := { name := "seekHome", fn := fun _ => fun
  | [d] => { results := [.lit (.bool false)], args := [d] }
  | _ => none }
def SeekHomeWrongFalsely : Prop := seekHomeRow.holds Try.pinned (OpenSpec.ofChange seekHomeWrong)

/-- 'ragpickerlaw17.BringTouches': WHATEVER THE INPUT: true; the input reads as it did. -/
def bringTouchesSpec : ChangeSpec := { name := "bringTouches", fn := fun _ => fun
  | [d1, d2, d3] => { results := [.lit (.bool true)], args := [d1, d2, d3] }
  | _ => none }
def bringTouchesRow : OpenClaim := { program := "ytebghednhjaniaa", sum := "ff5ffcff01be2ef2b1f5b37fe3cd089d8162f68d219f00e9c4083b5b9b4b96f0", func := "ragpicker/ragpickerlaw17.BringTouches", spec := "bringTouches", inPlace := ["internal/bytealg.IndexByteString", "internal/bytealg.IndexString", "slices.overlaps[ragpicker/api.Ent]"], unfollowed := true, recurses := true, named := ["internal/bytealg.MaxLen"], apart := false }
def BringTouchesSaid : Prop := bringTouchesRow.holds Try.pinned (OpenSpec.ofChange bringTouchesSpec)

/-- ITS FALSE NEIGHBOUR: 'it returns false'. Refute it at one input. -/
def bringTouchesWrong : ChangeSpec := { name := "bringTouches", fn := fun _ => fun
  | [d1, d2, d3] => { results := [.lit (.bool false)], args := [d1, d2, d3] }
  | _ => none }
def BringTouchesWrongFalsely : Prop := bringTouchesRow.holds Try.pinned (OpenSpec.ofChange bringTouchesWrong)

/-- 'ragpickerlaw17.BringThere': WHATEVER THE INPUT: true; the input reads as it did. -/
def bringThereSpec : ChangeSpec := { name := "bringThere", fn := fun _ => fun
  | [d1, d2] => { results := [.lit (.bool true)], args := [d1, d2] }
  | _ => none }
def bringThereRow : OpenClaim := { program := "ytebghednhjaniaa", sum := "ff5ffcff01be2ef2b1f5b37fe3cd089d8162f68d219f00e9c4083b5b9b4b96f0", func := "ragpicker/ragpickerlaw17.BringThere", spec := "bringThere", inPlace := ["internal/bytealg.IndexByteString", "internal/bytealg.IndexString", "slices.overlaps[ragpicker/api.Ent]", "internal/abi.NoEscape"], unfollowed := true, recurses := true, named := ["internal/bytealg.MaxLen"], apart := false }
def BringThereSaid : Prop := bringThereRow.holds Try.pinned (OpenSpec.ofChange bringThereSpec)

/-- ITS FALSE NEIGHBOUR: 'it returns false'. Refute it at one input. -/
def bringThereWrong : ChangeSpec := { name := "bringThere", fn := fun _ => fun
  | [d1, d2] => { results := [.lit (.bool false)], args := [d1, d2] }
  | _ => none }
def BringThereWrongFalsely : Prop := bringThereRow.holds Try.pinned (OpenSpec.ofChange bringThereWrong)

/-- 'ragpickerlaw18.DropLess': WHATEVER THE INPUT: true; the input reads as it did. -/
def dropLessSpec : ChangeSpec := { name := "dropLess", fn := fun _ => fun
  | [d1, d2] => { results := [.lit (.bool true)], args := [d1, d2] }
  | _ => none }
def dropLessRow : OpenClaim := { program := "ytebghednhjaniaa", sum := "ff5ffcff01be2ef2b1f5b37fe3cd089d8162f68d219f00e9c4083b5b9b4b96f0", func := "ragpicker/ragpickerlaw18.DropLess", spec := "dropLess", inPlace := ["internal/bytealg.IndexByteString", "internal/bytealg.IndexString", "slices.overlaps[ragpicker/api.Ent]"], unfollowed := true, recurses := true, named := ["internal/bytealg.MaxLen"], apart := false }
def DropLessSaid : Prop := dropLessRow.holds Try.pinned (OpenSpec.ofChange dropLessSpec)

/-- ITS FALSE NEIGHBOUR: 'it returns false'. Refute it at one input. -/
def dropLessWrong : ChangeSpec := { name := "dropLess", fn := fun _ => fun
  | [d1, d2] => { results := [.lit (.bool false)], args := [d1, d2] }
  | _ => none }
def DropLessWrongFalsely : Prop := dropLessRow.holds Try.pinned (OpenSpec.ofChange dropLessWrong)

/-- 'ragpickerlaw18.DropBack': WHATEVER THE INPUT: true; the input reads as it did. -/
def dropBackSpec : ChangeSpec := { name := "dropBack", fn := fun _ => fun
  | [d1, d2] => { results := [.lit (.bool true)], args := [d1, d2] }
  | _ => none }
def dropBackRow : OpenClaim := { program := "ytebghednhjaniaa", sum := "ff5ffcff01be2ef2b1f5b37fe3cd089d8162f68d219f00e9c4083b5b9b4b96f0", func := "ragpicker/ragpickerlaw18.DropBack", spec := "dropBack", inPlace := ["internal/bytealg.IndexByteString", "internal/bytealg.IndexString", "slices.overlaps[ragpicker/api.Ent]"], unfollowed := true, recurses := true, named := ["internal/bytealg.MaxLen"], apart := false }
def DropBackSaid : Prop := dropBackRow.holds Try.pinned (OpenSpec.ofChange dropBackSpec)

/-- ITS FALSE NEIGHBOUR: 'it returns false'. Refute it at one input. -/
def dropBackWrong : ChangeSpec := { name := "dropBack", fn := fun _ => fun
  | [d1, d2] => { results := [.lit (.bool false)], args := [d1, d2] }
  | _ => none }
def DropBackWrongFalsely : Prop := dropBackRow.holds Try.pinned (OpenSpec.ofChange dropBackWrong)

/-- 'ragpickerlaw19.RenameBack': WHATEVER THE INPUT: true; the input reads as it did. -/
def renameBackSpec : ChangeSpec := { name := "renameBack", fn := fun _ => fun
  | [d1, d2] => { results := [.lit (.bool true)], args := [d1, d2] }
  | _ => none }
def renameBackRow : OpenClaim := { program := "ytebghednhjaniaa", sum := "ff5ffcff01be2ef2b1f5b37fe3cd089d8162f68d219f00e9c4083b5b9b4b96f0", func := "ragpicker/ragpickerlaw19.RenameBack", spec := "renameBack", inPlace := ["internal/bytealg.IndexByteString", "internal/bytealg.IndexString", "slices.overlaps[ragpicker/api.Ent]", "internal/abi.NoEscape"], unfollowed := true, recurses := true, named := ["internal/bytealg.MaxLen"], apart := false }
def RenameBackSaid : Prop := renameBackRow.holds Try.pinned (OpenSpec.ofChange renameBackSpec)

/-- ITS FALSE NEIGHBOUR: 'it returns false'. Refute it at one input. -/
def renameBackWrong : ChangeSpec := { name := "renameBack", fn := fun _ => fun
  | [d1, d2] => { results := [.lit (.bool false)], args := [d1, d2] }
  | _ => none }
def RenameBackWrongFalsely : Prop := renameBackRow.holds Try.pinned (OpenSpec.ofChange renameBackWrong)

/-- 'ragpickerlaw19.RenameOne': WHATEVER THE INPUT: true; the input reads as it did. -/
def renameOneSpec : ChangeSpec := { name := "renameOne", fn := fun _ => fun
  | [d1, d2] => { results := [.lit (.bool true)], args := [d1, d2] }
  | _ => none }
def renameOneRow : OpenClaim := { program := "ytebghednhjaniaa", sum := "ff5ffcff01be2ef2b1f5b37fe3cd089d8162f68d219f00e9c4083b5b9b4b96f0", func := "ragpicker/ragpickerlaw19.RenameOne", spec := "renameOne", inPlace := ["internal/bytealg.IndexByteString", "internal/bytealg.IndexString", "slices.overlaps[ragpicker/api.Ent]", "internal/abi.NoEscape"], unfollowed := true, recurses := true, named := ["internal/bytealg.MaxLen"], apart := false }
def RenameOneSaid : Prop := renameOneRow.holds Try.pinned (OpenSpec.ofChange renameOneSpec)

/-- ITS FALSE NEIGHBOUR: 'it returns false'. Refute it at one input. -/
def renameOneWrong : ChangeSpec := { name := "renameOne", fn := fun _ => fun
  | [d1, d2] => { results := [.lit (.bool false)], args := [d1, d2] }
  | _ => none }
def RenameOneWrongFalsely : Prop := renameOneRow.holds Try.pinned (OpenSpec.ofChange renameOneWrong)

/-- 'ragpickerlaw21.SysNone': WHATEVER THE INPUT: true; the input reads as it did. -/
def sysNoneSpec : ChangeSpec := { name := "sysNone", fn := fun _ => fun
  | [d] => { results := [.lit (.bool true)], args := [d] }
  | _ => none }
def sysNoneRow : OpenClaim := { program := "ytebghednhjaniaa", sum := "ff5ffcff01be2ef2b1f5b37fe3cd089d8162f68d219f00e9c4083b5b9b4b96f0", func := "ragpicker/ragpickerlaw21.SysNone", spec := "sysNone", inPlace := ["internal/bytealg.IndexByteString", "internal/bytealg.IndexString", "slices.overlaps[ragpicker/api.Ent]"], unfollowed := true, recurses := true, named := ["internal/bytealg.MaxLen"], apart := false }
def SysNoneSaid : Prop := sysNoneRow.holds Try.pinned (OpenSpec.ofChange sysNoneSpec)

/-- ITS FALSE NEIGHBOUR: 'it returns false'. Refute it at one input. -/
def sysNoneWrong : ChangeSpec := { name := "sysNone", fn := fun _ => fun
  | [d] => { results := [.lit (.bool false)], args := [d] }
  | _ => none }
def SysNoneWrongFalsely : Prop := sysNoneRow.holds Try.pinned (OpenSpec.ofChange sysNoneWrong)

/- THE SECOND FORM. 'bulk': how many values and letters a reading holds, each counted each time it is reached (what is shared counts as often as it is met; a slice's spare places count too). A statement '..UptoSaid' is the law's where the arguments, and the package variables that the reading takes, are together of bulk at most 1048576: NARROWER than '..Said'. Prove '..Said' where nothing that the law and all that it calls make is longer than what came in: it says more and counts as full. Else prove '..UptoSaid'. A law counts once. -/
mutual
def uptoBulk {H : Type} : DataW H → Nat
  | .lit (.string bytes) => bytes.length + 1
  | .lit _ => 1
  | .nil => 1
  | .ptr d => uptoBulk d + 1
  | .slice elems spare => uptoBulkAll elems + uptoBulkAll spare + 1
  | .agg parts => uptoBulkAll parts + 1
  | .iface _ d => uptoBulk d + 1
  | .map entries => uptoBulkEntries entries + 1
  | .held _ => 1
def uptoBulkAll {H : Type} : List (DataW H) → Nat
  | [] => 0
  | d :: r => uptoBulk d + uptoBulkAll r
def uptoBulkEntries {H : Type} : List (Lit × DataW H) → Nat
  | [] => 0
  | x :: r => uptoBulkEntry x + uptoBulkEntries r
def uptoBulkEntry {H : Type} : Lit × DataW H → Nat
  | (.string bytes, d) => bytes.length + uptoBulk d + 1
  | (_, d) => uptoBulk d + 1
 end
def uptoSmall : (H : Type) → List (DataW H) → Bool := fun _ ds => decide (uptoBulkAll ds ≤ 1048576)
def OpenSpec.upto (s : _root_.Go.ChangeSpec) : _root_.Go.OpenSpec := { _root_.Go.OpenSpec.ofChange s with cond := some uptoSmall }

/-- 'ragpickerlaw14.MountPlays', WHERE WHAT IT READS IS OF BULK AT MOST 1048576: true; the input reads as it did. -/
def mountPlaysUptoRow : OpenClaim := { program := "ytebghednhjaniaa", sum := "ff5ffcff01be2ef2b1f5b37fe3cd089d8162f68d219f00e9c4083b5b9b4b96f0", func := "ragpicker/ragpickerlaw14.MountPlays", spec := "mountPlays", inPlace := ["internal/abi.NoEscape"], apart := false, narrowed := true }
def MountPlaysUptoSaid : Prop := mountPlaysUptoRow.holds Try.pinned (OpenSpec.upto mountPlaysSpec)

/-- 'ragpickerlaw20.AttrPlays', WHERE WHAT IT READS IS OF BULK AT MOST 1048576: true; the input reads as it did. -/
def attrPlaysUptoRow : OpenClaim := { program := "ytebghednhjaniaa", sum := "ff5ffcff01be2ef2b1f5b37fe3cd089d8162f68d219f00e9c4083b5b9b4b96f0", func := "ragpicker/ragpickerlaw20.AttrPlays", spec := "attrPlays", inPlace := ["internal/abi.NoEscape"], apart := false, narrowed := true }
def AttrPlaysUptoSaid : Prop := attrPlaysUptoRow.holds Try.pinned (OpenSpec.upto attrPlaysSpec)

/-- 'ragpickerlaw16.PeekLooks', WHERE WHAT IT READS IS OF BULK AT MOST 1048576: true; the input reads as it did. -/
def peekLooksUptoRow : OpenClaim := { program := "ytebghednhjaniaa", sum := "ff5ffcff01be2ef2b1f5b37fe3cd089d8162f68d219f00e9c4083b5b9b4b96f0", func := "ragpicker/ragpickerlaw16.PeekLooks", spec := "peekLooks", unfollowed := true, recurses := true, apart := false, narrowed := true }
def PeekLooksUptoSaid : Prop := peekLooksUptoRow.holds Try.pinned (OpenSpec.upto peekLooksSpec)

/-- 'ragpickerlaw16.PeekTells', WHERE WHAT IT READS IS OF BULK AT MOST 1048576: true; the input reads as it did. -/
def peekTellsUptoRow : OpenClaim := { program := "ytebghednhjaniaa", sum := "ff5ffcff01be2ef2b1f5b37fe3cd089d8162f68d219f00e9c4083b5b9b4b96f0", func := "ragpicker/ragpickerlaw16.PeekTells", spec := "peekTells", unfollowed := true, recurses := true, apart := false, narrowed := true }
def PeekTellsUptoSaid : Prop := peekTellsUptoRow.holds Try.pinned (OpenSpec.upto peekTellsSpec)

/-- 'ragpickerlaw15.SeekTells', WHERE WHAT IT READS IS OF BULK AT MOST 1048576: true; the input reads as it did. -/
def seekTellsUptoRow : OpenClaim := { program := "ytebghednhjaniaa", sum := "ff5ffcff01be2ef2b1f5b37fe3cd089d8162f68d219f00e9c4083b5b9b4b96f0", func := "ragpicker/ragpickerlaw15.SeekTells", spec := "seekTells", inPlace := ["internal/bytealg.IndexByteString", "internal/bytealg.IndexString"], unfollowed := true, recurses := true, named := ["internal/bytealg.MaxLen"], apart := false, narrowed := true }
def SeekTellsUptoSaid : Prop := seekTellsUptoRow.holds Try.pinned (OpenSpec.upto seekTellsSpec)

/-- 'ragpickerlaw15.SeekFollow', WHERE WHAT IT READS IS OF BULK AT MOST 1048576: true; the input reads as it did. -/
def seekFollowUptoRow : OpenClaim := { program := "ytebghednhjaniaa", sum := "ff5ffcff01be2ef2b1f5b37fe3cd089d8162f68d219f00e9c4083b5b9b4b96f0", func := "ragpicker/ragpickerlaw15.SeekFollow", spec := "seekFollow", inPlace := ["internal/bytealg.IndexByteString", "internal/bytealg.IndexString"], unfollowed := true, recurses := true, named := ["internal/bytealg.MaxLen"], apart := false, narrowed := true }
def SeekFollowUptoSaid : Prop := seekFollowUptoRow.holds Try.pinned (OpenSpec.upto seekFollowSpec)

/-- 'ragpickerlaw15.SeekHome', WHERE WHAT IT READS IS OF BULK AT MOST 1048576: true; the input reads as it did. -/
def seekHomeUptoRow : OpenClaim := { program := "ytebghednhjaniaa", sum := "ff5ffcff01be2ef2b1f5b37fe3cd089d8162f68d219f00e9c4083b5b9b4b96f0", func := "ragpicker/ragpickerlaw15.SeekHome", spec := "seekHome", inPlace := ["internal/bytealg.IndexByteString", "internal/bytealg.IndexString", "internal/abi.NoEscape"], unfollowed := true, recurses := true, named := ["internal/bytealg.MaxLen"], apart := false, narrowed := true }
def SeekHomeUptoSaid : Prop := seekHomeUptoRow.holds Try.pinned (OpenSpec.upto seekHomeSpec)

/-- 'ragpickerlaw17.BringTouches', WHERE WHAT IT READS IS OF BULK AT MOST 1048576: true; the input reads as it did. -/
def bringTouchesUptoRow : OpenClaim := { program := "ytebghednhjaniaa", sum := "ff5ffcff01be2ef2b1f5b37fe3cd089d8162f68d219f00e9c4083b5b9b4b96f0", func := "ragpicker/ragpickerlaw17.BringTouches", spec := "bringTouches", inPlace := ["internal/bytealg.IndexByteString", "internal/bytealg.IndexString", "slices.overlaps[ragpicker/api.Ent]"], unfollowed := true, recurses := true, named := ["internal/bytealg.MaxLen"], apart := false, narrowed := true }
def BringTouchesUptoSaid : Prop := bringTouchesUptoRow.holds Try.pinned (OpenSpec.upto bringTouchesSpec)

/-- 'ragpickerlaw17.BringThere', WHERE WHAT IT READS IS OF BULK AT MOST 1048576: true; the input reads as it did. -/
def bringThereUptoRow : OpenClaim := { program := "ytebghednhjaniaa", sum := "ff5ffcff01be2ef2b1f5b37fe3cd089d8162f68d219f00e9c4083b5b9b4b96f0", func := "ragpicker/ragpickerlaw17.BringThere", spec := "bringThere", inPlace := ["internal/bytealg.IndexByteString", "internal/bytealg.IndexString", "slices.overlaps[ragpicker/api.Ent]", "internal/abi.NoEscape"], unfollowed := true, recurses := true, named := ["internal/bytealg.MaxLen"], apart := false, narrowed := true }
def BringThereUptoSaid : Prop := bringThereUptoRow.holds Try.pinned (OpenSpec.upto bringThereSpec)

/-- 'ragpickerlaw18.DropLess', WHERE WHAT IT READS IS OF BULK AT MOST 1048576: true; the input reads as it did. -/
def dropLessUptoRow : OpenClaim := { program := "ytebghednhjaniaa", sum := "ff5ffcff01be2ef2b1f5b37fe3cd089d8162f68d219f00e9c4083b5b9b4b96f0", func := "ragpicker/ragpickerlaw18.DropLess", spec := "dropLess", inPlace := ["internal/bytealg.IndexByteString", "internal/bytealg.IndexString", "slices.overlaps[ragpicker/api.Ent]"], unfollowed := true, recurses := true, named := ["internal/bytealg.MaxLen"], apart := false, narrowed := true }
def DropLessUptoSaid : Prop := dropLessUptoRow.holds Try.pinned (OpenSpec.upto dropLessSpec)

/-- 'ragpickerlaw18.DropBack', WHERE WHAT IT READS IS OF BULK AT MOST 1048576: true; the input reads as it did. -/
def dropBackUptoRow : OpenClaim := { program := "ytebghednhjaniaa", sum := "ff5ffcff01be2ef2b1f5b37fe3cd089d8162f68d219f00e9c4083b5b9b4b96f0", func := "ragpicker/ragpickerlaw18.DropBack", spec := "dropBack", inPlace := ["internal/bytealg.IndexByteString", "internal/bytealg.IndexString", "slices.overlaps[ragpicker/api.Ent]"], unfollowed := true, recurses := true, named := ["internal/bytealg.MaxLen"], apart := false, narrowed := true }
def DropBackUptoSaid : Prop := dropBackUptoRow.holds Try.pinned (OpenSpec.upto dropBackSpec)

/-- 'ragpickerlaw19.RenameBack', WHERE WHAT IT READS IS OF BULK AT MOST 1048576: true; the input reads as it did. -/
def renameBackUptoRow : OpenClaim := { program := "ytebghednhjaniaa", sum := "ff5ffcff01be2ef2b1f5b37fe3cd089d8162f68d219f00e9c4083b5b9b4b96f0", func := "ragpicker/ragpickerlaw19.RenameBack", spec := "renameBack", inPlace := ["internal/bytealg.IndexByteString", "internal/bytealg.IndexString", "slices.overlaps[ragpicker/api.Ent]", "internal/abi.NoEscape"], unfollowed := true, recurses := true, named := ["internal/bytealg.MaxLen"], apart := false, narrowed := true }
def RenameBackUptoSaid : Prop := renameBackUptoRow.holds Try.pinned (OpenSpec.upto renameBackSpec)

/-- 'ragpickerlaw19.RenameOne', WHERE WHAT IT READS IS OF BULK AT MOST 1048576: true; the input reads as it did. -/
def renameOneUptoRow : OpenClaim := { program := "ytebghednhjaniaa", sum := "ff5ffcff01be2ef2b1f5b37fe3cd089d8162f68d219f00e9c4083b5b9b4b96f0", func := "ragpicker/ragpickerlaw19.RenameOne", spec := "renameOne", inPlace := ["internal/bytealg.IndexByteString", "internal/bytealg.IndexString", "slices.overlaps[ragpicker/api.Ent]", "internal/abi.NoEscape"], unfollowed := true, recurses := true, named := ["internal/bytealg.MaxLen"], apart := false, narrowed := true }
def RenameOneUptoSaid : Prop := renameOneUptoRow.holds Try.pinned (OpenSpec.upto renameOneSpec)

/-- 'ragpickerlaw21.SysNone', WHERE WHAT IT READS IS OF BULK AT MOST 1048576: true; the input reads as it did. -/
def sysNoneUptoRow : OpenClaim := { program := "ytebghednhjaniaa", sum := "ff5ffcff01be2ef2b1f5b37fe3cd089d8162f68d219f00e9c4083b5b9b4b96f0", func := "ragpicker/ragpickerlaw21.SysNone", spec := "sysNone", inPlace := ["internal/bytealg.IndexByteString", "internal/bytealg.IndexString", "slices.overlaps[ragpicker/api.Ent]"], unfollowed := true, recurses := true, named := ["internal/bytealg.MaxLen"], apart := false, narrowed := true }
def SysNoneUptoSaid : Prop := sysNoneUptoRow.holds Try.pinned (OpenSpec.upto sysNoneSpec)

end Rows
end Go.Proofs.Ytebghednhjaniaa
