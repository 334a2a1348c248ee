/-
  No cell of these rows narrows 'for every input' (looked for: loops, veiled, ifaces, maps, wideKeys, modest, calm, conditions, laid).
  DERIVED. THE GIVEN ROWS OF THIS SEAT. 10 by the template 'for every input the law returns true; each argument reads behind the call as it read before'; 0 by the template 'total and deterministic' (their statements: YtegiknfnhgjhfaaTotals.lean).
  GIVEN WITH THE SEED: the statements are not yours to turn. If you find one false, say at which input.
  Laid BY PROGRAM, IN A SANDBOX (cutbox-rows.mjs): the forced cells as the released guide's own fill.sh prints them over the translation 5bab670e06b7cead… (all of the seat's roots in one cut). By AI agents, Wed Nov 11 2026. No macro, syntax, notation, axiom, sorry.
-/
import Derived.Test.YtegiknfnhgjhfaaChecked
import GoSem.Claim
import GoSem.ClaimJoined
import GoSem.ClaimMapViews
import Derived.JoinedTies
import Derived.KernelRfl
namespace Go.Proofs.Ytegiknfnhgjhfaa
/- THE CELL 'sum', in the pinned program and in every row, IS THE sha256 OF THE DUMP (.gsa) THAT YtegiknfnhgjhfaaProg.lean LOADS. Nothing in Lean hashes anything: it is a label: what it is worth is what the hold of that sum in a sandbox is worth. -/
noncomputable def Try.pinned : Pinned := { name := "ytegiknfnhgjhfaa", sum := "5bab670e06b7cead4a898ab256b902fef316853438f0a6df8c80ae46d8ba6eae", checked := Try.checked }
namespace Rows
def none {H : Type} : Left H := { results := [], args := [] }

/-- 'ragpickerlaw10.PermText': WHATEVER THE INPUT: true; the input reads as it did. -/
def permTextSpec : ChangeSpec := { name := "permText", fn := fun _ => fun
  | [d1, d2, d3] => { results := [.lit (.bool true)], args := [d1, d2, d3] }
  | _ => none }
def permTextRow : OpenClaim := { program := "ytegiknfnhgjhfaa", sum := "5bab670e06b7cead4a898ab256b902fef316853438f0a6df8c80ae46d8ba6eae", func := "ragpicker/ragpickerlaw10.PermText", spec := "permText", apart := false }
def PermTextSaid : Prop := permTextRow.holds Try.pinned (OpenSpec.ofChange permTextSpec)

/-- ITS FALSE NEIGHBOUR: 'it returns false'. Refute it at one input. -/
def permTextWrong : ChangeSpec := { name := "permText", fn := fun _ => fun
  | [d1, d2, d3] => { results := [.lit (.bool false)], args := [d1, d2, d3] }
  | _ => none }
def PermTextWrongFalsely : Prop := permTextRow.holds Try.pinned (OpenSpec.ofChange permTextWrong)

/-- 'ragpickerlaw10.PermLess': WHATEVER THE INPUT: true; the input reads as it did. -/
def permLessSpec : ChangeSpec := { name := "permLess", fn := fun _ => fun
  | [d1, d2, d3] => { results := [.lit (.bool true)], args := [d1, d2, d3] }
  | _ => none }
def permLessRow : OpenClaim := { program := "ytegiknfnhgjhfaa", sum := "5bab670e06b7cead4a898ab256b902fef316853438f0a6df8c80ae46d8ba6eae", func := "ragpicker/ragpickerlaw10.PermLess", spec := "permLess", apart := false }
def PermLessSaid : Prop := permLessRow.holds Try.pinned (OpenSpec.ofChange permLessSpec)

/-- ITS FALSE NEIGHBOUR: 'it returns false'. Refute it at one input. -/
def permLessWrong : ChangeSpec := { name := "permLess", fn := fun _ => fun
  | [d1, d2, d3] => { results := [.lit (.bool false)], args := [d1, d2, d3] }
  | _ => none }
def PermLessWrongFalsely : Prop := permLessRow.holds Try.pinned (OpenSpec.ofChange permLessWrong)

/-- 'ragpickerlaw10.PermTells': WHATEVER THE INPUT: true; the input reads as it did. -/
def permTellsSpec : ChangeSpec := { name := "permTells", fn := fun _ => fun
  | [d1, d2, d3] => { results := [.lit (.bool true)], args := [d1, d2, d3] }
  | _ => none }
def permTellsRow : OpenClaim := { program := "ytegiknfnhgjhfaa", sum := "5bab670e06b7cead4a898ab256b902fef316853438f0a6df8c80ae46d8ba6eae", func := "ragpicker/ragpickerlaw10.PermTells", spec := "permTells", apart := false }
def PermTellsSaid : Prop := permTellsRow.holds Try.pinned (OpenSpec.ofChange permTellsSpec)

/-- ITS FALSE NEIGHBOUR: 'it returns false'. Refute it at one input. -/
def permTellsWrong : ChangeSpec := { name := "permTells", fn := fun _ => fun
  | [d1, d2, d3] => { results := [.lit (.bool false)], args := [d1, d2, d3] }
  | _ => none }
def PermTellsWrongFalsely : Prop := permTellsRow.holds Try.pinned (OpenSpec.ofChange permTellsWrong)

/-- 'ragpickerlaw04.PctBack': WHATEVER THE INPUT: true; the input reads as it did. -/
def pctBackSpec : ChangeSpec := { name := "pctBack", fn := fun _ => fun
  | [d1, d2] => { results := [.lit (.bool true)], args := [d1, d2] }
  | _ => none }
def pctBackRow : OpenClaim := { program := "ytegiknfnhgjhfaa", sum := "5bab670e06b7cead4a898ab256b902fef316853438f0a6df8c80ae46d8ba6eae", func := "ragpicker/ragpickerlaw04.PctBack", spec := "pctBack", inPlace := ["internal/bytealg.IndexByteString", "internal/abi.NoEscape"], apart := false }
def PctBackSaid : Prop := pctBackRow.holds Try.pinned (OpenSpec.ofChange pctBackSpec)

/-- ITS FALSE NEIGHBOUR: 'it returns false'. Refute it at one input. -/
def pctBackWrong : ChangeSpec := { name := "pctBack", fn := fun _ => fun
  | [d1, d2] => { results := [.lit (.bool false)], args := [d1, d2] }
  | _ => none }
def PctBackWrongFalsely : Prop := pctBackRow.holds Try.pinned (OpenSpec.ofChange pctBackWrong)

/-- 'ragpickerlaw04.PctTells': WHATEVER THE INPUT: true; the input reads as it did. -/
def pctTellsSpec : ChangeSpec := { name := "pctTells", fn := fun _ => fun
  | [d] => { results := [.lit (.bool true)], args := [d] }
  | _ => none }
def pctTellsRow : OpenClaim := { program := "ytegiknfnhgjhfaa", sum := "5bab670e06b7cead4a898ab256b902fef316853438f0a6df8c80ae46d8ba6eae", func := "ragpicker/ragpickerlaw04.PctTells", spec := "pctTells", inPlace := ["internal/bytealg.IndexByteString", "internal/abi.NoEscape"], apart := false }
def PctTellsSaid : Prop := pctTellsRow.holds Try.pinned (OpenSpec.ofChange pctTellsSpec)

/-- ITS FALSE NEIGHBOUR: 'it returns false'. Refute it at one input. -/
def pctTellsWrong : ChangeSpec := { name := "pctTells", fn := fun _ => fun
  | [d] => { results := [.lit (.bool false)], args := [d] }
  | _ => none }
def PctTellsWrongFalsely : Prop := pctTellsRow.holds Try.pinned (OpenSpec.ofChange pctTellsWrong)

/-- 'ragpickerlaw08.TildeTells': WHATEVER THE INPUT: true; the input reads as it did. -/
def tildeTellsSpec : ChangeSpec := { name := "tildeTells", fn := fun _ => fun
  | [d1, d2, d3] => { results := [.lit (.bool true)], args := [d1, d2, d3] }
  | _ => none }
def tildeTellsRow : OpenClaim := { program := "ytegiknfnhgjhfaa", sum := "5bab670e06b7cead4a898ab256b902fef316853438f0a6df8c80ae46d8ba6eae", func := "ragpicker/ragpickerlaw08.TildeTells", spec := "tildeTells", inPlace := ["internal/bytealg.IndexByteString", "internal/bytealg.IndexString"], named := ["internal/bytealg.MaxLen"], apart := false }
def TildeTellsSaid : Prop := tildeTellsRow.holds Try.pinned (OpenSpec.ofChange tildeTellsSpec)

/-- ITS FALSE NEIGHBOUR: 'it returns false'. Refute it at one input. -/
def tildeTellsWrong : ChangeSpec := { name := "tildeTells", fn := fun _ => fun
  | [d1, d2, d3] => { results := [.lit (.bool false)], args := [d1, d2, d3] }
  | _ => none }
def TildeTellsWrongFalsely : Prop := tildeTellsRow.holds Try.pinned (OpenSpec.ofChange tildeTellsWrong)

/-- 'ragpickerlaw08.TildeNext': WHATEVER THE INPUT: true; the input reads as it did. -/
def tildeNextSpec : ChangeSpec := { name := "tildeNext", fn := fun _ => fun
  | [d1, d2] => { results := [.lit (.bool true)], args := [d1, d2] }
  | _ => none }
def tildeNextRow : OpenClaim := { program := "ytegiknfnhgjhfaa", sum := "5bab670e06b7cead4a898ab256b902fef316853438f0a6df8c80ae46d8ba6eae", func := "ragpicker/ragpickerlaw08.TildeNext", spec := "tildeNext", inPlace := ["internal/bytealg.IndexByteString", "internal/bytealg.IndexString"], named := ["internal/bytealg.MaxLen"], apart := false }
def TildeNextSaid : Prop := tildeNextRow.holds Try.pinned (OpenSpec.ofChange tildeNextSpec)

/-- ITS FALSE NEIGHBOUR: 'it returns false'. Refute it at one input. -/
def tildeNextWrong : ChangeSpec := { name := "tildeNext", fn := fun _ => fun
  | [d1, d2] => { results := [.lit (.bool false)], args := [d1, d2] }
  | _ => none }
def TildeNextWrongFalsely : Prop := tildeNextRow.holds Try.pinned (OpenSpec.ofChange tildeNextWrong)

/-- 'ragpickerlaw01.NumTells': WHATEVER THE INPUT: true; the input reads as it did. -/
def numTellsSpec : ChangeSpec := { name := "numTells", fn := fun _ => fun
  | [d1, d2, d3] => { results := [.lit (.bool true)], args := [d1, d2, d3] }
  | _ => none }
def numTellsRow : OpenClaim := { program := "ytegiknfnhgjhfaa", sum := "5bab670e06b7cead4a898ab256b902fef316853438f0a6df8c80ae46d8ba6eae", func := "ragpicker/ragpickerlaw01.NumTells", spec := "numTells", inPlace := ["internal/abi.NoEscape", "internal/bytealg.MakeNoZero"], apart := false }
def NumTellsSaid : Prop := numTellsRow.holds Try.pinned (OpenSpec.ofChange numTellsSpec)

/-- ITS FALSE NEIGHBOUR: 'it returns false'. Refute it at one input. -/
def numTellsWrong : ChangeSpec := { name := "numTells", fn := fun _ => fun
  | [d1, d2, d3] => { results := [.lit (.bool false)], args := [d1, d2, d3] }
  | _ => none }
def NumTellsWrongFalsely : Prop := numTellsRow.holds Try.pinned (OpenSpec.ofChange numTellsWrong)

/-- 'ragpickerlaw01.NumBack': WHATEVER THE INPUT: true; the input reads as it did. -/
def numBackSpec : ChangeSpec := { name := "numBack", fn := fun _ => fun
  | [d1, d2] => { results := [.lit (.bool true)], args := [d1, d2] }
  | _ => none }
def numBackRow : OpenClaim := { program := "ytegiknfnhgjhfaa", sum := "5bab670e06b7cead4a898ab256b902fef316853438f0a6df8c80ae46d8ba6eae", func := "ragpicker/ragpickerlaw01.NumBack", spec := "numBack", inPlace := ["internal/abi.NoEscape", "internal/bytealg.MakeNoZero"], apart := false }
def NumBackSaid : Prop := numBackRow.holds Try.pinned (OpenSpec.ofChange numBackSpec)

/-- ITS FALSE NEIGHBOUR: 'it returns false'. Refute it at one input. -/
def numBackWrong : ChangeSpec := { name := "numBack", fn := fun _ => fun
  | [d1, d2] => { results := [.lit (.bool false)], args := [d1, d2] }
  | _ => none }
def NumBackWrongFalsely : Prop := numBackRow.holds Try.pinned (OpenSpec.ofChange numBackWrong)

/-- 'ragpickerlaw01.NumOrder': WHATEVER THE INPUT: true; the input reads as it did. -/
def numOrderSpec : ChangeSpec := { name := "numOrder", fn := fun _ => fun
  | [d1, d2] => { results := [.lit (.bool true)], args := [d1, d2] }
  | _ => none }
def numOrderRow : OpenClaim := { program := "ytegiknfnhgjhfaa", sum := "5bab670e06b7cead4a898ab256b902fef316853438f0a6df8c80ae46d8ba6eae", func := "ragpicker/ragpickerlaw01.NumOrder", spec := "numOrder", inPlace := ["internal/abi.NoEscape", "internal/bytealg.MakeNoZero"], apart := false }
def NumOrderSaid : Prop := numOrderRow.holds Try.pinned (OpenSpec.ofChange numOrderSpec)

/-- ITS FALSE NEIGHBOUR: 'it returns false'. Refute it at one input. -/
def numOrderWrong : ChangeSpec := { name := "numOrder", fn := fun _ => fun
  | [d1, d2] => { results := [.lit (.bool false)], args := [d1, d2] }
  | _ => none }
def NumOrderWrongFalsely : Prop := numOrderRow.holds Try.pinned (OpenSpec.ofChange numOrderWrong)

/- THE SECOND FORM. 'bulk': how many values and letters a reading holds, each counted each time it is reached (what is shared counts as often as it is met; a slice's spare places count too). A statement '..UptoSaid' is the law's where the arguments, and the package variables that the reading takes, are together of bulk at most 1048576: NARROWER than '..Said'. Prove '..Said' where nothing that the law and all that it calls make is longer than what came in: it says more and counts as full. Else prove '..UptoSaid'. A law counts once. -/
mutual
def uptoBulk {H : Type} : DataW H → Nat
  | .lit (.string bytes) => bytes.length + 1
  | .lit _ => 1
  | .nil => 1
  | .ptr d => uptoBulk d + 1
  | .slice elems spare => uptoBulkAll elems + uptoBulkAll spare + 1
  | .agg parts => uptoBulkAll parts + 1
  | .iface _ d => uptoBulk d + 1
  | .map entries => uptoBulkEntries entries + 1
  | .held _ => 1
def uptoBulkAll {H : Type} : List (DataW H) → Nat
  | [] => 0
  | d :: r => uptoBulk d + uptoBulkAll r
def uptoBulkEntries {H : Type} : List (Lit × DataW H) → Nat
  | [] => 0
  | x :: r => uptoBulkEntry x + uptoBulkEntries r
def uptoBulkEntry {H : Type} : Lit × DataW H → Nat
  | (.string bytes, d) => bytes.length + uptoBulk d + 1
  | (_, d) => uptoBulk d + 1
 end
def uptoSmall : (H : Type) → List (DataW H) → Bool := fun _ ds => decide (uptoBulkAll ds ≤ 1048576)
def OpenSpec.upto (s : _root_.Go.ChangeSpec) : _root_.Go.OpenSpec := { _root_.Go.OpenSpec.ofChange s with cond := some uptoSmall }

/-- 'ragpickerlaw10.PermText', WHERE WHAT IT READS IS OF BULK AT MOST 1048576: true; the input reads as it did. -/
def permTextUptoRow : OpenClaim := { program := "ytegiknfnhgjhfaa", sum := "5bab670e06b7cead4a898ab256b902fef316853438f0a6df8c80ae46d8ba6eae", func := "ragpicker/ragpickerlaw10.PermText", spec := "permText", apart := false, narrowed := true }
def PermTextUptoSaid : Prop := permTextUptoRow.holds Try.pinned (OpenSpec.upto permTextSpec)

/-- 'ragpickerlaw10.PermLess', WHERE WHAT IT READS IS OF BULK AT MOST 1048576: true; the input reads as it did. -/
def permLessUptoRow : OpenClaim := { program := "ytegiknfnhgjhfaa", sum := "5bab670e06b7cead4a898ab256b902fef316853438f0a6df8c80ae46d8ba6eae", func := "ragpicker/ragpickerlaw10.PermLess", spec := "permLess", apart := false, narrowed := true }
def PermLessUptoSaid : Prop := permLessUptoRow.holds Try.pinned (OpenSpec.upto permLessSpec)

/-- 'ragpickerlaw10.PermTells', WHERE WHAT IT READS IS OF BULK AT MOST 1048576: true; the input reads as it did. -/
def permTellsUptoRow : OpenClaim := { program := "ytegiknfnhgjhfaa", sum := "5bab670e06b7cead4a898ab256b902fef316853438f0a6df8c80ae46d8ba6eae", func := "ragpicker/ragpickerlaw10.PermTells", spec := "permTells", apart := false, narrowed := true }
def PermTellsUptoSaid : Prop := permTellsUptoRow.holds Try.pinned (OpenSpec.upto permTellsSpec)

/-- 'ragpickerlaw04.PctBack', WHERE WHAT IT READS IS OF BULK AT MOST 1048576: true; the input reads as it did. -/
def pctBackUptoRow : OpenClaim := { program := "ytegiknfnhgjhfaa", sum := "5bab670e06b7cead4a898ab256b902fef316853438f0a6df8c80ae46d8ba6eae", func := "ragpicker/ragpickerlaw04.PctBack", spec := "pctBack", inPlace := ["internal/bytealg.IndexByteString", "internal/abi.NoEscape"], apart := false, narrowed := true }
def PctBackUptoSaid : Prop := pctBackUptoRow.holds Try.pinned (OpenSpec.upto pctBackSpec)

/-- 'ragpickerlaw04.PctTells', WHERE WHAT IT READS IS OF BULK AT MOST 1048576: true; the input reads as it did. -/
def pctTellsUptoRow : OpenClaim := { program := "ytegiknfnhgjhfaa", sum := "5bab670e06b7cead4a898ab256b902fef316853438f0a6df8c80ae46d8ba6eae", func := "ragpicker/ragpickerlaw04.PctTells", spec := "pctTells", inPlace := ["internal/bytealg.IndexByteString", "internal/abi.NoEscape"], apart := false, narrowed := true }
def PctTellsUptoSaid : Prop := pctTellsUptoRow.holds Try.pinned (OpenSpec.upto pctTellsSpec)

/-- 'ragpickerlaw08.TildeTells', WHERE WHAT IT READS IS OF BULK AT MOST 1048576: true; the input reads as it did. -/
def tildeTellsUptoRow : OpenClaim := { program := "ytegiknfnhgjhfaa", sum := "5bab670e06b7cead4a898ab256b902fef316853438f0a6df8c80ae46d8ba6eae", func := "ragpicker/ragpickerlaw08.TildeTells", spec := "tildeTells", inPlace := ["internal/bytealg.IndexByteString", "internal/bytealg.IndexString"], named := ["internal/bytealg.MaxLen"], apart := false, narrowed := true }
def TildeTellsUptoSaid : Prop := tildeTellsUptoRow.holds Try.pinned (OpenSpec.upto tildeTellsSpec)

/-- 'ragpickerlaw08.TildeNext', WHERE WHAT IT READS IS OF BULK AT MOST 1048576: true; the input reads as it did. -/
def tildeNextUptoRow : OpenClaim := { program := "ytegiknfnhgjhfaa", sum := "5bab670e06b7cead4a898ab256b902fef316853438f0a6df8c80ae46d8ba6eae", func := "ragpicker/ragpickerlaw08.TildeNext", spec := "tildeNext", inPlace := ["internal/bytealg.IndexByteString", "internal/bytealg.IndexString"], named := ["internal/bytealg.MaxLen"], apart := false, narrowed := true }
def TildeNextUptoSaid : Prop := tildeNextUptoRow.holds Try.pinned (OpenSpec.upto tildeNextSpec)

/-- 'ragpickerlaw01.NumTells', WHERE WHAT IT READS IS OF BULK AT MOST 1048576: true; the input reads as it did. -/
def numTellsUptoRow : OpenClaim := { program := "ytegiknfnhgjhfaa", sum := "5bab670e06b7cead4a898ab256b902fef316853438f0a6df8c80ae46d8ba6eae", func := "ragpicker/ragpickerlaw01.NumTells", spec := "numTells", inPlace := ["internal/abi.NoEscape", "internal/bytealg.MakeNoZero"], apart := false, narrowed := true }
def NumTellsUptoSaid : Prop := numTellsUptoRow.holds Try.pinned (OpenSpec.upto numTellsSpec)

/-- 'ragpickerlaw01.NumBack', WHERE WHAT IT READS IS OF BULK AT MOST 1048576: true; the input reads as it did. -/
def numBackUptoRow : OpenClaim := { program := "ytegiknfnhgjhfaa", sum := "5bab670e06b7cead4a898ab256b902fef316853438f0a6df8c80ae46d8ba6eae", func := "ragpicker/ragpickerlaw01.NumBack", spec := "numBack", inPlace := ["internal/abi.NoEscape", "internal/bytealg.MakeNoZero"], apart := false, narrowed := true }
def NumBackUptoSaid : Prop := numBackUptoRow.holds Try.pinned (OpenSpec.upto numBackSpec)

/-- 'ragpickerlaw01.NumOrder', WHERE WHAT IT READS IS OF BULK AT MOST 1048576: true; the input reads as it did. -/
def numOrderUptoRow : OpenClaim := { program := "ytegiknfnhgjhfaa", sum := "5bab670e06b7cead4a898ab256b902fef316853438f0a6df8c80ae46d8ba6eae", func := "ragpicker/ragpickerlaw01.NumOrder", spec := "numOrder", inPlace := ["internal/abi.NoEscape", "internal/bytealg.MakeNoZero"], apart := false, narrowed := true }
def NumOrderUptoSaid : Prop := numOrderUptoRow.holds Try.pinned (OpenSpec.upto numOrderSpec)

end Rows
end Go.Proofs.Ytegiknfnhgjhfaa
