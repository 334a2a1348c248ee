/-
  No cell of these rows narrows 'for every input' (looked for: loops, veiled, ifaces, maps, wideKeys, modest, calm, conditions, laid).
  DERIVED. THE GIVEN ROWS OF THIS SEAT. 6 by the template 'for every input the law returns true; each argument reads behind the call as it read before'; 0 by the template 'total and deterministic' (their statements: YtneideokodhciaaTotals.lean).
  GIVEN WITH THE SEED: the statements are not yours to turn. If you find one false, say at which input.
  Laid BY PROGRAM, IN A SANDBOX (cutbox-rows.mjs): the forced cells as the released guide's own fill.sh prints them over the translation d86b1a0cd95212ff… (all of the seat's roots in one cut). By AI agents, Wed Nov 11 2026. No macro, syntax, notation, axiom, sorry.
-/
import Derived.Test.YtneideokodhciaaChecked
import GoSem.Claim
import GoSem.ClaimJoined
import GoSem.ClaimMapViews
import Derived.JoinedTies
import Derived.KernelRfl
namespace Go.Proofs.Ytneideokodhciaa
/- THE CELL 'sum', in the pinned program and in every row, IS THE sha256 OF THE DUMP (.gsa) THAT YtneideokodhciaaProg.lean LOADS. Nothing in Lean hashes anything: it is a label: what it is worth is what the hold of that sum in a sandbox is worth. -/
noncomputable def Try.pinned : Pinned := { name := "ytneideokodhciaa", sum := "d86b1a0cd95212ff64d6f19cadfb23409e6e7c5da2c2a432159626d4548dd611", checked := Try.checked }
namespace Rows
def none {H : Type} : Left H := { results := [], args := [] }

/-- 'ragpickerlaw11.EntsCheck': WHATEVER THE INPUT: true; the input reads as it did. -/
def entsCheckSpec : ChangeSpec := { name := "entsCheck", fn := fun _ => fun
  | [d] => { results := [.lit (.bool true)], args := [d] }
  | _ => none }
def entsCheckRow : OpenClaim := { program := "ytneideokodhciaa", sum := "d86b1a0cd95212ff64d6f19cadfb23409e6e7c5da2c2a432159626d4548dd611", func := "ragpicker/ragpickerlaw11.EntsCheck", spec := "entsCheck", inPlace := ["slices.overlaps[ragpicker/api.Ent]"], unfollowed := true, recurses := true, apart := false }
def EntsCheckSaid : Prop := entsCheckRow.holds Try.pinned (OpenSpec.ofChange entsCheckSpec)

/-- ITS FALSE NEIGHBOUR: 'it returns false'. Refute it at one input. -/
def entsCheckWrong : ChangeSpec := { name := "entsCheck", fn := fun _ => fun
  | [d] => { results := [.lit (.bool false)], args := [d] }
  | _ => none }
def EntsCheckWrongFalsely : Prop := entsCheckRow.holds Try.pinned (OpenSpec.ofChange entsCheckWrong)

/-- 'ragpickerlaw11.EntsKeep': WHATEVER THE INPUT: true; the input reads as it did. -/
def entsKeepSpec : ChangeSpec := { name := "entsKeep", fn := fun _ => fun
  | [d1, d2] => { results := [.lit (.bool true)], args := [d1, d2] }
  | _ => none }
def entsKeepRow : OpenClaim := { program := "ytneideokodhciaa", sum := "d86b1a0cd95212ff64d6f19cadfb23409e6e7c5da2c2a432159626d4548dd611", func := "ragpicker/ragpickerlaw11.EntsKeep", spec := "entsKeep", inPlace := ["slices.overlaps[ragpicker/api.Ent]"], unfollowed := true, recurses := true, apart := false }
def EntsKeepSaid : Prop := entsKeepRow.holds Try.pinned (OpenSpec.ofChange entsKeepSpec)

/-- ITS FALSE NEIGHBOUR: 'it returns false'. Refute it at one input. -/
def entsKeepWrong : ChangeSpec := { name := "entsKeep", fn := fun _ => fun
  | [d1, d2] => { results := [.lit (.bool false)], args := [d1, d2] }
  | _ => none }
def EntsKeepWrongFalsely : Prop := entsKeepRow.holds Try.pinned (OpenSpec.ofChange entsKeepWrong)

/-- 'ragpickerlaw11.EntsPlays': WHATEVER THE INPUT: true; the input reads as it did. -/
def entsPlaysSpec : ChangeSpec := { name := "entsPlays", fn := fun _ => fun
  | [d1, d2, d3] => { results := [.lit (.bool true)], args := [d1, d2, d3] }
  | _ => none }
def entsPlaysRow : OpenClaim := { program := "ytneideokodhciaa", sum := "d86b1a0cd95212ff64d6f19cadfb23409e6e7c5da2c2a432159626d4548dd611", func := "ragpicker/ragpickerlaw11.EntsPlays", spec := "entsPlays", inPlace := ["slices.overlaps[ragpicker/api.Ent]"], unfollowed := true, recurses := true, apart := false }
def EntsPlaysSaid : Prop := entsPlaysRow.holds Try.pinned (OpenSpec.ofChange entsPlaysSpec)

/-- ITS FALSE NEIGHBOUR: 'it returns false'. Refute it at one input. -/
def entsPlaysWrong : ChangeSpec := { name := "entsPlays", fn := fun _ => fun
  | [d1, d2, d3] => { results := [.lit (.bool false)], args := [d1, d2, d3] }
  | _ => none }
def EntsPlaysWrongFalsely : Prop := entsPlaysRow.holds Try.pinned (OpenSpec.ofChange entsPlaysWrong)

/-- 'ragpickerlaw05.DateTells': WHATEVER THE INPUT: true; the input reads as it did. -/
def dateTellsSpec : ChangeSpec := { name := "dateTells", fn := fun _ => fun
  | [d1, d2, d3] => { results := [.lit (.bool true)], args := [d1, d2, d3] }
  | _ => none }
def dateTellsRow : OpenClaim := { program := "ytneideokodhciaa", sum := "d86b1a0cd95212ff64d6f19cadfb23409e6e7c5da2c2a432159626d4548dd611", func := "ragpicker/ragpickerlaw05.DateTells", spec := "dateTells", inPlace := ["internal/abi.NoEscape", "internal/bytealg.MakeNoZero"], apart := false }
def DateTellsSaid : Prop := dateTellsRow.holds Try.pinned (OpenSpec.ofChange dateTellsSpec)

/-- ITS FALSE NEIGHBOUR: 'it returns false'. Refute it at one input. -/
def dateTellsWrong : ChangeSpec := { name := "dateTells", fn := fun _ => fun
  | [d1, d2, d3] => { results := [.lit (.bool false)], args := [d1, d2, d3] }
  | _ => none }
def DateTellsWrongFalsely : Prop := dateTellsRow.holds Try.pinned (OpenSpec.ofChange dateTellsWrong)

/-- 'ragpickerlaw05.DateBack': WHATEVER THE INPUT: true; the input reads as it did. -/
def dateBackSpec : ChangeSpec := { name := "dateBack", fn := fun _ => fun
  | [d1, d2] => { results := [.lit (.bool true)], args := [d1, d2] }
  | _ => none }
def dateBackRow : OpenClaim := { program := "ytneideokodhciaa", sum := "d86b1a0cd95212ff64d6f19cadfb23409e6e7c5da2c2a432159626d4548dd611", func := "ragpicker/ragpickerlaw05.DateBack", spec := "dateBack", inPlace := ["internal/abi.NoEscape", "internal/bytealg.MakeNoZero"], apart := false }
def DateBackSaid : Prop := dateBackRow.holds Try.pinned (OpenSpec.ofChange dateBackSpec)

/-- ITS FALSE NEIGHBOUR: 'it returns false'. Refute it at one input. -/
def dateBackWrong : ChangeSpec := { name := "dateBack", fn := fun _ => fun
  | [d1, d2] => { results := [.lit (.bool false)], args := [d1, d2] }
  | _ => none }
def DateBackWrongFalsely : Prop := dateBackRow.holds Try.pinned (OpenSpec.ofChange dateBackWrong)

/-- 'ragpickerlaw05.DateOrder': WHATEVER THE INPUT: true; the input reads as it did. -/
def dateOrderSpec : ChangeSpec := { name := "dateOrder", fn := fun _ => fun
  | [d1, d2] => { results := [.lit (.bool true)], args := [d1, d2] }
  | _ => none }
def dateOrderRow : OpenClaim := { program := "ytneideokodhciaa", sum := "d86b1a0cd95212ff64d6f19cadfb23409e6e7c5da2c2a432159626d4548dd611", func := "ragpicker/ragpickerlaw05.DateOrder", spec := "dateOrder", inPlace := ["internal/abi.NoEscape", "internal/bytealg.MakeNoZero"], apart := false }
def DateOrderSaid : Prop := dateOrderRow.holds Try.pinned (OpenSpec.ofChange dateOrderSpec)

/-- ITS FALSE NEIGHBOUR: 'it returns false'. Refute it at one input. -/
def dateOrderWrong : ChangeSpec := { name := "dateOrder", fn := fun _ => fun
  | [d1, d2] => { results := [.lit (.bool false)], args := [d1, d2] }
  | _ => none }
def DateOrderWrongFalsely : Prop := dateOrderRow.holds Try.pinned (OpenSpec.ofChange dateOrderWrong)

/- THE SECOND FORM. 'bulk': how many values and letters a reading holds, each counted each time it is reached (what is shared counts as often as it is met; a slice's spare places count too). A statement '..UptoSaid' is the law's where the arguments, and the package variables that the reading takes, are together of bulk at most 1048576: NARROWER than '..Said'. Prove '..Said' where nothing that the law and all that it calls make is longer than what came in: it says more and counts as full. Else prove '..UptoSaid'. A law counts once. -/
mutual
def uptoBulk {H : Type} : DataW H → Nat
  | .lit (.string bytes) => bytes.length + 1
  | .lit _ => 1
  | .nil => 1
  | .ptr d => uptoBulk d + 1
  | .slice elems spare => uptoBulkAll elems + uptoBulkAll spare + 1
  | .agg parts => uptoBulkAll parts + 1
  | .iface _ d => uptoBulk d + 1
  | .map entries => uptoBulkEntries entries + 1
  | .held _ => 1
def uptoBulkAll {H : Type} : List (DataW H) → Nat
  | [] => 0
  | d :: r => uptoBulk d + uptoBulkAll r
def uptoBulkEntries {H : Type} : List (Lit × DataW H) → Nat
  | [] => 0
  | x :: r => uptoBulkEntry x + uptoBulkEntries r
def uptoBulkEntry {H : Type} : Lit × DataW H → Nat
  | (.string bytes, d) => bytes.length + uptoBulk d + 1
  | (_, d) => uptoBulk d + 1
 end
def uptoSmall : (H : Type) → List (DataW H) → Bool := fun _ ds => decide (uptoBulkAll ds ≤ 1048576)
def OpenSpec.upto (s : _root_.Go.ChangeSpec) : _root_.Go.OpenSpec := { _root_.Go.OpenSpec.ofChange s with cond := some uptoSmall }

/-- 'ragpickerlaw11.EntsCheck', WHERE WHAT IT READS IS OF BULK AT MOST 1048576: true; the input reads as it did. -/
def entsCheckUptoRow : OpenClaim := { program := "ytneideokodhciaa", sum := "d86b1a0cd95212ff64d6f19cadfb23409e6e7c5da2c2a432159626d4548dd611", func := "ragpicker/ragpickerlaw11.EntsCheck", spec := "entsCheck", inPlace := ["slices.overlaps[ragpicker/api.Ent]"], unfollowed := true, recurses := true, apart := false, narrowed := true }
def EntsCheckUptoSaid : Prop := entsCheckUptoRow.holds Try.pinned (OpenSpec.upto entsCheckSpec)

/-- 'ragpickerlaw11.EntsKeep', WHERE WHAT IT READS IS OF BULK AT MOST 1048576: true; the input reads as it did. -/
def entsKeepUptoRow : OpenClaim := { program := "ytneideokodhciaa", sum := "d86b1a0cd95212ff64d6f19cadfb23409e6e7c5da2c2a432159626d4548dd611", func := "ragpicker/ragpickerlaw11.EntsKeep", spec := "entsKeep", inPlace := ["slices.overlaps[ragpicker/api.Ent]"], unfollowed := true, recurses := true, apart := false, narrowed := true }
def EntsKeepUptoSaid : Prop := entsKeepUptoRow.holds Try.pinned (OpenSpec.upto entsKeepSpec)

/-- 'ragpickerlaw11.EntsPlays', WHERE WHAT IT READS IS OF BULK AT MOST 1048576: true; the input reads as it did. -/
def entsPlaysUptoRow : OpenClaim := { program := "ytneideokodhciaa", sum := "d86b1a0cd95212ff64d6f19cadfb23409e6e7c5da2c2a432159626d4548dd611", func := "ragpicker/ragpickerlaw11.EntsPlays", spec := "entsPlays", inPlace := ["slices.overlaps[ragpicker/api.Ent]"], unfollowed := true, recurses := true, apart := false, narrowed := true }
def EntsPlaysUptoSaid : Prop := entsPlaysUptoRow.holds Try.pinned (OpenSpec.upto entsPlaysSpec)

/-- 'ragpickerlaw05.DateTells', WHERE WHAT IT READS IS OF BULK AT MOST 1048576: true; the input reads as it did. -/
def dateTellsUptoRow : OpenClaim := { program := "ytneideokodhciaa", sum := "d86b1a0cd95212ff64d6f19cadfb23409e6e7c5da2c2a432159626d4548dd611", func := "ragpicker/ragpickerlaw05.DateTells", spec := "dateTells", inPlace := ["internal/abi.NoEscape", "internal/bytealg.MakeNoZero"], apart := false, narrowed := true }
def DateTellsUptoSaid : Prop := dateTellsUptoRow.holds Try.pinned (OpenSpec.upto dateTellsSpec)

/-- 'ragpickerlaw05.DateBack', WHERE WHAT IT READS IS OF BULK AT MOST 1048576: true; the input reads as it did. -/
def dateBackUptoRow : OpenClaim := { program := "ytneideokodhciaa", sum := "d86b1a0cd95212ff64d6f19cadfb23409e6e7c5da2c2a432159626d4548dd611", func := "ragpicker/ragpickerlaw05.DateBack", spec := "dateBack", inPlace := ["internal/abi.NoEscape", "internal/bytealg.MakeNoZero"], apart := false, narrowed := true }
def DateBackUptoSaid : Prop := dateBackUptoRow.holds Try.pinned (OpenSpec.upto dateBackSpec)

/-- 'ragpickerlaw05.DateOrder', WHERE WHAT IT READS IS OF BULK AT MOST 1048576: true; the input reads as it did. -/
def dateOrderUptoRow : OpenClaim := { program := "ytneideokodhciaa", sum := "d86b1a0cd95212ff64d6f19cadfb23409e6e7c5da2c2a432159626d4548dd611", func := "ragpicker/ragpickerlaw05.DateOrder", spec := "dateOrder", inPlace := ["internal/abi.NoEscape", "internal/bytealg.MakeNoZero"], apart := false, narrowed := true }
def DateOrderUptoSaid : Prop := dateOrderUptoRow.holds Try.pinned (OpenSpec.upto dateOrderSpec)

end Rows
end Go.Proofs.Ytneideokodhciaa
