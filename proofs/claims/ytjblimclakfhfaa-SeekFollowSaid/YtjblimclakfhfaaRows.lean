/-
  No cell of these rows narrows 'for every input' (looked for: loops, veiled, ifaces, maps, wideKeys, modest, calm, conditions, laid).
  DERIVED. THE GIVEN ROWS OF THIS SEAT. 4 by the template 'for every input the law returns true; each argument reads behind the call as it read before'; 0 by the template 'total and deterministic' (their statements: YtjblimclakfhfaaTotals.lean).
  GIVEN WITH THE SEED: the statements are not yours to turn. If you find one false, say at which input.
  Laid BY PROGRAM, IN A SANDBOX (cutbox-rows.mjs): the forced cells as the released guide's own fill.sh prints them over the translation 0e06185407fdba3a… (all of the seat's roots in one cut). By AI agents, Wed Nov 11 2026. No macro, syntax, notation, axiom, sorry.
-/
import Derived.Test.YtjblimclakfhfaaChecked
import GoSem.Claim
import GoSem.ClaimJoined
import GoSem.ClaimMapViews
import Derived.JoinedTies
import Derived.KernelRfl
namespace Go.Proofs.Ytjblimclakfhfaa
/- THE CELL 'sum', in the pinned program and in every row, IS THE sha256 OF THE DUMP (.gsa) THAT YtjblimclakfhfaaProg.lean LOADS. Nothing in Lean hashes anything: it is a label: what it is worth is what the hold of that sum in a sandbox is worth. -/
noncomputable def Try.pinned : Pinned := { name := "ytjblimclakfhfaa", sum := "0e06185407fdba3ae5aebf4e7452376705025b614cda848a7af2de60632ad522", checked := Try.checked }
namespace Rows
def none {H : Type} : Left H := { results := [], args := [] }

/-- 'ragpickerlaw15.SeekTells': WHATEVER THE INPUT: true; the input reads as it did. -/
def seekTellsSpec : ChangeSpec := { name := "seekTells", fn := fun _ => fun
  | [d1, d2, d3] => { results := [.lit (.bool true)], args := [d1, d2, d3] }
  | _ => none }
def seekTellsRow : OpenClaim := { program := "ytjblimclakfhfaa", sum := "0e06185407fdba3ae5aebf4e7452376705025b614cda848a7af2de60632ad522", func := "ragpicker/ragpickerlaw15.SeekTells", spec := "seekTells", inPlace := ["internal/bytealg.IndexByteString", "internal/bytealg.IndexString"], unfollowed := true, recurses := true, named := ["internal/bytealg.MaxLen"], apart := false }
def SeekTellsSaid : Prop := seekTellsRow.holds Try.pinned (OpenSpec.ofChange seekTellsSpec)

/-- ITS FALSE NEIGHBOUR: 'it returns false'. Refute it at one input. -/
def seekTellsWrong : ChangeSpec := { name := "seekTells", fn := fun _ => fun
  | [d1, d2, d3] => { results := [.lit (.bool false)], args := [d1, d2, d3] }
  | _ => none }
def SeekTellsWrongFalsely : Prop := seekTellsRow.holds Try.pinned (OpenSpec.ofChange seekTellsWrong)

/-- 'ragpickerlaw15.SeekFollow': WHATEVER THE INPUT: true; the input reads as it did. -/
def seekFollowSpec : ChangeSpec := { name := "seekFollow", fn := fun _ => fun
  | [d1, d2, d3] => { results := [.lit (.bool true)], args := [d1, d2, d3] }
  | _ => none }
def seekFollowRow : OpenClaim := { program := "ytjblimclakfhfaa", sum := "0e06185407fdba3ae5aebf4e7452376705025b614cda848a7af2de60632ad522", func := "ragpicker/ragpickerlaw15.SeekFollow", spec := "seekFollow", inPlace := ["internal/bytealg.IndexByteString", "internal/bytealg.IndexString"], unfollowed := true, recurses := true, named := ["internal/bytealg.MaxLen"], apart := false }
def SeekFollowSaid : Prop := seekFollowRow.holds Try.pinned (OpenSpec.ofChange seekFollowSpec)

/-- ITS FALSE NEIGHBOUR: 'it returns false'. Refute it at one input. -/
def seekFollowWrong : ChangeSpec := { name := "seekFollow", fn := fun _ => fun
  | [d1, d2, d3] => { results := [.lit (.bool false)], args := [d1, d2, d3] }
  | _ => none }
def SeekFollowWrongFalsely : Prop := seekFollowRow.holds Try.pinned (OpenSpec.ofChange seekFollowWrong)

/-- 'ragpickerlaw15.SeekHome': WHATEVER THE INPUT: true; the input reads as it did. -/
def seekHomeSpec : ChangeSpec := { name := "seekHome", fn := fun _ => fun
  | [d] => { results := [.lit (.bool true)], args := [d] }
  | _ => none }
def seekHomeRow : OpenClaim := { program := "ytjblimclakfhfaa", sum := "0e06185407fdba3ae5aebf4e7452376705025b614cda848a7af2de60632ad522", func := "ragpicker/ragpickerlaw15.SeekHome", spec := "seekHome", inPlace := ["internal/bytealg.IndexByteString", "internal/bytealg.IndexString", "internal/abi.NoEscape"], unfollowed := true, recurses := true, named := ["internal/bytealg.MaxLen"], apart := false }
def SeekHomeSaid : Prop := seekHomeRow.holds Try.pinned (OpenSpec.ofChange seekHomeSpec)

/-- ITS FALSE NEIGHBOUR: 'it returns false'. Refute it at one input. -/
def seekHomeWrong : ChangeSpec := { name := "seekHome", fn := fun _ => fun
  | [d] => { results := [.lit (.bool false)], args := [d] }
  | _ => none }
def SeekHomeWrongFalsely : Prop := seekHomeRow.holds Try.pinned (OpenSpec.ofChange seekHomeWrong)

/-- 'ragpickerlaw21.SysNone': WHATEVER THE INPUT: true; the input reads as it did. -/
def sysNoneSpec : ChangeSpec := { name := "sysNone", fn := fun _ => fun
  | [d] => { results := [.lit (.bool true)], args := [d] }
  | _ => none }
def sysNoneRow : OpenClaim := { program := "ytjblimclakfhfaa", sum := "0e06185407fdba3ae5aebf4e7452376705025b614cda848a7af2de60632ad522", func := "ragpicker/ragpickerlaw21.SysNone", spec := "sysNone", inPlace := ["internal/bytealg.IndexByteString", "internal/bytealg.IndexString", "slices.overlaps[ragpicker/api.Ent]"], unfollowed := true, recurses := true, named := ["internal/bytealg.MaxLen"], apart := false }
def SysNoneSaid : Prop := sysNoneRow.holds Try.pinned (OpenSpec.ofChange sysNoneSpec)

/-- ITS FALSE NEIGHBOUR: 'it returns false'. Refute it at one input. -/
def sysNoneWrong : ChangeSpec := { name := "sysNone", fn := fun _ => fun
  | [d] => { results := [.lit (.bool false)], args := [d] }
  | _ => none }
def SysNoneWrongFalsely : Prop := sysNoneRow.holds Try.pinned (OpenSpec.ofChange sysNoneWrong)

/- THE SECOND FORM. 'bulk': how many values and letters a reading holds, each counted each time it is reached (what is shared counts as often as it is met; a slice's spare places count too). A statement '..UptoSaid' is the law's where the arguments, and the package variables that the reading takes, are together of bulk at most 1048576: NARROWER than '..Said'. Prove '..Said' where nothing that the law and all that it calls make is longer than what came in: it says more and counts as full. Else prove '..UptoSaid'. A law counts once. -/
mutual
def uptoBulk {H : Type} : DataW H → Nat
  | .lit (.string bytes) => bytes.length + 1
  | .lit _ => 1
  | .nil => 1
  | .ptr d => uptoBulk d + 1
  | .slice elems spare => uptoBulkAll elems + uptoBulkAll spare + 1
  | .agg parts => uptoBulkAll parts + 1
  | .iface _ d => uptoBulk d + 1
  | .map entries => uptoBulkEntries entries + 1
  | .held _ => 1
def uptoBulkAll {H : Type} : List (DataW H) → Nat
  | [] => 0
  | d :: r => uptoBulk d + uptoBulkAll r
def uptoBulkEntries {H : Type} : List (Lit × DataW H) → Nat
  | [] => 0
  | x :: r => uptoBulkEntry x + uptoBulkEntries r
def uptoBulkEntry {H : Type} : Lit × DataW H → Nat
  | (.string bytes, d) => bytes.length + uptoBulk d + 1
  | (_, d) => uptoBulk d + 1
 end
def uptoSmall : (H : Type) → List (DataW H) → Bool := fun _ ds => decide (uptoBulkAll ds ≤ 1048576)
def OpenSpec.upto (s : _root_.Go.ChangeSpec) : _root_.Go.OpenSpec := { _root_.Go.OpenSpec.ofChange s with cond := some uptoSmall }

/-- 'ragpickerlaw15.SeekTells', WHERE WHAT IT READS IS OF BULK AT MOST 1048576: true; the input reads as it did. -/
def seekTellsUptoRow : OpenClaim := { program := "ytjblimclakfhfaa", sum := "0e06185407fdba3ae5aebf4e7452376705025b614cda848a7af2de60632ad522", func := "ragpicker/ragpickerlaw15.SeekTells", spec := "seekTells", inPlace := ["internal/bytealg.IndexByteString", "internal/bytealg.IndexString"], unfollowed := true, recurses := true, named := ["internal/bytealg.MaxLen"], apart := false, narrowed := true }
def SeekTellsUptoSaid : Prop := seekTellsUptoRow.holds Try.pinned (OpenSpec.upto seekTellsSpec)

/-- 'ragpickerlaw15.SeekFollow', WHERE WHAT IT READS IS OF BULK AT MOST 1048576: true; the input reads as it did. -/
def seekFollowUptoRow : OpenClaim := { program := "ytjblimclakfhfaa", sum := "0e06185407fdba3ae5aebf4e7452376705025b614cda848a7af2de60632ad522", func := "ragpicker/ragpickerlaw15.SeekFollow", spec := "seekFollow", inPlace := ["internal/bytealg.IndexByteString", "internal/bytealg.IndexString"], unfollowed := true, recurses := true, named := ["internal/bytealg.MaxLen"], apart := false, narrowed := true }
def SeekFollowUptoSaid : Prop := seekFollowUptoRow.holds Try.pinned (OpenSpec.upto seekFollowSpec)

/-- 'ragpickerlaw15.SeekHome', WHERE WHAT IT READS IS OF BULK AT MOST 1048576: true; the input reads as it did. -/
def seekHomeUptoRow : OpenClaim := { program := "ytjblimclakfhfaa", sum := "0e06185407fdba3ae5aebf4e7452376705025b614cda848a7af2de60632ad522", func := "ragpicker/ragpickerlaw15.SeekHome", spec := "seekHome", inPlace := ["internal/bytealg.IndexByteString", "internal/bytealg.IndexString", "internal/abi.NoEscape"], unfollowed := true, recurses := true, named := ["internal/bytealg.MaxLen"], apart := false, narrowed := true }
def SeekHomeUptoSaid : Prop := seekHomeUptoRow.holds Try.pinned (OpenSpec.upto seekHomeSpec)

/-- 'ragpickerlaw21.SysNone', WHERE WHAT IT READS IS OF BULK AT MOST 1048576: true; the input reads as it did. -/
def sysNoneUptoRow : OpenClaim := { program := "ytjblimclakfhfaa", sum := "0e06185407fdba3ae5aebf4e7452376705025b614cda848a7af2de60632ad522", func := "ragpicker/ragpickerlaw21.SysNone", spec := "sysNone", inPlace := ["internal/bytealg.IndexByteString", "internal/bytealg.IndexString", "slices.overlaps[ragpicker/api.Ent]"], unfollowed := true, recurses := true, named := ["internal/bytealg.MaxLen"], apart := false, narrowed := true }
def SysNoneUptoSaid : Prop := sysNoneUptoRow.holds Try.pinned (OpenSpec.upto sysNoneSpec)

end Rows
end Go.Proofs.Ytjblimclakfhfaa
