/-
  NARROWER THAN 'FOR EVERY INPUT', by the rows' own cells (each row's printed sentence says how): NameTells: laid · NameParts: laid · NameStops: laid · TrackOnce: laid · TrackTells: laid · TrackBack: laid · SizesTells: laid · SizesBack: laid · SizesPlays: laid · ArgsTells: laid · ArgsBack: laid · ArgsParses: laid.
  DERIVED. THE GIVEN ROWS OF THIS SEAT. 12 by the template 'for every input the law returns true; each argument reads behind the call as it read before'; 0 by the template 'total and deterministic' (their statements: YtmppjbimdonfmaaDoorTotals.lean).
  GIVEN WITH THE SEED: the statements are not yours to turn. If you find one false, say at which input.
  Laid BY PROGRAM, IN A SANDBOX (cutbox-rows.mjs): the forced cells as the released guide's own fill.sh prints them over the translation f98c2ba797138bce… (all of the seat's roots in one cut). By AI agents, Wed Nov 11 2026. No macro, syntax, notation, axiom, sorry.
-/
import Derived.Test.YtmppjbimdonfmaaDoorChecked
import GoSem.PinnedTables
import GoSem.Claim
import GoSem.ClaimJoined
import GoSem.ClaimMapViews
import Derived.JoinedTies
import Derived.KernelRfl
namespace Go.Proofs.YtmppjbimdonfmaaDoor
/- THE CELL 'sum', in the pinned program and in every row, IS THE sha256 OF THE DUMP (.gsa) THAT YtmppjbimdonfmaaDoorProg.lean LOADS. Nothing in Lean hashes anything: it is a label: what it is worth is what the hold of that sum in a sandbox is worth. -/
noncomputable def Tryd.pinned : Pinned := { name := "ytmppjbimdonfmaadoor", sum := "f98c2ba797138bce58eabb5c9a3449fe3bcc9eec42e5e185ea41c0e76433e113", checked := Tryd.checked }
namespace Rows
def none {H : Type} : Left H := { results := [], args := [] }

/- WHAT THE LISTED PACKAGE-LEVEL VARIABLES READ AS WHEN THE CALL BEGINS. Each datum BY PROGRAM (the guide's laid-datum.mjs) off the statement by which the dump's own 'gosem.cut.vars' lays the variable. In a bare row this is a premise. The card (YtmppjbimdonfmaaDoorCards.lean) ties it to the program's text. -/
def laid_unicode_utf8_acceptRanges {H : Type} : DataW H := .agg [.agg [.lit (.int .u8 128), .lit (.int .u8 191)], .agg [.lit (.int .u8 160), .lit (.int .u8 191)], .agg [.lit (.int .u8 128), .lit (.int .u8 159)], .agg [.lit (.int .u8 144), .lit (.int .u8 191)], .agg [.lit (.int .u8 128), .lit (.int .u8 143)], .agg [.lit (.int .u8 0), .lit (.int .u8 0)], .agg [.lit (.int .u8 0), .lit (.int .u8 0)], .agg [.lit (.int .u8 0), .lit (.int .u8 0)], .agg [.lit (.int .u8 0), .lit (.int .u8 0)], .agg [.lit (.int .u8 0), .lit (.int .u8 0)], .agg [.lit (.int .u8 0), .lit (.int .u8 0)], .agg [.lit (.int .u8 0), .lit (.int .u8 0)], .agg [.lit (.int .u8 0), .lit (.int .u8 0)], .agg [.lit (.int .u8 0), .lit (.int .u8 0)], .agg [.lit (.int .u8 0), .lit (.int .u8 0)], .agg [.lit (.int .u8 0), .lit (.int .u8 0)]]
/-- One of Go's own tables, pinned by name: the form's constant. -/
def laid_unicode_utf8_first : DataW Unit := Go.Pinned.utf8First
def laid_ragpicker_args_names {H : Type} : DataW H := .agg [.lit (.string []), .lit (.string [116, 114, 97, 115, 104]), .lit (.string [108, 105, 115, 116]), .lit (.string [114, 101, 115, 116, 111, 114, 101]), .lit (.string [101, 109, 112, 116, 121]), .lit (.string [101, 120, 112, 105, 114, 101]), .lit (.string [114, 109]), .lit (.string [109, 118]), .lit (.string [99, 112]), .lit (.string [117, 110, 100, 111])]

/-- 'ragpickerlaw02.NameTells': WHATEVER THE INPUT: true; the input reads as it did. -/
def nameTellsSpec : ChangeSpec := { name := "nameTells", fn := fun _ => fun
  | [d] => { results := [.lit (.bool true)], args := [d] }
  | _ => none }
def nameTellsRow : OpenClaim := { program := "ytmppjbimdonfmaadoor", sum := "f98c2ba797138bce58eabb5c9a3449fe3bcc9eec42e5e185ea41c0e76433e113", func := "ragpicker/ragpickerlaw02.NameTells", spec := "nameTells", inPlace := ["internal/bytealg.IndexByteString", "internal/bytealg.IndexString"], unfollowed := true, recurses := true, named := ["unicode/utf8.first", "unicode/utf8.acceptRanges", "internal/bytealg.MaxLen"], apart := false, laid := [("unicode/utf8.acceptRanges", laid_unicode_utf8_acceptRanges), ("unicode/utf8.first", laid_unicode_utf8_first)] }
def NameTellsSaid : Prop := nameTellsRow.holds Tryd.pinned (OpenSpec.ofChange nameTellsSpec)

/-- ITS FALSE NEIGHBOUR: 'it returns false'. Refute it at one input. -/
def nameTellsWrong : ChangeSpec := { name := "nameTells", fn := fun _ => fun
  | [d] => { results := [.lit (.bool false)], args := [d] }
  | _ => none }
def NameTellsWrongFalsely : Prop := nameTellsRow.holds Tryd.pinned (OpenSpec.ofChange nameTellsWrong)

/-- 'ragpickerlaw02.NameParts': WHATEVER THE INPUT: true; the input reads as it did. -/
def namePartsSpec : ChangeSpec := { name := "nameParts", fn := fun _ => fun
  | [d] => { results := [.lit (.bool true)], args := [d] }
  | _ => none }
def namePartsRow : OpenClaim := { program := "ytmppjbimdonfmaadoor", sum := "f98c2ba797138bce58eabb5c9a3449fe3bcc9eec42e5e185ea41c0e76433e113", func := "ragpicker/ragpickerlaw02.NameParts", spec := "nameParts", inPlace := ["internal/bytealg.IndexByteString", "internal/bytealg.IndexString"], unfollowed := true, recurses := true, named := ["unicode/utf8.first", "unicode/utf8.acceptRanges", "internal/bytealg.MaxLen"], apart := false, laid := [("unicode/utf8.acceptRanges", laid_unicode_utf8_acceptRanges), ("unicode/utf8.first", laid_unicode_utf8_first)] }
def NamePartsSaid : Prop := namePartsRow.holds Tryd.pinned (OpenSpec.ofChange namePartsSpec)

/-- ITS FALSE NEIGHBOUR: 'it returns false'. Refute it at one input. -/
def namePartsWrong : ChangeSpec := { name := "nameParts", fn := fun _ => fun
  | [d] => { results := [.lit (.bool false)], args := [d] }
  | _ => none }
def NamePartsWrongFalsely : Prop := namePartsRow.holds Tryd.pinned (OpenSpec.ofChange namePartsWrong)

/-- 'ragpickerlaw02.NameStops': WHATEVER THE INPUT: true; the input reads as it did. -/
def nameStopsSpec : ChangeSpec := { name := "nameStops", fn := fun _ => fun
  | [d1, d2] => { results := [.lit (.bool true)], args := [d1, d2] }
  | _ => none }
def nameStopsRow : OpenClaim := { program := "ytmppjbimdonfmaadoor", sum := "f98c2ba797138bce58eabb5c9a3449fe3bcc9eec42e5e185ea41c0e76433e113", func := "ragpicker/ragpickerlaw02.NameStops", spec := "nameStops", inPlace := ["internal/bytealg.IndexByteString", "internal/bytealg.IndexString"], unfollowed := true, recurses := true, named := ["unicode/utf8.first", "unicode/utf8.acceptRanges", "internal/bytealg.MaxLen"], apart := false, laid := [("unicode/utf8.acceptRanges", laid_unicode_utf8_acceptRanges), ("unicode/utf8.first", laid_unicode_utf8_first)] }
def NameStopsSaid : Prop := nameStopsRow.holds Tryd.pinned (OpenSpec.ofChange nameStopsSpec)

/-- ITS FALSE NEIGHBOUR: 'it returns false'. Refute it at one input. -/
def nameStopsWrong : ChangeSpec := { name := "nameStops", fn := fun _ => fun
  | [d1, d2] => { results := [.lit (.bool false)], args := [d1, d2] }
  | _ => none }
def NameStopsWrongFalsely : Prop := nameStopsRow.holds Tryd.pinned (OpenSpec.ofChange nameStopsWrong)

/-- 'ragpickerlaw03.TrackOnce': WHATEVER THE INPUT: true; the input reads as it did. -/
def trackOnceSpec : ChangeSpec := { name := "trackOnce", fn := fun _ => fun
  | [d] => { results := [.lit (.bool true)], args := [d] }
  | _ => none }
def trackOnceRow : OpenClaim := { program := "ytmppjbimdonfmaadoor", sum := "f98c2ba797138bce58eabb5c9a3449fe3bcc9eec42e5e185ea41c0e76433e113", func := "ragpicker/ragpickerlaw03.TrackOnce", spec := "trackOnce", inPlace := ["internal/abi.NoEscape", "internal/bytealg.MakeNoZero", "internal/bytealg.IndexByteString", "internal/bytealg.IndexString"], unfollowed := true, recurses := true, named := ["unicode/utf8.first", "unicode/utf8.acceptRanges", "internal/bytealg.MaxLen"], apart := false, laid := [("unicode/utf8.acceptRanges", laid_unicode_utf8_acceptRanges), ("unicode/utf8.first", laid_unicode_utf8_first)] }
def TrackOnceSaid : Prop := trackOnceRow.holds Tryd.pinned (OpenSpec.ofChange trackOnceSpec)

/-- ITS FALSE NEIGHBOUR: 'it returns false'. Refute it at one input. -/
def trackOnceWrong : ChangeSpec := { name := "trackOnce", fn := fun _ => fun
  | [d] => { results := [.lit (.bool false)], args := [d] }
  | _ => none }
def TrackOnceWrongFalsely : Prop := trackOnceRow.holds Tryd.pinned (OpenSpec.ofChange trackOnceWrong)

/-- 'ragpickerlaw03.TrackTells': WHATEVER THE INPUT: true; the input reads as it did. -/
def trackTellsSpec : ChangeSpec := { name := "trackTells", fn := fun _ => fun
  | [d1, d2] => { results := [.lit (.bool true)], args := [d1, d2] }
  | _ => none }
def trackTellsRow : OpenClaim := { program := "ytmppjbimdonfmaadoor", sum := "f98c2ba797138bce58eabb5c9a3449fe3bcc9eec42e5e185ea41c0e76433e113", func := "ragpicker/ragpickerlaw03.TrackTells", spec := "trackTells", inPlace := ["internal/abi.NoEscape", "internal/bytealg.MakeNoZero", "internal/bytealg.IndexByteString", "internal/bytealg.IndexString"], unfollowed := true, recurses := true, named := ["unicode/utf8.first", "unicode/utf8.acceptRanges", "internal/bytealg.MaxLen"], apart := false, laid := [("unicode/utf8.acceptRanges", laid_unicode_utf8_acceptRanges), ("unicode/utf8.first", laid_unicode_utf8_first)] }
def TrackTellsSaid : Prop := trackTellsRow.holds Tryd.pinned (OpenSpec.ofChange trackTellsSpec)

/-- ITS FALSE NEIGHBOUR: 'it returns false'. Refute it at one input. -/
def trackTellsWrong : ChangeSpec := { name := "trackTells", fn := fun _ => fun
  | [d1, d2] => { results := [.lit (.bool false)], args := [d1, d2] }
  | _ => none }
def TrackTellsWrongFalsely : Prop := trackTellsRow.holds Tryd.pinned (OpenSpec.ofChange trackTellsWrong)

/-- 'ragpickerlaw03.TrackBack': WHATEVER THE INPUT: true; the input reads as it did. -/
def trackBackSpec : ChangeSpec := { name := "trackBack", fn := fun _ => fun
  | [d1, d2] => { results := [.lit (.bool true)], args := [d1, d2] }
  | _ => none }
def trackBackRow : OpenClaim := { program := "ytmppjbimdonfmaadoor", sum := "f98c2ba797138bce58eabb5c9a3449fe3bcc9eec42e5e185ea41c0e76433e113", func := "ragpicker/ragpickerlaw03.TrackBack", spec := "trackBack", inPlace := ["internal/abi.NoEscape", "internal/bytealg.MakeNoZero", "internal/bytealg.IndexByteString", "internal/bytealg.IndexString"], unfollowed := true, recurses := true, named := ["unicode/utf8.first", "unicode/utf8.acceptRanges", "internal/bytealg.MaxLen"], apart := false, laid := [("unicode/utf8.acceptRanges", laid_unicode_utf8_acceptRanges), ("unicode/utf8.first", laid_unicode_utf8_first)] }
def TrackBackSaid : Prop := trackBackRow.holds Tryd.pinned (OpenSpec.ofChange trackBackSpec)

/-- ITS FALSE NEIGHBOUR: 'it returns false'. Refute it at one input. -/
def trackBackWrong : ChangeSpec := { name := "trackBack", fn := fun _ => fun
  | [d1, d2] => { results := [.lit (.bool false)], args := [d1, d2] }
  | _ => none }
def TrackBackWrongFalsely : Prop := trackBackRow.holds Tryd.pinned (OpenSpec.ofChange trackBackWrong)

/-- 'ragpickerlaw07.SizesTells': WHATEVER THE INPUT: true; the input reads as it did. -/
def sizesTellsSpec : ChangeSpec := { name := "sizesTells", fn := fun _ => fun
  | [d1, d2] => { results := [.lit (.bool true)], args := [d1, d2] }
  | _ => none }
def sizesTellsRow : OpenClaim := { program := "ytmppjbimdonfmaadoor", sum := "f98c2ba797138bce58eabb5c9a3449fe3bcc9eec42e5e185ea41c0e76433e113", func := "ragpicker/ragpickerlaw07.SizesTells", spec := "sizesTells", inPlace := ["internal/bytealg.IndexByteString", "internal/bytealg.IndexString", "internal/abi.NoEscape"], unfollowed := true, recurses := true, named := ["unicode/utf8.first", "unicode/utf8.acceptRanges", "internal/bytealg.MaxLen"], apart := false, laid := [("unicode/utf8.acceptRanges", laid_unicode_utf8_acceptRanges), ("unicode/utf8.first", laid_unicode_utf8_first)] }
def SizesTellsSaid : Prop := sizesTellsRow.holds Tryd.pinned (OpenSpec.ofChange sizesTellsSpec)

/-- ITS FALSE NEIGHBOUR: 'it returns false'. Refute it at one input. -/
def sizesTellsWrong : ChangeSpec := { name := "sizesTells", fn := fun _ => fun
  | [d1, d2] => { results := [.lit (.bool false)], args := [d1, d2] }
  | _ => none }
def SizesTellsWrongFalsely : Prop := sizesTellsRow.holds Tryd.pinned (OpenSpec.ofChange sizesTellsWrong)

/-- 'ragpickerlaw07.SizesBack': WHATEVER THE INPUT: true; the input reads as it did. -/
def sizesBackSpec : ChangeSpec := { name := "sizesBack", fn := fun _ => fun
  | [d] => { results := [.lit (.bool true)], args := [d] }
  | _ => none }
def sizesBackRow : OpenClaim := { program := "ytmppjbimdonfmaadoor", sum := "f98c2ba797138bce58eabb5c9a3449fe3bcc9eec42e5e185ea41c0e76433e113", func := "ragpicker/ragpickerlaw07.SizesBack", spec := "sizesBack", inPlace := ["internal/bytealg.IndexByteString", "internal/bytealg.IndexString", "internal/abi.NoEscape"], unfollowed := true, recurses := true, named := ["unicode/utf8.first", "unicode/utf8.acceptRanges", "internal/bytealg.MaxLen"], apart := false, laid := [("unicode/utf8.acceptRanges", laid_unicode_utf8_acceptRanges), ("unicode/utf8.first", laid_unicode_utf8_first)] }
def SizesBackSaid : Prop := sizesBackRow.holds Tryd.pinned (OpenSpec.ofChange sizesBackSpec)

/-- ITS FALSE NEIGHBOUR: 'it returns false'. Refute it at one input. -/
def sizesBackWrong : ChangeSpec := { name := "sizesBack", fn := fun _ => fun
  | [d] => { results := [.lit (.bool false)], args := [d] }
  | _ => none }
def SizesBackWrongFalsely : Prop := sizesBackRow.holds Tryd.pinned (OpenSpec.ofChange sizesBackWrong)

/-- 'ragpickerlaw07.SizesPlays': WHATEVER THE INPUT: true; the input reads as it did. -/
def sizesPlaysSpec : ChangeSpec := { name := "sizesPlays", fn := fun _ => fun
  | [d1, d2] => { results := [.lit (.bool true)], args := [d1, d2] }
  | _ => none }
def sizesPlaysRow : OpenClaim := { program := "ytmppjbimdonfmaadoor", sum := "f98c2ba797138bce58eabb5c9a3449fe3bcc9eec42e5e185ea41c0e76433e113", func := "ragpicker/ragpickerlaw07.SizesPlays", spec := "sizesPlays", inPlace := ["internal/bytealg.IndexByteString", "internal/bytealg.IndexString", "internal/abi.NoEscape"], unfollowed := true, recurses := true, named := ["unicode/utf8.first", "unicode/utf8.acceptRanges", "internal/bytealg.MaxLen"], apart := false, laid := [("unicode/utf8.acceptRanges", laid_unicode_utf8_acceptRanges), ("unicode/utf8.first", laid_unicode_utf8_first)] }
def SizesPlaysSaid : Prop := sizesPlaysRow.holds Tryd.pinned (OpenSpec.ofChange sizesPlaysSpec)

/-- ITS FALSE NEIGHBOUR: 'it returns false'. Refute it at one input. -/
def sizesPlaysWrong : ChangeSpec := { name := "sizesPlays", fn := fun _ => fun
  | [d1, d2] => { results := [.lit (.bool false)], args := [d1, d2] }
  | _ => none }
def SizesPlaysWrongFalsely : Prop := sizesPlaysRow.holds Tryd.pinned (OpenSpec.ofChange sizesPlaysWrong)

/-- 'ragpickerlaw46.ArgsTells': WHATEVER THE INPUT: true; the input reads as it did. -/
def argsTellsSpec : ChangeSpec := { name := "argsTells", fn := fun _ => fun
  | [d1, d2] => { results := [.lit (.bool true)], args := [d1, d2] }
  | _ => none }
def argsTellsRow : OpenClaim := { program := "ytmppjbimdonfmaadoor", sum := "f98c2ba797138bce58eabb5c9a3449fe3bcc9eec42e5e185ea41c0e76433e113", func := "ragpicker/ragpickerlaw46.ArgsTells", spec := "argsTells", inPlace := ["internal/bytealg.IndexByteString", "internal/bytealg.IndexString", "internal/bytealg.CountString", "internal/abi.NoEscape", "internal/bytealg.MakeNoZero"], named := ["ragpicker/args.names", "internal/bytealg.MaxLen", "unicode/utf8.first", "unicode/utf8.acceptRanges"], apart := false, laid := [("unicode/utf8.acceptRanges", laid_unicode_utf8_acceptRanges), ("ragpicker/args.names", laid_ragpicker_args_names), ("unicode/utf8.first", laid_unicode_utf8_first)] }
def ArgsTellsSaid : Prop := argsTellsRow.holds Tryd.pinned (OpenSpec.ofChange argsTellsSpec)

/-- ITS FALSE NEIGHBOUR: 'it returns false'. Refute it at one input. -/
def argsTellsWrong : ChangeSpec := { name := "argsTells", fn := fun _ => fun
  | [d1, d2] => { results := [.lit (.bool false)], args := [d1, d2] }
  | _ => none }
def ArgsTellsWrongFalsely : Prop := argsTellsRow.holds Tryd.pinned (OpenSpec.ofChange argsTellsWrong)

/-- 'ragpickerlaw46.ArgsBack': WHATEVER THE INPUT: true; the input reads as it did. -/
def argsBackSpec : ChangeSpec := { name := "argsBack", fn := fun _ => fun
  | [d] => { results := [.lit (.bool true)], args := [d] }
  | _ => none }
def argsBackRow : OpenClaim := { program := "ytmppjbimdonfmaadoor", sum := "f98c2ba797138bce58eabb5c9a3449fe3bcc9eec42e5e185ea41c0e76433e113", func := "ragpicker/ragpickerlaw46.ArgsBack", spec := "argsBack", inPlace := ["internal/bytealg.IndexByteString", "internal/bytealg.IndexString", "internal/bytealg.CountString", "internal/abi.NoEscape", "internal/bytealg.MakeNoZero"], named := ["ragpicker/args.names", "internal/bytealg.MaxLen", "unicode/utf8.first", "unicode/utf8.acceptRanges"], apart := false, laid := [("unicode/utf8.acceptRanges", laid_unicode_utf8_acceptRanges), ("ragpicker/args.names", laid_ragpicker_args_names), ("unicode/utf8.first", laid_unicode_utf8_first)] }
def ArgsBackSaid : Prop := argsBackRow.holds Tryd.pinned (OpenSpec.ofChange argsBackSpec)

/-- ITS FALSE NEIGHBOUR: 'it returns false'. Refute it at one input. -/
def argsBackWrong : ChangeSpec := { name := "argsBack", fn := fun _ => fun
  | [d] => { results := [.lit (.bool false)], args := [d] }
  | _ => none }
def ArgsBackWrongFalsely : Prop := argsBackRow.holds Tryd.pinned (OpenSpec.ofChange argsBackWrong)

/-- 'ragpickerlaw46.ArgsParses': WHATEVER THE INPUT: true; the input reads as it did. -/
def argsParsesSpec : ChangeSpec := { name := "argsParses", fn := fun _ => fun
  | [d1, d2, d3] => { results := [.lit (.bool true)], args := [d1, d2, d3] }
  | _ => none }
def argsParsesRow : OpenClaim := { program := "ytmppjbimdonfmaadoor", sum := "f98c2ba797138bce58eabb5c9a3449fe3bcc9eec42e5e185ea41c0e76433e113", func := "ragpicker/ragpickerlaw46.ArgsParses", spec := "argsParses", inPlace := ["internal/bytealg.IndexByteString", "internal/bytealg.IndexString", "internal/bytealg.CountString", "internal/abi.NoEscape", "internal/bytealg.MakeNoZero"], named := ["ragpicker/args.names", "internal/bytealg.MaxLen", "unicode/utf8.first", "unicode/utf8.acceptRanges"], apart := false, laid := [("unicode/utf8.acceptRanges", laid_unicode_utf8_acceptRanges), ("ragpicker/args.names", laid_ragpicker_args_names), ("unicode/utf8.first", laid_unicode_utf8_first)] }
def ArgsParsesSaid : Prop := argsParsesRow.holds Tryd.pinned (OpenSpec.ofChange argsParsesSpec)

/-- ITS FALSE NEIGHBOUR: 'it returns false'. Refute it at one input. -/
def argsParsesWrong : ChangeSpec := { name := "argsParses", fn := fun _ => fun
  | [d1, d2, d3] => { results := [.lit (.bool false)], args := [d1, d2, d3] }
  | _ => none }
def ArgsParsesWrongFalsely : Prop := argsParsesRow.holds Tryd.pinned (OpenSpec.ofChange argsParsesWrong)

/- THE SECOND FORM. 'bulk': how many values and letters a reading holds, each counted each time it is reached (what is shared counts as often as it is met; a slice's spare places count too). A statement '..UptoSaid' is the law's where the arguments, and the package variables that the reading takes, are together of bulk at most 1048576: NARROWER than '..Said'. Prove '..Said' where nothing that the law and all that it calls make is longer than what came in: it says more and counts as full. Else prove '..UptoSaid'. A law counts once. -/
mutual
def uptoBulk {H : Type} : DataW H → Nat
  | .lit (.string bytes) => bytes.length + 1
  | .lit _ => 1
  | .nil => 1
  | .ptr d => uptoBulk d + 1
  | .slice elems spare => uptoBulkAll elems + uptoBulkAll spare + 1
  | .agg parts => uptoBulkAll parts + 1
  | .iface _ d => uptoBulk d + 1
  | .map entries => uptoBulkEntries entries + 1
  | .held _ => 1
def uptoBulkAll {H : Type} : List (DataW H) → Nat
  | [] => 0
  | d :: r => uptoBulk d + uptoBulkAll r
def uptoBulkEntries {H : Type} : List (Lit × DataW H) → Nat
  | [] => 0
  | x :: r => uptoBulkEntry x + uptoBulkEntries r
def uptoBulkEntry {H : Type} : Lit × DataW H → Nat
  | (.string bytes, d) => bytes.length + uptoBulk d + 1
  | (_, d) => uptoBulk d + 1
 end
def uptoSmall : (H : Type) → List (DataW H) → Bool := fun _ ds => decide (uptoBulkAll ds ≤ 1048576)
def OpenSpec.upto (s : _root_.Go.ChangeSpec) : _root_.Go.OpenSpec := { _root_.Go.OpenSpec.ofChange s with cond := some uptoSmall }

/-- 'ragpickerlaw02.NameTells', WHERE WHAT IT READS IS OF BULK AT MOST 1048576: true; the input reads as it did. -/
def nameTellsUptoRow : OpenClaim := { program := "ytmppjbimdonfmaadoor", sum := "f98c2ba797138bce58eabb5c9a3449fe3bcc9eec42e5e185ea41c0e76433e113", func := "ragpicker/ragpickerlaw02.NameTells", spec := "nameTells", inPlace := ["internal/bytealg.IndexByteString", "internal/bytealg.IndexString"], unfollowed := true, recurses := true, named := ["unicode/utf8.first", "unicode/utf8.acceptRanges", "internal/bytealg.MaxLen"], apart := false, laid := [("unicode/utf8.acceptRanges", laid_unicode_utf8_acceptRanges), ("unicode/utf8.first", laid_unicode_utf8_first)], narrowed := true }
def NameTellsUptoSaid : Prop := nameTellsUptoRow.holds Tryd.pinned (OpenSpec.upto nameTellsSpec)

/-- 'ragpickerlaw02.NameParts', WHERE WHAT IT READS IS OF BULK AT MOST 1048576: true; the input reads as it did. -/
def namePartsUptoRow : OpenClaim := { program := "ytmppjbimdonfmaadoor", sum := "f98c2ba797138bce58eabb5c9a3449fe3bcc9eec42e5e185ea41c0e76433e113", func := "ragpicker/ragpickerlaw02.NameParts", spec := "nameParts", inPlace := ["internal/bytealg.IndexByteString", "internal/bytealg.IndexString"], unfollowed := true, recurses := true, named := ["unicode/utf8.first", "unicode/utf8.acceptRanges", "internal/bytealg.MaxLen"], apart := false, laid := [("unicode/utf8.acceptRanges", laid_unicode_utf8_acceptRanges), ("unicode/utf8.first", laid_unicode_utf8_first)], narrowed := true }
def NamePartsUptoSaid : Prop := namePartsUptoRow.holds Tryd.pinned (OpenSpec.upto namePartsSpec)

/-- 'ragpickerlaw02.NameStops', WHERE WHAT IT READS IS OF BULK AT MOST 1048576: true; the input reads as it did. -/
def nameStopsUptoRow : OpenClaim := { program := "ytmppjbimdonfmaadoor", sum := "f98c2ba797138bce58eabb5c9a3449fe3bcc9eec42e5e185ea41c0e76433e113", func := "ragpicker/ragpickerlaw02.NameStops", spec := "nameStops", inPlace := ["internal/bytealg.IndexByteString", "internal/bytealg.IndexString"], unfollowed := true, recurses := true, named := ["unicode/utf8.first", "unicode/utf8.acceptRanges", "internal/bytealg.MaxLen"], apart := false, laid := [("unicode/utf8.acceptRanges", laid_unicode_utf8_acceptRanges), ("unicode/utf8.first", laid_unicode_utf8_first)], narrowed := true }
def NameStopsUptoSaid : Prop := nameStopsUptoRow.holds Tryd.pinned (OpenSpec.upto nameStopsSpec)

/-- 'ragpickerlaw03.TrackOnce', WHERE WHAT IT READS IS OF BULK AT MOST 1048576: true; the input reads as it did. -/
def trackOnceUptoRow : OpenClaim := { program := "ytmppjbimdonfmaadoor", sum := "f98c2ba797138bce58eabb5c9a3449fe3bcc9eec42e5e185ea41c0e76433e113", func := "ragpicker/ragpickerlaw03.TrackOnce", spec := "trackOnce", inPlace := ["internal/abi.NoEscape", "internal/bytealg.MakeNoZero", "internal/bytealg.IndexByteString", "internal/bytealg.IndexString"], unfollowed := true, recurses := true, named := ["unicode/utf8.first", "unicode/utf8.acceptRanges", "internal/bytealg.MaxLen"], apart := false, laid := [("unicode/utf8.acceptRanges", laid_unicode_utf8_acceptRanges), ("unicode/utf8.first", laid_unicode_utf8_first)], narrowed := true }
def TrackOnceUptoSaid : Prop := trackOnceUptoRow.holds Tryd.pinned (OpenSpec.upto trackOnceSpec)

/-- 'ragpickerlaw03.TrackTells', WHERE WHAT IT READS IS OF BULK AT MOST 1048576: true; the input reads as it did. -/
def trackTellsUptoRow : OpenClaim := { program := "ytmppjbimdonfmaadoor", sum := "f98c2ba797138bce58eabb5c9a3449fe3bcc9eec42e5e185ea41c0e76433e113", func := "ragpicker/ragpickerlaw03.TrackTells", spec := "trackTells", inPlace := ["internal/abi.NoEscape", "internal/bytealg.MakeNoZero", "internal/bytealg.IndexByteString", "internal/bytealg.IndexString"], unfollowed := true, recurses := true, named := ["unicode/utf8.first", "unicode/utf8.acceptRanges", "internal/bytealg.MaxLen"], apart := false, laid := [("unicode/utf8.acceptRanges", laid_unicode_utf8_acceptRanges), ("unicode/utf8.first", laid_unicode_utf8_first)], narrowed := true }
def TrackTellsUptoSaid : Prop := trackTellsUptoRow.holds Tryd.pinned (OpenSpec.upto trackTellsSpec)

/-- 'ragpickerlaw03.TrackBack', WHERE WHAT IT READS IS OF BULK AT MOST 1048576: true; the input reads as it did. -/
def trackBackUptoRow : OpenClaim := { program := "ytmppjbimdonfmaadoor", sum := "f98c2ba797138bce58eabb5c9a3449fe3bcc9eec42e5e185ea41c0e76433e113", func := "ragpicker/ragpickerlaw03.TrackBack", spec := "trackBack", inPlace := ["internal/abi.NoEscape", "internal/bytealg.MakeNoZero", "internal/bytealg.IndexByteString", "internal/bytealg.IndexString"], unfollowed := true, recurses := true, named := ["unicode/utf8.first", "unicode/utf8.acceptRanges", "internal/bytealg.MaxLen"], apart := false, laid := [("unicode/utf8.acceptRanges", laid_unicode_utf8_acceptRanges), ("unicode/utf8.first", laid_unicode_utf8_first)], narrowed := true }
def TrackBackUptoSaid : Prop := trackBackUptoRow.holds Tryd.pinned (OpenSpec.upto trackBackSpec)

/-- 'ragpickerlaw07.SizesTells', WHERE WHAT IT READS IS OF BULK AT MOST 1048576: true; the input reads as it did. -/
def sizesTellsUptoRow : OpenClaim := { program := "ytmppjbimdonfmaadoor", sum := "f98c2ba797138bce58eabb5c9a3449fe3bcc9eec42e5e185ea41c0e76433e113", func := "ragpicker/ragpickerlaw07.SizesTells", spec := "sizesTells", inPlace := ["internal/bytealg.IndexByteString", "internal/bytealg.IndexString", "internal/abi.NoEscape"], unfollowed := true, recurses := true, named := ["unicode/utf8.first", "unicode/utf8.acceptRanges", "internal/bytealg.MaxLen"], apart := false, laid := [("unicode/utf8.acceptRanges", laid_unicode_utf8_acceptRanges), ("unicode/utf8.first", laid_unicode_utf8_first)], narrowed := true }
def SizesTellsUptoSaid : Prop := sizesTellsUptoRow.holds Tryd.pinned (OpenSpec.upto sizesTellsSpec)

/-- 'ragpickerlaw07.SizesBack', WHERE WHAT IT READS IS OF BULK AT MOST 1048576: true; the input reads as it did. -/
def sizesBackUptoRow : OpenClaim := { program := "ytmppjbimdonfmaadoor", sum := "f98c2ba797138bce58eabb5c9a3449fe3bcc9eec42e5e185ea41c0e76433e113", func := "ragpicker/ragpickerlaw07.SizesBack", spec := "sizesBack", inPlace := ["internal/bytealg.IndexByteString", "internal/bytealg.IndexString", "internal/abi.NoEscape"], unfollowed := true, recurses := true, named := ["unicode/utf8.first", "unicode/utf8.acceptRanges", "internal/bytealg.MaxLen"], apart := false, laid := [("unicode/utf8.acceptRanges", laid_unicode_utf8_acceptRanges), ("unicode/utf8.first", laid_unicode_utf8_first)], narrowed := true }
def SizesBackUptoSaid : Prop := sizesBackUptoRow.holds Tryd.pinned (OpenSpec.upto sizesBackSpec)

/-- 'ragpickerlaw07.SizesPlays', WHERE WHAT IT READS IS OF BULK AT MOST 1048576: true; the input reads as it did. -/
def sizesPlaysUptoRow : OpenClaim := { program := "ytmppjbimdonfmaadoor", sum := "f98c2ba797138bce58eabb5c9a3449fe3bcc9eec42e5e185ea41c0e76433e113", func := "ragpicker/ragpickerlaw07.SizesPlays", spec := "sizesPlays", inPlace := ["internal/bytealg.IndexByteString", "internal/bytealg.IndexString", "internal/abi.NoEscape"], unfollowed := true, recurses := true, named := ["unicode/utf8.first", "unicode/utf8.acceptRanges", "internal/bytealg.MaxLen"], apart := false, laid := [("unicode/utf8.acceptRanges", laid_unicode_utf8_acceptRanges), ("unicode/utf8.first", laid_unicode_utf8_first)], narrowed := true }
def SizesPlaysUptoSaid : Prop := sizesPlaysUptoRow.holds Tryd.pinned (OpenSpec.upto sizesPlaysSpec)

/-- 'ragpickerlaw46.ArgsTells', WHERE WHAT IT READS IS OF BULK AT MOST 1048576: true; the input reads as it did. -/
def argsTellsUptoRow : OpenClaim := { program := "ytmppjbimdonfmaadoor", sum := "f98c2ba797138bce58eabb5c9a3449fe3bcc9eec42e5e185ea41c0e76433e113", func := "ragpicker/ragpickerlaw46.ArgsTells", spec := "argsTells", inPlace := ["internal/bytealg.IndexByteString", "internal/bytealg.IndexString", "internal/bytealg.CountString", "internal/abi.NoEscape", "internal/bytealg.MakeNoZero"], named := ["ragpicker/args.names", "internal/bytealg.MaxLen", "unicode/utf8.first", "unicode/utf8.acceptRanges"], apart := false, laid := [("unicode/utf8.acceptRanges", laid_unicode_utf8_acceptRanges), ("ragpicker/args.names", laid_ragpicker_args_names), ("unicode/utf8.first", laid_unicode_utf8_first)], narrowed := true }
def ArgsTellsUptoSaid : Prop := argsTellsUptoRow.holds Tryd.pinned (OpenSpec.upto argsTellsSpec)

/-- 'ragpickerlaw46.ArgsBack', WHERE WHAT IT READS IS OF BULK AT MOST 1048576: true; the input reads as it did. -/
def argsBackUptoRow : OpenClaim := { program := "ytmppjbimdonfmaadoor", sum := "f98c2ba797138bce58eabb5c9a3449fe3bcc9eec42e5e185ea41c0e76433e113", func := "ragpicker/ragpickerlaw46.ArgsBack", spec := "argsBack", inPlace := ["internal/bytealg.IndexByteString", "internal/bytealg.IndexString", "internal/bytealg.CountString", "internal/abi.NoEscape", "internal/bytealg.MakeNoZero"], named := ["ragpicker/args.names", "internal/bytealg.MaxLen", "unicode/utf8.first", "unicode/utf8.acceptRanges"], apart := false, laid := [("unicode/utf8.acceptRanges", laid_unicode_utf8_acceptRanges), ("ragpicker/args.names", laid_ragpicker_args_names), ("unicode/utf8.first", laid_unicode_utf8_first)], narrowed := true }
def ArgsBackUptoSaid : Prop := argsBackUptoRow.holds Tryd.pinned (OpenSpec.upto argsBackSpec)

/-- 'ragpickerlaw46.ArgsParses', WHERE WHAT IT READS IS OF BULK AT MOST 1048576: true; the input reads as it did. -/
def argsParsesUptoRow : OpenClaim := { program := "ytmppjbimdonfmaadoor", sum := "f98c2ba797138bce58eabb5c9a3449fe3bcc9eec42e5e185ea41c0e76433e113", func := "ragpicker/ragpickerlaw46.ArgsParses", spec := "argsParses", inPlace := ["internal/bytealg.IndexByteString", "internal/bytealg.IndexString", "internal/bytealg.CountString", "internal/abi.NoEscape", "internal/bytealg.MakeNoZero"], named := ["ragpicker/args.names", "internal/bytealg.MaxLen", "unicode/utf8.first", "unicode/utf8.acceptRanges"], apart := false, laid := [("unicode/utf8.acceptRanges", laid_unicode_utf8_acceptRanges), ("ragpicker/args.names", laid_ragpicker_args_names), ("unicode/utf8.first", laid_unicode_utf8_first)], narrowed := true }
def ArgsParsesUptoSaid : Prop := argsParsesUptoRow.holds Tryd.pinned (OpenSpec.upto argsParsesSpec)

end Rows
end Go.Proofs.YtmppjbimdonfmaaDoor
