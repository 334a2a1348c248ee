/-
  DERIVED. GIVEN WITH THE SEED: THE CARDS: each row of YtmppjbimdonfmaaDoorRows.lean that lists a variable, with what it lists TIED to the program's text (the seventh form; the later family's looks); each row that meets fmt, with fmt's text TOLD by the authors' own Lean function (tested against real Go, not proved from fmt's source: count such statements apart). THE CARD IS WHAT COUNTS. Prove the row's statement (the work); the ties are given (YtmppjbimdonfmaaDoorTie.lean); close each card by the builder's one call (the guide's Derived/Test/ToyasCard.lean, 'card_holds'). Laid BY PROGRAM, IN A SANDBOX (cutbox-door.mjs). By AI agents, Wed Nov 11 2026. No macro, syntax, notation, axiom, sorry.
-/
import Derived.Test.YtmppjbimdonfmaaDoorRows
import GoSem.ClaimSeven
namespace Go.Proofs.YtmppjbimdonfmaaDoor
namespace Rows

/-- THE TIED CARD OF 'ragpickerlaw02.NameTells'. -/
def nameTellsCard : Claim7 := { stood := { row := nameTellsRow, standIns := [], harness := (true, "1bbd7a33e8e66898587b6106841a9e136d9999bc2b07ea372254a925bc21d25a"), looks := false }, kinds := [], alts := [], laidByText := true, laidKinds := [.data, .pinned], laidTests := true, laidLooks := .later }
def NameTellsCardSaid : Prop := Claim7.holds Tryd.pinned (.plain (OpenSpec.ofChange nameTellsSpec)) nameTellsCard

/-- THE TIED CARD OF 'ragpickerlaw02.NameParts'. -/
def namePartsCard : Claim7 := { stood := { row := namePartsRow, standIns := [], harness := (true, "1bbd7a33e8e66898587b6106841a9e136d9999bc2b07ea372254a925bc21d25a"), looks := false }, kinds := [], alts := [], laidByText := true, laidKinds := [.data, .pinned], laidTests := true, laidLooks := .later }
def NamePartsCardSaid : Prop := Claim7.holds Tryd.pinned (.plain (OpenSpec.ofChange namePartsSpec)) namePartsCard

/-- THE TIED CARD OF 'ragpickerlaw02.NameStops'. -/
def nameStopsCard : Claim7 := { stood := { row := nameStopsRow, standIns := [], harness := (true, "1bbd7a33e8e66898587b6106841a9e136d9999bc2b07ea372254a925bc21d25a"), looks := false }, kinds := [], alts := [], laidByText := true, laidKinds := [.data, .pinned], laidTests := true, laidLooks := .later }
def NameStopsCardSaid : Prop := Claim7.holds Tryd.pinned (.plain (OpenSpec.ofChange nameStopsSpec)) nameStopsCard

/-- THE TIED CARD OF 'ragpickerlaw03.TrackOnce'. -/
def trackOnceCard : Claim7 := { stood := { row := trackOnceRow, standIns := [], harness := (true, "1bbd7a33e8e66898587b6106841a9e136d9999bc2b07ea372254a925bc21d25a"), looks := false }, kinds := [], alts := [], laidByText := true, laidKinds := [.data, .pinned], laidTests := true, laidLooks := .later }
def TrackOnceCardSaid : Prop := Claim7.holds Tryd.pinned (.plain (OpenSpec.ofChange trackOnceSpec)) trackOnceCard

/-- THE TIED CARD OF 'ragpickerlaw03.TrackTells'. -/
def trackTellsCard : Claim7 := { stood := { row := trackTellsRow, standIns := [], harness := (true, "1bbd7a33e8e66898587b6106841a9e136d9999bc2b07ea372254a925bc21d25a"), looks := false }, kinds := [], alts := [], laidByText := true, laidKinds := [.data, .pinned], laidTests := true, laidLooks := .later }
def TrackTellsCardSaid : Prop := Claim7.holds Tryd.pinned (.plain (OpenSpec.ofChange trackTellsSpec)) trackTellsCard

/-- THE TIED CARD OF 'ragpickerlaw03.TrackBack'. -/
def trackBackCard : Claim7 := { stood := { row := trackBackRow, standIns := [], harness := (true, "1bbd7a33e8e66898587b6106841a9e136d9999bc2b07ea372254a925bc21d25a"), looks := false }, kinds := [], alts := [], laidByText := true, laidKinds := [.data, .pinned], laidTests := true, laidLooks := .later }
def TrackBackCardSaid : Prop := Claim7.holds Tryd.pinned (.plain (OpenSpec.ofChange trackBackSpec)) trackBackCard

/-- THE TIED CARD OF 'ragpickerlaw07.SizesTells'. -/
def sizesTellsCard : Claim7 := { stood := { row := sizesTellsRow, standIns := [], harness := (true, "1bbd7a33e8e66898587b6106841a9e136d9999bc2b07ea372254a925bc21d25a"), looks := false }, kinds := [], alts := [], laidByText := true, laidKinds := [.data, .pinned], laidTests := true, laidLooks := .later }
def SizesTellsCardSaid : Prop := Claim7.holds Tryd.pinned (.plain (OpenSpec.ofChange sizesTellsSpec)) sizesTellsCard

/-- THE TIED CARD OF 'ragpickerlaw07.SizesBack'. -/
def sizesBackCard : Claim7 := { stood := { row := sizesBackRow, standIns := [], harness := (true, "1bbd7a33e8e66898587b6106841a9e136d9999bc2b07ea372254a925bc21d25a"), looks := false }, kinds := [], alts := [], laidByText := true, laidKinds := [.data, .pinned], laidTests := true, laidLooks := .later }
def SizesBackCardSaid : Prop := Claim7.holds Tryd.pinned (.plain (OpenSpec.ofChange sizesBackSpec)) sizesBackCard

/-- THE TIED CARD OF 'ragpickerlaw07.SizesPlays'. -/
def sizesPlaysCard : Claim7 := { stood := { row := sizesPlaysRow, standIns := [], harness := (true, "1bbd7a33e8e66898587b6106841a9e136d9999bc2b07ea372254a925bc21d25a"), looks := false }, kinds := [], alts := [], laidByText := true, laidKinds := [.data, .pinned], laidTests := true, laidLooks := .later }
def SizesPlaysCardSaid : Prop := Claim7.holds Tryd.pinned (.plain (OpenSpec.ofChange sizesPlaysSpec)) sizesPlaysCard

/-- THE TIED CARD OF 'ragpickerlaw46.ArgsTells'. -/
def argsTellsCard : Claim7 := { stood := { row := argsTellsRow, standIns := [], harness := (true, "1bbd7a33e8e66898587b6106841a9e136d9999bc2b07ea372254a925bc21d25a"), looks := false }, kinds := [], alts := [], laidByText := true, laidKinds := [.data, .data, .pinned], laidTests := true, laidLooks := .later }
def ArgsTellsCardSaid : Prop := Claim7.holds Tryd.pinned (.plain (OpenSpec.ofChange argsTellsSpec)) argsTellsCard

/-- THE TIED CARD OF 'ragpickerlaw46.ArgsBack'. -/
def argsBackCard : Claim7 := { stood := { row := argsBackRow, standIns := [], harness := (true, "1bbd7a33e8e66898587b6106841a9e136d9999bc2b07ea372254a925bc21d25a"), looks := false }, kinds := [], alts := [], laidByText := true, laidKinds := [.data, .data, .pinned], laidTests := true, laidLooks := .later }
def ArgsBackCardSaid : Prop := Claim7.holds Tryd.pinned (.plain (OpenSpec.ofChange argsBackSpec)) argsBackCard

/-- THE TIED CARD OF 'ragpickerlaw46.ArgsParses'. -/
def argsParsesCard : Claim7 := { stood := { row := argsParsesRow, standIns := [], harness := (true, "1bbd7a33e8e66898587b6106841a9e136d9999bc2b07ea372254a925bc21d25a"), looks := false }, kinds := [], alts := [], laidByText := true, laidKinds := [.data, .data, .pinned], laidTests := true, laidLooks := .later }
def ArgsParsesCardSaid : Prop := Claim7.holds Tryd.pinned (.plain (OpenSpec.ofChange argsParsesSpec)) argsParsesCard

/-- THE SECOND FORM's CARD OF 'ragpickerlaw02.NameTells'. -/
def nameTellsUptoCard : Claim7 := { stood := { row := nameTellsUptoRow, standIns := [], harness := (true, "1bbd7a33e8e66898587b6106841a9e136d9999bc2b07ea372254a925bc21d25a"), looks := false }, kinds := [], alts := [], laidByText := true, laidKinds := [.data, .pinned], laidTests := true, laidLooks := .later }
def NameTellsUptoCardSaid : Prop := Claim7.holds Tryd.pinned (.plain (OpenSpec.upto nameTellsSpec)) nameTellsUptoCard

/-- THE SECOND FORM's CARD OF 'ragpickerlaw02.NameParts'. -/
def namePartsUptoCard : Claim7 := { stood := { row := namePartsUptoRow, standIns := [], harness := (true, "1bbd7a33e8e66898587b6106841a9e136d9999bc2b07ea372254a925bc21d25a"), looks := false }, kinds := [], alts := [], laidByText := true, laidKinds := [.data, .pinned], laidTests := true, laidLooks := .later }
def NamePartsUptoCardSaid : Prop := Claim7.holds Tryd.pinned (.plain (OpenSpec.upto namePartsSpec)) namePartsUptoCard

/-- THE SECOND FORM's CARD OF 'ragpickerlaw02.NameStops'. -/
def nameStopsUptoCard : Claim7 := { stood := { row := nameStopsUptoRow, standIns := [], harness := (true, "1bbd7a33e8e66898587b6106841a9e136d9999bc2b07ea372254a925bc21d25a"), looks := false }, kinds := [], alts := [], laidByText := true, laidKinds := [.data, .pinned], laidTests := true, laidLooks := .later }
def NameStopsUptoCardSaid : Prop := Claim7.holds Tryd.pinned (.plain (OpenSpec.upto nameStopsSpec)) nameStopsUptoCard

/-- THE SECOND FORM's CARD OF 'ragpickerlaw03.TrackOnce'. -/
def trackOnceUptoCard : Claim7 := { stood := { row := trackOnceUptoRow, standIns := [], harness := (true, "1bbd7a33e8e66898587b6106841a9e136d9999bc2b07ea372254a925bc21d25a"), looks := false }, kinds := [], alts := [], laidByText := true, laidKinds := [.data, .pinned], laidTests := true, laidLooks := .later }
def TrackOnceUptoCardSaid : Prop := Claim7.holds Tryd.pinned (.plain (OpenSpec.upto trackOnceSpec)) trackOnceUptoCard

/-- THE SECOND FORM's CARD OF 'ragpickerlaw03.TrackTells'. -/
def trackTellsUptoCard : Claim7 := { stood := { row := trackTellsUptoRow, standIns := [], harness := (true, "1bbd7a33e8e66898587b6106841a9e136d9999bc2b07ea372254a925bc21d25a"), looks := false }, kinds := [], alts := [], laidByText := true, laidKinds := [.data, .pinned], laidTests := true, laidLooks := .later }
def TrackTellsUptoCardSaid : Prop := Claim7.holds Tryd.pinned (.plain (OpenSpec.upto trackTellsSpec)) trackTellsUptoCard

/-- THE SECOND FORM's CARD OF 'ragpickerlaw03.TrackBack'. -/
def trackBackUptoCard : Claim7 := { stood := { row := trackBackUptoRow, standIns := [], harness := (true, "1bbd7a33e8e66898587b6106841a9e136d9999bc2b07ea372254a925bc21d25a"), looks := false }, kinds := [], alts := [], laidByText := true, laidKinds := [.data, .pinned], laidTests := true, laidLooks := .later }
def TrackBackUptoCardSaid : Prop := Claim7.holds Tryd.pinned (.plain (OpenSpec.upto trackBackSpec)) trackBackUptoCard

/-- THE SECOND FORM's CARD OF 'ragpickerlaw07.SizesTells'. -/
def sizesTellsUptoCard : Claim7 := { stood := { row := sizesTellsUptoRow, standIns := [], harness := (true, "1bbd7a33e8e66898587b6106841a9e136d9999bc2b07ea372254a925bc21d25a"), looks := false }, kinds := [], alts := [], laidByText := true, laidKinds := [.data, .pinned], laidTests := true, laidLooks := .later }
def SizesTellsUptoCardSaid : Prop := Claim7.holds Tryd.pinned (.plain (OpenSpec.upto sizesTellsSpec)) sizesTellsUptoCard

/-- THE SECOND FORM's CARD OF 'ragpickerlaw07.SizesBack'. -/
def sizesBackUptoCard : Claim7 := { stood := { row := sizesBackUptoRow, standIns := [], harness := (true, "1bbd7a33e8e66898587b6106841a9e136d9999bc2b07ea372254a925bc21d25a"), looks := false }, kinds := [], alts := [], laidByText := true, laidKinds := [.data, .pinned], laidTests := true, laidLooks := .later }
def SizesBackUptoCardSaid : Prop := Claim7.holds Tryd.pinned (.plain (OpenSpec.upto sizesBackSpec)) sizesBackUptoCard

/-- THE SECOND FORM's CARD OF 'ragpickerlaw07.SizesPlays'. -/
def sizesPlaysUptoCard : Claim7 := { stood := { row := sizesPlaysUptoRow, standIns := [], harness := (true, "1bbd7a33e8e66898587b6106841a9e136d9999bc2b07ea372254a925bc21d25a"), looks := false }, kinds := [], alts := [], laidByText := true, laidKinds := [.data, .pinned], laidTests := true, laidLooks := .later }
def SizesPlaysUptoCardSaid : Prop := Claim7.holds Tryd.pinned (.plain (OpenSpec.upto sizesPlaysSpec)) sizesPlaysUptoCard

/-- THE SECOND FORM's CARD OF 'ragpickerlaw46.ArgsTells'. -/
def argsTellsUptoCard : Claim7 := { stood := { row := argsTellsUptoRow, standIns := [], harness := (true, "1bbd7a33e8e66898587b6106841a9e136d9999bc2b07ea372254a925bc21d25a"), looks := false }, kinds := [], alts := [], laidByText := true, laidKinds := [.data, .data, .pinned], laidTests := true, laidLooks := .later }
def ArgsTellsUptoCardSaid : Prop := Claim7.holds Tryd.pinned (.plain (OpenSpec.upto argsTellsSpec)) argsTellsUptoCard

/-- THE SECOND FORM's CARD OF 'ragpickerlaw46.ArgsBack'. -/
def argsBackUptoCard : Claim7 := { stood := { row := argsBackUptoRow, standIns := [], harness := (true, "1bbd7a33e8e66898587b6106841a9e136d9999bc2b07ea372254a925bc21d25a"), looks := false }, kinds := [], alts := [], laidByText := true, laidKinds := [.data, .data, .pinned], laidTests := true, laidLooks := .later }
def ArgsBackUptoCardSaid : Prop := Claim7.holds Tryd.pinned (.plain (OpenSpec.upto argsBackSpec)) argsBackUptoCard

/-- THE SECOND FORM's CARD OF 'ragpickerlaw46.ArgsParses'. -/
def argsParsesUptoCard : Claim7 := { stood := { row := argsParsesUptoRow, standIns := [], harness := (true, "1bbd7a33e8e66898587b6106841a9e136d9999bc2b07ea372254a925bc21d25a"), looks := false }, kinds := [], alts := [], laidByText := true, laidKinds := [.data, .data, .pinned], laidTests := true, laidLooks := .later }
def ArgsParsesUptoCardSaid : Prop := Claim7.holds Tryd.pinned (.plain (OpenSpec.upto argsParsesSpec)) argsParsesUptoCard
end Rows
end Go.Proofs.YtmppjbimdonfmaaDoor
