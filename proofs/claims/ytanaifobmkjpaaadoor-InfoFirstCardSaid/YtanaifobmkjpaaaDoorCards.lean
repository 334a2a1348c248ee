/-
  DERIVED. GIVEN WITH THE SEED: THE CARDS: each row of YtanaifobmkjpaaaDoorRows.lean that lists a variable, with what it lists TIED to the program's text (the seventh form; the later family's looks); each row that meets fmt, with fmt's text TOLD by the authors' own Lean function (tested against real Go, not proved from fmt's source: count such statements apart). THE CARD IS WHAT COUNTS. Prove the row's statement (the work); the ties are given (YtanaifobmkjpaaaDoorTie.lean); close each card by the builder's one call (the guide's Derived/Test/ToyasCard.lean, 'card_holds'). Laid BY PROGRAM, IN A SANDBOX (cutbox-door.mjs). By AI agents, Wed Nov 11 2026. No macro, syntax, notation, axiom, sorry.
-/
import Derived.Test.YtanaifobmkjpaaaDoorRows
import GoSem.ClaimSeven
namespace Go.Proofs.YtanaifobmkjpaaaDoor
namespace Rows

/-- THE TIED CARD OF 'ragpickerlaw48.ScriptTells'. -/
def scriptTellsCard : Claim7 := { stood := { row := scriptTellsRow, standIns := [], harness := (true, "41ebfabe26a42649b9d53ce65c6b76f78e7b5ac56e39ba59908b2e9bd07ca65c"), looks := false }, kinds := [], alts := [], laidByText := true, laidKinds := [.data, .pinned], laidTests := true, laidLooks := .later }
def ScriptTellsCardSaid : Prop := Claim7.holds Tryd.pinned (.plain (OpenSpec.ofChange scriptTellsSpec)) scriptTellsCard

/-- THE TIED CARD OF 'ragpickerlaw48.ScriptBack'. -/
def scriptBackCard : Claim7 := { stood := { row := scriptBackRow, standIns := [], harness := (true, "41ebfabe26a42649b9d53ce65c6b76f78e7b5ac56e39ba59908b2e9bd07ca65c"), looks := false }, kinds := [], alts := [], laidByText := true, laidKinds := [.data, .pinned], laidTests := true, laidLooks := .later }
def ScriptBackCardSaid : Prop := Claim7.holds Tryd.pinned (.plain (OpenSpec.ofChange scriptBackSpec)) scriptBackCard

/-- THE TIED CARD OF 'ragpickerlaw48.ScriptMany'. -/
def scriptManyCard : Claim7 := { stood := { row := scriptManyRow, standIns := [], harness := (true, "41ebfabe26a42649b9d53ce65c6b76f78e7b5ac56e39ba59908b2e9bd07ca65c"), looks := false }, kinds := [], alts := [], laidByText := true, laidKinds := [.data, .pinned], laidTests := true, laidLooks := .later }
def ScriptManyCardSaid : Prop := Claim7.holds Tryd.pinned (.plain (OpenSpec.ofChange scriptManySpec)) scriptManyCard

/-- THE TIED CARD OF 'ragpickerlaw06.InfoTells'. -/
def infoTellsCard : Claim7 := { stood := { row := infoTellsRow, standIns := [], harness := (true, "41ebfabe26a42649b9d53ce65c6b76f78e7b5ac56e39ba59908b2e9bd07ca65c"), looks := false }, kinds := [], alts := [], laidByText := true, laidKinds := [.data, .pinned], laidTests := true, laidLooks := .later }
def InfoTellsCardSaid : Prop := Claim7.holds Tryd.pinned (.plain (OpenSpec.ofChange infoTellsSpec)) infoTellsCard

/-- THE TIED CARD OF 'ragpickerlaw06.InfoBack'. -/
def infoBackCard : Claim7 := { stood := { row := infoBackRow, standIns := [], harness := (true, "41ebfabe26a42649b9d53ce65c6b76f78e7b5ac56e39ba59908b2e9bd07ca65c"), looks := false }, kinds := [], alts := [], laidByText := true, laidKinds := [.data, .pinned], laidTests := true, laidLooks := .later }
def InfoBackCardSaid : Prop := Claim7.holds Tryd.pinned (.plain (OpenSpec.ofChange infoBackSpec)) infoBackCard

/-- THE TIED CARD OF 'ragpickerlaw06.InfoFirst'. -/
def infoFirstCard : Claim7 := { stood := { row := infoFirstRow, standIns := [], harness := (true, "41ebfabe26a42649b9d53ce65c6b76f78e7b5ac56e39ba59908b2e9bd07ca65c"), looks := false }, kinds := [], alts := [], laidByText := true, laidKinds := [.data, .pinned], laidTests := true, laidLooks := .later }
def InfoFirstCardSaid : Prop := Claim7.holds Tryd.pinned (.plain (OpenSpec.ofChange infoFirstSpec)) infoFirstCard

/-- THE SECOND FORM's CARD OF 'ragpickerlaw48.ScriptTells'. -/
def scriptTellsUptoCard : Claim7 := { stood := { row := scriptTellsUptoRow, standIns := [], harness := (true, "41ebfabe26a42649b9d53ce65c6b76f78e7b5ac56e39ba59908b2e9bd07ca65c"), looks := false }, kinds := [], alts := [], laidByText := true, laidKinds := [.data, .pinned], laidTests := true, laidLooks := .later }
def ScriptTellsUptoCardSaid : Prop := Claim7.holds Tryd.pinned (.plain (OpenSpec.upto scriptTellsSpec)) scriptTellsUptoCard

/-- THE SECOND FORM's CARD OF 'ragpickerlaw48.ScriptBack'. -/
def scriptBackUptoCard : Claim7 := { stood := { row := scriptBackUptoRow, standIns := [], harness := (true, "41ebfabe26a42649b9d53ce65c6b76f78e7b5ac56e39ba59908b2e9bd07ca65c"), looks := false }, kinds := [], alts := [], laidByText := true, laidKinds := [.data, .pinned], laidTests := true, laidLooks := .later }
def ScriptBackUptoCardSaid : Prop := Claim7.holds Tryd.pinned (.plain (OpenSpec.upto scriptBackSpec)) scriptBackUptoCard

/-- THE SECOND FORM's CARD OF 'ragpickerlaw48.ScriptMany'. -/
def scriptManyUptoCard : Claim7 := { stood := { row := scriptManyUptoRow, standIns := [], harness := (true, "41ebfabe26a42649b9d53ce65c6b76f78e7b5ac56e39ba59908b2e9bd07ca65c"), looks := false }, kinds := [], alts := [], laidByText := true, laidKinds := [.data, .pinned], laidTests := true, laidLooks := .later }
def ScriptManyUptoCardSaid : Prop := Claim7.holds Tryd.pinned (.plain (OpenSpec.upto scriptManySpec)) scriptManyUptoCard

/-- THE SECOND FORM's CARD OF 'ragpickerlaw06.InfoTells'. -/
def infoTellsUptoCard : Claim7 := { stood := { row := infoTellsUptoRow, standIns := [], harness := (true, "41ebfabe26a42649b9d53ce65c6b76f78e7b5ac56e39ba59908b2e9bd07ca65c"), looks := false }, kinds := [], alts := [], laidByText := true, laidKinds := [.data, .pinned], laidTests := true, laidLooks := .later }
def InfoTellsUptoCardSaid : Prop := Claim7.holds Tryd.pinned (.plain (OpenSpec.upto infoTellsSpec)) infoTellsUptoCard

/-- THE SECOND FORM's CARD OF 'ragpickerlaw06.InfoBack'. -/
def infoBackUptoCard : Claim7 := { stood := { row := infoBackUptoRow, standIns := [], harness := (true, "41ebfabe26a42649b9d53ce65c6b76f78e7b5ac56e39ba59908b2e9bd07ca65c"), looks := false }, kinds := [], alts := [], laidByText := true, laidKinds := [.data, .pinned], laidTests := true, laidLooks := .later }
def InfoBackUptoCardSaid : Prop := Claim7.holds Tryd.pinned (.plain (OpenSpec.upto infoBackSpec)) infoBackUptoCard

/-- THE SECOND FORM's CARD OF 'ragpickerlaw06.InfoFirst'. -/
def infoFirstUptoCard : Claim7 := { stood := { row := infoFirstUptoRow, standIns := [], harness := (true, "41ebfabe26a42649b9d53ce65c6b76f78e7b5ac56e39ba59908b2e9bd07ca65c"), looks := false }, kinds := [], alts := [], laidByText := true, laidKinds := [.data, .pinned], laidTests := true, laidLooks := .later }
def InfoFirstUptoCardSaid : Prop := Claim7.holds Tryd.pinned (.plain (OpenSpec.upto infoFirstSpec)) infoFirstUptoCard
end Rows
end Go.Proofs.YtanaifobmkjpaaaDoor
