/-
  DERIVED. GIVEN WITH THE SEED: THE CARDS: each row of YtblbohcaphcobaaGreatDoorRows.lean that lists a variable, with what it lists TIED to the program's text (the seventh form; the later family's looks); each row that meets fmt, with fmt's text TOLD by the authors' own Lean function (tested against real Go, not proved from fmt's source: count such statements apart). THE CARD IS WHAT COUNTS. Prove the row's statement (the work); the ties are given (YtblbohcaphcobaaGreatDoorTie.lean); close each card by the builder's one call (the guide's Derived/Test/ToyasCard.lean, 'card_holds'). Laid BY PROGRAM, IN A SANDBOX (cutbox-door.mjs). By AI agents, Wed Nov 11 2026. No macro, syntax, notation, axiom, sorry.
-/
import Derived.Test.YtblbohcaphcobaaGreatDoorRows
import GoSem.ClaimSeven
namespace Go.Proofs.YtblbohcaphcobaaGreatDoor
namespace Rows

/-- THE TIED CARD OF 'ragpickerlaw26.CloneOwn'. -/
def cloneOwnCard : Claim7 := { stood := { row := cloneOwnRow, standIns := [], harness := (true, "ff3dc77c5cd78881231bdca578c50431692b2e8c6383faa40aab22764d7ca787"), looks := false }, kinds := [], alts := [], laidByText := true, laidKinds := [.data, .pinned], laidTests := true, laidLooks := .later }
def CloneOwnCardSaid : Prop := Claim7.holds Tryz.pinned (.plain (OpenSpec.ofChange cloneOwnSpec)) cloneOwnCard

/-- THE TIED CARD OF 'ragpickerlaw26.CloneTwin'. -/
def cloneTwinCard : Claim7 := { stood := { row := cloneTwinRow, standIns := [], harness := (true, "ff3dc77c5cd78881231bdca578c50431692b2e8c6383faa40aab22764d7ca787"), looks := false }, kinds := [], alts := [], laidByText := true, laidKinds := [.data, .pinned], laidTests := true, laidLooks := .later }
def CloneTwinCardSaid : Prop := Claim7.holds Tryz.pinned (.plain (OpenSpec.ofChange cloneTwinSpec)) cloneTwinCard

/-- THE SECOND FORM's CARD OF 'ragpickerlaw26.CloneOwn'. -/
def cloneOwnUptoCard : Claim7 := { stood := { row := cloneOwnUptoRow, standIns := [], harness := (true, "ff3dc77c5cd78881231bdca578c50431692b2e8c6383faa40aab22764d7ca787"), looks := false }, kinds := [], alts := [], laidByText := true, laidKinds := [.data, .pinned], laidTests := true, laidLooks := .later }
def CloneOwnUptoCardSaid : Prop := Claim7.holds Tryz.pinned (.plain (OpenSpec.upto cloneOwnSpec)) cloneOwnUptoCard

/-- THE SECOND FORM's CARD OF 'ragpickerlaw26.CloneTwin'. -/
def cloneTwinUptoCard : Claim7 := { stood := { row := cloneTwinUptoRow, standIns := [], harness := (true, "ff3dc77c5cd78881231bdca578c50431692b2e8c6383faa40aab22764d7ca787"), looks := false }, kinds := [], alts := [], laidByText := true, laidKinds := [.data, .pinned], laidTests := true, laidLooks := .later }
def CloneTwinUptoCardSaid : Prop := Claim7.holds Tryz.pinned (.plain (OpenSpec.upto cloneTwinSpec)) cloneTwinUptoCard
end Rows
end Go.Proofs.YtblbohcaphcobaaGreatDoor
