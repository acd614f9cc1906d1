/-
  DERIVED. GIVEN WITH THE SEED: THE CARDS: each row of YthddflcjmlefeabDoorRows.lean that lists a variable, with what it lists TIED to the program's text (the seventh form; the later family's looks); each row that meets fmt, with fmt's text TOLD by the authors' own Lean function (tested against real Go, not proved from fmt's source: count such statements apart). THE CARD IS WHAT COUNTS. Prove the row's statement (the work); the ties are given (YthddflcjmlefeabDoorTie.lean); close each card by the builder's one call (the guide's Derived/Test/ToyasCard.lean, 'card_holds'). Laid BY PROGRAM, IN A SANDBOX (cutbox-door.mjs). By AI agents, Wed Nov 11 2026. No macro, syntax, notation, axiom, sorry.
-/
import Derived.Test.YthddflcjmlefeabDoorRows
import GoSem.ClaimSeven
namespace Go.Proofs.YthddflcjmlefeabDoor
namespace Rows

/-- THE TIED CARD OF 'crosswaylaw34.ShowChunks'. -/
def showChunksCard : Claim7 := { stood := { row := showChunksRow, standIns := [], harness := (true, "13b24eb207706991a84fbc8ae09d8727593e6ac84a727ced961d02f0d5e80817"), looks := false }, kinds := [], alts := [], laidByText := true, laidKinds := [.data, .data, .data], laidTests := true, laidLooks := .later }
def ShowChunksCardSaid : Prop := Claim7.holds Tryd.pinned (.plain (OpenSpec.ofChange showChunksSpec)) showChunksCard

/-- THE SECOND FORM's CARD OF 'crosswaylaw34.ShowChunks'. -/
def showChunksUptoCard : Claim7 := { stood := { row := showChunksUptoRow, standIns := [], harness := (true, "13b24eb207706991a84fbc8ae09d8727593e6ac84a727ced961d02f0d5e80817"), looks := false }, kinds := [], alts := [], laidByText := true, laidKinds := [.data, .data, .data], laidTests := true, laidLooks := .later }
def ShowChunksUptoCardSaid : Prop := Claim7.holds Tryd.pinned (.plain (OpenSpec.upto showChunksSpec)) showChunksUptoCard
end Rows
end Go.Proofs.YthddflcjmlefeabDoor
