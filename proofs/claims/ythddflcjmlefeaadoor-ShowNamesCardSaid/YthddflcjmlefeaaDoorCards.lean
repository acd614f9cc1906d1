/-
  DERIVED. GIVEN WITH THE SEED: THE CARDS: each row of YthddflcjmlefeaaDoorRows.lean that lists a variable, with what it lists TIED to the program's text (the seventh form; the later family's looks); each row that meets fmt, with fmt's text TOLD by the authors' own Lean function (tested against real Go, not proved from fmt's source: count such statements apart). THE CARD IS WHAT COUNTS. Prove the row's statement (the work); the ties are given (YthddflcjmlefeaaDoorTie.lean); close each card by the builder's one call (the guide's Derived/Test/ToyasCard.lean, 'card_holds'). Laid BY PROGRAM, IN A SANDBOX (cutbox-door.mjs). By AI agents, Wed Nov 11 2026. No macro, syntax, notation, axiom, sorry.
-/
import Derived.Test.YthddflcjmlefeaaDoorRows
import GoSem.ClaimSeven
namespace Go.Proofs.YthddflcjmlefeaaDoor
namespace Rows

/-- THE TIED CARD OF 'crosswaylaw34.ShowRows'. -/
def showRowsCard : Claim7 := { stood := { row := showRowsRow, standIns := [], harness := (true, "46a2962548bdac9d683ddebc1937149ba7a7dc6eadb96b678a31660dc1b39efd"), looks := false }, kinds := [], alts := [], laidByText := true, laidKinds := [.data, .data, .data], laidTests := true, laidLooks := .later }
def ShowRowsCardSaid : Prop := Claim7.holds Tryd.pinned (.plain (OpenSpec.ofChange showRowsSpec)) showRowsCard

/-- THE TIED CARD OF 'crosswaylaw34.ShowNames'. -/
def showNamesCard : Claim7 := { stood := { row := showNamesRow, standIns := [], harness := (true, "46a2962548bdac9d683ddebc1937149ba7a7dc6eadb96b678a31660dc1b39efd"), looks := false }, kinds := [], alts := [], laidByText := true, laidKinds := [.data, .data, .data], laidTests := true, laidLooks := .later }
def ShowNamesCardSaid : Prop := Claim7.holds Tryd.pinned (.plain (OpenSpec.ofChange showNamesSpec)) showNamesCard

/-- THE SECOND FORM's CARD OF 'crosswaylaw34.ShowRows'. -/
def showRowsUptoCard : Claim7 := { stood := { row := showRowsUptoRow, standIns := [], harness := (true, "46a2962548bdac9d683ddebc1937149ba7a7dc6eadb96b678a31660dc1b39efd"), looks := false }, kinds := [], alts := [], laidByText := true, laidKinds := [.data, .data, .data], laidTests := true, laidLooks := .later }
def ShowRowsUptoCardSaid : Prop := Claim7.holds Tryd.pinned (.plain (OpenSpec.upto showRowsSpec)) showRowsUptoCard

/-- THE SECOND FORM's CARD OF 'crosswaylaw34.ShowNames'. -/
def showNamesUptoCard : Claim7 := { stood := { row := showNamesUptoRow, standIns := [], harness := (true, "46a2962548bdac9d683ddebc1937149ba7a7dc6eadb96b678a31660dc1b39efd"), looks := false }, kinds := [], alts := [], laidByText := true, laidKinds := [.data, .data, .data], laidTests := true, laidLooks := .later }
def ShowNamesUptoCardSaid : Prop := Claim7.holds Tryd.pinned (.plain (OpenSpec.upto showNamesSpec)) showNamesUptoCard
end Rows
end Go.Proofs.YthddflcjmlefeaaDoor
