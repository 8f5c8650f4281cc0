/-
  DERIVED. GIVEN WITH THE SEED: THE CARDS: each row of YtooilehdljeepaaGreatDoorRows.lean that lists a variable, with what it lists TIED to the program's text (the seventh form; the later family's looks); each row that meets fmt, with fmt's text TOLD by the authors' own Lean function (tested against real Go, not proved from fmt's source: count such statements apart). THE CARD IS WHAT COUNTS. Prove the row's statement (the work); the ties are given (YtooilehdljeepaaGreatDoorTie.lean); close each card by the builder's one call (the guide's Derived/Test/ToyasCard.lean, 'card_holds'). Laid BY PROGRAM, IN A SANDBOX (cutbox-door.mjs). By AI agents, Wed Nov 11 2026. No macro, syntax, notation, axiom, sorry.
-/
import Derived.Test.YtooilehdljeepaaGreatDoorRows
import GoSem.ClaimSeven
namespace Go.Proofs.YtooilehdljeepaaGreatDoor
namespace Rows

/-- THE TIED CARD OF 'laws.FnExactSheetIn'. -/
def fnExactSheetInCard : Claim7 := { stood := { row := fnExactSheetInRow, standIns := [], harness := (true, "cea862aea9bf9b3d3b023c67d381a5d73786459dfd96f44291796feadee1fc6d"), looks := false }, kinds := [], alts := [], laidByText := true, laidKinds := [.data, .pinned], laidTests := true, laidLooks := .later }
def FnExactSheetInCardSaid : Prop := Claim7.holds Tryz.pinned (.plain (OpenSpec.ofChange fnExactSheetInSpec)) fnExactSheetInCard

/-- THE SECOND FORM's CARD OF 'laws.FnExactSheetIn'. -/
def fnExactSheetInUptoCard : Claim7 := { stood := { row := fnExactSheetInUptoRow, standIns := [], harness := (true, "cea862aea9bf9b3d3b023c67d381a5d73786459dfd96f44291796feadee1fc6d"), looks := false }, kinds := [], alts := [], laidByText := true, laidKinds := [.data, .pinned], laidTests := true, laidLooks := .later }
def FnExactSheetInUptoCardSaid : Prop := Claim7.holds Tryz.pinned (.plain (OpenSpec.upto fnExactSheetInSpec)) fnExactSheetInUptoCard
end Rows
end Go.Proofs.YtooilehdljeepaaGreatDoor
