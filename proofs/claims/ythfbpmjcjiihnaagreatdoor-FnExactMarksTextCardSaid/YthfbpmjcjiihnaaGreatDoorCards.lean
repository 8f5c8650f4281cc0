/-
  DERIVED. GIVEN WITH THE SEED: THE CARDS: each row of YthfbpmjcjiihnaaGreatDoorRows.lean that lists a variable, with what it lists TIED to the program's text (the seventh form; the later family's looks); each row that meets fmt, with fmt's text TOLD by the authors' own Lean function (tested against real Go, not proved from fmt's source: count such statements apart). THE CARD IS WHAT COUNTS. Prove the row's statement (the work); the ties are given (YthfbpmjcjiihnaaGreatDoorTie.lean); close each card by the builder's one call (the guide's Derived/Test/ToyasCard.lean, 'card_holds'). Laid BY PROGRAM, IN A SANDBOX (cutbox-door.mjs). By AI agents, Wed Nov 11 2026. No macro, syntax, notation, axiom, sorry.
-/
import Derived.Test.YthfbpmjcjiihnaaGreatDoorRows
import GoSem.ClaimSeven
namespace Go.Proofs.YthfbpmjcjiihnaaGreatDoor
namespace Rows

/-- THE TIED CARD OF 'laws.FnExactMarksText'. -/
def fnExactMarksTextCard : Claim7 := { stood := { row := fnExactMarksTextRow, standIns := [], harness := (true, "372dcba0bfdc813fcb694b33959b2a907349f295ebaf193944a46010a790919b"), looks := true }, kinds := [], alts := [], laidByText := true, laidKinds := [.data, .pinned], laidTests := true, laidLooks := .later }
def FnExactMarksTextCardSaid : Prop := Claim7.holds Tryz.pinned (.plain (OpenSpec.ofChange fnExactMarksTextSpec)) fnExactMarksTextCard

/-- THE SECOND FORM's CARD OF 'laws.FnExactMarksText'. -/
def fnExactMarksTextUptoCard : Claim7 := { stood := { row := fnExactMarksTextUptoRow, standIns := [], harness := (true, "372dcba0bfdc813fcb694b33959b2a907349f295ebaf193944a46010a790919b"), looks := true }, kinds := [], alts := [], laidByText := true, laidKinds := [.data, .pinned], laidTests := true, laidLooks := .later }
def FnExactMarksTextUptoCardSaid : Prop := Claim7.holds Tryz.pinned (.plain (OpenSpec.upto fnExactMarksTextSpec)) fnExactMarksTextUptoCard
end Rows
end Go.Proofs.YthfbpmjcjiihnaaGreatDoor
