/-
  DERIVED. GIVEN WITH THE SEED: THE CARDS: each row of YtganmdnieihpeaaDoorRows.lean that lists a variable, with what it lists TIED to the program's text (the seventh form; the later family's looks); each row that meets fmt, with fmt's text TOLD by the authors' own Lean function (tested against real Go, not proved from fmt's source: count such statements apart). THE CARD IS WHAT COUNTS. Prove the row's statement (the work); the ties are given (YtganmdnieihpeaaDoorTie.lean); close each card by the builder's one call (the guide's Derived/Test/ToyasCard.lean, 'card_holds'). Laid BY PROGRAM, IN A SANDBOX (cutbox-door.mjs). By AI agents, Wed Nov 11 2026. No macro, syntax, notation, axiom, sorry.
-/
import Derived.Test.YtganmdnieihpeaaDoorRows
import GoSem.ClaimSeven
namespace Go.Proofs.YtganmdnieihpeaaDoor
namespace Rows

/-- THE TIED CARD OF 'laws.FnExactSheetText'. -/
def fnExactSheetTextCard : Claim7 := { stood := { row := fnExactSheetTextRow, standIns := [], harness := (true, "d3d46ede528ff74267c4de1e4301751fb752a3e6f7016aee737200dec33ab120"), looks := false }, kinds := [], alts := [], laidByText := true, laidKinds := [.data, .pinned], laidTests := true, laidLooks := .later }
def FnExactSheetTextCardSaid : Prop := Claim7.holds Tryd.pinned (.plain (OpenSpec.ofChange fnExactSheetTextSpec)) fnExactSheetTextCard

/-- THE TIED CARD OF 'laws.FnExactReadStyle'. -/
def fnExactReadStyleCard : Claim7 := { stood := { row := fnExactReadStyleRow, standIns := [], harness := (true, "d3d46ede528ff74267c4de1e4301751fb752a3e6f7016aee737200dec33ab120"), looks := false }, kinds := [], alts := [], laidByText := true, laidKinds := [.data, .pinned], laidTests := true, laidLooks := .later }
def FnExactReadStyleCardSaid : Prop := Claim7.holds Tryd.pinned (.plain (OpenSpec.ofChange fnExactReadStyleSpec)) fnExactReadStyleCard

/-- THE SECOND FORM's CARD OF 'laws.FnExactSheetText'. -/
def fnExactSheetTextUptoCard : Claim7 := { stood := { row := fnExactSheetTextUptoRow, standIns := [], harness := (true, "d3d46ede528ff74267c4de1e4301751fb752a3e6f7016aee737200dec33ab120"), looks := false }, kinds := [], alts := [], laidByText := true, laidKinds := [.data, .pinned], laidTests := true, laidLooks := .later }
def FnExactSheetTextUptoCardSaid : Prop := Claim7.holds Tryd.pinned (.plain (OpenSpec.upto fnExactSheetTextSpec)) fnExactSheetTextUptoCard

/-- THE SECOND FORM's CARD OF 'laws.FnExactReadStyle'. -/
def fnExactReadStyleUptoCard : Claim7 := { stood := { row := fnExactReadStyleUptoRow, standIns := [], harness := (true, "d3d46ede528ff74267c4de1e4301751fb752a3e6f7016aee737200dec33ab120"), looks := false }, kinds := [], alts := [], laidByText := true, laidKinds := [.data, .pinned], laidTests := true, laidLooks := .later }
def FnExactReadStyleUptoCardSaid : Prop := Claim7.holds Tryd.pinned (.plain (OpenSpec.upto fnExactReadStyleSpec)) fnExactReadStyleUptoCard
end Rows
end Go.Proofs.YtganmdnieihpeaaDoor
