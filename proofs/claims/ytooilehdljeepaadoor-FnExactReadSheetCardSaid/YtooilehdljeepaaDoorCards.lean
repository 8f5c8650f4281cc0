/-
  DERIVED. GIVEN WITH THE SEED: THE CARDS: each row of YtooilehdljeepaaDoorRows.lean that lists a variable, with what it lists TIED to the program's text (the seventh form; the later family's looks); each row that meets fmt, with fmt's text TOLD by the authors' own Lean function (tested against real Go, not proved from fmt's source: count such statements apart). THE CARD IS WHAT COUNTS. Prove the row's statement (the work); the ties are given (YtooilehdljeepaaDoorTie.lean); close each card by the builder's one call (the guide's Derived/Test/ToyasCard.lean, 'card_holds'). Laid BY PROGRAM, IN A SANDBOX (cutbox-door.mjs). By AI agents, Wed Nov 11 2026. No macro, syntax, notation, axiom, sorry.
-/
import Derived.Test.YtooilehdljeepaaDoorRows
import GoSem.ClaimSeven
namespace Go.Proofs.YtooilehdljeepaaDoor
namespace Rows

/-- THE TIED CARD OF 'laws.FnExactReadColor'. -/
def fnExactReadColorCard : Claim7 := { stood := { row := fnExactReadColorRow, standIns := [], harness := (true, "4ab213b474e550f04d5d826671894680a1bb63576bc9f6765114b9134f194122"), looks := false }, kinds := [], alts := [], laidByText := true, laidKinds := [.data, .pinned], laidTests := true, laidLooks := .later }
def FnExactReadColorCardSaid : Prop := Claim7.holds Tryd.pinned (.plain (OpenSpec.ofChange fnExactReadColorSpec)) fnExactReadColorCard

/-- THE TIED CARD OF 'laws.FnExactMatches'. -/
def fnExactMatchesCard : Claim7 := { stood := { row := fnExactMatchesRow, standIns := [], harness := (true, "4ab213b474e550f04d5d826671894680a1bb63576bc9f6765114b9134f194122"), looks := false }, kinds := [], alts := [], laidByText := true, laidKinds := [.data, .pinned], laidTests := true, laidLooks := .later }
def FnExactMatchesCardSaid : Prop := Claim7.holds Tryd.pinned (.plain (OpenSpec.ofChange fnExactMatchesSpec)) fnExactMatchesCard

/-- THE TIED CARD OF 'laws.FnExactHasCycle'. -/
def fnExactHasCycleCard : Claim7 := { stood := { row := fnExactHasCycleRow, standIns := [], harness := (true, "4ab213b474e550f04d5d826671894680a1bb63576bc9f6765114b9134f194122"), looks := false }, kinds := [], alts := [], laidByText := true, laidKinds := [.data, .pinned], laidTests := true, laidLooks := .later }
def FnExactHasCycleCardSaid : Prop := Claim7.holds Tryd.pinned (.plain (OpenSpec.ofChange fnExactHasCycleSpec)) fnExactHasCycleCard

/-- THE TIED CARD OF 'laws.FnExactReadSheet'. -/
def fnExactReadSheetCard : Claim7 := { stood := { row := fnExactReadSheetRow, standIns := [], harness := (true, "4ab213b474e550f04d5d826671894680a1bb63576bc9f6765114b9134f194122"), looks := false }, kinds := [], alts := [], laidByText := true, laidKinds := [.data, .pinned], laidTests := true, laidLooks := .later }
def FnExactReadSheetCardSaid : Prop := Claim7.holds Tryd.pinned (.plain (OpenSpec.ofChange fnExactReadSheetSpec)) fnExactReadSheetCard

/-- THE SECOND FORM's CARD OF 'laws.FnExactReadColor'. -/
def fnExactReadColorUptoCard : Claim7 := { stood := { row := fnExactReadColorUptoRow, standIns := [], harness := (true, "4ab213b474e550f04d5d826671894680a1bb63576bc9f6765114b9134f194122"), looks := false }, kinds := [], alts := [], laidByText := true, laidKinds := [.data, .pinned], laidTests := true, laidLooks := .later }
def FnExactReadColorUptoCardSaid : Prop := Claim7.holds Tryd.pinned (.plain (OpenSpec.upto fnExactReadColorSpec)) fnExactReadColorUptoCard

/-- THE SECOND FORM's CARD OF 'laws.FnExactMatches'. -/
def fnExactMatchesUptoCard : Claim7 := { stood := { row := fnExactMatchesUptoRow, standIns := [], harness := (true, "4ab213b474e550f04d5d826671894680a1bb63576bc9f6765114b9134f194122"), looks := false }, kinds := [], alts := [], laidByText := true, laidKinds := [.data, .pinned], laidTests := true, laidLooks := .later }
def FnExactMatchesUptoCardSaid : Prop := Claim7.holds Tryd.pinned (.plain (OpenSpec.upto fnExactMatchesSpec)) fnExactMatchesUptoCard

/-- THE SECOND FORM's CARD OF 'laws.FnExactHasCycle'. -/
def fnExactHasCycleUptoCard : Claim7 := { stood := { row := fnExactHasCycleUptoRow, standIns := [], harness := (true, "4ab213b474e550f04d5d826671894680a1bb63576bc9f6765114b9134f194122"), looks := false }, kinds := [], alts := [], laidByText := true, laidKinds := [.data, .pinned], laidTests := true, laidLooks := .later }
def FnExactHasCycleUptoCardSaid : Prop := Claim7.holds Tryd.pinned (.plain (OpenSpec.upto fnExactHasCycleSpec)) fnExactHasCycleUptoCard

/-- THE SECOND FORM's CARD OF 'laws.FnExactReadSheet'. -/
def fnExactReadSheetUptoCard : Claim7 := { stood := { row := fnExactReadSheetUptoRow, standIns := [], harness := (true, "4ab213b474e550f04d5d826671894680a1bb63576bc9f6765114b9134f194122"), looks := false }, kinds := [], alts := [], laidByText := true, laidKinds := [.data, .pinned], laidTests := true, laidLooks := .later }
def FnExactReadSheetUptoCardSaid : Prop := Claim7.holds Tryd.pinned (.plain (OpenSpec.upto fnExactReadSheetSpec)) fnExactReadSheetUptoCard
end Rows
end Go.Proofs.YtooilehdljeepaaDoor
