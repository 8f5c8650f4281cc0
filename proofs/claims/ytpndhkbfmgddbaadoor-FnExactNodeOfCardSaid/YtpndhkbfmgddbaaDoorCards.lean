/-
  DERIVED. GIVEN WITH THE SEED: THE CARDS: each row of YtpndhkbfmgddbaaDoorRows.lean that lists a variable, with what it lists TIED to the program's text (the seventh form; the later family's looks); each row that meets fmt, with fmt's text TOLD by the authors' own Lean function (tested against real Go, not proved from fmt's source: count such statements apart). THE CARD IS WHAT COUNTS. Prove the row's statement (the work); the ties are given (YtpndhkbfmgddbaaDoorTie.lean); close each card by the builder's one call (the guide's Derived/Test/ToyasCard.lean, 'card_holds'). Laid BY PROGRAM, IN A SANDBOX (cutbox-door.mjs). By AI agents, Wed Nov 11 2026. No macro, syntax, notation, axiom, sorry.
-/
import Derived.Test.YtpndhkbfmgddbaaDoorRows
import GoSem.ClaimSeven
namespace Go.Proofs.YtpndhkbfmgddbaaDoor
namespace Rows

/-- THE TIED CARD OF 'laws.FnExactGoodNodes'. -/
def fnExactGoodNodesCard : Claim7 := { stood := { row := fnExactGoodNodesRow, standIns := [], harness := (true, "9cd05537a61d3e094153fdb2b34ca81581fd0ac7f59c18984635038733cab7ec"), looks := false }, kinds := [], alts := [], laidByText := true, laidKinds := [.data, .pinned], laidTests := true, laidLooks := .later }
def FnExactGoodNodesCardSaid : Prop := Claim7.holds Tryd.pinned (.plain (OpenSpec.ofChange fnExactGoodNodesSpec)) fnExactGoodNodesCard

/-- THE TIED CARD OF 'laws.FnExactTextUnder'. -/
def fnExactTextUnderCard : Claim7 := { stood := { row := fnExactTextUnderRow, standIns := [], harness := (true, "9cd05537a61d3e094153fdb2b34ca81581fd0ac7f59c18984635038733cab7ec"), looks := false }, kinds := [], alts := [], laidByText := true, laidKinds := [.data, .pinned], laidTests := true, laidLooks := .later }
def FnExactTextUnderCardSaid : Prop := Claim7.holds Tryd.pinned (.plain (OpenSpec.ofChange fnExactTextUnderSpec)) fnExactTextUnderCard

/-- THE TIED CARD OF 'laws.FnExactNodeOf'. -/
def fnExactNodeOfCard : Claim7 := { stood := { row := fnExactNodeOfRow, standIns := [], harness := (true, "9cd05537a61d3e094153fdb2b34ca81581fd0ac7f59c18984635038733cab7ec"), looks := false }, kinds := [], alts := [], laidByText := true, laidKinds := [.data, .pinned], laidTests := true, laidLooks := .later }
def FnExactNodeOfCardSaid : Prop := Claim7.holds Tryd.pinned (.plain (OpenSpec.ofChange fnExactNodeOfSpec)) fnExactNodeOfCard

/-- THE TIED CARD OF 'laws.FnExactMatches'. -/
def fnExactMatchesCard : Claim7 := { stood := { row := fnExactMatchesRow, standIns := [], harness := (true, "9cd05537a61d3e094153fdb2b34ca81581fd0ac7f59c18984635038733cab7ec"), looks := false }, kinds := [], alts := [], laidByText := true, laidKinds := [.data, .pinned], laidTests := true, laidLooks := .later }
def FnExactMatchesCardSaid : Prop := Claim7.holds Tryd.pinned (.plain (OpenSpec.ofChange fnExactMatchesSpec)) fnExactMatchesCard

/-- THE TIED CARD OF 'laws.FnExactHasCycle'. -/
def fnExactHasCycleCard : Claim7 := { stood := { row := fnExactHasCycleRow, standIns := [], harness := (true, "9cd05537a61d3e094153fdb2b34ca81581fd0ac7f59c18984635038733cab7ec"), looks := false }, kinds := [], alts := [], laidByText := true, laidKinds := [.data, .pinned], laidTests := true, laidLooks := .later }
def FnExactHasCycleCardSaid : Prop := Claim7.holds Tryd.pinned (.plain (OpenSpec.ofChange fnExactHasCycleSpec)) fnExactHasCycleCard

/-- THE SECOND FORM's CARD OF 'laws.FnExactGoodNodes'. -/
def fnExactGoodNodesUptoCard : Claim7 := { stood := { row := fnExactGoodNodesUptoRow, standIns := [], harness := (true, "9cd05537a61d3e094153fdb2b34ca81581fd0ac7f59c18984635038733cab7ec"), looks := false }, kinds := [], alts := [], laidByText := true, laidKinds := [.data, .pinned], laidTests := true, laidLooks := .later }
def FnExactGoodNodesUptoCardSaid : Prop := Claim7.holds Tryd.pinned (.plain (OpenSpec.upto fnExactGoodNodesSpec)) fnExactGoodNodesUptoCard

/-- THE SECOND FORM's CARD OF 'laws.FnExactTextUnder'. -/
def fnExactTextUnderUptoCard : Claim7 := { stood := { row := fnExactTextUnderUptoRow, standIns := [], harness := (true, "9cd05537a61d3e094153fdb2b34ca81581fd0ac7f59c18984635038733cab7ec"), looks := false }, kinds := [], alts := [], laidByText := true, laidKinds := [.data, .pinned], laidTests := true, laidLooks := .later }
def FnExactTextUnderUptoCardSaid : Prop := Claim7.holds Tryd.pinned (.plain (OpenSpec.upto fnExactTextUnderSpec)) fnExactTextUnderUptoCard

/-- THE SECOND FORM's CARD OF 'laws.FnExactNodeOf'. -/
def fnExactNodeOfUptoCard : Claim7 := { stood := { row := fnExactNodeOfUptoRow, standIns := [], harness := (true, "9cd05537a61d3e094153fdb2b34ca81581fd0ac7f59c18984635038733cab7ec"), looks := false }, kinds := [], alts := [], laidByText := true, laidKinds := [.data, .pinned], laidTests := true, laidLooks := .later }
def FnExactNodeOfUptoCardSaid : Prop := Claim7.holds Tryd.pinned (.plain (OpenSpec.upto fnExactNodeOfSpec)) fnExactNodeOfUptoCard

/-- THE SECOND FORM's CARD OF 'laws.FnExactMatches'. -/
def fnExactMatchesUptoCard : Claim7 := { stood := { row := fnExactMatchesUptoRow, standIns := [], harness := (true, "9cd05537a61d3e094153fdb2b34ca81581fd0ac7f59c18984635038733cab7ec"), looks := false }, kinds := [], alts := [], laidByText := true, laidKinds := [.data, .pinned], laidTests := true, laidLooks := .later }
def FnExactMatchesUptoCardSaid : Prop := Claim7.holds Tryd.pinned (.plain (OpenSpec.upto fnExactMatchesSpec)) fnExactMatchesUptoCard

/-- THE SECOND FORM's CARD OF 'laws.FnExactHasCycle'. -/
def fnExactHasCycleUptoCard : Claim7 := { stood := { row := fnExactHasCycleUptoRow, standIns := [], harness := (true, "9cd05537a61d3e094153fdb2b34ca81581fd0ac7f59c18984635038733cab7ec"), looks := false }, kinds := [], alts := [], laidByText := true, laidKinds := [.data, .pinned], laidTests := true, laidLooks := .later }
def FnExactHasCycleUptoCardSaid : Prop := Claim7.holds Tryd.pinned (.plain (OpenSpec.upto fnExactHasCycleSpec)) fnExactHasCycleUptoCard
end Rows
end Go.Proofs.YtpndhkbfmgddbaaDoor
