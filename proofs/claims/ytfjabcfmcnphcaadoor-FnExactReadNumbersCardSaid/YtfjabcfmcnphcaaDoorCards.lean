/-
  DERIVED. GIVEN WITH THE SEED: THE CARDS: each row of YtfjabcfmcnphcaaDoorRows.lean that lists a variable, with what it lists TIED to the program's text (the seventh form; the later family's looks); each row that meets fmt, with fmt's text TOLD by the authors' own Lean function (tested against real Go, not proved from fmt's source: count such statements apart). THE CARD IS WHAT COUNTS. Prove the row's statement (the work); the ties are given (YtfjabcfmcnphcaaDoorTie.lean); close each card by the builder's one call (the guide's Derived/Test/ToyasCard.lean, 'card_holds'). Laid BY PROGRAM, IN A SANDBOX (cutbox-door.mjs). By AI agents, Wed Nov 11 2026. No macro, syntax, notation, axiom, sorry.
-/
import Derived.Test.YtfjabcfmcnphcaaDoorRows
import GoSem.ClaimSeven
namespace Go.Proofs.YtfjabcfmcnphcaaDoor
namespace Rows

/-- THE TIED CARD OF 'laws.FnExactReadPart'. -/
def fnExactReadPartCard : Claim7 := { stood := { row := fnExactReadPartRow, standIns := [], harness := (true, "e612296f43f12df8657ecff7ebbc41704987f65836314fdfc7bc78bf3cf762de"), looks := false }, kinds := [], alts := [], laidByText := true, laidKinds := [.data, .pinned], laidTests := true, laidLooks := .later }
def FnExactReadPartCardSaid : Prop := Claim7.holds Tryd.pinned (.plain (OpenSpec.ofChange fnExactReadPartSpec)) fnExactReadPartCard

/-- THE TIED CARD OF 'laws.FnExactReadLength'. -/
def fnExactReadLengthCard : Claim7 := { stood := { row := fnExactReadLengthRow, standIns := [], harness := (true, "e612296f43f12df8657ecff7ebbc41704987f65836314fdfc7bc78bf3cf762de"), looks := false }, kinds := [], alts := [], laidByText := true, laidKinds := [.data, .pinned], laidTests := true, laidLooks := .later }
def FnExactReadLengthCardSaid : Prop := Claim7.holds Tryd.pinned (.plain (OpenSpec.ofChange fnExactReadLengthSpec)) fnExactReadLengthCard

/-- THE TIED CARD OF 'laws.FnExactReadView'. -/
def fnExactReadViewCard : Claim7 := { stood := { row := fnExactReadViewRow, standIns := [], harness := (true, "e612296f43f12df8657ecff7ebbc41704987f65836314fdfc7bc78bf3cf762de"), looks := false }, kinds := [], alts := [], laidByText := true, laidKinds := [.data, .pinned], laidTests := true, laidLooks := .later }
def FnExactReadViewCardSaid : Prop := Claim7.holds Tryd.pinned (.plain (OpenSpec.ofChange fnExactReadViewSpec)) fnExactReadViewCard

/-- THE TIED CARD OF 'laws.FnExactReadNumbers'. -/
def fnExactReadNumbersCard : Claim7 := { stood := { row := fnExactReadNumbersRow, standIns := [], harness := (true, "e612296f43f12df8657ecff7ebbc41704987f65836314fdfc7bc78bf3cf762de"), looks := false }, kinds := [], alts := [], laidByText := true, laidKinds := [.data, .pinned], laidTests := true, laidLooks := .later }
def FnExactReadNumbersCardSaid : Prop := Claim7.holds Tryd.pinned (.plain (OpenSpec.ofChange fnExactReadNumbersSpec)) fnExactReadNumbersCard

/-- THE TIED CARD OF 'laws.FnExactReadColor'. -/
def fnExactReadColorCard : Claim7 := { stood := { row := fnExactReadColorRow, standIns := [], harness := (true, "e612296f43f12df8657ecff7ebbc41704987f65836314fdfc7bc78bf3cf762de"), looks := false }, kinds := [], alts := [], laidByText := true, laidKinds := [.data, .pinned], laidTests := true, laidLooks := .later }
def FnExactReadColorCardSaid : Prop := Claim7.holds Tryd.pinned (.plain (OpenSpec.ofChange fnExactReadColorSpec)) fnExactReadColorCard

/-- THE SECOND FORM's CARD OF 'laws.FnExactReadPart'. -/
def fnExactReadPartUptoCard : Claim7 := { stood := { row := fnExactReadPartUptoRow, standIns := [], harness := (true, "e612296f43f12df8657ecff7ebbc41704987f65836314fdfc7bc78bf3cf762de"), looks := false }, kinds := [], alts := [], laidByText := true, laidKinds := [.data, .pinned], laidTests := true, laidLooks := .later }
def FnExactReadPartUptoCardSaid : Prop := Claim7.holds Tryd.pinned (.plain (OpenSpec.upto fnExactReadPartSpec)) fnExactReadPartUptoCard

/-- THE SECOND FORM's CARD OF 'laws.FnExactReadLength'. -/
def fnExactReadLengthUptoCard : Claim7 := { stood := { row := fnExactReadLengthUptoRow, standIns := [], harness := (true, "e612296f43f12df8657ecff7ebbc41704987f65836314fdfc7bc78bf3cf762de"), looks := false }, kinds := [], alts := [], laidByText := true, laidKinds := [.data, .pinned], laidTests := true, laidLooks := .later }
def FnExactReadLengthUptoCardSaid : Prop := Claim7.holds Tryd.pinned (.plain (OpenSpec.upto fnExactReadLengthSpec)) fnExactReadLengthUptoCard

/-- THE SECOND FORM's CARD OF 'laws.FnExactReadView'. -/
def fnExactReadViewUptoCard : Claim7 := { stood := { row := fnExactReadViewUptoRow, standIns := [], harness := (true, "e612296f43f12df8657ecff7ebbc41704987f65836314fdfc7bc78bf3cf762de"), looks := false }, kinds := [], alts := [], laidByText := true, laidKinds := [.data, .pinned], laidTests := true, laidLooks := .later }
def FnExactReadViewUptoCardSaid : Prop := Claim7.holds Tryd.pinned (.plain (OpenSpec.upto fnExactReadViewSpec)) fnExactReadViewUptoCard

/-- THE SECOND FORM's CARD OF 'laws.FnExactReadNumbers'. -/
def fnExactReadNumbersUptoCard : Claim7 := { stood := { row := fnExactReadNumbersUptoRow, standIns := [], harness := (true, "e612296f43f12df8657ecff7ebbc41704987f65836314fdfc7bc78bf3cf762de"), looks := false }, kinds := [], alts := [], laidByText := true, laidKinds := [.data, .pinned], laidTests := true, laidLooks := .later }
def FnExactReadNumbersUptoCardSaid : Prop := Claim7.holds Tryd.pinned (.plain (OpenSpec.upto fnExactReadNumbersSpec)) fnExactReadNumbersUptoCard

/-- THE SECOND FORM's CARD OF 'laws.FnExactReadColor'. -/
def fnExactReadColorUptoCard : Claim7 := { stood := { row := fnExactReadColorUptoRow, standIns := [], harness := (true, "e612296f43f12df8657ecff7ebbc41704987f65836314fdfc7bc78bf3cf762de"), looks := false }, kinds := [], alts := [], laidByText := true, laidKinds := [.data, .pinned], laidTests := true, laidLooks := .later }
def FnExactReadColorUptoCardSaid : Prop := Claim7.holds Tryd.pinned (.plain (OpenSpec.upto fnExactReadColorSpec)) fnExactReadColorUptoCard
end Rows
end Go.Proofs.YtfjabcfmcnphcaaDoor
