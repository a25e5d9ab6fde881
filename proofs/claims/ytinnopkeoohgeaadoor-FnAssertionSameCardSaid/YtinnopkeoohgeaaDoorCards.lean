/-
  DERIVED. GIVEN WITH THE SEED: THE CARDS: each row of YtinnopkeoohgeaaDoorRows.lean that lists a variable, with what it lists TIED to the program's text (the seventh form; the later family's looks); each row that meets fmt, with fmt's text TOLD by the authors' own Lean function (tested against real Go, not proved from fmt's source: count such statements apart). THE CARD IS WHAT COUNTS. Prove the row's statement (the work); the ties are given (YtinnopkeoohgeaaDoorTie.lean); close each card by the builder's one call (the guide's Derived/Test/ToyasCard.lean, 'card_holds'). Laid BY PROGRAM, IN A SANDBOX (cutbox-door.mjs). By AI agents, Wed Nov 11 2026. No macro, syntax, notation, axiom, sorry.
-/
import Derived.Test.YtinnopkeoohgeaaDoorRows
import GoSem.ClaimSeven
namespace Go.Proofs.YtinnopkeoohgeaaDoor
namespace Rows

/-- THE TIED CARD OF 'laws.FnExactParseFact'. -/
def fnExactParseFactCard : Claim7 := { stood := { row := fnExactParseFactRow, standIns := [], harness := (true, "a0bd04c96fc38d3eac6fdb7ff195c00221868e21b7debf97762b8314c0358f9f"), looks := false }, kinds := [], alts := [], laidByText := true, laidKinds := [.data], laidTests := true, laidLooks := .later }
def FnExactParseFactCardSaid : Prop := Claim7.holds Tryd.pinned (.plain (OpenSpec.ofChange fnExactParseFactSpec)) fnExactParseFactCard

/-- THE TIED CARD OF 'laws.FnFactText'. -/
def fnFactTextCard : Claim7 := { stood := { row := fnFactTextRow, standIns := [], harness := (true, "a0bd04c96fc38d3eac6fdb7ff195c00221868e21b7debf97762b8314c0358f9f"), looks := false }, kinds := [], alts := [], laidByText := true, laidKinds := [.data], laidTests := true, laidLooks := .later }
def FnFactTextCardSaid : Prop := Claim7.holds Tryd.pinned (.plain (OpenSpec.ofChange fnFactTextSpec)) fnFactTextCard

/-- THE TIED CARD OF 'laws.FnExactFormatState'. -/
def fnExactFormatStateCard : Claim7 := { stood := { row := fnExactFormatStateRow, standIns := [], harness := (true, "a0bd04c96fc38d3eac6fdb7ff195c00221868e21b7debf97762b8314c0358f9f"), looks := false }, kinds := [], alts := [], laidByText := true, laidKinds := [.data, .data, .data, .data], laidTests := true, laidLooks := .later }
def FnExactFormatStateCardSaid : Prop := Claim7.holds Tryd.pinned (.plain (OpenSpec.ofChange fnExactFormatStateSpec)) fnExactFormatStateCard

/-- THE TIED CARD OF 'laws.FnExactParseState'. -/
def fnExactParseStateCard : Claim7 := { stood := { row := fnExactParseStateRow, standIns := [], harness := (true, "a0bd04c96fc38d3eac6fdb7ff195c00221868e21b7debf97762b8314c0358f9f"), looks := false }, kinds := [], alts := [], laidByText := true, laidKinds := [.data, .data, .pinned], laidTests := true, laidLooks := .later }
def FnExactParseStateCardSaid : Prop := Claim7.holds Tryd.pinned (.plain (OpenSpec.ofChange fnExactParseStateSpec)) fnExactParseStateCard

/-- THE TIED CARD OF 'laws.FnStateText'. -/
def fnStateTextCard : Claim7 := { stood := { row := fnStateTextRow, standIns := [], harness := (true, "a0bd04c96fc38d3eac6fdb7ff195c00221868e21b7debf97762b8314c0358f9f"), looks := false }, kinds := [], alts := [], laidByText := true, laidKinds := [.data, .data, .data, .data, .data, .pinned], laidTests := true, laidLooks := .later }
def FnStateTextCardSaid : Prop := Claim7.holds Tryd.pinned (.plain (OpenSpec.ofChange fnStateTextSpec)) fnStateTextCard

/-- THE TIED CARD OF 'laws.FnStateSame'. -/
def fnStateSameCard : Claim7 := { stood := { row := fnStateSameRow, standIns := [], harness := (true, "a0bd04c96fc38d3eac6fdb7ff195c00221868e21b7debf97762b8314c0358f9f"), looks := false }, kinds := [], alts := [], laidByText := true, laidKinds := [.data, .data, .data, .data], laidTests := true, laidLooks := .later }
def FnStateSameCardSaid : Prop := Claim7.holds Tryd.pinned (.plain (OpenSpec.ofChange fnStateSameSpec)) fnStateSameCard

/-- THE TIED CARD OF 'laws.FnExactFormatAssertion'. -/
def fnExactFormatAssertionCard : Claim7 := { stood := { row := fnExactFormatAssertionRow, standIns := [], harness := (true, "a0bd04c96fc38d3eac6fdb7ff195c00221868e21b7debf97762b8314c0358f9f"), looks := false }, kinds := [], alts := [], laidByText := true, laidKinds := [.data], laidTests := true, laidLooks := .later }
def FnExactFormatAssertionCardSaid : Prop := Claim7.holds Tryd.pinned (.plain (OpenSpec.ofChange fnExactFormatAssertionSpec)) fnExactFormatAssertionCard

/-- THE TIED CARD OF 'laws.FnExactParseAssertion'. -/
def fnExactParseAssertionCard : Claim7 := { stood := { row := fnExactParseAssertionRow, standIns := [], harness := (true, "a0bd04c96fc38d3eac6fdb7ff195c00221868e21b7debf97762b8314c0358f9f"), looks := false }, kinds := [], alts := [], laidByText := true, laidKinds := [.data, .data, .pinned], laidTests := true, laidLooks := .later }
def FnExactParseAssertionCardSaid : Prop := Claim7.holds Tryd.pinned (.plain (OpenSpec.ofChange fnExactParseAssertionSpec)) fnExactParseAssertionCard

/-- THE TIED CARD OF 'laws.FnAssertionText'. -/
def fnAssertionTextCard : Claim7 := { stood := { row := fnAssertionTextRow, standIns := [], harness := (true, "a0bd04c96fc38d3eac6fdb7ff195c00221868e21b7debf97762b8314c0358f9f"), looks := false }, kinds := [], alts := [], laidByText := true, laidKinds := [.data, .data, .pinned], laidTests := true, laidLooks := .later }
def FnAssertionTextCardSaid : Prop := Claim7.holds Tryd.pinned (.plain (OpenSpec.ofChange fnAssertionTextSpec)) fnAssertionTextCard

/-- THE TIED CARD OF 'laws.FnAssertionSame'. -/
def fnAssertionSameCard : Claim7 := { stood := { row := fnAssertionSameRow, standIns := [], harness := (true, "a0bd04c96fc38d3eac6fdb7ff195c00221868e21b7debf97762b8314c0358f9f"), looks := false }, kinds := [], alts := [], laidByText := true, laidKinds := [.data], laidTests := true, laidLooks := .later }
def FnAssertionSameCardSaid : Prop := Claim7.holds Tryd.pinned (.plain (OpenSpec.ofChange fnAssertionSameSpec)) fnAssertionSameCard

/-- THE SECOND FORM's CARD OF 'laws.FnExactParseFact'. -/
def fnExactParseFactUptoCard : Claim7 := { stood := { row := fnExactParseFactUptoRow, standIns := [], harness := (true, "a0bd04c96fc38d3eac6fdb7ff195c00221868e21b7debf97762b8314c0358f9f"), looks := false }, kinds := [], alts := [], laidByText := true, laidKinds := [.data], laidTests := true, laidLooks := .later }
def FnExactParseFactUptoCardSaid : Prop := Claim7.holds Tryd.pinned (.plain (OpenSpec.upto fnExactParseFactSpec)) fnExactParseFactUptoCard

/-- THE SECOND FORM's CARD OF 'laws.FnFactText'. -/
def fnFactTextUptoCard : Claim7 := { stood := { row := fnFactTextUptoRow, standIns := [], harness := (true, "a0bd04c96fc38d3eac6fdb7ff195c00221868e21b7debf97762b8314c0358f9f"), looks := false }, kinds := [], alts := [], laidByText := true, laidKinds := [.data], laidTests := true, laidLooks := .later }
def FnFactTextUptoCardSaid : Prop := Claim7.holds Tryd.pinned (.plain (OpenSpec.upto fnFactTextSpec)) fnFactTextUptoCard

/-- THE SECOND FORM's CARD OF 'laws.FnExactFormatState'. -/
def fnExactFormatStateUptoCard : Claim7 := { stood := { row := fnExactFormatStateUptoRow, standIns := [], harness := (true, "a0bd04c96fc38d3eac6fdb7ff195c00221868e21b7debf97762b8314c0358f9f"), looks := false }, kinds := [], alts := [], laidByText := true, laidKinds := [.data, .data, .data, .data], laidTests := true, laidLooks := .later }
def FnExactFormatStateUptoCardSaid : Prop := Claim7.holds Tryd.pinned (.plain (OpenSpec.upto fnExactFormatStateSpec)) fnExactFormatStateUptoCard

/-- THE SECOND FORM's CARD OF 'laws.FnExactParseState'. -/
def fnExactParseStateUptoCard : Claim7 := { stood := { row := fnExactParseStateUptoRow, standIns := [], harness := (true, "a0bd04c96fc38d3eac6fdb7ff195c00221868e21b7debf97762b8314c0358f9f"), looks := false }, kinds := [], alts := [], laidByText := true, laidKinds := [.data, .data, .pinned], laidTests := true, laidLooks := .later }
def FnExactParseStateUptoCardSaid : Prop := Claim7.holds Tryd.pinned (.plain (OpenSpec.upto fnExactParseStateSpec)) fnExactParseStateUptoCard

/-- THE SECOND FORM's CARD OF 'laws.FnStateText'. -/
def fnStateTextUptoCard : Claim7 := { stood := { row := fnStateTextUptoRow, standIns := [], harness := (true, "a0bd04c96fc38d3eac6fdb7ff195c00221868e21b7debf97762b8314c0358f9f"), looks := false }, kinds := [], alts := [], laidByText := true, laidKinds := [.data, .data, .data, .data, .data, .pinned], laidTests := true, laidLooks := .later }
def FnStateTextUptoCardSaid : Prop := Claim7.holds Tryd.pinned (.plain (OpenSpec.upto fnStateTextSpec)) fnStateTextUptoCard

/-- THE SECOND FORM's CARD OF 'laws.FnStateSame'. -/
def fnStateSameUptoCard : Claim7 := { stood := { row := fnStateSameUptoRow, standIns := [], harness := (true, "a0bd04c96fc38d3eac6fdb7ff195c00221868e21b7debf97762b8314c0358f9f"), looks := false }, kinds := [], alts := [], laidByText := true, laidKinds := [.data, .data, .data, .data], laidTests := true, laidLooks := .later }
def FnStateSameUptoCardSaid : Prop := Claim7.holds Tryd.pinned (.plain (OpenSpec.upto fnStateSameSpec)) fnStateSameUptoCard

/-- THE SECOND FORM's CARD OF 'laws.FnExactFormatAssertion'. -/
def fnExactFormatAssertionUptoCard : Claim7 := { stood := { row := fnExactFormatAssertionUptoRow, standIns := [], harness := (true, "a0bd04c96fc38d3eac6fdb7ff195c00221868e21b7debf97762b8314c0358f9f"), looks := false }, kinds := [], alts := [], laidByText := true, laidKinds := [.data], laidTests := true, laidLooks := .later }
def FnExactFormatAssertionUptoCardSaid : Prop := Claim7.holds Tryd.pinned (.plain (OpenSpec.upto fnExactFormatAssertionSpec)) fnExactFormatAssertionUptoCard

/-- THE SECOND FORM's CARD OF 'laws.FnExactParseAssertion'. -/
def fnExactParseAssertionUptoCard : Claim7 := { stood := { row := fnExactParseAssertionUptoRow, standIns := [], harness := (true, "a0bd04c96fc38d3eac6fdb7ff195c00221868e21b7debf97762b8314c0358f9f"), looks := false }, kinds := [], alts := [], laidByText := true, laidKinds := [.data, .data, .pinned], laidTests := true, laidLooks := .later }
def FnExactParseAssertionUptoCardSaid : Prop := Claim7.holds Tryd.pinned (.plain (OpenSpec.upto fnExactParseAssertionSpec)) fnExactParseAssertionUptoCard

/-- THE SECOND FORM's CARD OF 'laws.FnAssertionText'. -/
def fnAssertionTextUptoCard : Claim7 := { stood := { row := fnAssertionTextUptoRow, standIns := [], harness := (true, "a0bd04c96fc38d3eac6fdb7ff195c00221868e21b7debf97762b8314c0358f9f"), looks := false }, kinds := [], alts := [], laidByText := true, laidKinds := [.data, .data, .pinned], laidTests := true, laidLooks := .later }
def FnAssertionTextUptoCardSaid : Prop := Claim7.holds Tryd.pinned (.plain (OpenSpec.upto fnAssertionTextSpec)) fnAssertionTextUptoCard

/-- THE SECOND FORM's CARD OF 'laws.FnAssertionSame'. -/
def fnAssertionSameUptoCard : Claim7 := { stood := { row := fnAssertionSameUptoRow, standIns := [], harness := (true, "a0bd04c96fc38d3eac6fdb7ff195c00221868e21b7debf97762b8314c0358f9f"), looks := false }, kinds := [], alts := [], laidByText := true, laidKinds := [.data], laidTests := true, laidLooks := .later }
def FnAssertionSameUptoCardSaid : Prop := Claim7.holds Tryd.pinned (.plain (OpenSpec.upto fnAssertionSameSpec)) fnAssertionSameUptoCard
end Rows
end Go.Proofs.YtinnopkeoohgeaaDoor
