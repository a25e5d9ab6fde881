/-
  DERIVED. GIVEN WITH THE SEED: THE CARDS: each row of YtifdefkkofngoaaDoorRows.lean that lists a variable, with what it lists TIED to the program's text (the seventh form; the later family's looks); each row that meets fmt, with fmt's text TOLD by the authors' own Lean function (tested against real Go, not proved from fmt's source: count such statements apart). THE CARD IS WHAT COUNTS. Prove the row's statement (the work); the ties are given (YtifdefkkofngoaaDoorTie.lean); close each card by the builder's one call (the guide's Derived/Test/ToyasCard.lean, 'card_holds'). Laid BY PROGRAM, IN A SANDBOX (cutbox-door.mjs). By AI agents, Wed Nov 11 2026. No macro, syntax, notation, axiom, sorry.
-/
import Derived.Test.YtifdefkkofngoaaDoorRows
import GoSem.ClaimSeven
namespace Go.Proofs.YtifdefkkofngoaaDoor
namespace Rows

/-- THE TIED CARD OF 'laws.FnExactFormatState'. -/
def fnExactFormatStateCard : Claim7 := { stood := { row := fnExactFormatStateRow, standIns := [], harness := (true, "0a8d3cd5eb2659bbed2aa347e0f1b74d675fa8005419796d8ad54583e43062f4"), looks := false }, kinds := [], alts := [], laidByText := true, laidKinds := [.data, .data, .data, .data], laidTests := true, laidLooks := .later }
def FnExactFormatStateCardSaid : Prop := Claim7.holds Tryd.pinned (.plain (OpenSpec.ofChange fnExactFormatStateSpec)) fnExactFormatStateCard

/-- THE TIED CARD OF 'laws.FnExactParseState'. -/
def fnExactParseStateCard : Claim7 := { stood := { row := fnExactParseStateRow, standIns := [], harness := (true, "0a8d3cd5eb2659bbed2aa347e0f1b74d675fa8005419796d8ad54583e43062f4"), looks := false }, kinds := [], alts := [], laidByText := true, laidKinds := [.data, .data, .pinned], laidTests := true, laidLooks := .later }
def FnExactParseStateCardSaid : Prop := Claim7.holds Tryd.pinned (.plain (OpenSpec.ofChange fnExactParseStateSpec)) fnExactParseStateCard

/-- THE TIED CARD OF 'laws.FnStateText'. -/
def fnStateTextCard : Claim7 := { stood := { row := fnStateTextRow, standIns := [], harness := (true, "0a8d3cd5eb2659bbed2aa347e0f1b74d675fa8005419796d8ad54583e43062f4"), looks := false }, kinds := [], alts := [], laidByText := true, laidKinds := [.data, .data, .data, .data, .data, .pinned], laidTests := true, laidLooks := .later }
def FnStateTextCardSaid : Prop := Claim7.holds Tryd.pinned (.plain (OpenSpec.ofChange fnStateTextSpec)) fnStateTextCard

/-- THE TIED CARD OF 'laws.FnStateSame'. -/
def fnStateSameCard : Claim7 := { stood := { row := fnStateSameRow, standIns := [], harness := (true, "0a8d3cd5eb2659bbed2aa347e0f1b74d675fa8005419796d8ad54583e43062f4"), looks := false }, kinds := [], alts := [], laidByText := true, laidKinds := [.data, .data, .data, .data], laidTests := true, laidLooks := .later }
def FnStateSameCardSaid : Prop := Claim7.holds Tryd.pinned (.plain (OpenSpec.ofChange fnStateSameSpec)) fnStateSameCard

/-- THE TIED CARD OF 'laws.FnExactParseAssertion'. -/
def fnExactParseAssertionCard : Claim7 := { stood := { row := fnExactParseAssertionRow, standIns := [], harness := (true, "0a8d3cd5eb2659bbed2aa347e0f1b74d675fa8005419796d8ad54583e43062f4"), looks := false }, kinds := [], alts := [], laidByText := true, laidKinds := [.data, .data, .pinned], laidTests := true, laidLooks := .later }
def FnExactParseAssertionCardSaid : Prop := Claim7.holds Tryd.pinned (.plain (OpenSpec.ofChange fnExactParseAssertionSpec)) fnExactParseAssertionCard

/-- THE TIED CARD OF 'laws.FnAssertionText'. -/
def fnAssertionTextCard : Claim7 := { stood := { row := fnAssertionTextRow, standIns := [], harness := (true, "0a8d3cd5eb2659bbed2aa347e0f1b74d675fa8005419796d8ad54583e43062f4"), looks := false }, kinds := [], alts := [], laidByText := true, laidKinds := [.data, .data, .pinned], laidTests := true, laidLooks := .later }
def FnAssertionTextCardSaid : Prop := Claim7.holds Tryd.pinned (.plain (OpenSpec.ofChange fnAssertionTextSpec)) fnAssertionTextCard

/-- THE SECOND FORM's CARD OF 'laws.FnExactFormatState'. -/
def fnExactFormatStateUptoCard : Claim7 := { stood := { row := fnExactFormatStateUptoRow, standIns := [], harness := (true, "0a8d3cd5eb2659bbed2aa347e0f1b74d675fa8005419796d8ad54583e43062f4"), looks := false }, kinds := [], alts := [], laidByText := true, laidKinds := [.data, .data, .data, .data], laidTests := true, laidLooks := .later }
def FnExactFormatStateUptoCardSaid : Prop := Claim7.holds Tryd.pinned (.plain (OpenSpec.upto fnExactFormatStateSpec)) fnExactFormatStateUptoCard

/-- THE SECOND FORM's CARD OF 'laws.FnExactParseState'. -/
def fnExactParseStateUptoCard : Claim7 := { stood := { row := fnExactParseStateUptoRow, standIns := [], harness := (true, "0a8d3cd5eb2659bbed2aa347e0f1b74d675fa8005419796d8ad54583e43062f4"), looks := false }, kinds := [], alts := [], laidByText := true, laidKinds := [.data, .data, .pinned], laidTests := true, laidLooks := .later }
def FnExactParseStateUptoCardSaid : Prop := Claim7.holds Tryd.pinned (.plain (OpenSpec.upto fnExactParseStateSpec)) fnExactParseStateUptoCard

/-- THE SECOND FORM's CARD OF 'laws.FnStateText'. -/
def fnStateTextUptoCard : Claim7 := { stood := { row := fnStateTextUptoRow, standIns := [], harness := (true, "0a8d3cd5eb2659bbed2aa347e0f1b74d675fa8005419796d8ad54583e43062f4"), looks := false }, kinds := [], alts := [], laidByText := true, laidKinds := [.data, .data, .data, .data, .data, .pinned], laidTests := true, laidLooks := .later }
def FnStateTextUptoCardSaid : Prop := Claim7.holds Tryd.pinned (.plain (OpenSpec.upto fnStateTextSpec)) fnStateTextUptoCard

/-- THE SECOND FORM's CARD OF 'laws.FnStateSame'. -/
def fnStateSameUptoCard : Claim7 := { stood := { row := fnStateSameUptoRow, standIns := [], harness := (true, "0a8d3cd5eb2659bbed2aa347e0f1b74d675fa8005419796d8ad54583e43062f4"), looks := false }, kinds := [], alts := [], laidByText := true, laidKinds := [.data, .data, .data, .data], laidTests := true, laidLooks := .later }
def FnStateSameUptoCardSaid : Prop := Claim7.holds Tryd.pinned (.plain (OpenSpec.upto fnStateSameSpec)) fnStateSameUptoCard

/-- THE SECOND FORM's CARD OF 'laws.FnExactParseAssertion'. -/
def fnExactParseAssertionUptoCard : Claim7 := { stood := { row := fnExactParseAssertionUptoRow, standIns := [], harness := (true, "0a8d3cd5eb2659bbed2aa347e0f1b74d675fa8005419796d8ad54583e43062f4"), looks := false }, kinds := [], alts := [], laidByText := true, laidKinds := [.data, .data, .pinned], laidTests := true, laidLooks := .later }
def FnExactParseAssertionUptoCardSaid : Prop := Claim7.holds Tryd.pinned (.plain (OpenSpec.upto fnExactParseAssertionSpec)) fnExactParseAssertionUptoCard

/-- THE SECOND FORM's CARD OF 'laws.FnAssertionText'. -/
def fnAssertionTextUptoCard : Claim7 := { stood := { row := fnAssertionTextUptoRow, standIns := [], harness := (true, "0a8d3cd5eb2659bbed2aa347e0f1b74d675fa8005419796d8ad54583e43062f4"), looks := false }, kinds := [], alts := [], laidByText := true, laidKinds := [.data, .data, .pinned], laidTests := true, laidLooks := .later }
def FnAssertionTextUptoCardSaid : Prop := Claim7.holds Tryd.pinned (.plain (OpenSpec.upto fnAssertionTextSpec)) fnAssertionTextUptoCard
end Rows
end Go.Proofs.YtifdefkkofngoaaDoor
