/-
  DERIVED. GIVEN WITH THE SEED: THE CARDS: each row of YtdajnpfeihjcmaaDoorRows.lean that lists a variable, with what it lists TIED to the program's text (the seventh form; the later family's looks); each row that meets fmt, with fmt's text TOLD by the authors' own Lean function (tested against real Go, not proved from fmt's source: count such statements apart). THE CARD IS WHAT COUNTS. Prove the row's statement (the work); the ties are given (YtdajnpfeihjcmaaDoorTie.lean); close each card by the builder's one call (the guide's Derived/Test/ToyasCard.lean, 'card_holds'). Laid BY PROGRAM, IN A SANDBOX (cutbox-door.mjs). By AI agents, Wed Nov 11 2026. No macro, syntax, notation, axiom, sorry.
-/
import Derived.Test.YtdajnpfeihjcmaaDoorRows
import GoSem.ClaimSeven
namespace Go.Proofs.YtdajnpfeihjcmaaDoor
namespace Rows

/-- THE TIED CARD OF 'laws.FnExactTermName'. -/
def fnExactTermNameCard : Claim7 := { stood := { row := fnExactTermNameRow, standIns := [], harness := (true, "a3f836c8199b6f12e11f982298ab7bf7b8a576484f44bd6b5a1bdfdc1070781a"), looks := false }, kinds := [], alts := [], laidByText := true, laidKinds := [.data], laidTests := true, laidLooks := .later }
def FnExactTermNameCardSaid : Prop := Claim7.holds Tryd.pinned (.plain (OpenSpec.ofChange fnExactTermNameSpec)) fnExactTermNameCard

/-- THE TIED CARD OF 'laws.FnExactParseTerm'. -/
def fnExactParseTermCard : Claim7 := { stood := { row := fnExactParseTermRow, standIns := [], harness := (true, "a3f836c8199b6f12e11f982298ab7bf7b8a576484f44bd6b5a1bdfdc1070781a"), looks := false }, kinds := [], alts := [], laidByText := true, laidKinds := [.data], laidTests := true, laidLooks := .later }
def FnExactParseTermCardSaid : Prop := Claim7.holds Tryd.pinned (.plain (OpenSpec.ofChange fnExactParseTermSpec)) fnExactParseTermCard

/-- THE TIED CARD OF 'laws.FnExactFormatFact'. -/
def fnExactFormatFactCard : Claim7 := { stood := { row := fnExactFormatFactRow, standIns := [], harness := (true, "a3f836c8199b6f12e11f982298ab7bf7b8a576484f44bd6b5a1bdfdc1070781a"), looks := false }, kinds := [], alts := [], laidByText := true, laidKinds := [.data], laidTests := true, laidLooks := .later }
def FnExactFormatFactCardSaid : Prop := Claim7.holds Tryd.pinned (.plain (OpenSpec.ofChange fnExactFormatFactSpec)) fnExactFormatFactCard

/-- THE TIED CARD OF 'laws.FnTermName'. -/
def fnTermNameCard : Claim7 := { stood := { row := fnTermNameRow, standIns := [], harness := (true, "a3f836c8199b6f12e11f982298ab7bf7b8a576484f44bd6b5a1bdfdc1070781a"), looks := false }, kinds := [], alts := [], laidByText := true, laidKinds := [.data], laidTests := true, laidLooks := .later }
def FnTermNameCardSaid : Prop := Claim7.holds Tryd.pinned (.plain (OpenSpec.ofChange fnTermNameSpec)) fnTermNameCard

/-- THE SECOND FORM's CARD OF 'laws.FnExactTermName'. -/
def fnExactTermNameUptoCard : Claim7 := { stood := { row := fnExactTermNameUptoRow, standIns := [], harness := (true, "a3f836c8199b6f12e11f982298ab7bf7b8a576484f44bd6b5a1bdfdc1070781a"), looks := false }, kinds := [], alts := [], laidByText := true, laidKinds := [.data], laidTests := true, laidLooks := .later }
def FnExactTermNameUptoCardSaid : Prop := Claim7.holds Tryd.pinned (.plain (OpenSpec.upto fnExactTermNameSpec)) fnExactTermNameUptoCard

/-- THE SECOND FORM's CARD OF 'laws.FnExactParseTerm'. -/
def fnExactParseTermUptoCard : Claim7 := { stood := { row := fnExactParseTermUptoRow, standIns := [], harness := (true, "a3f836c8199b6f12e11f982298ab7bf7b8a576484f44bd6b5a1bdfdc1070781a"), looks := false }, kinds := [], alts := [], laidByText := true, laidKinds := [.data], laidTests := true, laidLooks := .later }
def FnExactParseTermUptoCardSaid : Prop := Claim7.holds Tryd.pinned (.plain (OpenSpec.upto fnExactParseTermSpec)) fnExactParseTermUptoCard

/-- THE SECOND FORM's CARD OF 'laws.FnExactFormatFact'. -/
def fnExactFormatFactUptoCard : Claim7 := { stood := { row := fnExactFormatFactUptoRow, standIns := [], harness := (true, "a3f836c8199b6f12e11f982298ab7bf7b8a576484f44bd6b5a1bdfdc1070781a"), looks := false }, kinds := [], alts := [], laidByText := true, laidKinds := [.data], laidTests := true, laidLooks := .later }
def FnExactFormatFactUptoCardSaid : Prop := Claim7.holds Tryd.pinned (.plain (OpenSpec.upto fnExactFormatFactSpec)) fnExactFormatFactUptoCard

/-- THE SECOND FORM's CARD OF 'laws.FnTermName'. -/
def fnTermNameUptoCard : Claim7 := { stood := { row := fnTermNameUptoRow, standIns := [], harness := (true, "a3f836c8199b6f12e11f982298ab7bf7b8a576484f44bd6b5a1bdfdc1070781a"), looks := false }, kinds := [], alts := [], laidByText := true, laidKinds := [.data], laidTests := true, laidLooks := .later }
def FnTermNameUptoCardSaid : Prop := Claim7.holds Tryd.pinned (.plain (OpenSpec.upto fnTermNameSpec)) fnTermNameUptoCard
end Rows
end Go.Proofs.YtdajnpfeihjcmaaDoor
