/-
  DERIVED. GIVEN WITH THE SEED: THE CARDS: each row of YtdelbjcfgedjpaaDoorRows.lean that lists a variable, with what it lists TIED to the program's text (the seventh form; the later family's looks); each row that meets fmt, with fmt's text TOLD by the authors' own Lean function (tested against real Go, not proved from fmt's source: count such statements apart). THE CARD IS WHAT COUNTS. Prove the row's statement (the work); the ties are given (YtdelbjcfgedjpaaDoorTie.lean); close each card by the builder's one call (the guide's Derived/Test/ToyasCard.lean, 'card_holds'). Laid BY PROGRAM, IN A SANDBOX (cutbox-door.mjs). By AI agents, Wed Nov 11 2026. No macro, syntax, notation, axiom, sorry.
-/
import Derived.Test.YtdelbjcfgedjpaaDoorRows
import GoSem.ClaimSeven
namespace Go.Proofs.YtdelbjcfgedjpaaDoor
namespace Rows

/-- THE TIED CARD OF 'laws.FnOrdinalTexts'. -/
def fnOrdinalTextsCard : Claim7 := { stood := { row := fnOrdinalTextsRow, standIns := [], harness := (true, "0303f7df118e2b48f65e56ff1d044b9b583ca4e614f7a32f0f7ccfdebecc1abf"), looks := true }, kinds := [], alts := [], laidByText := true, laidKinds := [.data, .data, .data, .sentinel, .sentinel], laidTests := true, laidLooks := .later }
def FnOrdinalTextsCardSaid : Prop := Claim7.holds Tryd.pinned (.plain (OpenSpec.ofChange fnOrdinalTextsSpec)) fnOrdinalTextsCard

/-- THE TIED CARD OF 'laws.FnExactParseWord'. -/
def fnExactParseWordCard : Claim7 := { stood := { row := fnExactParseWordRow, standIns := [], harness := (true, "0303f7df118e2b48f65e56ff1d044b9b583ca4e614f7a32f0f7ccfdebecc1abf"), looks := true }, kinds := [], alts := [], laidByText := true, laidKinds := [.data, .data, .data, .sentinel, .sentinel], laidTests := true, laidLooks := .later }
def FnExactParseWordCardSaid : Prop := Claim7.holds Tryd.pinned (.plain (OpenSpec.ofChange fnExactParseWordSpec)) fnExactParseWordCard

/-- THE SECOND FORM's CARD OF 'laws.FnOrdinalTexts'. -/
def fnOrdinalTextsUptoCard : Claim7 := { stood := { row := fnOrdinalTextsUptoRow, standIns := [], harness := (true, "0303f7df118e2b48f65e56ff1d044b9b583ca4e614f7a32f0f7ccfdebecc1abf"), looks := true }, kinds := [], alts := [], laidByText := true, laidKinds := [.data, .data, .data, .sentinel, .sentinel], laidTests := true, laidLooks := .later }
def FnOrdinalTextsUptoCardSaid : Prop := Claim7.holds Tryd.pinned (.plain (OpenSpec.upto fnOrdinalTextsSpec)) fnOrdinalTextsUptoCard

/-- THE SECOND FORM's CARD OF 'laws.FnExactParseWord'. -/
def fnExactParseWordUptoCard : Claim7 := { stood := { row := fnExactParseWordUptoRow, standIns := [], harness := (true, "0303f7df118e2b48f65e56ff1d044b9b583ca4e614f7a32f0f7ccfdebecc1abf"), looks := true }, kinds := [], alts := [], laidByText := true, laidKinds := [.data, .data, .data, .sentinel, .sentinel], laidTests := true, laidLooks := .later }
def FnExactParseWordUptoCardSaid : Prop := Claim7.holds Tryd.pinned (.plain (OpenSpec.upto fnExactParseWordSpec)) fnExactParseWordUptoCard
end Rows
end Go.Proofs.YtdelbjcfgedjpaaDoor
