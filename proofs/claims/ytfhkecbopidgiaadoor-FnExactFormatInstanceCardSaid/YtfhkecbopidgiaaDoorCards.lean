/-
  DERIVED. GIVEN WITH THE SEED: THE CARDS: each row of YtfhkecbopidgiaaDoorRows.lean that lists a variable, with what it lists TIED to the program's text (the seventh form; the later family's looks); each row that meets fmt, with fmt's text TOLD by the authors' own Lean function (tested against real Go, not proved from fmt's source: count such statements apart). THE CARD IS WHAT COUNTS. Prove the row's statement (the work); the ties are given (YtfhkecbopidgiaaDoorTie.lean); close each card by the builder's one call (the guide's Derived/Test/ToyasCard.lean, 'card_holds'). Laid BY PROGRAM, IN A SANDBOX (cutbox-door.mjs). By AI agents, Wed Nov 11 2026. No macro, syntax, notation, axiom, sorry.
-/
import Derived.Test.YtfhkecbopidgiaaDoorRows
import GoSem.ClaimSeven
namespace Go.Proofs.YtfhkecbopidgiaaDoor
namespace Rows

/-- THE TIED CARD OF 'laws.FnExactFormatShape'. -/
def fnExactFormatShapeCard : Claim7 := { stood := { row := fnExactFormatShapeRow, standIns := [], harness := (true, "5d5569eec5f92c0f45bc3380559e296596c8d7a80f3c314b6fa5bad3fe099714"), looks := false }, kinds := [], alts := [], laidByText := true, laidKinds := [.data, .data, .data, .widerDeep], laidTests := true, laidLooks := .later }
def FnExactFormatShapeCardSaid : Prop := Claim7.holds Tryd.pinned (.plain (OpenSpec.ofChange fnExactFormatShapeSpec)) fnExactFormatShapeCard

/-- THE TIED CARD OF 'laws.FnExactFormatInstance'. -/
def fnExactFormatInstanceCard : Claim7 := { stood := { row := fnExactFormatInstanceRow, standIns := [], harness := (true, "5d5569eec5f92c0f45bc3380559e296596c8d7a80f3c314b6fa5bad3fe099714"), looks := false }, kinds := [], alts := [], laidByText := true, laidKinds := [.data, .data, .data, .widerDeep], laidTests := true, laidLooks := .later }
def FnExactFormatInstanceCardSaid : Prop := Claim7.holds Tryd.pinned (.plain (OpenSpec.ofChange fnExactFormatInstanceSpec)) fnExactFormatInstanceCard

/-- THE SECOND FORM's CARD OF 'laws.FnExactFormatShape'. -/
def fnExactFormatShapeUptoCard : Claim7 := { stood := { row := fnExactFormatShapeUptoRow, standIns := [], harness := (true, "5d5569eec5f92c0f45bc3380559e296596c8d7a80f3c314b6fa5bad3fe099714"), looks := false }, kinds := [], alts := [], laidByText := true, laidKinds := [.data, .data, .data, .widerDeep], laidTests := true, laidLooks := .later }
def FnExactFormatShapeUptoCardSaid : Prop := Claim7.holds Tryd.pinned (.plain (OpenSpec.upto fnExactFormatShapeSpec)) fnExactFormatShapeUptoCard

/-- THE SECOND FORM's CARD OF 'laws.FnExactFormatInstance'. -/
def fnExactFormatInstanceUptoCard : Claim7 := { stood := { row := fnExactFormatInstanceUptoRow, standIns := [], harness := (true, "5d5569eec5f92c0f45bc3380559e296596c8d7a80f3c314b6fa5bad3fe099714"), looks := false }, kinds := [], alts := [], laidByText := true, laidKinds := [.data, .data, .data, .widerDeep], laidTests := true, laidLooks := .later }
def FnExactFormatInstanceUptoCardSaid : Prop := Claim7.holds Tryd.pinned (.plain (OpenSpec.upto fnExactFormatInstanceSpec)) fnExactFormatInstanceUptoCard
end Rows
end Go.Proofs.YtfhkecbopidgiaaDoor
