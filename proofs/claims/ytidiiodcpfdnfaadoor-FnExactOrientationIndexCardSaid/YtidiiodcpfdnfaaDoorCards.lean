/-
  DERIVED. GIVEN WITH THE SEED: THE CARDS: each row of YtidiiodcpfdnfaaDoorRows.lean that lists a variable, with what it lists TIED to the program's text (the seventh form; the later family's looks); each row that meets fmt, with fmt's text TOLD by the authors' own Lean function (tested against real Go, not proved from fmt's source: count such statements apart). THE CARD IS WHAT COUNTS. Prove the row's statement (the work); the ties are given (YtidiiodcpfdnfaaDoorTie.lean); close each card by the builder's one call (the guide's Derived/Test/ToyasCard.lean, 'card_holds'). Laid BY PROGRAM, IN A SANDBOX (cutbox-door.mjs). By AI agents, Wed Nov 11 2026. No macro, syntax, notation, axiom, sorry.
-/
import Derived.Test.YtidiiodcpfdnfaaDoorRows
import GoSem.ClaimSeven
namespace Go.Proofs.YtidiiodcpfdnfaaDoor
namespace Rows

/-- THE TIED CARD OF 'laws.FnExactLayerName'. -/
def fnExactLayerNameCard : Claim7 := { stood := { row := fnExactLayerNameRow, standIns := [], harness := (true, "9e2a1c0462809174930de51eb261074474bebf896e9400846e455e5f8e1dfe63"), looks := false }, kinds := [], alts := [], laidByText := true, laidKinds := [.widerDeep], laidTests := true, laidLooks := .later }
def FnExactLayerNameCardSaid : Prop := Claim7.holds Tryd.pinned (.plain (OpenSpec.ofChange fnExactLayerNameSpec)) fnExactLayerNameCard

/-- THE TIED CARD OF 'laws.FnExactOrientationName'. -/
def fnExactOrientationNameCard : Claim7 := { stood := { row := fnExactOrientationNameRow, standIns := [], harness := (true, "9e2a1c0462809174930de51eb261074474bebf896e9400846e455e5f8e1dfe63"), looks := false }, kinds := [], alts := [], laidByText := true, laidKinds := [.widerDeep], laidTests := true, laidLooks := .later }
def FnExactOrientationNameCardSaid : Prop := Claim7.holds Tryd.pinned (.plain (OpenSpec.ofChange fnExactOrientationNameSpec)) fnExactOrientationNameCard

/-- THE TIED CARD OF 'laws.FnExactOrientationIndex'. -/
def fnExactOrientationIndexCard : Claim7 := { stood := { row := fnExactOrientationIndexRow, standIns := [], harness := (true, "9e2a1c0462809174930de51eb261074474bebf896e9400846e455e5f8e1dfe63"), looks := false }, kinds := [], alts := [], laidByText := true, laidKinds := [.widerDeep], laidTests := true, laidLooks := .later }
def FnExactOrientationIndexCardSaid : Prop := Claim7.holds Tryd.pinned (.plain (OpenSpec.ofChange fnExactOrientationIndexSpec)) fnExactOrientationIndexCard

/-- THE TIED CARD OF 'laws.FnExactLayerIndex'. -/
def fnExactLayerIndexCard : Claim7 := { stood := { row := fnExactLayerIndexRow, standIns := [], harness := (true, "9e2a1c0462809174930de51eb261074474bebf896e9400846e455e5f8e1dfe63"), looks := false }, kinds := [], alts := [], laidByText := true, laidKinds := [.widerDeep], laidTests := true, laidLooks := .later }
def FnExactLayerIndexCardSaid : Prop := Claim7.holds Tryd.pinned (.plain (OpenSpec.ofChange fnExactLayerIndexSpec)) fnExactLayerIndexCard

/-- THE SECOND FORM's CARD OF 'laws.FnExactLayerName'. -/
def fnExactLayerNameUptoCard : Claim7 := { stood := { row := fnExactLayerNameUptoRow, standIns := [], harness := (true, "9e2a1c0462809174930de51eb261074474bebf896e9400846e455e5f8e1dfe63"), looks := false }, kinds := [], alts := [], laidByText := true, laidKinds := [.widerDeep], laidTests := true, laidLooks := .later }
def FnExactLayerNameUptoCardSaid : Prop := Claim7.holds Tryd.pinned (.plain (OpenSpec.upto fnExactLayerNameSpec)) fnExactLayerNameUptoCard

/-- THE SECOND FORM's CARD OF 'laws.FnExactOrientationName'. -/
def fnExactOrientationNameUptoCard : Claim7 := { stood := { row := fnExactOrientationNameUptoRow, standIns := [], harness := (true, "9e2a1c0462809174930de51eb261074474bebf896e9400846e455e5f8e1dfe63"), looks := false }, kinds := [], alts := [], laidByText := true, laidKinds := [.widerDeep], laidTests := true, laidLooks := .later }
def FnExactOrientationNameUptoCardSaid : Prop := Claim7.holds Tryd.pinned (.plain (OpenSpec.upto fnExactOrientationNameSpec)) fnExactOrientationNameUptoCard

/-- THE SECOND FORM's CARD OF 'laws.FnExactOrientationIndex'. -/
def fnExactOrientationIndexUptoCard : Claim7 := { stood := { row := fnExactOrientationIndexUptoRow, standIns := [], harness := (true, "9e2a1c0462809174930de51eb261074474bebf896e9400846e455e5f8e1dfe63"), looks := false }, kinds := [], alts := [], laidByText := true, laidKinds := [.widerDeep], laidTests := true, laidLooks := .later }
def FnExactOrientationIndexUptoCardSaid : Prop := Claim7.holds Tryd.pinned (.plain (OpenSpec.upto fnExactOrientationIndexSpec)) fnExactOrientationIndexUptoCard

/-- THE SECOND FORM's CARD OF 'laws.FnExactLayerIndex'. -/
def fnExactLayerIndexUptoCard : Claim7 := { stood := { row := fnExactLayerIndexUptoRow, standIns := [], harness := (true, "9e2a1c0462809174930de51eb261074474bebf896e9400846e455e5f8e1dfe63"), looks := false }, kinds := [], alts := [], laidByText := true, laidKinds := [.widerDeep], laidTests := true, laidLooks := .later }
def FnExactLayerIndexUptoCardSaid : Prop := Claim7.holds Tryd.pinned (.plain (OpenSpec.upto fnExactLayerIndexSpec)) fnExactLayerIndexUptoCard
end Rows
end Go.Proofs.YtidiiodcpfdnfaaDoor
