/-
  DERIVED. GIVEN WITH THE SEED: THE CARDS: each row of YtmncgmgcngokoaaDoorRows.lean that lists a variable, with what it lists TIED to the program's text (the seventh form; the later family's looks); each row that meets fmt, with fmt's text TOLD by the authors' own Lean function (tested against real Go, not proved from fmt's source: count such statements apart). THE CARD IS WHAT COUNTS. Prove the row's statement (the work); the ties are given (YtmncgmgcngokoaaDoorTie.lean); close each card by the builder's one call (the guide's Derived/Test/ToyasCard.lean, 'card_holds'). Laid BY PROGRAM, IN A SANDBOX (cutbox-door.mjs). By AI agents, Wed Nov 11 2026. No macro, syntax, notation, axiom, sorry.
-/
import Derived.Test.YtmncgmgcngokoaaDoorRows
import GoSem.ClaimSeven
namespace Go.Proofs.YtmncgmgcngokoaaDoor
namespace Rows

/-- THE TIED CARD OF 'numerallaw24.LayoutLays'. -/
def layoutLaysCard : Claim7 := { stood := { row := layoutLaysRow, standIns := [], harness := (true, "3c579617ecbdaa4723d668419c51e14ba26cdd924828b8cbd00ecd05604d3577"), looks := true }, kinds := [], alts := [], laidByText := true, laidKinds := [.data, .data, .data], laidTests := true, laidLooks := .later }
def LayoutLaysCardSaid : Prop := Claim7.holds Tryd.pinned (.plain (OpenSpec.ofChange layoutLaysSpec)) layoutLaysCard

/-- THE TIED CARD OF 'numerallaw24.LayoutShapes'. -/
def layoutShapesCard : Claim7 := { stood := { row := layoutShapesRow, standIns := [], harness := (true, "3c579617ecbdaa4723d668419c51e14ba26cdd924828b8cbd00ecd05604d3577"), looks := true }, kinds := [], alts := [], laidByText := true, laidKinds := [.data, .data, .data], laidTests := true, laidLooks := .later }
def LayoutShapesCardSaid : Prop := Claim7.holds Tryd.pinned (.plain (OpenSpec.ofChange layoutShapesSpec)) layoutShapesCard

/-- THE TIED CARD OF 'numerallaw24.LayoutBack'. -/
def layoutBackCard : Claim7 := { stood := { row := layoutBackRow, standIns := [], harness := (true, "3c579617ecbdaa4723d668419c51e14ba26cdd924828b8cbd00ecd05604d3577"), looks := true }, kinds := [], alts := [], laidByText := true, laidKinds := [.data, .data, .data], laidTests := true, laidLooks := .later }
def LayoutBackCardSaid : Prop := Claim7.holds Tryd.pinned (.plain (OpenSpec.ofChange layoutBackSpec)) layoutBackCard

/-- THE SECOND FORM's CARD OF 'numerallaw24.LayoutLays'. -/
def layoutLaysUptoCard : Claim7 := { stood := { row := layoutLaysUptoRow, standIns := [], harness := (true, "3c579617ecbdaa4723d668419c51e14ba26cdd924828b8cbd00ecd05604d3577"), looks := true }, kinds := [], alts := [], laidByText := true, laidKinds := [.data, .data, .data], laidTests := true, laidLooks := .later }
def LayoutLaysUptoCardSaid : Prop := Claim7.holds Tryd.pinned (.plain (OpenSpec.upto layoutLaysSpec)) layoutLaysUptoCard

/-- THE SECOND FORM's CARD OF 'numerallaw24.LayoutShapes'. -/
def layoutShapesUptoCard : Claim7 := { stood := { row := layoutShapesUptoRow, standIns := [], harness := (true, "3c579617ecbdaa4723d668419c51e14ba26cdd924828b8cbd00ecd05604d3577"), looks := true }, kinds := [], alts := [], laidByText := true, laidKinds := [.data, .data, .data], laidTests := true, laidLooks := .later }
def LayoutShapesUptoCardSaid : Prop := Claim7.holds Tryd.pinned (.plain (OpenSpec.upto layoutShapesSpec)) layoutShapesUptoCard

/-- THE SECOND FORM's CARD OF 'numerallaw24.LayoutBack'. -/
def layoutBackUptoCard : Claim7 := { stood := { row := layoutBackUptoRow, standIns := [], harness := (true, "3c579617ecbdaa4723d668419c51e14ba26cdd924828b8cbd00ecd05604d3577"), looks := true }, kinds := [], alts := [], laidByText := true, laidKinds := [.data, .data, .data], laidTests := true, laidLooks := .later }
def LayoutBackUptoCardSaid : Prop := Claim7.holds Tryd.pinned (.plain (OpenSpec.upto layoutBackSpec)) layoutBackUptoCard
end Rows
end Go.Proofs.YtmncgmgcngokoaaDoor
