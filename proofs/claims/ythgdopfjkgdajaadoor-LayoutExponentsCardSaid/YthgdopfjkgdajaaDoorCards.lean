/-
  DERIVED. GIVEN WITH THE SEED: THE CARDS: each row of YthgdopfjkgdajaaDoorRows.lean that lists a variable, with what it lists TIED to the program's text (the seventh form; the later family's looks); each row that meets fmt, with fmt's text TOLD by the authors' own Lean function (tested against real Go, not proved from fmt's source: count such statements apart). THE CARD IS WHAT COUNTS. Prove the row's statement (the work); the ties are given (YthgdopfjkgdajaaDoorTie.lean); close each card by the builder's one call (the guide's Derived/Test/ToyasCard.lean, 'card_holds'). Laid BY PROGRAM, IN A SANDBOX (cutbox-door.mjs). By AI agents, Wed Nov 11 2026. No macro, syntax, notation, axiom, sorry.
-/
import Derived.Test.YthgdopfjkgdajaaDoorRows
import GoSem.ClaimSeven
namespace Go.Proofs.YthgdopfjkgdajaaDoor
namespace Rows

/-- THE TIED CARD OF 'numerallaw24.LayoutExponents'. -/
def layoutExponentsCard : Claim7 := { stood := { row := layoutExponentsRow, standIns := [], harness := (true, "8ae4f6cff2496c51d2d6f9f97afdf87542648475aaa78836707081b4191cce38"), looks := true }, kinds := [], alts := [], laidByText := true, laidKinds := [.data, .data, .data], laidTests := true, laidLooks := .later }
def LayoutExponentsCardSaid : Prop := Claim7.holds Tryd.pinned (.plain (OpenSpec.ofChange layoutExponentsSpec)) layoutExponentsCard

/-- THE SECOND FORM's CARD OF 'numerallaw24.LayoutExponents'. -/
def layoutExponentsUptoCard : Claim7 := { stood := { row := layoutExponentsUptoRow, standIns := [], harness := (true, "8ae4f6cff2496c51d2d6f9f97afdf87542648475aaa78836707081b4191cce38"), looks := true }, kinds := [], alts := [], laidByText := true, laidKinds := [.data, .data, .data], laidTests := true, laidLooks := .later }
def LayoutExponentsUptoCardSaid : Prop := Claim7.holds Tryd.pinned (.plain (OpenSpec.upto layoutExponentsSpec)) layoutExponentsUptoCard
end Rows
end Go.Proofs.YthgdopfjkgdajaaDoor
