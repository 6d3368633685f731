/-
  DERIVED. GIVEN WITH THE SEED: THE CARDS: each row of YtbjmfocjigikgaaDoorRows.lean that lists a variable, with what it lists TIED to the program's text (the seventh form; the later family's looks); each row that meets fmt, with fmt's text TOLD by the authors' own Lean function (tested against real Go, not proved from fmt's source: count such statements apart). THE CARD IS WHAT COUNTS. Prove the row's statement (the work); the ties are given (YtbjmfocjigikgaaDoorTie.lean); close each card by the builder's one call (the guide's Derived/Test/ToyasCard.lean, 'card_holds'). Laid BY PROGRAM, IN A SANDBOX (cutbox-door.mjs). By AI agents, Wed Nov 11 2026. No macro, syntax, notation, axiom, sorry.
-/
import Derived.Test.YtbjmfocjigikgaaDoorRows
import GoSem.ClaimSeven
namespace Go.Proofs.YtbjmfocjigikgaaDoor
namespace Rows

/-- THE TIED CARD OF 'numerallaw12.RoundRatios'. -/
def roundRatiosCard : Claim7 := { stood := { row := roundRatiosRow, standIns := [], harness := (true, "b8dd56f237224ee0484511b575769c15aa1862a6aaa64b48630fe6ff174818fa"), looks := true }, kinds := [], alts := [], laidByText := true, laidKinds := [.data], laidTests := true, laidLooks := .later }
def RoundRatiosCardSaid : Prop := Claim7.holds Tryd.pinned (.plain (OpenSpec.ofChange roundRatiosSpec)) roundRatiosCard

/-- THE TIED CARD OF 'numerallaw12.RoundWholes'. -/
def roundWholesCard : Claim7 := { stood := { row := roundWholesRow, standIns := [], harness := (true, "b8dd56f237224ee0484511b575769c15aa1862a6aaa64b48630fe6ff174818fa"), looks := true }, kinds := [], alts := [], laidByText := true, laidKinds := [.data], laidTests := true, laidLooks := .later }
def RoundWholesCardSaid : Prop := Claim7.holds Tryd.pinned (.plain (OpenSpec.ofChange roundWholesSpec)) roundWholesCard

/-- THE TIED CARD OF 'numerallaw12.RoundRises'. -/
def roundRisesCard : Claim7 := { stood := { row := roundRisesRow, standIns := [], harness := (true, "b8dd56f237224ee0484511b575769c15aa1862a6aaa64b48630fe6ff174818fa"), looks := true }, kinds := [], alts := [], laidByText := true, laidKinds := [.data], laidTests := true, laidLooks := .later }
def RoundRisesCardSaid : Prop := Claim7.holds Tryd.pinned (.plain (OpenSpec.ofChange roundRisesSpec)) roundRisesCard

/-- THE TIED CARD OF 'numerallaw12.RoundSame'. -/
def roundSameCard : Claim7 := { stood := { row := roundSameRow, standIns := [], harness := (true, "b8dd56f237224ee0484511b575769c15aa1862a6aaa64b48630fe6ff174818fa"), looks := true }, kinds := [], alts := [], laidByText := true, laidKinds := [.data], laidTests := true, laidLooks := .later }
def RoundSameCardSaid : Prop := Claim7.holds Tryd.pinned (.plain (OpenSpec.ofChange roundSameSpec)) roundSameCard

/-- THE SECOND FORM's CARD OF 'numerallaw12.RoundRatios'. -/
def roundRatiosUptoCard : Claim7 := { stood := { row := roundRatiosUptoRow, standIns := [], harness := (true, "b8dd56f237224ee0484511b575769c15aa1862a6aaa64b48630fe6ff174818fa"), looks := true }, kinds := [], alts := [], laidByText := true, laidKinds := [.data], laidTests := true, laidLooks := .later }
def RoundRatiosUptoCardSaid : Prop := Claim7.holds Tryd.pinned (.plain (OpenSpec.upto roundRatiosSpec)) roundRatiosUptoCard

/-- THE SECOND FORM's CARD OF 'numerallaw12.RoundWholes'. -/
def roundWholesUptoCard : Claim7 := { stood := { row := roundWholesUptoRow, standIns := [], harness := (true, "b8dd56f237224ee0484511b575769c15aa1862a6aaa64b48630fe6ff174818fa"), looks := true }, kinds := [], alts := [], laidByText := true, laidKinds := [.data], laidTests := true, laidLooks := .later }
def RoundWholesUptoCardSaid : Prop := Claim7.holds Tryd.pinned (.plain (OpenSpec.upto roundWholesSpec)) roundWholesUptoCard

/-- THE SECOND FORM's CARD OF 'numerallaw12.RoundRises'. -/
def roundRisesUptoCard : Claim7 := { stood := { row := roundRisesUptoRow, standIns := [], harness := (true, "b8dd56f237224ee0484511b575769c15aa1862a6aaa64b48630fe6ff174818fa"), looks := true }, kinds := [], alts := [], laidByText := true, laidKinds := [.data], laidTests := true, laidLooks := .later }
def RoundRisesUptoCardSaid : Prop := Claim7.holds Tryd.pinned (.plain (OpenSpec.upto roundRisesSpec)) roundRisesUptoCard

/-- THE SECOND FORM's CARD OF 'numerallaw12.RoundSame'. -/
def roundSameUptoCard : Claim7 := { stood := { row := roundSameUptoRow, standIns := [], harness := (true, "b8dd56f237224ee0484511b575769c15aa1862a6aaa64b48630fe6ff174818fa"), looks := true }, kinds := [], alts := [], laidByText := true, laidKinds := [.data], laidTests := true, laidLooks := .later }
def RoundSameUptoCardSaid : Prop := Claim7.holds Tryd.pinned (.plain (OpenSpec.upto roundSameSpec)) roundSameUptoCard
end Rows
end Go.Proofs.YtbjmfocjigikgaaDoor
