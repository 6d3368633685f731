/-
  DERIVED. GIVEN WITH THE SEED: THE CARDS: each row of YtbnmchaldolpfaaDoorRows.lean that lists a variable, with what it lists TIED to the program's text (the seventh form; the later family's looks); each row that meets fmt, with fmt's text TOLD by the authors' own Lean function (tested against real Go, not proved from fmt's source: count such statements apart). THE CARD IS WHAT COUNTS. Prove the row's statement (the work); the ties are given (YtbnmchaldolpfaaDoorTie.lean); close each card by the builder's one call (the guide's Derived/Test/ToyasCard.lean, 'card_holds'). Laid BY PROGRAM, IN A SANDBOX (cutbox-door.mjs). By AI agents, Wed Nov 11 2026. No macro, syntax, notation, axiom, sorry.
-/
import Derived.Test.YtbnmchaldolpfaaDoorRows
import GoSem.ClaimSeven
namespace Go.Proofs.YtbnmchaldolpfaaDoor
namespace Rows

/-- THE TIED CARD OF 'numerallaw17.HexinSame'. -/
def hexinSameCard : Claim7 := { stood := { row := hexinSameRow, standIns := [], harness := (true, "509a4e7254795a75b9bfbfc32106095e8aefa748d1f7bd0c7820436c88d93524"), looks := true }, kinds := [], alts := [], laidByText := true, laidKinds := [.data, .handle], laidTests := true, laidLooks := .later }
def HexinSameCardSaid : Prop := Claim7.holds Tryd.pinned (.plain (OpenSpec.ofChange hexinSameSpec)) hexinSameCard

/-- THE TIED CARD OF 'numerallaw17.HexinOf'. -/
def hexinOfCard : Claim7 := { stood := { row := hexinOfRow, standIns := [], harness := (true, "509a4e7254795a75b9bfbfc32106095e8aefa748d1f7bd0c7820436c88d93524"), looks := true }, kinds := [], alts := [], laidByText := true, laidKinds := [.data, .handle], laidTests := true, laidLooks := .later }
def HexinOfCardSaid : Prop := Claim7.holds Tryd.pinned (.plain (OpenSpec.ofChange hexinOfSpec)) hexinOfCard

/-- THE SECOND FORM's CARD OF 'numerallaw17.HexinSame'. -/
def hexinSameUptoCard : Claim7 := { stood := { row := hexinSameUptoRow, standIns := [], harness := (true, "509a4e7254795a75b9bfbfc32106095e8aefa748d1f7bd0c7820436c88d93524"), looks := true }, kinds := [], alts := [], laidByText := true, laidKinds := [.data, .handle], laidTests := true, laidLooks := .later }
def HexinSameUptoCardSaid : Prop := Claim7.holds Tryd.pinned (.plain (OpenSpec.upto hexinSameSpec)) hexinSameUptoCard

/-- THE SECOND FORM's CARD OF 'numerallaw17.HexinOf'. -/
def hexinOfUptoCard : Claim7 := { stood := { row := hexinOfUptoRow, standIns := [], harness := (true, "509a4e7254795a75b9bfbfc32106095e8aefa748d1f7bd0c7820436c88d93524"), looks := true }, kinds := [], alts := [], laidByText := true, laidKinds := [.data, .handle], laidTests := true, laidLooks := .later }
def HexinOfUptoCardSaid : Prop := Claim7.holds Tryd.pinned (.plain (OpenSpec.upto hexinOfSpec)) hexinOfUptoCard
end Rows
end Go.Proofs.YtbnmchaldolpfaaDoor
