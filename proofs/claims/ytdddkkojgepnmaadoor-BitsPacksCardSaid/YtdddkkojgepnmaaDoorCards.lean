/-
  DERIVED. GIVEN WITH THE SEED: THE CARDS: each row of YtdddkkojgepnmaaDoorRows.lean that lists a variable, with what it lists TIED to the program's text (the seventh form; the later family's looks); each row that meets fmt, with fmt's text TOLD by the authors' own Lean function (tested against real Go, not proved from fmt's source: count such statements apart). THE CARD IS WHAT COUNTS. Prove the row's statement (the work); the ties are given (YtdddkkojgepnmaaDoorTie.lean); close each card by the builder's one call (the guide's Derived/Test/ToyasCard.lean, 'card_holds'). Laid BY PROGRAM, IN A SANDBOX (cutbox-door.mjs). By AI agents, Wed Nov 11 2026. No macro, syntax, notation, axiom, sorry.
-/
import Derived.Test.YtdddkkojgepnmaaDoorRows
import GoSem.ClaimSeven
namespace Go.Proofs.YtdddkkojgepnmaaDoor
namespace Rows

/-- THE TIED CARD OF 'numerallaw11.BitsBack'. -/
def bitsBackCard : Claim7 := { stood := { row := bitsBackRow, standIns := [], harness := (true, "f9bbd37660cb66a4da1e76a27837b5d1092a99d08f63b913f26f39c85a8590d6"), looks := true }, kinds := [], alts := [], laidByText := true, laidKinds := [.data], laidTests := true, laidLooks := .later }
def BitsBackCardSaid : Prop := Claim7.holds Tryd.pinned (.plain (OpenSpec.ofChange bitsBackSpec)) bitsBackCard

/-- THE TIED CARD OF 'numerallaw11.BitsPacks'. -/
def bitsPacksCard : Claim7 := { stood := { row := bitsPacksRow, standIns := [], harness := (true, "f9bbd37660cb66a4da1e76a27837b5d1092a99d08f63b913f26f39c85a8590d6"), looks := true }, kinds := [], alts := [], laidByText := true, laidKinds := [.data, .handle], laidTests := true, laidLooks := .later }
def BitsPacksCardSaid : Prop := Claim7.holds Tryd.pinned (.plain (OpenSpec.ofChange bitsPacksSpec)) bitsPacksCard

/-- THE TIED CARD OF 'numerallaw11.BitsUnpacks'. -/
def bitsUnpacksCard : Claim7 := { stood := { row := bitsUnpacksRow, standIns := [], harness := (true, "f9bbd37660cb66a4da1e76a27837b5d1092a99d08f63b913f26f39c85a8590d6"), looks := true }, kinds := [], alts := [], laidByText := true, laidKinds := [.data, .handle], laidTests := true, laidLooks := .later }
def BitsUnpacksCardSaid : Prop := Claim7.holds Tryd.pinned (.plain (OpenSpec.ofChange bitsUnpacksSpec)) bitsUnpacksCard

/-- THE TIED CARD OF 'numerallaw11.BitsSpecials'. -/
def bitsSpecialsCard : Claim7 := { stood := { row := bitsSpecialsRow, standIns := [], harness := (true, "f9bbd37660cb66a4da1e76a27837b5d1092a99d08f63b913f26f39c85a8590d6"), looks := true }, kinds := [], alts := [], laidByText := true, laidKinds := [.data, .handle], laidTests := true, laidLooks := .later }
def BitsSpecialsCardSaid : Prop := Claim7.holds Tryd.pinned (.plain (OpenSpec.ofChange bitsSpecialsSpec)) bitsSpecialsCard

/-- THE TIED CARD OF 'numerallaw11.BitsConverts'. -/
def bitsConvertsCard : Claim7 := { stood := { row := bitsConvertsRow, standIns := [], harness := (true, "f9bbd37660cb66a4da1e76a27837b5d1092a99d08f63b913f26f39c85a8590d6"), looks := true }, kinds := [], alts := [], laidByText := true, laidKinds := [.data, .handle], laidTests := true, laidLooks := .later }
def BitsConvertsCardSaid : Prop := Claim7.holds Tryd.pinned (.plain (OpenSpec.ofChange bitsConvertsSpec)) bitsConvertsCard

/-- THE TIED CARD OF 'numerallaw11.BitsSteps'. -/
def bitsStepsCard : Claim7 := { stood := { row := bitsStepsRow, standIns := [], harness := (true, "f9bbd37660cb66a4da1e76a27837b5d1092a99d08f63b913f26f39c85a8590d6"), looks := true }, kinds := [], alts := [], laidByText := true, laidKinds := [.data, .handle], laidTests := true, laidLooks := .later }
def BitsStepsCardSaid : Prop := Claim7.holds Tryd.pinned (.plain (OpenSpec.ofChange bitsStepsSpec)) bitsStepsCard

/-- THE SECOND FORM's CARD OF 'numerallaw11.BitsBack'. -/
def bitsBackUptoCard : Claim7 := { stood := { row := bitsBackUptoRow, standIns := [], harness := (true, "f9bbd37660cb66a4da1e76a27837b5d1092a99d08f63b913f26f39c85a8590d6"), looks := true }, kinds := [], alts := [], laidByText := true, laidKinds := [.data], laidTests := true, laidLooks := .later }
def BitsBackUptoCardSaid : Prop := Claim7.holds Tryd.pinned (.plain (OpenSpec.upto bitsBackSpec)) bitsBackUptoCard

/-- THE SECOND FORM's CARD OF 'numerallaw11.BitsPacks'. -/
def bitsPacksUptoCard : Claim7 := { stood := { row := bitsPacksUptoRow, standIns := [], harness := (true, "f9bbd37660cb66a4da1e76a27837b5d1092a99d08f63b913f26f39c85a8590d6"), looks := true }, kinds := [], alts := [], laidByText := true, laidKinds := [.data, .handle], laidTests := true, laidLooks := .later }
def BitsPacksUptoCardSaid : Prop := Claim7.holds Tryd.pinned (.plain (OpenSpec.upto bitsPacksSpec)) bitsPacksUptoCard

/-- THE SECOND FORM's CARD OF 'numerallaw11.BitsUnpacks'. -/
def bitsUnpacksUptoCard : Claim7 := { stood := { row := bitsUnpacksUptoRow, standIns := [], harness := (true, "f9bbd37660cb66a4da1e76a27837b5d1092a99d08f63b913f26f39c85a8590d6"), looks := true }, kinds := [], alts := [], laidByText := true, laidKinds := [.data, .handle], laidTests := true, laidLooks := .later }
def BitsUnpacksUptoCardSaid : Prop := Claim7.holds Tryd.pinned (.plain (OpenSpec.upto bitsUnpacksSpec)) bitsUnpacksUptoCard

/-- THE SECOND FORM's CARD OF 'numerallaw11.BitsSpecials'. -/
def bitsSpecialsUptoCard : Claim7 := { stood := { row := bitsSpecialsUptoRow, standIns := [], harness := (true, "f9bbd37660cb66a4da1e76a27837b5d1092a99d08f63b913f26f39c85a8590d6"), looks := true }, kinds := [], alts := [], laidByText := true, laidKinds := [.data, .handle], laidTests := true, laidLooks := .later }
def BitsSpecialsUptoCardSaid : Prop := Claim7.holds Tryd.pinned (.plain (OpenSpec.upto bitsSpecialsSpec)) bitsSpecialsUptoCard

/-- THE SECOND FORM's CARD OF 'numerallaw11.BitsConverts'. -/
def bitsConvertsUptoCard : Claim7 := { stood := { row := bitsConvertsUptoRow, standIns := [], harness := (true, "f9bbd37660cb66a4da1e76a27837b5d1092a99d08f63b913f26f39c85a8590d6"), looks := true }, kinds := [], alts := [], laidByText := true, laidKinds := [.data, .handle], laidTests := true, laidLooks := .later }
def BitsConvertsUptoCardSaid : Prop := Claim7.holds Tryd.pinned (.plain (OpenSpec.upto bitsConvertsSpec)) bitsConvertsUptoCard

/-- THE SECOND FORM's CARD OF 'numerallaw11.BitsSteps'. -/
def bitsStepsUptoCard : Claim7 := { stood := { row := bitsStepsUptoRow, standIns := [], harness := (true, "f9bbd37660cb66a4da1e76a27837b5d1092a99d08f63b913f26f39c85a8590d6"), looks := true }, kinds := [], alts := [], laidByText := true, laidKinds := [.data, .handle], laidTests := true, laidLooks := .later }
def BitsStepsUptoCardSaid : Prop := Claim7.holds Tryd.pinned (.plain (OpenSpec.upto bitsStepsSpec)) bitsStepsUptoCard
end Rows
end Go.Proofs.YtdddkkojgepnmaaDoor
