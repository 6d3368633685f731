/-
  DERIVED. GIVEN WITH THE SEED: THE CARDS: each row of YtpkfpgjacijjeaaDoorRows.lean that lists a variable, with what it lists TIED to the program's text (the seventh form; the later family's looks); each row that meets fmt, with fmt's text TOLD by the authors' own Lean function (tested against real Go, not proved from fmt's source: count such statements apart). THE CARD IS WHAT COUNTS. Prove the row's statement (the work); the ties are given (YtpkfpgjacijjeaaDoorTie.lean); close each card by the builder's one call (the guide's Derived/Test/ToyasCard.lean, 'card_holds'). Laid BY PROGRAM, IN A SANDBOX (cutbox-door.mjs). By AI agents, Wed Nov 11 2026. No macro, syntax, notation, axiom, sorry.
-/
import Derived.Test.YtpkfpgjacijjeaaDoorRows
import GoSem.ClaimSeven
namespace Go.Proofs.YtpkfpgjacijjeaaDoor
namespace Rows

/-- THE TIED CARD OF 'numerallaw03.DecRounds'. -/
def decRoundsCard : Claim7 := { stood := { row := decRoundsRow, standIns := [], harness := (true, "7ad6bd7845687da635efaa0b5c023f0e3465f8798bd941a43ea2da79864ff78d"), looks := true }, kinds := [], alts := [], laidByText := true, laidKinds := [.data, .handle, .pinned], laidTests := true, laidLooks := .later }
def DecRoundsCardSaid : Prop := Claim7.holds Tryd.pinned (.plain (OpenSpec.ofChange decRoundsSpec)) decRoundsCard

/-- THE TIED CARD OF 'numerallaw03.DecCompares'. -/
def decComparesCard : Claim7 := { stood := { row := decComparesRow, standIns := [], harness := (true, "7ad6bd7845687da635efaa0b5c023f0e3465f8798bd941a43ea2da79864ff78d"), looks := true }, kinds := [], alts := [], laidByText := true, laidKinds := [.data, .handle, .pinned], laidTests := true, laidLooks := .later }
def DecComparesCardSaid : Prop := Claim7.holds Tryd.pinned (.plain (OpenSpec.ofChange decComparesSpec)) decComparesCard

/-- THE TIED CARD OF 'numerallaw03.DecHalves'. -/
def decHalvesCard : Claim7 := { stood := { row := decHalvesRow, standIns := [], harness := (true, "7ad6bd7845687da635efaa0b5c023f0e3465f8798bd941a43ea2da79864ff78d"), looks := true }, kinds := [], alts := [], laidByText := true, laidKinds := [.data, .handle, .pinned], laidTests := true, laidLooks := .later }
def DecHalvesCardSaid : Prop := Claim7.holds Tryd.pinned (.plain (OpenSpec.ofChange decHalvesSpec)) decHalvesCard

/-- THE SECOND FORM's CARD OF 'numerallaw03.DecRounds'. -/
def decRoundsUptoCard : Claim7 := { stood := { row := decRoundsUptoRow, standIns := [], harness := (true, "7ad6bd7845687da635efaa0b5c023f0e3465f8798bd941a43ea2da79864ff78d"), looks := true }, kinds := [], alts := [], laidByText := true, laidKinds := [.data, .handle, .pinned], laidTests := true, laidLooks := .later }
def DecRoundsUptoCardSaid : Prop := Claim7.holds Tryd.pinned (.plain (OpenSpec.upto decRoundsSpec)) decRoundsUptoCard

/-- THE SECOND FORM's CARD OF 'numerallaw03.DecCompares'. -/
def decComparesUptoCard : Claim7 := { stood := { row := decComparesUptoRow, standIns := [], harness := (true, "7ad6bd7845687da635efaa0b5c023f0e3465f8798bd941a43ea2da79864ff78d"), looks := true }, kinds := [], alts := [], laidByText := true, laidKinds := [.data, .handle, .pinned], laidTests := true, laidLooks := .later }
def DecComparesUptoCardSaid : Prop := Claim7.holds Tryd.pinned (.plain (OpenSpec.upto decComparesSpec)) decComparesUptoCard

/-- THE SECOND FORM's CARD OF 'numerallaw03.DecHalves'. -/
def decHalvesUptoCard : Claim7 := { stood := { row := decHalvesUptoRow, standIns := [], harness := (true, "7ad6bd7845687da635efaa0b5c023f0e3465f8798bd941a43ea2da79864ff78d"), looks := true }, kinds := [], alts := [], laidByText := true, laidKinds := [.data, .handle, .pinned], laidTests := true, laidLooks := .later }
def DecHalvesUptoCardSaid : Prop := Claim7.holds Tryd.pinned (.plain (OpenSpec.upto decHalvesSpec)) decHalvesUptoCard
end Rows
end Go.Proofs.YtpkfpgjacijjeaaDoor
