/-
  DERIVED. GIVEN WITH THE SEED: THE CARDS: each row of YtoajkmdddjnebaaGreatDoorRows.lean that lists a variable, with what it lists TIED to the program's text (the seventh form; the later family's looks); each row that meets fmt, with fmt's text TOLD by the authors' own Lean function (tested against real Go, not proved from fmt's source: count such statements apart). THE CARD IS WHAT COUNTS. Prove the row's statement (the work); the ties are given (YtoajkmdddjnebaaGreatDoorTie.lean); close each card by the builder's one call (the guide's Derived/Test/ToyasCard.lean, 'card_holds'). Laid BY PROGRAM, IN A SANDBOX (cutbox-door.mjs). By AI agents, Wed Nov 11 2026. No macro, syntax, notation, axiom, sorry.
-/
import Derived.Test.YtoajkmdddjnebaaGreatDoorRows
import GoSem.ClaimSeven
namespace Go.Proofs.YtoajkmdddjnebaaGreatDoor
namespace Rows

/-- THE TIED CARD OF 'wicketlaw06.CallsOne'. -/
def callsOneCard : Claim7 := { stood := { row := callsOneRow, standIns := [], harness := (true, "8ae0c75b4515bfdc949c3e6fc2daac822922a590b0398a957047fcbb2ef0c16f"), looks := true }, kinds := [], alts := [], laidByText := true, laidKinds := [.data, .data, .data, .data, .sentinel, .sentinel, .pinned], laidTests := true, laidLooks := .later }
def CallsOneCardSaid : Prop := Claim7.holds Tryz.pinned (.plain (OpenSpec.ofChange callsOneSpec)) callsOneCard

/-- THE TIED CARD OF 'wicketlaw06.CallsReads'. -/
def callsReadsCard : Claim7 := { stood := { row := callsReadsRow, standIns := [], harness := (true, "8ae0c75b4515bfdc949c3e6fc2daac822922a590b0398a957047fcbb2ef0c16f"), looks := true }, kinds := [], alts := [], laidByText := true, laidKinds := [.data, .data, .data, .data, .sentinel, .sentinel, .pinned], laidTests := true, laidLooks := .later }
def CallsReadsCardSaid : Prop := Claim7.holds Tryz.pinned (.plain (OpenSpec.ofChange callsReadsSpec)) callsReadsCard

/-- THE TIED CARD OF 'wicketlaw06.CallsBack'. -/
def callsBackCard : Claim7 := { stood := { row := callsBackRow, standIns := [], harness := (true, "8ae0c75b4515bfdc949c3e6fc2daac822922a590b0398a957047fcbb2ef0c16f"), looks := true }, kinds := [], alts := [], laidByText := true, laidKinds := [.data, .data, .data, .data, .sentinel, .sentinel, .pinned], laidTests := true, laidLooks := .later }
def CallsBackCardSaid : Prop := Claim7.holds Tryz.pinned (.plain (OpenSpec.ofChange callsBackSpec)) callsBackCard

/-- THE TIED CARD OF 'wicketlaw06.CallsResults'. -/
def callsResultsCard : Claim7 := { stood := { row := callsResultsRow, standIns := [], harness := (true, "8ae0c75b4515bfdc949c3e6fc2daac822922a590b0398a957047fcbb2ef0c16f"), looks := true }, kinds := [], alts := [], laidByText := true, laidKinds := [.data, .data, .data, .data, .sentinel, .sentinel, .pinned], laidTests := true, laidLooks := .later }
def CallsResultsCardSaid : Prop := Claim7.holds Tryz.pinned (.plain (OpenSpec.ofChange callsResultsSpec)) callsResultsCard

/-- THE SECOND FORM's CARD OF 'wicketlaw06.CallsOne'. -/
def callsOneUptoCard : Claim7 := { stood := { row := callsOneUptoRow, standIns := [], harness := (true, "8ae0c75b4515bfdc949c3e6fc2daac822922a590b0398a957047fcbb2ef0c16f"), looks := true }, kinds := [], alts := [], laidByText := true, laidKinds := [.data, .data, .data, .data, .sentinel, .sentinel, .pinned], laidTests := true, laidLooks := .later }
def CallsOneUptoCardSaid : Prop := Claim7.holds Tryz.pinned (.plain (OpenSpec.upto callsOneSpec)) callsOneUptoCard

/-- THE SECOND FORM's CARD OF 'wicketlaw06.CallsReads'. -/
def callsReadsUptoCard : Claim7 := { stood := { row := callsReadsUptoRow, standIns := [], harness := (true, "8ae0c75b4515bfdc949c3e6fc2daac822922a590b0398a957047fcbb2ef0c16f"), looks := true }, kinds := [], alts := [], laidByText := true, laidKinds := [.data, .data, .data, .data, .sentinel, .sentinel, .pinned], laidTests := true, laidLooks := .later }
def CallsReadsUptoCardSaid : Prop := Claim7.holds Tryz.pinned (.plain (OpenSpec.upto callsReadsSpec)) callsReadsUptoCard

/-- THE SECOND FORM's CARD OF 'wicketlaw06.CallsBack'. -/
def callsBackUptoCard : Claim7 := { stood := { row := callsBackUptoRow, standIns := [], harness := (true, "8ae0c75b4515bfdc949c3e6fc2daac822922a590b0398a957047fcbb2ef0c16f"), looks := true }, kinds := [], alts := [], laidByText := true, laidKinds := [.data, .data, .data, .data, .sentinel, .sentinel, .pinned], laidTests := true, laidLooks := .later }
def CallsBackUptoCardSaid : Prop := Claim7.holds Tryz.pinned (.plain (OpenSpec.upto callsBackSpec)) callsBackUptoCard

/-- THE SECOND FORM's CARD OF 'wicketlaw06.CallsResults'. -/
def callsResultsUptoCard : Claim7 := { stood := { row := callsResultsUptoRow, standIns := [], harness := (true, "8ae0c75b4515bfdc949c3e6fc2daac822922a590b0398a957047fcbb2ef0c16f"), looks := true }, kinds := [], alts := [], laidByText := true, laidKinds := [.data, .data, .data, .data, .sentinel, .sentinel, .pinned], laidTests := true, laidLooks := .later }
def CallsResultsUptoCardSaid : Prop := Claim7.holds Tryz.pinned (.plain (OpenSpec.upto callsResultsSpec)) callsResultsUptoCard
end Rows
end Go.Proofs.YtoajkmdddjnebaaGreatDoor
