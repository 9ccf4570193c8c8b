/-
  DERIVED. GIVEN WITH THE SEED: THE CARDS: each row of YtcceecleljcfbaaGreatDoorRows.lean that lists a variable, with what it lists TIED to the program's text (the seventh form; the later family's looks); each row that meets fmt, with fmt's text TOLD by the authors' own Lean function (tested against real Go, not proved from fmt's source: count such statements apart). THE CARD IS WHAT COUNTS. Prove the row's statement (the work); the ties are given (YtcceecleljcfbaaGreatDoorTie.lean); close each card by the builder's one call (the guide's Derived/Test/ToyasCard.lean, 'card_holds'). Laid BY PROGRAM, IN A SANDBOX (cutbox-door.mjs). By AI agents, Wed Nov 11 2026. No macro, syntax, notation, axiom, sorry.
-/
import Derived.Test.YtcceecleljcfbaaGreatDoorRows
import GoSem.ClaimSeven
namespace Go.Proofs.YtcceecleljcfbaaGreatDoor
namespace Rows

/-- THE TIED CARD OF 'wicketlaw06.CallsLong'. -/
def callsLongCard : Claim7 := { stood := { row := callsLongRow, standIns := [], harness := (true, "25796b7f4b0258359657c397729d1c88b34e2790042968019d9a532b768c8457"), looks := true }, kinds := [], alts := [], laidByText := true, laidKinds := [.data, .data, .data, .data, .sentinel, .sentinel, .pinned], laidTests := true, laidLooks := .later }
def CallsLongCardSaid : Prop := Claim7.holds Tryz.pinned (.plain (OpenSpec.ofChange callsLongSpec)) callsLongCard

/-- THE SECOND FORM's CARD OF 'wicketlaw06.CallsLong'. -/
def callsLongUptoCard : Claim7 := { stood := { row := callsLongUptoRow, standIns := [], harness := (true, "25796b7f4b0258359657c397729d1c88b34e2790042968019d9a532b768c8457"), looks := true }, kinds := [], alts := [], laidByText := true, laidKinds := [.data, .data, .data, .data, .sentinel, .sentinel, .pinned], laidTests := true, laidLooks := .later }
def CallsLongUptoCardSaid : Prop := Claim7.holds Tryz.pinned (.plain (OpenSpec.upto callsLongSpec)) callsLongUptoCard
end Rows
end Go.Proofs.YtcceecleljcfbaaGreatDoor
