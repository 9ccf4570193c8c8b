/-
  DERIVED. GIVEN WITH THE SEED: THE CARDS: each row of YtoiobpicaonamaaGreatDoorRows.lean that lists a variable, with what it lists TIED to the program's text (the seventh form; the later family's looks); each row that meets fmt, with fmt's text TOLD by the authors' own Lean function (tested against real Go, not proved from fmt's source: count such statements apart). THE CARD IS WHAT COUNTS. Prove the row's statement (the work); the ties are given (YtoiobpicaonamaaGreatDoorTie.lean); close each card by the builder's one call (the guide's Derived/Test/ToyasCard.lean, 'card_holds'). Laid BY PROGRAM, IN A SANDBOX (cutbox-door.mjs). By AI agents, Wed Nov 11 2026. No macro, syntax, notation, axiom, sorry.
-/
import Derived.Test.YtoiobpicaonamaaGreatDoorRows
import GoSem.ClaimSeven
namespace Go.Proofs.YtoiobpicaonamaaGreatDoor
namespace Rows

/-- THE TIED CARD OF 'wicketlaw06.CallsSame'. -/
def callsSameCard : Claim7 := { stood := { row := callsSameRow, standIns := [], harness := (true, "c10c76d1f0097df8c78795eed9a44c8c21cd1e33ca40bf51e6e9de0e41bd5685"), looks := true }, kinds := [], alts := [], laidByText := true, laidKinds := [.data, .data, .data, .data, .sentinel, .sentinel, .pinned], laidTests := true, laidLooks := .later }
def CallsSameCardSaid : Prop := Claim7.holds Tryz.pinned (.plain (OpenSpec.ofChange callsSameSpec)) callsSameCard

/-- THE SECOND FORM's CARD OF 'wicketlaw06.CallsSame'. -/
def callsSameUptoCard : Claim7 := { stood := { row := callsSameUptoRow, standIns := [], harness := (true, "c10c76d1f0097df8c78795eed9a44c8c21cd1e33ca40bf51e6e9de0e41bd5685"), looks := true }, kinds := [], alts := [], laidByText := true, laidKinds := [.data, .data, .data, .data, .sentinel, .sentinel, .pinned], laidTests := true, laidLooks := .later }
def CallsSameUptoCardSaid : Prop := Claim7.holds Tryz.pinned (.plain (OpenSpec.upto callsSameSpec)) callsSameUptoCard
end Rows
end Go.Proofs.YtoiobpicaonamaaGreatDoor
