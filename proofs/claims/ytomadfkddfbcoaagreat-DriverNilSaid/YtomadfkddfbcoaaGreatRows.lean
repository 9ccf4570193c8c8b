/-
  No cell of these rows narrows 'for every input' (looked for: loops, veiled, ifaces, maps, wideKeys, modest, calm, conditions, laid).
  DERIVED. THE GIVEN ROWS OF THIS SEAT. 2 by the template 'for every input the law returns true; each argument reads behind the call as it read before'; 0 by the template 'total and deterministic' (their statements: YtomadfkddfbcoaaGreatTotals.lean).
  GIVEN WITH THE SEED: the statements are not yours to turn. If you find one false, say at which input.
  Laid BY PROGRAM, IN A SANDBOX (cutbox-rows.mjs): the forced cells as the released guide's own fill.sh prints them over the translation f908df91086b0d9e… (all of the seat's roots in one cut). By AI agents, Wed Nov 11 2026. No macro, syntax, notation, axiom, sorry.
-/
import Derived.Test.YtomadfkddfbcoaaGreatChecked
import GoSem.Claim
import GoSem.ClaimJoined
import GoSem.ClaimMapViews
import Derived.JoinedTies
import Derived.KernelRfl
namespace Go.Proofs.YtomadfkddfbcoaaGreat
/- THE CELL 'sum', in the pinned program and in every row, IS THE sha256 OF THE DUMP (.gsa) THAT YtomadfkddfbcoaaGreatProg.lean LOADS. Nothing in Lean hashes anything: it is a label: what it is worth is what the hold of that sum in a sandbox is worth. -/
noncomputable def Tryz.pinned : Pinned := { name := "ytomadfkddfbcoaagreat", sum := "f908df91086b0d9ec0a260fd6d5236d0b36e4f40c4bf47034029a12c5609f900", checked := Tryz.checked }
namespace Rows
def none {H : Type} : Left H := { results := [], args := [] }

/-- 'wicketlaw26.FairNil': WHATEVER THE INPUT: true; the input reads as it did. -/
def fairNilSpec : ChangeSpec := { name := "fairNil", fn := fun _ => fun
  | [] => { results := [.lit (.bool true)], args := [] }
  | _ => none }
def fairNilRow : OpenClaim := { program := "ytomadfkddfbcoaagreat", sum := "f908df91086b0d9ec0a260fd6d5236d0b36e4f40c4bf47034029a12c5609f900", func := "wicket/wicketlaw26.FairNil", spec := "fairNil", inPlace := ["internal/bytealg.Compare"], unfollowed := true, recurses := true, plainKeys := false, apart := false }
def FairNilSaid : Prop := fairNilRow.holds Tryz.pinned (OpenSpec.ofChange fairNilSpec)

/-- ITS FALSE NEIGHBOUR: 'it returns false'. Refute it at one input. -/
def fairNilWrong : ChangeSpec := { name := "fairNil", fn := fun _ => fun
  | [] => { results := [.lit (.bool false)], args := [] }
  | _ => none }
def FairNilWrongFalsely : Prop := fairNilRow.holds Tryz.pinned (OpenSpec.ofChange fairNilWrong)

/-- 'wicketlaw25.DriverNil': WHATEVER THE INPUT: true; the input reads as it did. -/
def driverNilSpec : ChangeSpec := { name := "driverNil", fn := fun _ => fun
  | [] => { results := [.lit (.bool true)], args := [] }
  | _ => none }
def driverNilRow : OpenClaim := { program := "ytomadfkddfbcoaagreat", sum := "f908df91086b0d9ec0a260fd6d5236d0b36e4f40c4bf47034029a12c5609f900", func := "wicket/wicketlaw25.DriverNil", spec := "driverNil", inPlace := ["internal/bytealg.Compare"], unfollowed := true, recurses := true, plainKeys := false, apart := false }
def DriverNilSaid : Prop := driverNilRow.holds Tryz.pinned (OpenSpec.ofChange driverNilSpec)

/-- ITS FALSE NEIGHBOUR: 'it returns false'. Refute it at one input. -/
def driverNilWrong : ChangeSpec := { name := "driverNil", fn := fun _ => fun
  | [] => { results := [.lit (.bool false)], args := [] }
  | _ => none }
def DriverNilWrongFalsely : Prop := driverNilRow.holds Tryz.pinned (OpenSpec.ofChange driverNilWrong)

/- THE SECOND FORM. 'bulk': how many values and letters a reading holds, each counted each time it is reached (what is shared counts as often as it is met; a slice's spare places count too). A statement '..UptoSaid' is the law's where the arguments, and the package variables that the reading takes, are together of bulk at most 1048576: NARROWER than '..Said'. Prove '..Said' where nothing that the law and all that it calls make is longer than what came in: it says more and counts as full. Else prove '..UptoSaid'. A law counts once. -/
mutual
def uptoBulk {H : Type} : DataW H → Nat
  | .lit (.string bytes) => bytes.length + 1
  | .lit _ => 1
  | .nil => 1
  | .ptr d => uptoBulk d + 1
  | .slice elems spare => uptoBulkAll elems + uptoBulkAll spare + 1
  | .agg parts => uptoBulkAll parts + 1
  | .iface _ d => uptoBulk d + 1
  | .map entries => uptoBulkEntries entries + 1
  | .held _ => 1
def uptoBulkAll {H : Type} : List (DataW H) → Nat
  | [] => 0
  | d :: r => uptoBulk d + uptoBulkAll r
def uptoBulkEntries {H : Type} : List (Lit × DataW H) → Nat
  | [] => 0
  | x :: r => uptoBulkEntry x + uptoBulkEntries r
def uptoBulkEntry {H : Type} : Lit × DataW H → Nat
  | (.string bytes, d) => bytes.length + uptoBulk d + 1
  | (_, d) => uptoBulk d + 1
 end
def uptoSmall : (H : Type) → List (DataW H) → Bool := fun _ ds => decide (uptoBulkAll ds ≤ 1048576)
def OpenSpec.upto (s : _root_.Go.ChangeSpec) : _root_.Go.OpenSpec := { _root_.Go.OpenSpec.ofChange s with cond := some uptoSmall }

/-- 'wicketlaw26.FairNil', WHERE WHAT IT READS IS OF BULK AT MOST 1048576: true; the input reads as it did. -/
def fairNilUptoRow : OpenClaim := { program := "ytomadfkddfbcoaagreat", sum := "f908df91086b0d9ec0a260fd6d5236d0b36e4f40c4bf47034029a12c5609f900", func := "wicket/wicketlaw26.FairNil", spec := "fairNil", inPlace := ["internal/bytealg.Compare"], unfollowed := true, recurses := true, plainKeys := false, apart := false, narrowed := true }
def FairNilUptoSaid : Prop := fairNilUptoRow.holds Tryz.pinned (OpenSpec.upto fairNilSpec)

/-- 'wicketlaw25.DriverNil', WHERE WHAT IT READS IS OF BULK AT MOST 1048576: true; the input reads as it did. -/
def driverNilUptoRow : OpenClaim := { program := "ytomadfkddfbcoaagreat", sum := "f908df91086b0d9ec0a260fd6d5236d0b36e4f40c4bf47034029a12c5609f900", func := "wicket/wicketlaw25.DriverNil", spec := "driverNil", inPlace := ["internal/bytealg.Compare"], unfollowed := true, recurses := true, plainKeys := false, apart := false, narrowed := true }
def DriverNilUptoSaid : Prop := driverNilUptoRow.holds Tryz.pinned (OpenSpec.upto driverNilSpec)

end Rows
end Go.Proofs.YtomadfkddfbcoaaGreat
