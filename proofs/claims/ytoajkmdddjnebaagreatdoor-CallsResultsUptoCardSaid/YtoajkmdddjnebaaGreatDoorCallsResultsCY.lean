import Derived.Test.YtoajkmdddjnebaaGreatDoorCallsResultsMSeat
set_option linter.unusedSimpArgs false
set_option linter.unusedVariables false
namespace Go.Proofs
open Go.Eng
noncomputable def Tryz.cy:Cx:={Tryz.cx with sure:=(T.nil:T Value).set 8 (.bool true),need:=some 0}
end Go.Proofs
