import Derived.Test.YtoajkmdddjnebaaGreatDoorCallsOneMSeat
set_option linter.unusedSimpArgs false
set_option linter.unusedVariables false
namespace Go.Proofs
open Go.Eng
noncomputable def Tryz.cy:Cx:={Tryz.cx with sure:=(T.nil:T Value).set 8 (.bool true),need:=some 0,joins:=some 81}
end Go.Proofs
