/- FairNil: stage 6 of the run. -/
import Derived.Test.YtomadfkddfbcoaaGreatEngLit
import Derived.Test.YtomadfkddfbcoaaGreatEngSeat
import Derived.KernelRfl
import Derived.Test.YtomadfkddfbcoaaGreatFairNilC5
namespace Go.Proofs.YtomadfkddfbcoaaGreat.fairNil
open Go.Eng
set_option linter.unusedVariables false
set_option maxRecDepth 1000000
set_option maxHeartbeats 4000000
theorem stage6 : doneTrue (stepN Tryz.cx 24452 (cfg5 Tryz.cx)) = true := by kernel_rfl
theorem joined : ∃ u s, den' Tryz.cx (Eng.start Tryz.cx 3 3000) = .returned (.bool true) u s :=
  (back_den stage1 (back_den stage2 (back_den stage3 (back_den stage4 (back_den stage5 (back_den rfl (done_den stage6)))))))
end Go.Proofs.YtomadfkddfbcoaaGreat.fairNil
