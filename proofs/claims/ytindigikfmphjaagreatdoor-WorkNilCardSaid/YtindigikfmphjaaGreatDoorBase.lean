/- What the evaluator is told of this program's functions is checked against the loaded program. No condition. -/
import Derived.Test.YtindigikfmphjaaGreatDoorCode
import Derived.Test.YtindigikfmphjaaGreatDoorEng3
import Derived.Test.YtindigikfmphjaaGreatDoorChecked
set_option maxRecDepth 1000000
namespace Go.Eng.YtindigikfmphjaaGreatDoor
open Go.Eng
noncomputable section
theorem chkAll : allT (chkF Go.Proofs.Tryz.prog) funs = true := by kernel_rfl
theorem chkdAll : allT (chkFD Go.Proofs.Tryz.prog) dfuns = true := by kernel_rfl
def ctx : Ctx := Ctx.of funs dfuns noMore
end
end Go.Eng.YtindigikfmphjaaGreatDoor
