/- The closed run of the law WorkNil, by the evaluator; its argument is looked at nowhere. -/
import Derived.Test.YtindigikfmphjaaGreatDoorBase
set_option maxRecDepth 1000000
namespace Go.Eng.YtindigikfmphjaaGreatDoor
open Go.Eng
noncomputable section
theorem runNil : isTrue (lev ctx 60 3 [.bot] .none Heap.empty).1 = true := by kernel_rfl
end
end Go.Eng.YtindigikfmphjaaGreatDoor
