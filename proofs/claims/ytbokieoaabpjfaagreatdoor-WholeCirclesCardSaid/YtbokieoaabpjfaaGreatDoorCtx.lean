/- Part of a proof of a law, by an evaluator that the machine follows: rules, contracts of functions, what they come to. No condition of its own. -/
import Derived.Test.YtbokieoaabpjfaaGreatDoorCode
import Derived.Test.YtbokieoaabpjfaaGreatDoorTwo
namespace Go.Eng.YtbokieoaabpjfaaGreatDoor
open Go.Eng
noncomputable section
def ctx : Ctx := Ctx.of funs dfuns (more2 (more2 (moreIdx 278) (moreCmp 117)) (moreRdy 150))
end
end Go.Eng.YtbokieoaabpjfaaGreatDoor
