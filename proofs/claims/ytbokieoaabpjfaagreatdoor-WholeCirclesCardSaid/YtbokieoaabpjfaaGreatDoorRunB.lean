/- Part of a proof of a law, by an evaluator that the machine follows: rules, contracts of functions, what they come to. No condition of its own. -/
import Derived.Test.YtbokieoaabpjfaaGreatDoorRunA
set_option maxRecDepth 1000000
namespace Go.Eng.YtbokieoaabpjfaaGreatDoor
open Go.Eng
noncomputable section
theorem g7_6 (n x : V) : see7 (envOf (run7a n x 6)) = (x, .int .i64 (.ofNat 6)) := by kernel_rfl
theorem c7_6_0 (n x : V) : thenB (run7a n x 6) (fun e h => allBelow (fun i => end7 (Nat.add 0 i) e h) 2) = true := by kernel_rfl
theorem c7_6_2 (n x : V) : thenB (run7a n x 6) (fun e h => allBelow (fun i => end7 (Nat.add 2 i) e h) 2) = true := by kernel_rfl
theorem c7_6_4 (n x : V) : thenB (run7a n x 6) (fun e h => allBelow (fun i => end7 (Nat.add 4 i) e h) 2) = true := by kernel_rfl
end
end Go.Eng.YtbokieoaabpjfaaGreatDoor
