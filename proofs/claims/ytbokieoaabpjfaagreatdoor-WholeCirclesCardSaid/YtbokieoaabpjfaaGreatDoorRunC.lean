/- Part of a proof of a law, by an evaluator that the machine follows: rules, contracts of functions, what they come to. No condition of its own. -/
import Derived.Test.YtbokieoaabpjfaaGreatDoorRunA
set_option maxRecDepth 1000000
namespace Go.Eng.YtbokieoaabpjfaaGreatDoor
open Go.Eng
noncomputable section
theorem g7_7 (n x : V) : see7 (envOf (run7a n x 7)) = (x, .int .i64 (.ofNat 7)) := by kernel_rfl
theorem c7_7_0 (n x : V) : thenB (run7a n x 7) (fun e h => allBelow (fun i => end7 (Nat.add 0 i) e h) 2) = true := by kernel_rfl
theorem c7_7_2 (n x : V) : thenB (run7a n x 7) (fun e h => allBelow (fun i => end7 (Nat.add 2 i) e h) 2) = true := by kernel_rfl
theorem c7_7_4 (n x : V) : thenB (run7a n x 7) (fun e h => allBelow (fun i => end7 (Nat.add 4 i) e h) 2) = true := by kernel_rfl
theorem c7_7_6 (n x : V) : thenB (run7a n x 7) (fun e h => allBelow (fun i => end7 (Nat.add 6 i) e h) 1) = true := by kernel_rfl
end
end Go.Eng.YtbokieoaabpjfaaGreatDoor
