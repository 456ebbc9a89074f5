/- Part of a proof of a law, by an evaluator that the machine follows: rules, contracts of functions, what they come to. No condition of its own. -/
import Derived.Test.YtbokieoaabpjfaaGreatDoorRunA
set_option maxRecDepth 1000000
namespace Go.Eng.YtbokieoaabpjfaaGreatDoor
open Go.Eng
noncomputable section
theorem c10_25_true (n : V) : end10 n true 25 = true := by kernel_rfl
theorem c10_25_false (n : V) : end10 n false 25 = true := by kernel_rfl
theorem c10_26_true (n : V) : end10 n true 26 = true := by kernel_rfl
theorem c10_26_false (n : V) : end10 n false 26 = true := by kernel_rfl
theorem c10_27_true (n : V) : end10 n true 27 = true := by kernel_rfl
theorem c10_27_false (n : V) : end10 n false 27 = true := by kernel_rfl
theorem c10_28_true (n : V) : end10 n true 28 = true := by kernel_rfl
theorem c10_28_false (n : V) : end10 n false 28 = true := by kernel_rfl
theorem c10_29_true (n : V) : end10 n true 29 = true := by kernel_rfl
theorem c10_29_false (n : V) : end10 n false 29 = true := by kernel_rfl
theorem c10_30_true (n : V) : end10 n true 30 = true := by kernel_rfl
theorem c10_30_false (n : V) : end10 n false 30 = true := by kernel_rfl
end
end Go.Eng.YtbokieoaabpjfaaGreatDoor
