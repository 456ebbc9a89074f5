/- Part of a proof of a law, by an evaluator that the machine follows: rules, contracts of functions, what they come to. No condition of its own. -/
import Derived.Test.YtfolmdfljpkpeaaGreatDoorHead
set_option maxRecDepth 1000000
namespace Go.Eng.YtfolmdfljpkpeaaGreatDoor
open Go.Eng
noncomputable section
theorem m6_0 (a0 a1 : V) (o0 o1 : Obj) : R6 false false false false false false false false a0 a1 o0 o1 = true := by kernel_rfl
theorem m6_1 (a0 a1 : V) (o0 o1 : Obj) : R6 true false false false false false false false a0 a1 o0 o1 = true := by kernel_rfl
theorem m6_2 (a0 a1 : V) (o0 o1 : Obj) : R6 false true false false false false false false a0 a1 o0 o1 = true := by kernel_rfl
theorem m6_3 (a0 a1 : V) (o0 o1 : Obj) : R6 true true false false false false false false a0 a1 o0 o1 = true := by kernel_rfl
theorem m6_4 (a0 a1 : V) (o0 o1 : Obj) : R6 false false true false false false false false a0 a1 o0 o1 = true := by kernel_rfl
theorem m6_5 (a0 a1 : V) (o0 o1 : Obj) : R6 true false true false false false false false a0 a1 o0 o1 = true := by kernel_rfl
theorem m6_6 (a0 a1 : V) (o0 o1 : Obj) : R6 false true true false false false false false a0 a1 o0 o1 = true := by kernel_rfl
theorem m6_7 (a0 a1 : V) (o0 o1 : Obj) : R6 true true true false false false false false a0 a1 o0 o1 = true := by kernel_rfl
theorem m6_8 (a0 a1 : V) (o0 o1 : Obj) : R6 false false false true false false false false a0 a1 o0 o1 = true := by kernel_rfl
theorem m6_9 (a0 a1 : V) (o0 o1 : Obj) : R6 true false false true false false false false a0 a1 o0 o1 = true := by kernel_rfl
theorem m6_10 (a0 a1 : V) (o0 o1 : Obj) : R6 false true false true false false false false a0 a1 o0 o1 = true := by kernel_rfl
theorem m6_11 (a0 a1 : V) (o0 o1 : Obj) : R6 true true false true false false false false a0 a1 o0 o1 = true := by kernel_rfl
theorem m6_12 (a0 a1 : V) (o0 o1 : Obj) : R6 false false true true false false false false a0 a1 o0 o1 = true := by kernel_rfl
theorem m6_13 (a0 a1 : V) (o0 o1 : Obj) : R6 true false true true false false false false a0 a1 o0 o1 = true := by kernel_rfl
theorem m6_14 (a0 a1 : V) (o0 o1 : Obj) : R6 false true true true false false false false a0 a1 o0 o1 = true := by kernel_rfl
theorem m6_15 (a0 a1 : V) (o0 o1 : Obj) : R6 true true true true false false false false a0 a1 o0 o1 = true := by kernel_rfl
theorem m6_16 (a0 a1 : V) (o0 o1 : Obj) : R6 false false false false true false false false a0 a1 o0 o1 = true := by kernel_rfl
theorem m6_17 (a0 a1 : V) (o0 o1 : Obj) : R6 true false false false true false false false a0 a1 o0 o1 = true := by kernel_rfl
theorem m6_18 (a0 a1 : V) (o0 o1 : Obj) : R6 false true false false true false false false a0 a1 o0 o1 = true := by kernel_rfl
theorem m6_19 (a0 a1 : V) (o0 o1 : Obj) : R6 true true false false true false false false a0 a1 o0 o1 = true := by kernel_rfl
theorem m6_20 (a0 a1 : V) (o0 o1 : Obj) : R6 false false true false true false false false a0 a1 o0 o1 = true := by kernel_rfl
theorem m6_21 (a0 a1 : V) (o0 o1 : Obj) : R6 true false true false true false false false a0 a1 o0 o1 = true := by kernel_rfl
theorem m6_22 (a0 a1 : V) (o0 o1 : Obj) : R6 false true true false true false false false a0 a1 o0 o1 = true := by kernel_rfl
theorem m6_23 (a0 a1 : V) (o0 o1 : Obj) : R6 true true true false true false false false a0 a1 o0 o1 = true := by kernel_rfl
theorem m6_24 (a0 a1 : V) (o0 o1 : Obj) : R6 false false false true true false false false a0 a1 o0 o1 = true := by kernel_rfl
theorem m6_25 (a0 a1 : V) (o0 o1 : Obj) : R6 true false false true true false false false a0 a1 o0 o1 = true := by kernel_rfl
theorem m6_26 (a0 a1 : V) (o0 o1 : Obj) : R6 false true false true true false false false a0 a1 o0 o1 = true := by kernel_rfl
theorem m6_27 (a0 a1 : V) (o0 o1 : Obj) : R6 true true false true true false false false a0 a1 o0 o1 = true := by kernel_rfl
theorem m6_28 (a0 a1 : V) (o0 o1 : Obj) : R6 false false true true true false false false a0 a1 o0 o1 = true := by kernel_rfl
theorem m6_29 (a0 a1 : V) (o0 o1 : Obj) : R6 true false true true true false false false a0 a1 o0 o1 = true := by kernel_rfl
theorem m6_30 (a0 a1 : V) (o0 o1 : Obj) : R6 false true true true true false false false a0 a1 o0 o1 = true := by kernel_rfl
theorem m6_31 (a0 a1 : V) (o0 o1 : Obj) : R6 true true true true true false false false a0 a1 o0 o1 = true := by kernel_rfl
end
end Go.Eng.YtfolmdfljpkpeaaGreatDoor
