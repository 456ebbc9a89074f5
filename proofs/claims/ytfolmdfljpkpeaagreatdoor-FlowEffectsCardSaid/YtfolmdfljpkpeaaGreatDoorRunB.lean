/- Part of a proof of a law, by an evaluator that the machine follows: rules, contracts of functions, what they come to. No condition of its own. -/
import Derived.Test.YtfolmdfljpkpeaaGreatDoorHead
set_option maxRecDepth 1000000
namespace Go.Eng.YtfolmdfljpkpeaaGreatDoor
open Go.Eng
noncomputable section
theorem m6_32 (a0 a1 : V) (o0 o1 : Obj) : R6 false false false false false true false false a0 a1 o0 o1 = true := by kernel_rfl
theorem m6_33 (a0 a1 : V) (o0 o1 : Obj) : R6 true false false false false true false false a0 a1 o0 o1 = true := by kernel_rfl
theorem m6_34 (a0 a1 : V) (o0 o1 : Obj) : R6 false true false false false true false false a0 a1 o0 o1 = true := by kernel_rfl
theorem m6_35 (a0 a1 : V) (o0 o1 : Obj) : R6 true true false false false true false false a0 a1 o0 o1 = true := by kernel_rfl
theorem m6_36 (a0 a1 : V) (o0 o1 : Obj) : R6 false false true false false true false false a0 a1 o0 o1 = true := by kernel_rfl
theorem m6_37 (a0 a1 : V) (o0 o1 : Obj) : R6 true false true false false true false false a0 a1 o0 o1 = true := by kernel_rfl
theorem m6_38 (a0 a1 : V) (o0 o1 : Obj) : R6 false true true false false true false false a0 a1 o0 o1 = true := by kernel_rfl
theorem m6_39 (a0 a1 : V) (o0 o1 : Obj) : R6 true true true false false true false false a0 a1 o0 o1 = true := by kernel_rfl
theorem m6_40 (a0 a1 : V) (o0 o1 : Obj) : R6 false false false true false true false false a0 a1 o0 o1 = true := by kernel_rfl
theorem m6_41 (a0 a1 : V) (o0 o1 : Obj) : R6 true false false true false true false false a0 a1 o0 o1 = true := by kernel_rfl
theorem m6_42 (a0 a1 : V) (o0 o1 : Obj) : R6 false true false true false true false false a0 a1 o0 o1 = true := by kernel_rfl
theorem m6_43 (a0 a1 : V) (o0 o1 : Obj) : R6 true true false true false true false false a0 a1 o0 o1 = true := by kernel_rfl
theorem m6_44 (a0 a1 : V) (o0 o1 : Obj) : R6 false false true true false true false false a0 a1 o0 o1 = true := by kernel_rfl
theorem m6_45 (a0 a1 : V) (o0 o1 : Obj) : R6 true false true true false true false false a0 a1 o0 o1 = true := by kernel_rfl
theorem m6_46 (a0 a1 : V) (o0 o1 : Obj) : R6 false true true true false true false false a0 a1 o0 o1 = true := by kernel_rfl
theorem m6_47 (a0 a1 : V) (o0 o1 : Obj) : R6 true true true true false true false false a0 a1 o0 o1 = true := by kernel_rfl
theorem m6_48 (a0 a1 : V) (o0 o1 : Obj) : R6 false false false false true true false false a0 a1 o0 o1 = true := by kernel_rfl
theorem m6_49 (a0 a1 : V) (o0 o1 : Obj) : R6 true false false false true true false false a0 a1 o0 o1 = true := by kernel_rfl
theorem m6_50 (a0 a1 : V) (o0 o1 : Obj) : R6 false true false false true true false false a0 a1 o0 o1 = true := by kernel_rfl
theorem m6_51 (a0 a1 : V) (o0 o1 : Obj) : R6 true true false false true true false false a0 a1 o0 o1 = true := by kernel_rfl
theorem m6_52 (a0 a1 : V) (o0 o1 : Obj) : R6 false false true false true true false false a0 a1 o0 o1 = true := by kernel_rfl
theorem m6_53 (a0 a1 : V) (o0 o1 : Obj) : R6 true false true false true true false false a0 a1 o0 o1 = true := by kernel_rfl
theorem m6_54 (a0 a1 : V) (o0 o1 : Obj) : R6 false true true false true true false false a0 a1 o0 o1 = true := by kernel_rfl
theorem m6_55 (a0 a1 : V) (o0 o1 : Obj) : R6 true true true false true true false false a0 a1 o0 o1 = true := by kernel_rfl
theorem m6_56 (a0 a1 : V) (o0 o1 : Obj) : R6 false false false true true true false false a0 a1 o0 o1 = true := by kernel_rfl
theorem m6_57 (a0 a1 : V) (o0 o1 : Obj) : R6 true false false true true true false false a0 a1 o0 o1 = true := by kernel_rfl
theorem m6_58 (a0 a1 : V) (o0 o1 : Obj) : R6 false true false true true true false false a0 a1 o0 o1 = true := by kernel_rfl
theorem m6_59 (a0 a1 : V) (o0 o1 : Obj) : R6 true true false true true true false false a0 a1 o0 o1 = true := by kernel_rfl
theorem m6_60 (a0 a1 : V) (o0 o1 : Obj) : R6 false false true true true true false false a0 a1 o0 o1 = true := by kernel_rfl
theorem m6_61 (a0 a1 : V) (o0 o1 : Obj) : R6 true false true true true true false false a0 a1 o0 o1 = true := by kernel_rfl
theorem m6_62 (a0 a1 : V) (o0 o1 : Obj) : R6 false true true true true true false false a0 a1 o0 o1 = true := by kernel_rfl
theorem m6_63 (a0 a1 : V) (o0 o1 : Obj) : R6 true true true true true true false false a0 a1 o0 o1 = true := by kernel_rfl
end
end Go.Eng.YtfolmdfljpkpeaaGreatDoor
