/- Part of a proof of a law, by an evaluator that the machine follows: rules, contracts of functions, what they come to. No condition of its own. -/
import Derived.Test.YtfolmdfljpkpeaaGreatDoorHead
set_option maxRecDepth 1000000
namespace Go.Eng.YtfolmdfljpkpeaaGreatDoor
open Go.Eng
noncomputable section
theorem m6_64 (a0 a1 : V) (o0 o1 : Obj) : R6 false false false false false false true false a0 a1 o0 o1 = true := by kernel_rfl
theorem m6_65 (a0 a1 : V) (o0 o1 : Obj) : R6 true false false false false false true false a0 a1 o0 o1 = true := by kernel_rfl
theorem m6_66 (a0 a1 : V) (o0 o1 : Obj) : R6 false true false false false false true false a0 a1 o0 o1 = true := by kernel_rfl
theorem m6_67 (a0 a1 : V) (o0 o1 : Obj) : R6 true true false false false false true false a0 a1 o0 o1 = true := by kernel_rfl
theorem m6_68 (a0 a1 : V) (o0 o1 : Obj) : R6 false false true false false false true false a0 a1 o0 o1 = true := by kernel_rfl
theorem m6_69 (a0 a1 : V) (o0 o1 : Obj) : R6 true false true false false false true false a0 a1 o0 o1 = true := by kernel_rfl
theorem m6_70 (a0 a1 : V) (o0 o1 : Obj) : R6 false true true false false false true false a0 a1 o0 o1 = true := by kernel_rfl
theorem m6_71 (a0 a1 : V) (o0 o1 : Obj) : R6 true true true false false false true false a0 a1 o0 o1 = true := by kernel_rfl
theorem m6_72 (a0 a1 : V) (o0 o1 : Obj) : R6 false false false true false false true false a0 a1 o0 o1 = true := by kernel_rfl
theorem m6_73 (a0 a1 : V) (o0 o1 : Obj) : R6 true false false true false false true false a0 a1 o0 o1 = true := by kernel_rfl
theorem m6_74 (a0 a1 : V) (o0 o1 : Obj) : R6 false true false true false false true false a0 a1 o0 o1 = true := by kernel_rfl
theorem m6_75 (a0 a1 : V) (o0 o1 : Obj) : R6 true true false true false false true false a0 a1 o0 o1 = true := by kernel_rfl
theorem m6_76 (a0 a1 : V) (o0 o1 : Obj) : R6 false false true true false false true false a0 a1 o0 o1 = true := by kernel_rfl
theorem m6_77 (a0 a1 : V) (o0 o1 : Obj) : R6 true false true true false false true false a0 a1 o0 o1 = true := by kernel_rfl
theorem m6_78 (a0 a1 : V) (o0 o1 : Obj) : R6 false true true true false false true false a0 a1 o0 o1 = true := by kernel_rfl
theorem m6_79 (a0 a1 : V) (o0 o1 : Obj) : R6 true true true true false false true false a0 a1 o0 o1 = true := by kernel_rfl
theorem m6_80 (a0 a1 : V) (o0 o1 : Obj) : R6 false false false false true false true false a0 a1 o0 o1 = true := by kernel_rfl
theorem m6_81 (a0 a1 : V) (o0 o1 : Obj) : R6 true false false false true false true false a0 a1 o0 o1 = true := by kernel_rfl
theorem m6_82 (a0 a1 : V) (o0 o1 : Obj) : R6 false true false false true false true false a0 a1 o0 o1 = true := by kernel_rfl
theorem m6_83 (a0 a1 : V) (o0 o1 : Obj) : R6 true true false false true false true false a0 a1 o0 o1 = true := by kernel_rfl
theorem m6_84 (a0 a1 : V) (o0 o1 : Obj) : R6 false false true false true false true false a0 a1 o0 o1 = true := by kernel_rfl
theorem m6_85 (a0 a1 : V) (o0 o1 : Obj) : R6 true false true false true false true false a0 a1 o0 o1 = true := by kernel_rfl
theorem m6_86 (a0 a1 : V) (o0 o1 : Obj) : R6 false true true false true false true false a0 a1 o0 o1 = true := by kernel_rfl
theorem m6_87 (a0 a1 : V) (o0 o1 : Obj) : R6 true true true false true false true false a0 a1 o0 o1 = true := by kernel_rfl
theorem m6_88 (a0 a1 : V) (o0 o1 : Obj) : R6 false false false true true false true false a0 a1 o0 o1 = true := by kernel_rfl
theorem m6_89 (a0 a1 : V) (o0 o1 : Obj) : R6 true false false true true false true false a0 a1 o0 o1 = true := by kernel_rfl
theorem m6_90 (a0 a1 : V) (o0 o1 : Obj) : R6 false true false true true false true false a0 a1 o0 o1 = true := by kernel_rfl
theorem m6_91 (a0 a1 : V) (o0 o1 : Obj) : R6 true true false true true false true false a0 a1 o0 o1 = true := by kernel_rfl
theorem m6_92 (a0 a1 : V) (o0 o1 : Obj) : R6 false false true true true false true false a0 a1 o0 o1 = true := by kernel_rfl
theorem m6_93 (a0 a1 : V) (o0 o1 : Obj) : R6 true false true true true false true false a0 a1 o0 o1 = true := by kernel_rfl
theorem m6_94 (a0 a1 : V) (o0 o1 : Obj) : R6 false true true true true false true false a0 a1 o0 o1 = true := by kernel_rfl
theorem m6_95 (a0 a1 : V) (o0 o1 : Obj) : R6 true true true true true false true false a0 a1 o0 o1 = true := by kernel_rfl
end
end Go.Eng.YtfolmdfljpkpeaaGreatDoor
