/- Part of a proof of a law, by an evaluator that the machine follows: rules, contracts of functions, what they come to. No condition of its own. -/
import Derived.Test.YtfolmdfljpkpeaaGreatDoorHead
set_option maxRecDepth 1000000
namespace Go.Eng.YtfolmdfljpkpeaaGreatDoor
open Go.Eng
noncomputable section
theorem m6_96 (a0 a1 : V) (o0 o1 : Obj) : R6 false false false false false true true false a0 a1 o0 o1 = true := by kernel_rfl
theorem m6_97 (a0 a1 : V) (o0 o1 : Obj) : R6 true false false false false true true false a0 a1 o0 o1 = true := by kernel_rfl
theorem m6_98 (a0 a1 : V) (o0 o1 : Obj) : R6 false true false false false true true false a0 a1 o0 o1 = true := by kernel_rfl
theorem m6_99 (a0 a1 : V) (o0 o1 : Obj) : R6 true true false false false true true false a0 a1 o0 o1 = true := by kernel_rfl
theorem m6_100 (a0 a1 : V) (o0 o1 : Obj) : R6 false false true false false true true false a0 a1 o0 o1 = true := by kernel_rfl
theorem m6_101 (a0 a1 : V) (o0 o1 : Obj) : R6 true false true false false true true false a0 a1 o0 o1 = true := by kernel_rfl
theorem m6_102 (a0 a1 : V) (o0 o1 : Obj) : R6 false true true false false true true false a0 a1 o0 o1 = true := by kernel_rfl
theorem m6_103 (a0 a1 : V) (o0 o1 : Obj) : R6 true true true false false true true false a0 a1 o0 o1 = true := by kernel_rfl
theorem m6_104 (a0 a1 : V) (o0 o1 : Obj) : R6 false false false true false true true false a0 a1 o0 o1 = true := by kernel_rfl
theorem m6_105 (a0 a1 : V) (o0 o1 : Obj) : R6 true false false true false true true false a0 a1 o0 o1 = true := by kernel_rfl
theorem m6_106 (a0 a1 : V) (o0 o1 : Obj) : R6 false true false true false true true false a0 a1 o0 o1 = true := by kernel_rfl
theorem m6_107 (a0 a1 : V) (o0 o1 : Obj) : R6 true true false true false true true false a0 a1 o0 o1 = true := by kernel_rfl
theorem m6_108 (a0 a1 : V) (o0 o1 : Obj) : R6 false false true true false true true false a0 a1 o0 o1 = true := by kernel_rfl
theorem m6_109 (a0 a1 : V) (o0 o1 : Obj) : R6 true false true true false true true false a0 a1 o0 o1 = true := by kernel_rfl
theorem m6_110 (a0 a1 : V) (o0 o1 : Obj) : R6 false true true true false true true false a0 a1 o0 o1 = true := by kernel_rfl
theorem m6_111 (a0 a1 : V) (o0 o1 : Obj) : R6 true true true true false true true false a0 a1 o0 o1 = true := by kernel_rfl
theorem m6_112 (a0 a1 : V) (o0 o1 : Obj) : R6 false false false false true true true false a0 a1 o0 o1 = true := by kernel_rfl
theorem m6_113 (a0 a1 : V) (o0 o1 : Obj) : R6 true false false false true true true false a0 a1 o0 o1 = true := by kernel_rfl
theorem m6_114 (a0 a1 : V) (o0 o1 : Obj) : R6 false true false false true true true false a0 a1 o0 o1 = true := by kernel_rfl
theorem m6_115 (a0 a1 : V) (o0 o1 : Obj) : R6 true true false false true true true false a0 a1 o0 o1 = true := by kernel_rfl
theorem m6_116 (a0 a1 : V) (o0 o1 : Obj) : R6 false false true false true true true false a0 a1 o0 o1 = true := by kernel_rfl
theorem m6_117 (a0 a1 : V) (o0 o1 : Obj) : R6 true false true false true true true false a0 a1 o0 o1 = true := by kernel_rfl
theorem m6_118 (a0 a1 : V) (o0 o1 : Obj) : R6 false true true false true true true false a0 a1 o0 o1 = true := by kernel_rfl
theorem m6_119 (a0 a1 : V) (o0 o1 : Obj) : R6 true true true false true true true false a0 a1 o0 o1 = true := by kernel_rfl
theorem m6_120 (a0 a1 : V) (o0 o1 : Obj) : R6 false false false true true true true false a0 a1 o0 o1 = true := by kernel_rfl
theorem m6_121 (a0 a1 : V) (o0 o1 : Obj) : R6 true false false true true true true false a0 a1 o0 o1 = true := by kernel_rfl
theorem m6_122 (a0 a1 : V) (o0 o1 : Obj) : R6 false true false true true true true false a0 a1 o0 o1 = true := by kernel_rfl
theorem m6_123 (a0 a1 : V) (o0 o1 : Obj) : R6 true true false true true true true false a0 a1 o0 o1 = true := by kernel_rfl
theorem m6_124 (a0 a1 : V) (o0 o1 : Obj) : R6 false false true true true true true false a0 a1 o0 o1 = true := by kernel_rfl
theorem m6_125 (a0 a1 : V) (o0 o1 : Obj) : R6 true false true true true true true false a0 a1 o0 o1 = true := by kernel_rfl
theorem m6_126 (a0 a1 : V) (o0 o1 : Obj) : R6 false true true true true true true false a0 a1 o0 o1 = true := by kernel_rfl
theorem m6_127 (a0 a1 : V) (o0 o1 : Obj) : R6 true true true true true true true false a0 a1 o0 o1 = true := by kernel_rfl
end
end Go.Eng.YtfolmdfljpkpeaaGreatDoor
