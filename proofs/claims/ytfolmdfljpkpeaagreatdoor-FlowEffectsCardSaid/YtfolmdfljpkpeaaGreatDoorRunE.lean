/- Part of a proof of a law, by an evaluator that the machine follows: rules, contracts of functions, what they come to. No condition of its own. -/
import Derived.Test.YtfolmdfljpkpeaaGreatDoorHead
set_option maxRecDepth 1000000
namespace Go.Eng.YtfolmdfljpkpeaaGreatDoor
open Go.Eng
noncomputable section
theorem m6_128 (a0 a1 : V) (o0 o1 : Obj) : R6 false false false false false false false true a0 a1 o0 o1 = true := by kernel_rfl
theorem m6_129 (a0 a1 : V) (o0 o1 : Obj) : R6 true false false false false false false true a0 a1 o0 o1 = true := by kernel_rfl
theorem m6_130 (a0 a1 : V) (o0 o1 : Obj) : R6 false true false false false false false true a0 a1 o0 o1 = true := by kernel_rfl
theorem m6_131 (a0 a1 : V) (o0 o1 : Obj) : R6 true true false false false false false true a0 a1 o0 o1 = true := by kernel_rfl
theorem m6_132 (a0 a1 : V) (o0 o1 : Obj) : R6 false false true false false false false true a0 a1 o0 o1 = true := by kernel_rfl
theorem m6_133 (a0 a1 : V) (o0 o1 : Obj) : R6 true false true false false false false true a0 a1 o0 o1 = true := by kernel_rfl
theorem m6_134 (a0 a1 : V) (o0 o1 : Obj) : R6 false true true false false false false true a0 a1 o0 o1 = true := by kernel_rfl
theorem m6_135 (a0 a1 : V) (o0 o1 : Obj) : R6 true true true false false false false true a0 a1 o0 o1 = true := by kernel_rfl
theorem m6_136 (a0 a1 : V) (o0 o1 : Obj) : R6 false false false true false false false true a0 a1 o0 o1 = true := by kernel_rfl
theorem m6_137 (a0 a1 : V) (o0 o1 : Obj) : R6 true false false true false false false true a0 a1 o0 o1 = true := by kernel_rfl
theorem m6_138 (a0 a1 : V) (o0 o1 : Obj) : R6 false true false true false false false true a0 a1 o0 o1 = true := by kernel_rfl
theorem m6_139 (a0 a1 : V) (o0 o1 : Obj) : R6 true true false true false false false true a0 a1 o0 o1 = true := by kernel_rfl
theorem m6_140 (a0 a1 : V) (o0 o1 : Obj) : R6 false false true true false false false true a0 a1 o0 o1 = true := by kernel_rfl
theorem m6_141 (a0 a1 : V) (o0 o1 : Obj) : R6 true false true true false false false true a0 a1 o0 o1 = true := by kernel_rfl
theorem m6_142 (a0 a1 : V) (o0 o1 : Obj) : R6 false true true true false false false true a0 a1 o0 o1 = true := by kernel_rfl
theorem m6_143 (a0 a1 : V) (o0 o1 : Obj) : R6 true true true true false false false true a0 a1 o0 o1 = true := by kernel_rfl
theorem m6_144 (a0 a1 : V) (o0 o1 : Obj) : R6 false false false false true false false true a0 a1 o0 o1 = true := by kernel_rfl
theorem m6_145 (a0 a1 : V) (o0 o1 : Obj) : R6 true false false false true false false true a0 a1 o0 o1 = true := by kernel_rfl
theorem m6_146 (a0 a1 : V) (o0 o1 : Obj) : R6 false true false false true false false true a0 a1 o0 o1 = true := by kernel_rfl
theorem m6_147 (a0 a1 : V) (o0 o1 : Obj) : R6 true true false false true false false true a0 a1 o0 o1 = true := by kernel_rfl
theorem m6_148 (a0 a1 : V) (o0 o1 : Obj) : R6 false false true false true false false true a0 a1 o0 o1 = true := by kernel_rfl
theorem m6_149 (a0 a1 : V) (o0 o1 : Obj) : R6 true false true false true false false true a0 a1 o0 o1 = true := by kernel_rfl
theorem m6_150 (a0 a1 : V) (o0 o1 : Obj) : R6 false true true false true false false true a0 a1 o0 o1 = true := by kernel_rfl
theorem m6_151 (a0 a1 : V) (o0 o1 : Obj) : R6 true true true false true false false true a0 a1 o0 o1 = true := by kernel_rfl
theorem m6_152 (a0 a1 : V) (o0 o1 : Obj) : R6 false false false true true false false true a0 a1 o0 o1 = true := by kernel_rfl
theorem m6_153 (a0 a1 : V) (o0 o1 : Obj) : R6 true false false true true false false true a0 a1 o0 o1 = true := by kernel_rfl
theorem m6_154 (a0 a1 : V) (o0 o1 : Obj) : R6 false true false true true false false true a0 a1 o0 o1 = true := by kernel_rfl
theorem m6_155 (a0 a1 : V) (o0 o1 : Obj) : R6 true true false true true false false true a0 a1 o0 o1 = true := by kernel_rfl
theorem m6_156 (a0 a1 : V) (o0 o1 : Obj) : R6 false false true true true false false true a0 a1 o0 o1 = true := by kernel_rfl
theorem m6_157 (a0 a1 : V) (o0 o1 : Obj) : R6 true false true true true false false true a0 a1 o0 o1 = true := by kernel_rfl
theorem m6_158 (a0 a1 : V) (o0 o1 : Obj) : R6 false true true true true false false true a0 a1 o0 o1 = true := by kernel_rfl
theorem m6_159 (a0 a1 : V) (o0 o1 : Obj) : R6 true true true true true false false true a0 a1 o0 o1 = true := by kernel_rfl
end
end Go.Eng.YtfolmdfljpkpeaaGreatDoor
