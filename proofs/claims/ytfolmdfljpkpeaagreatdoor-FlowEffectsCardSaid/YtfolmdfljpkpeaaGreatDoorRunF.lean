/- Part of a proof of a law, by an evaluator that the machine follows: rules, contracts of functions, what they come to. No condition of its own. -/
import Derived.Test.YtfolmdfljpkpeaaGreatDoorHead
set_option maxRecDepth 1000000
namespace Go.Eng.YtfolmdfljpkpeaaGreatDoor
open Go.Eng
noncomputable section
theorem m6_160 (a0 a1 : V) (o0 o1 : Obj) : R6 false false false false false true false true a0 a1 o0 o1 = true := by kernel_rfl
theorem m6_161 (a0 a1 : V) (o0 o1 : Obj) : R6 true false false false false true false true a0 a1 o0 o1 = true := by kernel_rfl
theorem m6_162 (a0 a1 : V) (o0 o1 : Obj) : R6 false true false false false true false true a0 a1 o0 o1 = true := by kernel_rfl
theorem m6_163 (a0 a1 : V) (o0 o1 : Obj) : R6 true true false false false true false true a0 a1 o0 o1 = true := by kernel_rfl
theorem m6_164 (a0 a1 : V) (o0 o1 : Obj) : R6 false false true false false true false true a0 a1 o0 o1 = true := by kernel_rfl
theorem m6_165 (a0 a1 : V) (o0 o1 : Obj) : R6 true false true false false true false true a0 a1 o0 o1 = true := by kernel_rfl
theorem m6_166 (a0 a1 : V) (o0 o1 : Obj) : R6 false true true false false true false true a0 a1 o0 o1 = true := by kernel_rfl
theorem m6_167 (a0 a1 : V) (o0 o1 : Obj) : R6 true true true false false true false true a0 a1 o0 o1 = true := by kernel_rfl
theorem m6_168 (a0 a1 : V) (o0 o1 : Obj) : R6 false false false true false true false true a0 a1 o0 o1 = true := by kernel_rfl
theorem m6_169 (a0 a1 : V) (o0 o1 : Obj) : R6 true false false true false true false true a0 a1 o0 o1 = true := by kernel_rfl
theorem m6_170 (a0 a1 : V) (o0 o1 : Obj) : R6 false true false true false true false true a0 a1 o0 o1 = true := by kernel_rfl
theorem m6_171 (a0 a1 : V) (o0 o1 : Obj) : R6 true true false true false true false true a0 a1 o0 o1 = true := by kernel_rfl
theorem m6_172 (a0 a1 : V) (o0 o1 : Obj) : R6 false false true true false true false true a0 a1 o0 o1 = true := by kernel_rfl
theorem m6_173 (a0 a1 : V) (o0 o1 : Obj) : R6 true false true true false true false true a0 a1 o0 o1 = true := by kernel_rfl
theorem m6_174 (a0 a1 : V) (o0 o1 : Obj) : R6 false true true true false true false true a0 a1 o0 o1 = true := by kernel_rfl
theorem m6_175 (a0 a1 : V) (o0 o1 : Obj) : R6 true true true true false true false true a0 a1 o0 o1 = true := by kernel_rfl
theorem m6_176 (a0 a1 : V) (o0 o1 : Obj) : R6 false false false false true true false true a0 a1 o0 o1 = true := by kernel_rfl
theorem m6_177 (a0 a1 : V) (o0 o1 : Obj) : R6 true false false false true true false true a0 a1 o0 o1 = true := by kernel_rfl
theorem m6_178 (a0 a1 : V) (o0 o1 : Obj) : R6 false true false false true true false true a0 a1 o0 o1 = true := by kernel_rfl
theorem m6_179 (a0 a1 : V) (o0 o1 : Obj) : R6 true true false false true true false true a0 a1 o0 o1 = true := by kernel_rfl
theorem m6_180 (a0 a1 : V) (o0 o1 : Obj) : R6 false false true false true true false true a0 a1 o0 o1 = true := by kernel_rfl
theorem m6_181 (a0 a1 : V) (o0 o1 : Obj) : R6 true false true false true true false true a0 a1 o0 o1 = true := by kernel_rfl
theorem m6_182 (a0 a1 : V) (o0 o1 : Obj) : R6 false true true false true true false true a0 a1 o0 o1 = true := by kernel_rfl
theorem m6_183 (a0 a1 : V) (o0 o1 : Obj) : R6 true true true false true true false true a0 a1 o0 o1 = true := by kernel_rfl
theorem m6_184 (a0 a1 : V) (o0 o1 : Obj) : R6 false false false true true true false true a0 a1 o0 o1 = true := by kernel_rfl
theorem m6_185 (a0 a1 : V) (o0 o1 : Obj) : R6 true false false true true true false true a0 a1 o0 o1 = true := by kernel_rfl
theorem m6_186 (a0 a1 : V) (o0 o1 : Obj) : R6 false true false true true true false true a0 a1 o0 o1 = true := by kernel_rfl
theorem m6_187 (a0 a1 : V) (o0 o1 : Obj) : R6 true true false true true true false true a0 a1 o0 o1 = true := by kernel_rfl
theorem m6_188 (a0 a1 : V) (o0 o1 : Obj) : R6 false false true true true true false true a0 a1 o0 o1 = true := by kernel_rfl
theorem m6_189 (a0 a1 : V) (o0 o1 : Obj) : R6 true false true true true true false true a0 a1 o0 o1 = true := by kernel_rfl
theorem m6_190 (a0 a1 : V) (o0 o1 : Obj) : R6 false true true true true true false true a0 a1 o0 o1 = true := by kernel_rfl
theorem m6_191 (a0 a1 : V) (o0 o1 : Obj) : R6 true true true true true true false true a0 a1 o0 o1 = true := by kernel_rfl
end
end Go.Eng.YtfolmdfljpkpeaaGreatDoor
