/- Part of a proof of a law, by an evaluator that the machine follows: rules, contracts of functions, what they come to. No condition of its own. -/
import Derived.Test.YtfolmdfljpkpeaaGreatDoorHead
set_option maxRecDepth 1000000
namespace Go.Eng.YtfolmdfljpkpeaaGreatDoor
open Go.Eng
noncomputable section
theorem m6_192 (a0 a1 : V) (o0 o1 : Obj) : R6 false false false false false false true true a0 a1 o0 o1 = true := by kernel_rfl
theorem m6_193 (a0 a1 : V) (o0 o1 : Obj) : R6 true false false false false false true true a0 a1 o0 o1 = true := by kernel_rfl
theorem m6_194 (a0 a1 : V) (o0 o1 : Obj) : R6 false true false false false false true true a0 a1 o0 o1 = true := by kernel_rfl
theorem m6_195 (a0 a1 : V) (o0 o1 : Obj) : R6 true true false false false false true true a0 a1 o0 o1 = true := by kernel_rfl
theorem m6_196 (a0 a1 : V) (o0 o1 : Obj) : R6 false false true false false false true true a0 a1 o0 o1 = true := by kernel_rfl
theorem m6_197 (a0 a1 : V) (o0 o1 : Obj) : R6 true false true false false false true true a0 a1 o0 o1 = true := by kernel_rfl
theorem m6_198 (a0 a1 : V) (o0 o1 : Obj) : R6 false true true false false false true true a0 a1 o0 o1 = true := by kernel_rfl
theorem m6_199 (a0 a1 : V) (o0 o1 : Obj) : R6 true true true false false false true true a0 a1 o0 o1 = true := by kernel_rfl
theorem m6_200 (a0 a1 : V) (o0 o1 : Obj) : R6 false false false true false false true true a0 a1 o0 o1 = true := by kernel_rfl
theorem m6_201 (a0 a1 : V) (o0 o1 : Obj) : R6 true false false true false false true true a0 a1 o0 o1 = true := by kernel_rfl
theorem m6_202 (a0 a1 : V) (o0 o1 : Obj) : R6 false true false true false false true true a0 a1 o0 o1 = true := by kernel_rfl
theorem m6_203 (a0 a1 : V) (o0 o1 : Obj) : R6 true true false true false false true true a0 a1 o0 o1 = true := by kernel_rfl
theorem m6_204 (a0 a1 : V) (o0 o1 : Obj) : R6 false false true true false false true true a0 a1 o0 o1 = true := by kernel_rfl
theorem m6_205 (a0 a1 : V) (o0 o1 : Obj) : R6 true false true true false false true true a0 a1 o0 o1 = true := by kernel_rfl
theorem m6_206 (a0 a1 : V) (o0 o1 : Obj) : R6 false true true true false false true true a0 a1 o0 o1 = true := by kernel_rfl
theorem m6_207 (a0 a1 : V) (o0 o1 : Obj) : R6 true true true true false false true true a0 a1 o0 o1 = true := by kernel_rfl
theorem m6_208 (a0 a1 : V) (o0 o1 : Obj) : R6 false false false false true false true true a0 a1 o0 o1 = true := by kernel_rfl
theorem m6_209 (a0 a1 : V) (o0 o1 : Obj) : R6 true false false false true false true true a0 a1 o0 o1 = true := by kernel_rfl
theorem m6_210 (a0 a1 : V) (o0 o1 : Obj) : R6 false true false false true false true true a0 a1 o0 o1 = true := by kernel_rfl
theorem m6_211 (a0 a1 : V) (o0 o1 : Obj) : R6 true true false false true false true true a0 a1 o0 o1 = true := by kernel_rfl
theorem m6_212 (a0 a1 : V) (o0 o1 : Obj) : R6 false false true false true false true true a0 a1 o0 o1 = true := by kernel_rfl
theorem m6_213 (a0 a1 : V) (o0 o1 : Obj) : R6 true false true false true false true true a0 a1 o0 o1 = true := by kernel_rfl
theorem m6_214 (a0 a1 : V) (o0 o1 : Obj) : R6 false true true false true false true true a0 a1 o0 o1 = true := by kernel_rfl
theorem m6_215 (a0 a1 : V) (o0 o1 : Obj) : R6 true true true false true false true true a0 a1 o0 o1 = true := by kernel_rfl
theorem m6_216 (a0 a1 : V) (o0 o1 : Obj) : R6 false false false true true false true true a0 a1 o0 o1 = true := by kernel_rfl
theorem m6_217 (a0 a1 : V) (o0 o1 : Obj) : R6 true false false true true false true true a0 a1 o0 o1 = true := by kernel_rfl
theorem m6_218 (a0 a1 : V) (o0 o1 : Obj) : R6 false true false true true false true true a0 a1 o0 o1 = true := by kernel_rfl
theorem m6_219 (a0 a1 : V) (o0 o1 : Obj) : R6 true true false true true false true true a0 a1 o0 o1 = true := by kernel_rfl
theorem m6_220 (a0 a1 : V) (o0 o1 : Obj) : R6 false false true true true false true true a0 a1 o0 o1 = true := by kernel_rfl
theorem m6_221 (a0 a1 : V) (o0 o1 : Obj) : R6 true false true true true false true true a0 a1 o0 o1 = true := by kernel_rfl
theorem m6_222 (a0 a1 : V) (o0 o1 : Obj) : R6 false true true true true false true true a0 a1 o0 o1 = true := by kernel_rfl
theorem m6_223 (a0 a1 : V) (o0 o1 : Obj) : R6 true true true true true false true true a0 a1 o0 o1 = true := by kernel_rfl
end
end Go.Eng.YtfolmdfljpkpeaaGreatDoor
