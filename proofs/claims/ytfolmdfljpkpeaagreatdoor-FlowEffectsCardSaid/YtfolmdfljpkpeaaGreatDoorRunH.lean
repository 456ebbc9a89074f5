/- Part of a proof of a law, by an evaluator that the machine follows: rules, contracts of functions, what they come to. No condition of its own. -/
import Derived.Test.YtfolmdfljpkpeaaGreatDoorHead
set_option maxRecDepth 1000000
namespace Go.Eng.YtfolmdfljpkpeaaGreatDoor
open Go.Eng
noncomputable section
theorem m6_224 (a0 a1 : V) (o0 o1 : Obj) : R6 false false false false false true true true a0 a1 o0 o1 = true := by kernel_rfl
theorem m6_225 (a0 a1 : V) (o0 o1 : Obj) : R6 true false false false false true true true a0 a1 o0 o1 = true := by kernel_rfl
theorem m6_226 (a0 a1 : V) (o0 o1 : Obj) : R6 false true false false false true true true a0 a1 o0 o1 = true := by kernel_rfl
theorem m6_227 (a0 a1 : V) (o0 o1 : Obj) : R6 true true false false false true true true a0 a1 o0 o1 = true := by kernel_rfl
theorem m6_228 (a0 a1 : V) (o0 o1 : Obj) : R6 false false true false false true true true a0 a1 o0 o1 = true := by kernel_rfl
theorem m6_229 (a0 a1 : V) (o0 o1 : Obj) : R6 true false true false false true true true a0 a1 o0 o1 = true := by kernel_rfl
theorem m6_230 (a0 a1 : V) (o0 o1 : Obj) : R6 false true true false false true true true a0 a1 o0 o1 = true := by kernel_rfl
theorem m6_231 (a0 a1 : V) (o0 o1 : Obj) : R6 true true true false false true true true a0 a1 o0 o1 = true := by kernel_rfl
theorem m6_232 (a0 a1 : V) (o0 o1 : Obj) : R6 false false false true false true true true a0 a1 o0 o1 = true := by kernel_rfl
theorem m6_233 (a0 a1 : V) (o0 o1 : Obj) : R6 true false false true false true true true a0 a1 o0 o1 = true := by kernel_rfl
theorem m6_234 (a0 a1 : V) (o0 o1 : Obj) : R6 false true false true false true true true a0 a1 o0 o1 = true := by kernel_rfl
theorem m6_235 (a0 a1 : V) (o0 o1 : Obj) : R6 true true false true false true true true a0 a1 o0 o1 = true := by kernel_rfl
theorem m6_236 (a0 a1 : V) (o0 o1 : Obj) : R6 false false true true false true true true a0 a1 o0 o1 = true := by kernel_rfl
theorem m6_237 (a0 a1 : V) (o0 o1 : Obj) : R6 true false true true false true true true a0 a1 o0 o1 = true := by kernel_rfl
theorem m6_238 (a0 a1 : V) (o0 o1 : Obj) : R6 false true true true false true true true a0 a1 o0 o1 = true := by kernel_rfl
theorem m6_239 (a0 a1 : V) (o0 o1 : Obj) : R6 true true true true false true true true a0 a1 o0 o1 = true := by kernel_rfl
theorem m6_240 (a0 a1 : V) (o0 o1 : Obj) : R6 false false false false true true true true a0 a1 o0 o1 = true := by kernel_rfl
theorem m6_241 (a0 a1 : V) (o0 o1 : Obj) : R6 true false false false true true true true a0 a1 o0 o1 = true := by kernel_rfl
theorem m6_242 (a0 a1 : V) (o0 o1 : Obj) : R6 false true false false true true true true a0 a1 o0 o1 = true := by kernel_rfl
theorem m6_243 (a0 a1 : V) (o0 o1 : Obj) : R6 true true false false true true true true a0 a1 o0 o1 = true := by kernel_rfl
theorem m6_244 (a0 a1 : V) (o0 o1 : Obj) : R6 false false true false true true true true a0 a1 o0 o1 = true := by kernel_rfl
theorem m6_245 (a0 a1 : V) (o0 o1 : Obj) : R6 true false true false true true true true a0 a1 o0 o1 = true := by kernel_rfl
theorem m6_246 (a0 a1 : V) (o0 o1 : Obj) : R6 false true true false true true true true a0 a1 o0 o1 = true := by kernel_rfl
theorem m6_247 (a0 a1 : V) (o0 o1 : Obj) : R6 true true true false true true true true a0 a1 o0 o1 = true := by kernel_rfl
theorem m6_248 (a0 a1 : V) (o0 o1 : Obj) : R6 false false false true true true true true a0 a1 o0 o1 = true := by kernel_rfl
theorem m6_249 (a0 a1 : V) (o0 o1 : Obj) : R6 true false false true true true true true a0 a1 o0 o1 = true := by kernel_rfl
theorem m6_250 (a0 a1 : V) (o0 o1 : Obj) : R6 false true false true true true true true a0 a1 o0 o1 = true := by kernel_rfl
theorem m6_251 (a0 a1 : V) (o0 o1 : Obj) : R6 true true false true true true true true a0 a1 o0 o1 = true := by kernel_rfl
theorem m6_252 (a0 a1 : V) (o0 o1 : Obj) : R6 false false true true true true true true a0 a1 o0 o1 = true := by kernel_rfl
theorem m6_253 (a0 a1 : V) (o0 o1 : Obj) : R6 true false true true true true true true a0 a1 o0 o1 = true := by kernel_rfl
theorem m6_254 (a0 a1 : V) (o0 o1 : Obj) : R6 false true true true true true true true a0 a1 o0 o1 = true := by kernel_rfl
theorem m6_255 (a0 a1 : V) (o0 o1 : Obj) : R6 true true true true true true true true a0 a1 o0 o1 = true := by kernel_rfl
end
end Go.Eng.YtfolmdfljpkpeaaGreatDoor
