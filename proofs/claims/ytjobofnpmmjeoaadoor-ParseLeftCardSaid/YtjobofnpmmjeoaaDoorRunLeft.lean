/- The law ParseLeft's function returns true for every row of bytes, by the evaluator's contracts. No condition. -/
import Derived.Test.YtjobofnpmmjeoaaDoorLeft
import Derived.Test.YtjobofnpmmjeoaaDoorBase
set_option linter.unusedVariables false
set_option linter.unusedSimpArgs false
set_option maxRecDepth 1000000
namespace Go.Eng.YtjobofnpmmjeoaaDoor
open Go.Eng
noncomputable section
theorem runLeft {l : List UInt8} {a : V} {o : Obj} (hb : BArg 0 l a o) : RunP (Ctx.of funs dfuns (moreIdx 56)) 6 [a] (heap1 o) fun v _ => v = .bool true := by
  cases hb with
  | nil =>
    obtain ⟨v, h1, hr, hv, _⟩ := left0_c (c := ctxS) hasF rfl rfl hasD (St.heap1 .dead)
    exact ⟨v, h1, hr, hv⟩
  | zero =>
    obtain ⟨v, h1, hr, hv, _⟩ := left1_c (c := ctxS) hasF rfl rfl hasD (St.heap1 .dead)
    exact ⟨v, h1, hr, hv⟩
  | some hne cap =>
    cases l with
    | nil => exact absurd rfl hne
    | cons b0 bs =>
      obtain ⟨v, h1, hr, hv, _⟩ := left_c (c := ctxS) hasF rfl rfl rfl hasD (cap := cap) (St.heap1 _)
      exact ⟨v, h1, hr, hv⟩
end
end Go.Eng.YtjobofnpmmjeoaaDoor
