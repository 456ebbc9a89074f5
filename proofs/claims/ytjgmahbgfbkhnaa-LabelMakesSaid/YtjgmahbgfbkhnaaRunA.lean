/- Part of a proof of a law, by an evaluator that the machine follows: rules, contracts of functions, what they come to. No condition of its own. -/
import Derived.Test.YtjgmahbgfbkhnaaConF
import Derived.Test.YtjgmahbgfbkhnaaBaseA
set_option linter.unusedVariables false
set_option linter.unusedSimpArgs false
set_option maxRecDepth 1000000
namespace Go.Eng.Ytjgmahbgfbkhnaa
open Go.Eng
noncomputable section
theorem hasLab : HasF ctxM := by constructor <;> rfl
theorem sortM : ∀ args h r, moreSort 24 24 args h = r → r ≠ .bad → Runs ctxM 24 args h r := by
  intro args h r e hr
  exact Runs.more (c := ctxM) rfl rfl rfl (more2_left ((more2_right rfl).trans e) hr)
theorem hasM : HasM ctxM := { f12 := rfl, f18 := rfl, f25 := rfl, f35 := rfl, f24 := sortM, f26 := rfl, lab := hasLab }
theorem hasS : HasS ctxM := by constructor <;> rfl
theorem yesM (h : Heap) : RunP ctxM 11 [] h fun v h1 => v = .bool true ∧ h1 = h :=
  ⟨_, _, Runs.more (c := ctxM) (r := .ok (.bool true) h) rfl rfl rfl ((more2_right ((more2_right rfl).trans rfl)).trans rfl), rfl, rfl⟩
end
end Go.Eng.Ytjgmahbgfbkhnaa
