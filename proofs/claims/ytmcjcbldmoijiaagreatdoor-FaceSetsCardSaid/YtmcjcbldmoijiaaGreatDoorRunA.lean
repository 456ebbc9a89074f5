/- Part of a proof of a law, by an evaluator that the machine follows: rules, contracts of functions, what they come to. No condition of its own. -/
import Derived.Test.YtmcjcbldmoijiaaGreatDoorConB
import Derived.Test.YtmcjcbldmoijiaaGreatDoorBaseA
set_option linter.unusedVariables false
set_option linter.unusedSimpArgs false
set_option maxRecDepth 1000000
namespace Go.Eng.YtmcjcbldmoijiaaGreatDoor
open Go.Eng Go.Proofs
noncomputable section
theorem hasA : HasA ctxM := by constructor <;> rfl
theorem hasB : HasB ctxM := { f74 := rfl, f78 := rfl, f44 := rfl, f45 := rfl, f17 := rfl, sort := sortM, grow := growM }
theorem hasC : HasC ctxM := { f5 := rfl, yes := yesM, a := hasA, b := hasB }
theorem law5 {w : World} (hw : 0 < w.heap.size) {v0 v1 : Value} (h0 : Flat 1 sval w v0) (h1 : Flat 1 sval w v1) : Calls Tryz.prog 5 #[v0, v1] w fun e w' => e = .returned (.bool true) ∧ Kept w w' :=
  law_runsS2 mixed chkB chkdAll moreOk (fun _ _ _ _ _ st => sets_c hasC st) hw h0 h1
end
end Go.Eng.YtmcjcbldmoijiaaGreatDoor
