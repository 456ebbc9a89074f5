/- Part of a proof of a law, by an evaluator that the machine follows: rules, contracts of functions, what they come to. No condition of its own. -/
import Derived.Test.YtjgmahbgfbkhnaaConH
import Derived.Test.YtjgmahbgfbkhnaaRunA
import Derived.Test.YtjgmahbgfbkhnaaSymJ
set_option linter.unusedVariables false
set_option linter.unusedSimpArgs false
set_option maxRecDepth 1000000
namespace Go.Eng.Ytjgmahbgfbkhnaa
open Go.Eng Go.Proofs
noncomputable section
theorem hasR : HasR ctxM := by constructor <;> rfl
theorem hasG : HasG ctxM := { f53 := rfl, f54 := rfl, r := hasR }
theorem hasH : HasH ctxM := { f28 := rfl, f30 := rfl, g := hasG }
theorem hasI : HasI ctxM := { f13 := rfl, h := hasH }
theorem hasK : HasK ctxM := { f3 := rfl, f10 := rfl, f11 := yesM, f15 := rfl, m := hasM, s := hasS, i := hasI }
theorem runMakes {l : List Prm} {a : V} {o : Obj} (hb : FArg 0 (l.map prow) a o) : RunP ctxM 3 [a] (heap1 o) fun v _ => v = .bool true :=
  makes_c hasK ((St.heap1 o).imp0 fun _ ho => PRows.arg hb ho)
theorem law3 {w : World} (hw : 0 < w.heap.size) {v : Value} (hv : Flat 3 pval w v) : Calls Try.prog 3 #[v] w fun e w' => e = .returned (.bool true) ∧ Kept w w' :=
  law_runsF penc (P := Try.prog) mixed chkB chkdAll moreOk (fun _ _ _ hb => runMakes hb) hw hv
end
end Go.Eng.Ytjgmahbgfbkhnaa
