/- Part of a proof of a law, by an evaluator that the machine follows: rules, contracts of functions, what they come to. No condition of its own. -/
import Derived.Test.YtjgmahbgfbkhnaaConF
import Derived.Test.YtjgmahbgfbkhnaaBaseA
set_option linter.unusedVariables false
set_option linter.unusedSimpArgs false
set_option maxRecDepth 1000000
namespace Go.Eng.Ytjgmahbgfbkhnaa
open Go.Eng
noncomputable section
theorem hasLab : HasF ctxM := by constructor <;> rfl
theorem sortM : ∀ args h r, moreSort 24 24 args h = r → r ≠ .bad → Runs ctxM 24 args h r := by
  intro args h r e hr
  exact Runs.more (c := ctxM) rfl rfl rfl (more2_left ((more2_right rfl).trans e) hr)
theorem hasM : HasM ctxM := { f12 := rfl, f18 := rfl, f25 := rfl, f35 := rfl, f24 := sortM, f26 := rfl, lab := hasLab }
theorem hasS : HasS ctxM := by constructor <;> rfl
theorem yesM (h : Heap) : RunP ctxM 11 [] h fun v h1 => v = .bool true ∧ h1 = h :=
  ⟨_, _, Runs.more (c := ctxM) (r := .ok (.bool true) h) rfl rfl rfl ((more2_right ((more2_right rfl).trans rfl)).trans rfl), rfl, rfl⟩
theorem hasO : HasO ctxM := { f5 := rfl, f11 := yesM, m := hasM, s := hasS }
theorem runOrders {l : List UInt8} {a : V} {o : Obj} (hb : BArg 0 l a o) : RunP ctxM 5 [a] (heap1 o) fun v _ => v = .bool true :=
  orders_c hasO ((St.heap1 o).imp0 fun _ ho => ByRows.of hb ho)
end
end Go.Eng.Ytjgmahbgfbkhnaa
namespace Go.Eng.Ytjgmahbgfbkhnaa
open Go.Eng Go.Proofs
theorem law5 {w : World} (hw : 0 < w.heap.size) {v : Value} (hv : Bytes w v) : Calls Try.prog 5 #[v] w fun e w' => e = .returned (.bool true) ∧ Kept w w' :=
  law_runsB (P := Try.prog) mixed chkB chkdAll moreOk (fun _ _ _ hb => runOrders hb) hw hv
end Go.Eng.Ytjgmahbgfbkhnaa
