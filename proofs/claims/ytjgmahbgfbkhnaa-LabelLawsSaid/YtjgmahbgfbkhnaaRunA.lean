/- Part of a proof of a law, by an evaluator that the machine follows: rules, contracts of functions, what they come to. No condition of its own. -/
import Derived.Test.YtjgmahbgfbkhnaaConI
import Derived.Test.YtjgmahbgfbkhnaaBaseA
set_option linter.unusedVariables false
set_option linter.unusedSimpArgs false
set_option maxRecDepth 1000000
namespace Go.Eng.Ytjgmahbgfbkhnaa
open Go.Eng
noncomputable section
theorem hasLab : HasF ctxM := by constructor <;> rfl
theorem sortM : ∀ args h r, moreSort 24 24 args h = r → r ≠ .bad → Runs ctxM 24 args h r := by
  intro args h r e hr
  exact Runs.more (c := ctxM) rfl rfl rfl (more2_left ((more2_right rfl).trans e) hr)
theorem hasM : HasM ctxM := { f12 := rfl, f18 := rfl, f25 := rfl, f35 := rfl, f24 := sortM, f26 := rfl, lab := hasLab }
theorem hasS : HasS ctxM := by constructor <;> rfl
theorem yesM (h : Heap) : RunP ctxM 11 [] h fun v h1 => v = .bool true ∧ h1 = h :=
  ⟨_, _, Runs.more (c := ctxM) (r := .ok (.bool true) h) rfl rfl rfl ((more2_right ((more2_right rfl).trans rfl)).trans rfl), rfl, rfl⟩
end
end Go.Eng.Ytjgmahbgfbkhnaa
set_option maxRecDepth 1000000
namespace Go.Eng.Ytjgmahbgfbkhnaa
open Go.Eng Go.Proofs
noncomputable section
theorem hasR : HasR ctxM := by constructor <;> rfl
theorem hasG : HasG ctxM := { f53 := rfl, f54 := rfl, r := hasR }
theorem hasH : HasH ctxM := { f28 := rfl, f30 := rfl, g := hasG }
theorem hasT : HasT ctxM := by constructor <;> rfl
theorem hasU : HasU ctxM := { f22 := rfl, f23 := rfl, t := hasT, s := hasS, l := hasH, f26 := rfl, f := hasLab }
theorem hasW : HasW ctxM := { f8 := rfl, f11 := yesM, f15 := rfl, m := hasM, s := hasS, u := hasU }
theorem runLaws {l : List UInt8} {a : V} {o : Obj} (hb : BArg 0 l a o) {x y z : Nat} (hx : x < 256) (hy : y < 256) (hz : z < 256) : RunP ctxM 8 [a, .int .u8 (x : Int), .int .u8 (y : Int), .int .u8 (z : Int)] (heap1 o) fun v _ => v = .bool true :=
  laws_c hasW hx hy hz ((St.heap1 o).imp0 fun _ ho => ByRows.of hb ho)
theorem nat_u8 {a : Int} (w : (Lit.int .u8 a).wf = true) : ∃ n : Nat, a = (n : Int) ∧ n < 256 := by
  have h : (decide (IntKind.min .u8 ≤ a) && decide (a ≤ IntKind.max .u8)) = true := w
  have e1 : IntKind.min .u8 = 0 := by decide
  have e2 : IntKind.max .u8 = 255 := by decide
  rw [e1, e2] at h
  simp at h
  exact ⟨a.toNat, by omega, by omega⟩
theorem law8 {w : World} (hw : 0 < w.heap.size) {v : Value} (hv : Bytes w v) {a1 a2 a3 : Int} (w1 : (Lit.int .u8 a1).wf = true) (w2 : (Lit.int .u8 a2).wf = true) (w3 : (Lit.int .u8 a3).wf = true) :
    Calls Try.prog 8 #[v, .int .u8 a1, .int .u8 a2, .int .u8 a3] w fun e w' => e = .returned (.bool true) ∧ Kept w w' := by
  obtain ⟨x, rfl, hx⟩ := nat_u8 w1
  obtain ⟨y, rfl, hy⟩ := nat_u8 w2
  obtain ⟨z, rfl, hz⟩ := nat_u8 w3
  obtain ⟨l, a, o, B, hb, ha⟩ := bytes_arg hw 0 hv
  exact law_runsA mixed chkB chkdAll moreOk inj1_lt (good1 ha) (runLaws hb hx hy hz) ⟨v, _, rfl, ha.rel _ rfl, _, _, rfl, rfl, _, _, rfl, rfl, _, _, rfl, rfl, rfl⟩
end
end Go.Eng.Ytjgmahbgfbkhnaa
