/- Part of a proof of a law, by an evaluator that the machine follows: rules, contracts of functions, what they come to. No condition of its own. -/
import Derived.Test.YtfapefhnicdncaaConE
import Derived.Test.YtfapefhnicdncaaBaseA
import Derived.Test.YtfapefhnicdncaaSymB
set_option linter.unusedVariables false
set_option linter.unusedSimpArgs false
set_option maxRecDepth 1000000
namespace Go.Eng.Ytfapefhnicdncaa
open Go.Eng Go.Proofs
noncomputable section
theorem sortM : ∀ args h r, moreSort 14 14 args h = r → r ≠ .bad → Runs ctxM 14 args h r := by
  intro args h r e hr
  exact Runs.more (c := ctxM) rfl rfl rfl (more2_left ((more2_right rfl).trans e) hr)
theorem rdyM : ∀ args h r, moreRdy 15 15 args h = r → r ≠ .bad → Runs ctxM 15 args h r := by
  intro args h r e hr
  exact Runs.more (c := ctxM) rfl rfl rfl (more2_left (more2_left e hr) hr)
theorem yesM (h : Heap) : RunP ctxM 9 [] h fun v h1 => v = .bool true ∧ h1 = h :=
  ⟨_, _, Runs.more (c := ctxM) (r := .ok (.bool true) h) rfl rfl rfl ((more2_right ((more2_right rfl).trans rfl)).trans rfl), rfl, rfl⟩
theorem hasL : HasL ctxM := by constructor <;> rfl
theorem hasWy : HasWy ctxM := by constructor <;> rfl
theorem hasFm : HasFm ctxM := { f8 := rfl, f10 := rfl, f11 := rfl, f13 := rfl, f18 := rfl, f19 := rfl, w := hasWy }
theorem hasOd : HasOd ctxM := { f6 := rfl, f16 := rfl, f17 := rfl, f14 := sortM, f15 := rdyM, fm := hasFm }
theorem nat_u8 {a : Int} (w : (Lit.int .u8 a).wf = true) : ∃ n : Nat, a = (n : Int) ∧ n < 256 := by
  have h : (decide (IntKind.min .u8 ≤ a) && decide (a ≤ IntKind.max .u8)) = true := w
  have e1 : IntKind.min .u8 = 0 := by decide
  have e2 : IntKind.max .u8 = 255 := by decide
  rw [e1, e2] at h
  simp at h
  exact ⟨a.toNat, by omega, by omega⟩
theorem hasTn : HasTn ctxM := { f3 := rfl, f7 := rfl, f9 := yesM, l := hasL, o := hasOd }
theorem bytes_arg0 {w : World} (j : Nat) {v : Value} (hw : v = .slice none 0 0 ∨ 0 < w.heap.size) (hv : Bytes w v) : ∃ (l : List UInt8) (a : V) (o : Obj) (B : Option Blk), BArg j l a o ∧ Arg w j v a o B := by
  rcases hw with rfl | hw
  · exact ⟨[], .slN, .dead, none, .nil, fun ι _ => rfl, fun _ B' e => (by cases e), fun B' e => (by cases e), fun B' e => (by cases e)⟩
  · exact bytes_arg hw j hv
theorem law3 {w : World} {v : Value} (hw : v = .slice none 0 0 ∨ 0 < w.heap.size) {a0 : Int} (w0 : (Lit.int .u8 a0).wf = true) (hv : Bytes w v) :
    Calls Try.prog 3 #[.int .u8 a0, v] w fun e w' => e = .returned (.bool true) ∧ Kept w w' := by
  obtain ⟨n, rfl, hn⟩ := nat_u8 w0
  obtain ⟨l, a, o, B, hb, ha⟩ := bytes_arg0 0 hw hv
  exact law_runsA mixed chkB chkdAll moreOk inj1_lt (good1 ha) (turned_c hasTn hn ((St.heap1 o).imp0 fun _ ho => ByRows.of hb ho)) ⟨_, _, rfl, rfl, v, _, rfl, ha.rel _ rfl, rfl⟩
end
end Go.Eng.Ytfapefhnicdncaa
