/- Part of a proof of a law, by an evaluator that the machine follows: rules, contracts of functions, what they come to. No condition of its own. -/
import Derived.Test.YtbokieoaabpjfaaGreatDoorRunB
set_option maxRecDepth 1000000
namespace Go.Eng.YtbokieoaabpjfaaGreatDoor
open Go.Eng
noncomputable section
theorem all10 (k : Nat) (h1 : 20 ≤ k) (h2 : k < 40) (n : V) (x : Bool) : end10 n x k = true := by
  rcases (by omega : k = 20 ∨ k = 21 ∨ k = 22 ∨ k = 23 ∨ k = 24 ∨ k = 25 ∨ k = 26 ∨ k = 27 ∨ k = 28 ∨ k = 29 ∨ k = 30 ∨ k = 31 ∨ k = 32 ∨ k = 33 ∨ k = 34 ∨ k = 35 ∨ k = 36 ∨ k = 37 ∨ k = 38 ∨ k = 39) with rfl | rfl | rfl | rfl | rfl | rfl | rfl | rfl | rfl | rfl | rfl | rfl | rfl | rfl | rfl | rfl | rfl | rfl | rfl | rfl
  · cases x; exact c10_20_false n; exact c10_20_true n
  · cases x; exact c10_21_false n; exact c10_21_true n
  · cases x; exact c10_22_false n; exact c10_22_true n
  · cases x; exact c10_23_false n; exact c10_23_true n
  · cases x; exact c10_24_false n; exact c10_24_true n
  · cases x; exact c10_25_false n; exact c10_25_true n
  · cases x; exact c10_26_false n; exact c10_26_true n
  · cases x; exact c10_27_false n; exact c10_27_true n
  · cases x; exact c10_28_false n; exact c10_28_true n
  · cases x; exact c10_29_false n; exact c10_29_true n
  · cases x; exact c10_30_false n; exact c10_30_true n
  · cases x; exact c10_31_false n; exact c10_31_true n
  · cases x; exact c10_32_false n; exact c10_32_true n
  · cases x; exact c10_33_false n; exact c10_33_true n
  · cases x; exact c10_34_false n; exact c10_34_true n
  · cases x; exact c10_35_false n; exact c10_35_true n
  · cases x; exact c10_36_false n; exact c10_36_true n
  · cases x; exact c10_37_false n; exact c10_37_true n
  · cases x; exact c10_38_false n; exact c10_38_true n
  · cases x; exact c10_39_false n; exact c10_39_true n
theorem head10 (n : Nat) (hn : n < 256) (x : V) (c : C) (call : CallT) : code (.seq p10_0 (.seq p10_1 c)) call maxRounds (argsP [.int .u8 (.ofNat n), x] 0 Env.nil) Heap.empty = code c call maxRounds (e10 (.int .u8 (.ofNat n)) x (20 + n % 20)) Heap.empty := by
  have s0 : code p10_0 call maxRounds (argsP [.int .u8 (.ofNat n), x] 0 Env.nil) Heap.empty = .ok .nrm (Env.set .d0 .d2 (.bool false) (argsP [.int .u8 (.ofNat n), x] 0 Env.nil)) Heap.empty := by
    unfold p10_0
    rw [code_reg, opsN_s (v := .bool false) rfl, opsN_nil]
  rw [code_seq s0]
  have s1 : code p10_1 call maxRounds (Env.set .d0 .d2 (.bool false) (argsP [.int .u8 (.ofNat n), x] 0 Env.nil)) Heap.empty = .ok .nrm (e10 (.int .u8 (.ofNat n)) x (20 + n % 20)) Heap.empty := by
    unfold p10_1
    rw [code_reg, opsN_p (v := .int .i64 (n : Int)) (L.conv64 rfl (And.intro (by omega) (by omega))), opsN_p (v := .int .i64 ((n % 20 : Nat) : Int)) (L.rem (b := 20) rfl rfl rfl (by decide)),
      opsN_s (v := .int .i64 ((20 + n % 20 : Nat) : Int)) (L.addE rfl rfl (by omega) (And.intro (by omega) (by omega))), opsN_nil]
    rfl
  rw [code_seq s1]
theorem run10 (n : Nat) (hn : n < 256) (x : Bool) : isTrue (lev ctx 60 10 [.int .u8 (.ofNat n), .bool x] .none Heap.empty).1 = true := by
  have e0 : (lev ctx 60 10 [.int .u8 (.ofNat n), .bool x] .none Heap.empty).1 = runFun i10 (lev ctx 59) [.int .u8 (.ofNat n), .bool x] Heap.empty := by kernel_rfl
  rw [e0, runFun_body (by kernel_rfl), body10, head10 n hn]
  exact all10 (20 + n % 20) (by omega) (by omega) _ x
end
end Go.Eng.YtbokieoaabpjfaaGreatDoor
