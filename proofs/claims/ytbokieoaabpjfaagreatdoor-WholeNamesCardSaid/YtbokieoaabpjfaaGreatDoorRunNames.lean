/- Part of a proof of a law, by an evaluator that the machine follows: rules, contracts of functions, what they come to. No condition of its own. -/
import Derived.Test.YtbokieoaabpjfaaGreatDoorRunB
set_option maxRecDepth 1000000
namespace Go.Eng.YtbokieoaabpjfaaGreatDoor
open Go.Eng
noncomputable section
theorem all9 : ∀ r, r < 26 → ∀ a : Nat, isTrue (endCall i9.results (code r9 (lev ctx 59) maxRounds (Env.set .d0 .d0 (.int .u8 (.ofNat a)) (envOf (st9 r))) (heapOf (st9 r)))) = true := by
  intro r hr a
  match r, hr with
  | 0, _ => exact c9_0 a
  | 1, _ => exact c9_1 a
  | 2, _ => exact c9_2 a
  | 3, _ => exact c9_3 a
  | 4, _ => exact c9_4 a
  | 5, _ => exact c9_5 a
  | 6, _ => exact c9_6 a
  | 7, _ => exact c9_7 a
  | 8, _ => exact c9_8 a
  | 9, _ => exact c9_9 a
  | 10, _ => exact c9_10 a
  | 11, _ => exact c9_11 a
  | 12, _ => exact c9_12 a
  | 13, _ => exact c9_13 a
  | 14, _ => exact c9_14 a
  | 15, _ => exact c9_15 a
  | 16, _ => exact c9_16 a
  | 17, _ => exact c9_17 a
  | 18, _ => exact c9_18 a
  | 19, _ => exact c9_19 a
  | 20, _ => exact c9_20 a
  | 21, _ => exact c9_21 a
  | 22, _ => exact c9_22 a
  | 23, _ => exact c9_23 a
  | 24, _ => exact c9_24 a
  | 25, _ => exact c9_25 a
  | n + 26, h => exact absurd h (by omega)

theorem run9 (a : Nat) (ha : a < 256) : isTrue (lev ctx 60 9 [.int .u8 (.ofNat a)] .none Heap.empty).1 = true := by
  have h := allBelow_at pre9 a ha
  have h1 := Bool.and_of h; have h2 := Bool.and_of h1.2
  have e1 := Env.same_eq h2.1
  have e2 := Heap.same_eq h2.2
  have e0 : (lev ctx 60 9 [.int .u8 (.ofNat a)] .none Heap.empty).1 = runFun i9 (lev ctx 59) [.int .u8 (.ofNat a)] Heap.empty := by kernel_rfl
  rw [e0, runFun_split body9 (by kernel_rfl) h1.1]
  show isTrue (endCall i9.results (code r9 (lev ctx 59) maxRounds (envOf (st9 a)) (heapOf (st9 a)))) = true
  rw [e1, e2]
  exact all9 (a.mod 26) (Nat.mod_lt _ (by decide)) a
end
end Go.Eng.YtbokieoaabpjfaaGreatDoor
