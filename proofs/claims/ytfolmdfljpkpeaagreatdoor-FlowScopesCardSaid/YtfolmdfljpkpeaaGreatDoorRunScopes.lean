/- Part of a proof of a law, by an evaluator that the machine follows: rules, contracts of functions, what they come to. No condition of its own. -/
import Derived.Test.YtfolmdfljpkpeaaGreatDoorRunB
set_option maxRecDepth 1000000
namespace Go.Eng.YtfolmdfljpkpeaaGreatDoor
open Go.Eng
noncomputable section
theorem all7 : ∀ r, r < 17 → ∀ a : Nat, isTrue (endCall i7.results (code r7 (lev ctx 59) maxRounds (Env.set .d0 .d0 (.int .u8 (.ofNat a)) (envOf (st7 r))) (heapOf (st7 r)))) = true := by
  intro r hr a
  match r, hr with
  | 0, _ => exact c7_0 a
  | 1, _ => exact c7_1 a
  | 2, _ => exact c7_2 a
  | 3, _ => exact c7_3 a
  | 4, _ => exact c7_4 a
  | 5, _ => exact c7_5 a
  | 6, _ => exact c7_6 a
  | 7, _ => exact c7_7 a
  | 8, _ => exact c7_8 a
  | 9, _ => exact c7_9 a
  | 10, _ => exact c7_10 a
  | 11, _ => exact c7_11 a
  | 12, _ => exact c7_12 a
  | 13, _ => exact c7_13 a
  | 14, _ => exact c7_14 a
  | 15, _ => exact c7_15 a
  | 16, _ => exact c7_16 a
  | n + 17, h => exact absurd h (by omega)

theorem run7 (a : Nat) (ha : a < 256) : isTrue (lev ctx 60 7 [.int .u8 (.ofNat a)] .none Heap.empty).1 = true := by
  have h := allBelow_at pre7 a ha
  have h1 := Bool.and_of h; have h2 := Bool.and_of h1.2
  have e1 := Env.same_eq h2.1
  have e2 := Heap.same_eq h2.2
  have e0 : (lev ctx 60 7 [.int .u8 (.ofNat a)] .none Heap.empty).1 = runFun i7 (lev ctx 59) [.int .u8 (.ofNat a)] Heap.empty := by kernel_rfl
  rw [e0, runFun_split body7 (by kernel_rfl) h1.1]
  show isTrue (endCall i7.results (code r7 (lev ctx 59) maxRounds (envOf (st7 a)) (heapOf (st7 a)))) = true
  rw [e1, e2]
  exact all7 (a.mod 17) (Nat.mod_lt _ (by decide)) a
end
end Go.Eng.YtfolmdfljpkpeaaGreatDoor
