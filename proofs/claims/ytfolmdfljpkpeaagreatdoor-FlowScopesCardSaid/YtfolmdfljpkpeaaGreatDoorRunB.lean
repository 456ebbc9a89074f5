/- Part of a proof of a law, by an evaluator that the machine follows: rules, contracts of functions, what they come to. No condition of its own. -/
import Derived.Test.YtfolmdfljpkpeaaGreatDoorRunA
set_option maxRecDepth 1000000
namespace Go.Eng.YtfolmdfljpkpeaaGreatDoor
open Go.Eng
noncomputable section
theorem c7_8 (a : Nat) : isTrue (endCall i7.results (code r7 (lev ctx 59) maxRounds (Env.set .d0 .d0 (.int .u8 (.ofNat a)) (envOf (st7 8))) (heapOf (st7 8)))) = true := by kernel_rfl
theorem c7_9 (a : Nat) : isTrue (endCall i7.results (code r7 (lev ctx 59) maxRounds (Env.set .d0 .d0 (.int .u8 (.ofNat a)) (envOf (st7 9))) (heapOf (st7 9)))) = true := by kernel_rfl
theorem c7_10 (a : Nat) : isTrue (endCall i7.results (code r7 (lev ctx 59) maxRounds (Env.set .d0 .d0 (.int .u8 (.ofNat a)) (envOf (st7 10))) (heapOf (st7 10)))) = true := by kernel_rfl
theorem c7_11 (a : Nat) : isTrue (endCall i7.results (code r7 (lev ctx 59) maxRounds (Env.set .d0 .d0 (.int .u8 (.ofNat a)) (envOf (st7 11))) (heapOf (st7 11)))) = true := by kernel_rfl
theorem c7_12 (a : Nat) : isTrue (endCall i7.results (code r7 (lev ctx 59) maxRounds (Env.set .d0 .d0 (.int .u8 (.ofNat a)) (envOf (st7 12))) (heapOf (st7 12)))) = true := by kernel_rfl
theorem c7_13 (a : Nat) : isTrue (endCall i7.results (code r7 (lev ctx 59) maxRounds (Env.set .d0 .d0 (.int .u8 (.ofNat a)) (envOf (st7 13))) (heapOf (st7 13)))) = true := by kernel_rfl
theorem c7_14 (a : Nat) : isTrue (endCall i7.results (code r7 (lev ctx 59) maxRounds (Env.set .d0 .d0 (.int .u8 (.ofNat a)) (envOf (st7 14))) (heapOf (st7 14)))) = true := by kernel_rfl
theorem c7_15 (a : Nat) : isTrue (endCall i7.results (code r7 (lev ctx 59) maxRounds (Env.set .d0 .d0 (.int .u8 (.ofNat a)) (envOf (st7 15))) (heapOf (st7 15)))) = true := by kernel_rfl
theorem c7_16 (a : Nat) : isTrue (endCall i7.results (code r7 (lev ctx 59) maxRounds (Env.set .d0 .d0 (.int .u8 (.ofNat a)) (envOf (st7 16))) (heapOf (st7 16)))) = true := by kernel_rfl
end
end Go.Eng.YtfolmdfljpkpeaaGreatDoor
