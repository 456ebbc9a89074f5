/- Part of a proof of a law, by an evaluator that the machine follows: rules, contracts of functions, what they come to. No condition of its own. -/
import Derived.Test.YtbokieoaabpjfaaGreatDoorRunA
set_option maxRecDepth 1000000
namespace Go.Eng.YtbokieoaabpjfaaGreatDoor
open Go.Eng
noncomputable section
theorem c9_13 (a : Nat) : isTrue (endCall i9.results (code r9 (lev ctx 59) maxRounds (Env.set .d0 .d0 (.int .u8 (.ofNat a)) (envOf (st9 13))) (heapOf (st9 13)))) = true := by kernel_rfl
theorem c9_14 (a : Nat) : isTrue (endCall i9.results (code r9 (lev ctx 59) maxRounds (Env.set .d0 .d0 (.int .u8 (.ofNat a)) (envOf (st9 14))) (heapOf (st9 14)))) = true := by kernel_rfl
theorem c9_15 (a : Nat) : isTrue (endCall i9.results (code r9 (lev ctx 59) maxRounds (Env.set .d0 .d0 (.int .u8 (.ofNat a)) (envOf (st9 15))) (heapOf (st9 15)))) = true := by kernel_rfl
theorem c9_16 (a : Nat) : isTrue (endCall i9.results (code r9 (lev ctx 59) maxRounds (Env.set .d0 .d0 (.int .u8 (.ofNat a)) (envOf (st9 16))) (heapOf (st9 16)))) = true := by kernel_rfl
theorem c9_17 (a : Nat) : isTrue (endCall i9.results (code r9 (lev ctx 59) maxRounds (Env.set .d0 .d0 (.int .u8 (.ofNat a)) (envOf (st9 17))) (heapOf (st9 17)))) = true := by kernel_rfl
theorem c9_18 (a : Nat) : isTrue (endCall i9.results (code r9 (lev ctx 59) maxRounds (Env.set .d0 .d0 (.int .u8 (.ofNat a)) (envOf (st9 18))) (heapOf (st9 18)))) = true := by kernel_rfl
theorem c9_19 (a : Nat) : isTrue (endCall i9.results (code r9 (lev ctx 59) maxRounds (Env.set .d0 .d0 (.int .u8 (.ofNat a)) (envOf (st9 19))) (heapOf (st9 19)))) = true := by kernel_rfl
theorem c9_20 (a : Nat) : isTrue (endCall i9.results (code r9 (lev ctx 59) maxRounds (Env.set .d0 .d0 (.int .u8 (.ofNat a)) (envOf (st9 20))) (heapOf (st9 20)))) = true := by kernel_rfl
theorem c9_21 (a : Nat) : isTrue (endCall i9.results (code r9 (lev ctx 59) maxRounds (Env.set .d0 .d0 (.int .u8 (.ofNat a)) (envOf (st9 21))) (heapOf (st9 21)))) = true := by kernel_rfl
theorem c9_22 (a : Nat) : isTrue (endCall i9.results (code r9 (lev ctx 59) maxRounds (Env.set .d0 .d0 (.int .u8 (.ofNat a)) (envOf (st9 22))) (heapOf (st9 22)))) = true := by kernel_rfl
theorem c9_23 (a : Nat) : isTrue (endCall i9.results (code r9 (lev ctx 59) maxRounds (Env.set .d0 .d0 (.int .u8 (.ofNat a)) (envOf (st9 23))) (heapOf (st9 23)))) = true := by kernel_rfl
theorem c9_24 (a : Nat) : isTrue (endCall i9.results (code r9 (lev ctx 59) maxRounds (Env.set .d0 .d0 (.int .u8 (.ofNat a)) (envOf (st9 24))) (heapOf (st9 24)))) = true := by kernel_rfl
theorem c9_25 (a : Nat) : isTrue (endCall i9.results (code r9 (lev ctx 59) maxRounds (Env.set .d0 .d0 (.int .u8 (.ofNat a)) (envOf (st9 25))) (heapOf (st9 25)))) = true := by kernel_rfl
end
end Go.Eng.YtbokieoaabpjfaaGreatDoor
