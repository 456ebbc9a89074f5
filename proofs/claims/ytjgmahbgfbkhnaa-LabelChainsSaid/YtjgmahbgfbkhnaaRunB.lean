/- Part of a proof of a law, by an evaluator that the machine follows: rules, contracts of functions, what they come to. No condition of its own. -/
import Derived.Test.YtjgmahbgfbkhnaaRunA
set_option maxRecDepth 1000000
namespace Go.Eng.Ytjgmahbgfbkhnaa
open Go.Eng
noncomputable section
theorem g9_9 (n x y : V) : see9 (envOf (run9a n x y 9)) = (x, y, .int .i64 (.ofNat 9)) := by kernel_rfl
theorem c9_9 (n x y : V) : thenB (run9a n x y 9) (fun e h => allBelow (fun a => allBelow (fun b => thenB (run9b (nat9 a) (nat9 b) e h) fun e h => trueV (runV e h l9a [])) 9) 9) = true := by kernel_rfl
theorem d9_9 (n x y a b : V) (rest : List V) : thenB (run9a n x y 9) (fun e h => thenB (run9b a b e h) (end9 rest)) = true := by kernel_rfl
theorem g9_10 (n x y : V) : see9 (envOf (run9a n x y 10)) = (x, y, .int .i64 (.ofNat 10)) := by kernel_rfl
theorem c9_10 (n x y : V) : thenB (run9a n x y 10) (fun e h => allBelow (fun a => allBelow (fun b => thenB (run9b (nat9 a) (nat9 b) e h) fun e h => trueV (runV e h l9a [])) 10) 10) = true := by kernel_rfl
theorem d9_10 (n x y a b : V) (rest : List V) : thenB (run9a n x y 10) (fun e h => thenB (run9b a b e h) (end9 rest)) = true := by kernel_rfl
end
end Go.Eng.Ytjgmahbgfbkhnaa
