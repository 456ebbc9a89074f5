/- Part of a proof of a law, by an evaluator that the machine follows: rules, contracts of functions, what they come to. No condition of its own. -/
import Derived.Test.YtfolmdfljpkpeaaGreatDoorHead
set_option maxRecDepth 1000000
namespace Go.Eng.YtfolmdfljpkpeaaGreatDoor
open Go.Eng
noncomputable section
theorem f6_5_5 (s0 s1 s2 s3 u0 u1 u2 u3 : Bool) (c0 c1 m0 m1 : Nat) (l0 l1 : List V) : P6 (.sl 0 0 (m0 + 4) (some c0)) (.sl 1 0 (m1 + 4) (some c1)) (.box (.bool s0 :: .bool s1 :: .bool s2 :: .bool s3 :: l0)) (.box (.bool u0 :: .bool u1 :: .bool u2 :: .bool u3 :: l1)) = .ok .nrm (E6 s0 s1 s2 s3 u0 u1 u2 u3 (.sl 0 0 (m0 + 4) (some c0)) (.sl 1 0 (m1 + 4) (some c1))) (H6 s0 s1 s2 s3 u0 u1 u2 u3 (.box (.bool s0 :: .bool s1 :: .bool s2 :: .bool s3 :: l0)) (.box (.bool u0 :: .bool u1 :: .bool u2 :: .bool u3 :: l1))) := by
  cases s0 <;> cases s1 <;> cases s2 <;> cases s3 <;> cases u0 <;> cases u1 <;> cases u2 <;> cases u3 <;> kernel_rfl
end
end Go.Eng.YtfolmdfljpkpeaaGreatDoor
