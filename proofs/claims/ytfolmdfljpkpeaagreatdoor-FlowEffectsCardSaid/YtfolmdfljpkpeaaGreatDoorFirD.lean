/- Part of a proof of a law, by an evaluator that the machine follows: rules, contracts of functions, what they come to. No condition of its own. -/
import Derived.Test.YtfolmdfljpkpeaaGreatDoorHead
set_option maxRecDepth 1000000
namespace Go.Eng.YtfolmdfljpkpeaaGreatDoor
open Go.Eng
noncomputable section
theorem f6_3_5 (s0 s1 u0 u1 u2 u3 : Bool) (c0 c1 m1 : Nat) (l1 : List V) : P6 (.sl 0 0 2 (some c0)) (.sl 1 0 (m1 + 4) (some c1)) (.box [.bool s0, .bool s1]) (.box (.bool u0 :: .bool u1 :: .bool u2 :: .bool u3 :: l1)) = .ok .nrm (E6 s0 s1 false false u0 u1 u2 u3 (.sl 0 0 2 (some c0)) (.sl 1 0 (m1 + 4) (some c1))) (H6 s0 s1 false false u0 u1 u2 u3 (.box [.bool s0, .bool s1]) (.box (.bool u0 :: .bool u1 :: .bool u2 :: .bool u3 :: l1))) := by
  cases s0 <;> cases s1 <;> cases u0 <;> cases u1 <;> cases u2 <;> cases u3 <;> kernel_rfl
theorem f6_4_4 (s0 s1 s2 u0 u1 u2 : Bool) (c0 c1 : Nat) : P6 (.sl 0 0 3 (some c0)) (.sl 1 0 3 (some c1)) (.box [.bool s0, .bool s1, .bool s2]) (.box [.bool u0, .bool u1, .bool u2]) = .ok .nrm (E6 s0 s1 s2 false u0 u1 u2 false (.sl 0 0 3 (some c0)) (.sl 1 0 3 (some c1))) (H6 s0 s1 s2 false u0 u1 u2 false (.box [.bool s0, .bool s1, .bool s2]) (.box [.bool u0, .bool u1, .bool u2])) := by
  cases s0 <;> cases s1 <;> cases s2 <;> cases u0 <;> cases u1 <;> cases u2 <;> kernel_rfl
theorem f6_3_4 (s0 s1 u0 u1 u2 : Bool) (c0 c1 : Nat) : P6 (.sl 0 0 2 (some c0)) (.sl 1 0 3 (some c1)) (.box [.bool s0, .bool s1]) (.box [.bool u0, .bool u1, .bool u2]) = .ok .nrm (E6 s0 s1 false false u0 u1 u2 false (.sl 0 0 2 (some c0)) (.sl 1 0 3 (some c1))) (H6 s0 s1 false false u0 u1 u2 false (.box [.bool s0, .bool s1]) (.box [.bool u0, .bool u1, .bool u2])) := by
  cases s0 <;> cases s1 <;> cases u0 <;> cases u1 <;> cases u2 <;> kernel_rfl
theorem f6_5_2 (s0 s1 s2 s3 u0 : Bool) (c0 c1 m0 : Nat) (l0 : List V) : P6 (.sl 0 0 (m0 + 4) (some c0)) (.sl 1 0 1 (some c1)) (.box (.bool s0 :: .bool s1 :: .bool s2 :: .bool s3 :: l0)) (.box [.bool u0]) = .ok .nrm (E6 s0 s1 s2 s3 u0 false false false (.sl 0 0 (m0 + 4) (some c0)) (.sl 1 0 1 (some c1))) (H6 s0 s1 s2 s3 u0 false false false (.box (.bool s0 :: .bool s1 :: .bool s2 :: .bool s3 :: l0)) (.box [.bool u0])) := by
  cases s0 <;> cases s1 <;> cases s2 <;> cases s3 <;> cases u0 <;> kernel_rfl
theorem f6_2_4 (s0 u0 u1 u2 : Bool) (c0 c1 : Nat) : P6 (.sl 0 0 1 (some c0)) (.sl 1 0 3 (some c1)) (.box [.bool s0]) (.box [.bool u0, .bool u1, .bool u2]) = .ok .nrm (E6 s0 false false false u0 u1 u2 false (.sl 0 0 1 (some c0)) (.sl 1 0 3 (some c1))) (H6 s0 false false false u0 u1 u2 false (.box [.bool s0]) (.box [.bool u0, .bool u1, .bool u2])) := by
  cases s0 <;> cases u0 <;> cases u1 <;> cases u2 <;> kernel_rfl
theorem f6_5_0 (s0 s1 s2 s3 : Bool) (c0 m0 : Nat) (l0 : List V) : P6 (.sl 0 0 (m0 + 4) (some c0)) .slN (.box (.bool s0 :: .bool s1 :: .bool s2 :: .bool s3 :: l0)) .dead = .ok .nrm (E6 s0 s1 s2 s3 false false false false (.sl 0 0 (m0 + 4) (some c0)) .slN) (H6 s0 s1 s2 s3 false false false false (.box (.bool s0 :: .bool s1 :: .bool s2 :: .bool s3 :: l0)) .dead) := by
  cases s0 <;> cases s1 <;> cases s2 <;> cases s3 <;> kernel_rfl
theorem f6_1_4 (u0 u1 u2 : Bool) (c1 : Nat) : P6 (.sl 0 0 0 none) (.sl 1 0 3 (some c1)) .dead (.box [.bool u0, .bool u1, .bool u2]) = .ok .nrm (E6 false false false false u0 u1 u2 false (.sl 0 0 0 none) (.sl 1 0 3 (some c1))) (H6 false false false false u0 u1 u2 false .dead (.box [.bool u0, .bool u1, .bool u2])) := by
  cases u0 <;> cases u1 <;> cases u2 <;> kernel_rfl
theorem f6_3_2 (s0 s1 u0 : Bool) (c0 c1 : Nat) : P6 (.sl 0 0 2 (some c0)) (.sl 1 0 1 (some c1)) (.box [.bool s0, .bool s1]) (.box [.bool u0]) = .ok .nrm (E6 s0 s1 false false u0 false false false (.sl 0 0 2 (some c0)) (.sl 1 0 1 (some c1))) (H6 s0 s1 false false u0 false false false (.box [.bool s0, .bool s1]) (.box [.bool u0])) := by
  cases s0 <;> cases s1 <;> cases u0 <;> kernel_rfl
theorem f6_0_3 (u0 u1 : Bool) (c1 : Nat) : P6 .slN (.sl 1 0 2 (some c1)) .dead (.box [.bool u0, .bool u1]) = .ok .nrm (E6 false false false false u0 u1 false false .slN (.sl 1 0 2 (some c1))) (H6 false false false false u0 u1 false false .dead (.box [.bool u0, .bool u1])) := by
  cases u0 <;> cases u1 <;> kernel_rfl
theorem f6_1_3 (u0 u1 : Bool) (c1 : Nat) : P6 (.sl 0 0 0 none) (.sl 1 0 2 (some c1)) .dead (.box [.bool u0, .bool u1]) = .ok .nrm (E6 false false false false u0 u1 false false (.sl 0 0 0 none) (.sl 1 0 2 (some c1))) (H6 false false false false u0 u1 false false .dead (.box [.bool u0, .bool u1])) := by
  cases u0 <;> cases u1 <;> kernel_rfl
theorem f6_3_1 (s0 s1 : Bool) (c0 : Nat) : P6 (.sl 0 0 2 (some c0)) (.sl 1 0 0 none) (.box [.bool s0, .bool s1]) .dead = .ok .nrm (E6 s0 s1 false false false false false false (.sl 0 0 2 (some c0)) (.sl 1 0 0 none)) (H6 s0 s1 false false false false false false (.box [.bool s0, .bool s1]) .dead) := by
  cases s0 <;> cases s1 <;> kernel_rfl
theorem f6_2_0 (s0 : Bool) (c0 : Nat) : P6 (.sl 0 0 1 (some c0)) .slN (.box [.bool s0]) .dead = .ok .nrm (E6 s0 false false false false false false false (.sl 0 0 1 (some c0)) .slN) (H6 s0 false false false false false false false (.box [.bool s0]) .dead) := by
  cases s0 <;> kernel_rfl
theorem f6_0_1 : P6 .slN (.sl 1 0 0 none) .dead .dead = .ok .nrm (E6 false false false false false false false false .slN (.sl 1 0 0 none)) (H6 false false false false false false false false .dead .dead) := by
  kernel_rfl
theorem f6_1_1 : P6 (.sl 0 0 0 none) (.sl 1 0 0 none) .dead .dead = .ok .nrm (E6 false false false false false false false false (.sl 0 0 0 none) (.sl 1 0 0 none)) (H6 false false false false false false false false .dead .dead) := by
  kernel_rfl
end
end Go.Eng.YtfolmdfljpkpeaaGreatDoor
