/- Part of a proof of a law, by an evaluator that the machine follows: rules, contracts of functions, what they come to. No condition of its own. -/
import Derived.Test.YtfolmdfljpkpeaaGreatDoorRunM
import Derived.Test.YtfolmdfljpkpeaaGreatDoorFirA
import Derived.Test.YtfolmdfljpkpeaaGreatDoorFirB
import Derived.Test.YtfolmdfljpkpeaaGreatDoorFirC
import Derived.Test.YtfolmdfljpkpeaaGreatDoorFirD
import Derived.Test.YtfolmdfljpkpeaaGreatDoorBase
import Derived.Test.YtfolmdfljpkpeaaGreatDoorArgs
set_option maxRecDepth 1000000
namespace Go.Eng.YtfolmdfljpkpeaaGreatDoor
open Go.Eng
noncomputable section
theorem run6 {s0 s1 s2 s3 u0 u1 u2 u3 : Bool} {a0 a1 : V} {o0 o1 : Obj} (hp : P6 a0 a1 o0 o1 = .ok .nrm (E6 s0 s1 s2 s3 u0 u1 u2 u3 a0 a1) (H6 s0 s1 s2 s3 u0 u1 u2 u3 o0 o1)) :
    isTrue (lev ctx 60 6 [a0, a1] .none (heap2 o0 o1)).1 = true := by
  have e0 : (lev ctx 60 6 [a0, a1] .none (heap2 o0 o1)).1 = runFun i6 (lev ctx 59) [a0, a1] (heap2 o0 o1) := by kernel_rfl
  have hp' : code (seqs p6 .skip) (lev ctx 59) maxRounds (argsP [a0, a1] 0 Env.nil) (heap2 o0 o1) = .ok .nrm (E6 s0 s1 s2 s3 u0 u1 u2 u3 a0 a1) (H6 s0 s1 s2 s3 u0 u1 u2 u3 o0 o1) := hp
  rw [e0, runFun_split body6 rfl (by rw [hp']; rfl), hp']
  exact all6 s0 s1 s2 s3 u0 u1 u2 u3 a0 a1 o0 o1
theorem first6 : ∀ (σ τ : Sh), ∃ s0 s1 s2 s3 u0 u1 u2 u3 : Bool, P6 (σ.a 0) (τ.a 1) σ.o τ.o = .ok .nrm (E6 s0 s1 s2 s3 u0 u1 u2 u3 (σ.a 0) (τ.a 1)) (H6 s0 s1 s2 s3 u0 u1 u2 u3 σ.o τ.o)
  | .nil, .nil => ⟨_, _, _, _, _, _, _, _, f6_0_0⟩
  | .nil, .zero => ⟨_, _, _, _, _, _, _, _, f6_0_1⟩
  | .nil, .one u0 c1 => ⟨_, _, _, _, _, _, _, _, f6_0_2 u0 c1⟩
  | .nil, .two u0 u1 c1 => ⟨_, _, _, _, _, _, _, _, f6_0_3 u0 u1 c1⟩
  | .nil, .three u0 u1 u2 c1 => ⟨_, _, _, _, _, _, _, _, f6_0_4 u0 u1 u2 c1⟩
  | .nil, .more u0 u1 u2 u3 m1 c1 l1 => ⟨_, _, _, _, _, _, _, _, f6_0_5 u0 u1 u2 u3 c1 m1 l1⟩
  | .zero, .nil => ⟨_, _, _, _, _, _, _, _, f6_1_0⟩
  | .zero, .zero => ⟨_, _, _, _, _, _, _, _, f6_1_1⟩
  | .zero, .one u0 c1 => ⟨_, _, _, _, _, _, _, _, f6_1_2 u0 c1⟩
  | .zero, .two u0 u1 c1 => ⟨_, _, _, _, _, _, _, _, f6_1_3 u0 u1 c1⟩
  | .zero, .three u0 u1 u2 c1 => ⟨_, _, _, _, _, _, _, _, f6_1_4 u0 u1 u2 c1⟩
  | .zero, .more u0 u1 u2 u3 m1 c1 l1 => ⟨_, _, _, _, _, _, _, _, f6_1_5 u0 u1 u2 u3 c1 m1 l1⟩
  | .one s0 c0, .nil => ⟨_, _, _, _, _, _, _, _, f6_2_0 s0 c0⟩
  | .one s0 c0, .zero => ⟨_, _, _, _, _, _, _, _, f6_2_1 s0 c0⟩
  | .one s0 c0, .one u0 c1 => ⟨_, _, _, _, _, _, _, _, f6_2_2 s0 u0 c0 c1⟩
  | .one s0 c0, .two u0 u1 c1 => ⟨_, _, _, _, _, _, _, _, f6_2_3 s0 u0 u1 c0 c1⟩
  | .one s0 c0, .three u0 u1 u2 c1 => ⟨_, _, _, _, _, _, _, _, f6_2_4 s0 u0 u1 u2 c0 c1⟩
  | .one s0 c0, .more u0 u1 u2 u3 m1 c1 l1 => ⟨_, _, _, _, _, _, _, _, f6_2_5 s0 u0 u1 u2 u3 c0 c1 m1 l1⟩
  | .two s0 s1 c0, .nil => ⟨_, _, _, _, _, _, _, _, f6_3_0 s0 s1 c0⟩
  | .two s0 s1 c0, .zero => ⟨_, _, _, _, _, _, _, _, f6_3_1 s0 s1 c0⟩
  | .two s0 s1 c0, .one u0 c1 => ⟨_, _, _, _, _, _, _, _, f6_3_2 s0 s1 u0 c0 c1⟩
  | .two s0 s1 c0, .two u0 u1 c1 => ⟨_, _, _, _, _, _, _, _, f6_3_3 s0 s1 u0 u1 c0 c1⟩
  | .two s0 s1 c0, .three u0 u1 u2 c1 => ⟨_, _, _, _, _, _, _, _, f6_3_4 s0 s1 u0 u1 u2 c0 c1⟩
  | .two s0 s1 c0, .more u0 u1 u2 u3 m1 c1 l1 => ⟨_, _, _, _, _, _, _, _, f6_3_5 s0 s1 u0 u1 u2 u3 c0 c1 m1 l1⟩
  | .three s0 s1 s2 c0, .nil => ⟨_, _, _, _, _, _, _, _, f6_4_0 s0 s1 s2 c0⟩
  | .three s0 s1 s2 c0, .zero => ⟨_, _, _, _, _, _, _, _, f6_4_1 s0 s1 s2 c0⟩
  | .three s0 s1 s2 c0, .one u0 c1 => ⟨_, _, _, _, _, _, _, _, f6_4_2 s0 s1 s2 u0 c0 c1⟩
  | .three s0 s1 s2 c0, .two u0 u1 c1 => ⟨_, _, _, _, _, _, _, _, f6_4_3 s0 s1 s2 u0 u1 c0 c1⟩
  | .three s0 s1 s2 c0, .three u0 u1 u2 c1 => ⟨_, _, _, _, _, _, _, _, f6_4_4 s0 s1 s2 u0 u1 u2 c0 c1⟩
  | .three s0 s1 s2 c0, .more u0 u1 u2 u3 m1 c1 l1 => ⟨_, _, _, _, _, _, _, _, f6_4_5 s0 s1 s2 u0 u1 u2 u3 c0 c1 m1 l1⟩
  | .more s0 s1 s2 s3 m0 c0 l0, .nil => ⟨_, _, _, _, _, _, _, _, f6_5_0 s0 s1 s2 s3 c0 m0 l0⟩
  | .more s0 s1 s2 s3 m0 c0 l0, .zero => ⟨_, _, _, _, _, _, _, _, f6_5_1 s0 s1 s2 s3 c0 m0 l0⟩
  | .more s0 s1 s2 s3 m0 c0 l0, .one u0 c1 => ⟨_, _, _, _, _, _, _, _, f6_5_2 s0 s1 s2 s3 u0 c0 c1 m0 l0⟩
  | .more s0 s1 s2 s3 m0 c0 l0, .two u0 u1 c1 => ⟨_, _, _, _, _, _, _, _, f6_5_3 s0 s1 s2 s3 u0 u1 c0 c1 m0 l0⟩
  | .more s0 s1 s2 s3 m0 c0 l0, .three u0 u1 u2 c1 => ⟨_, _, _, _, _, _, _, _, f6_5_4 s0 s1 s2 s3 u0 u1 u2 c0 c1 m0 l0⟩
  | .more s0 s1 s2 s3 m0 c0 l0, .more u0 u1 u2 u3 m1 c1 l1 => ⟨_, _, _, _, _, _, _, _, f6_5_5 s0 s1 s2 s3 u0 u1 u2 u3 c0 c1 m0 m1 l0 l1⟩
/-- **The law, at whatever two slices of bools.** -/
theorem law6 {w : World} (hw : 0 < w.heap.size) {v0 v1 : Value} (h0 : Bools w v0) (h1 : Bools w v1) : Calls Go.Proofs.Tryz.prog 6 #[v0, v1] w fun e w' => e = .returned (.bool true) ∧ Kept w w' := by
  obtain ⟨σ, B0, k0⟩ := arg_of hw 0 h0
  obtain ⟨τ, B1, k1⟩ := arg_of hw 1 h1
  obtain ⟨s0, s1, s2, s3, u0, u1, u2, u3, hp⟩ := first6 σ τ
  refine law_runA mixed chkCtx sumsOk (h0 := heap2 σ.o τ.o) (ι0 := inj2 B0 B1) rfl (fun b B hb => ?_) (good2 k0 k1) (run6 hp) ⟨_, _, rfl, k0.rel _ rfl, _, _, rfl, k1.rel _ rfl, rfl⟩
  rcases inj2_lt hb with ⟨rfl, _⟩ | ⟨rfl, _⟩ <;> decide
end
end Go.Eng.YtfolmdfljpkpeaaGreatDoor
