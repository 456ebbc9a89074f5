/- Part of a proof of a law, by an evaluator that the machine follows: rules, contracts of functions, what they come to. No condition of its own. -/
import Derived.Test.YtbokieoaabpjfaaGreatDoorRunB
import Derived.Test.YtbokieoaabpjfaaGreatDoorRunC
import Derived.Test.YtbokieoaabpjfaaGreatDoorRunD
set_option maxRecDepth 1000000
namespace Go.Eng.YtbokieoaabpjfaaGreatDoor
open Go.Eng
noncomputable section
structure All7 (k : Nat) : Prop where
  g : ∀ n x : V, see7 (envOf (run7a n x k)) = (x, .int .i64 (.ofNat k))
  c : ∀ (n x : V) (t : Nat), t < k → thenB (run7a n x k) (fun e h => end7 t e h) = true
theorem part7 {k lo m : Nat} {n x : V} (h : thenB (run7a n x k) (fun e h => allBelow (fun i => end7 (Nat.add lo i) e h) m) = true) (t : Nat) (h1 : lo ≤ t) (h2 : t < lo + m) : thenB (run7a n x k) (fun e h => end7 t e h) = true := by
  obtain ⟨e, hp, hr, hb⟩ := thenB_ok h
  rw [hr]
  have := allBelow_at hb (t - lo) (by omega)
  have e1 : Nat.add lo (t - lo) = t := by show lo + (t - lo) = t; omega
  rw [e1] at this
  exact this
theorem all7 (k : Nat) (h1 : 1 ≤ k) (h2 : k ≤ 8) : All7 k := by
  rcases (by omega : k = 1 ∨ k = 2 ∨ k = 3 ∨ k = 4 ∨ k = 5 ∨ k = 6 ∨ k = 7 ∨ k = 8) with rfl | rfl | rfl | rfl | rfl | rfl | rfl | rfl
  · refine ⟨g7_1, fun n x t ht => ?_⟩
    exact part7 (c7_1_0 n x) t (by omega) (by omega)
  · refine ⟨g7_2, fun n x t ht => ?_⟩
    exact part7 (c7_2_0 n x) t (by omega) (by omega)
  · refine ⟨g7_3, fun n x t ht => ?_⟩
    exact part7 (c7_3_0 n x) t (by omega) (by omega)
  · refine ⟨g7_4, fun n x t ht => ?_⟩
    rcases (by omega : (0 ≤ t ∧ t < 3) ∨ (3 ≤ t ∧ t < 4)) with h | h
    · exact part7 (c7_4_0 n x) t (by omega) (by omega)
    · exact part7 (c7_4_3 n x) t (by omega) (by omega)
  · refine ⟨g7_5, fun n x t ht => ?_⟩
    rcases (by omega : (0 ≤ t ∧ t < 3) ∨ (3 ≤ t ∧ t < 5)) with h | h
    · exact part7 (c7_5_0 n x) t (by omega) (by omega)
    · exact part7 (c7_5_3 n x) t (by omega) (by omega)
  · refine ⟨g7_6, fun n x t ht => ?_⟩
    rcases (by omega : (0 ≤ t ∧ t < 2) ∨ (2 ≤ t ∧ t < 4) ∨ (4 ≤ t ∧ t < 6)) with h | h | h
    · exact part7 (c7_6_0 n x) t (by omega) (by omega)
    · exact part7 (c7_6_2 n x) t (by omega) (by omega)
    · exact part7 (c7_6_4 n x) t (by omega) (by omega)
  · refine ⟨g7_7, fun n x t ht => ?_⟩
    rcases (by omega : (0 ≤ t ∧ t < 2) ∨ (2 ≤ t ∧ t < 4) ∨ (4 ≤ t ∧ t < 6) ∨ (6 ≤ t ∧ t < 7)) with h | h | h | h
    · exact part7 (c7_7_0 n x) t (by omega) (by omega)
    · exact part7 (c7_7_2 n x) t (by omega) (by omega)
    · exact part7 (c7_7_4 n x) t (by omega) (by omega)
    · exact part7 (c7_7_6 n x) t (by omega) (by omega)
  · refine ⟨g7_8, fun n x t ht => ?_⟩
    rcases (by omega : (0 ≤ t ∧ t < 2) ∨ (2 ≤ t ∧ t < 4) ∨ (4 ≤ t ∧ t < 6) ∨ (6 ≤ t ∧ t < 8)) with h | h | h | h
    · exact part7 (c7_8_0 n x) t (by omega) (by omega)
    · exact part7 (c7_8_2 n x) t (by omega) (by omega)
    · exact part7 (c7_8_4 n x) t (by omega) (by omega)
    · exact part7 (c7_8_6 n x) t (by omega) (by omega)
theorem head7 (n : Nat) (hn : n < 256) (x : V) (c : C) (call : CallT) : code (.seq p7_0 (.seq p7_1 c)) call maxRounds (argsP [.int .u8 (.ofNat n), x] 0 Env.nil) Heap.empty = code c call maxRounds (e7 (.int .u8 (.ofNat n)) x (1 + n % 8)) Heap.empty := by
  have s0 : code p7_0 call maxRounds (argsP [.int .u8 (.ofNat n), x] 0 Env.nil) Heap.empty = .ok .nrm (Env.set .d0 .d2 (.bool false) (argsP [.int .u8 (.ofNat n), x] 0 Env.nil)) Heap.empty := by
    unfold p7_0
    rw [code_reg, opsN_s (v := .bool false) rfl, opsN_nil]
  rw [code_seq s0]
  have s1 : code p7_1 call maxRounds (Env.set .d0 .d2 (.bool false) (argsP [.int .u8 (.ofNat n), x] 0 Env.nil)) Heap.empty = .ok .nrm (e7 (.int .u8 (.ofNat n)) x (1 + n % 8)) Heap.empty := by
    unfold p7_1
    rw [code_reg, opsN_p (v := .int .i64 (n : Int)) (L.conv64 rfl (And.intro (by omega) (by omega))), opsN_p (v := .int .i64 ((n % 8 : Nat) : Int)) (L.rem (b := 8) rfl rfl rfl (by decide)),
      opsN_s (v := .int .i64 ((1 + n % 8 : Nat) : Int)) (L.addE rfl rfl (by omega) (And.intro (by omega) (by omega))), opsN_nil]
    rfl
  rw [code_seq s1]
theorem mid7 (x z : Nat) (hx : x < 256) (hz : z ≠ 0) (e : Env) (h : Heap) (c : C) (call : CallT) (hs : see7 e = (.int .u8 (.ofNat x), .int .i64 (.ofNat z))) :
    code (.seq p7_6 c) call maxRounds e h = code c call maxRounds (Env.set .d1 .d5 (.int .i64 (.ofNat (x % z))) e) h := by
  have h1 : Env.get .d0 .d1 e = .int .u8 (x : Int) := congrArg (·.1) hs
  have h2 : Env.get .d0 .d4 e = .int .i64 (z : Int) := congrArg (·.2) hs
  have s : code p7_6 call maxRounds e h = .ok .nrm (Env.set .d1 .d5 (.int .i64 (.ofNat (x % z))) e) h := by
    unfold p7_6
    rw [code_reg, opsN_p (v := .int .i64 (x : Int)) (L.conv64 (k := .u8) (a := x) (by show Env.get .d0 .d1 e = _; rw [h1]) (And.intro (by omega) (by omega))), opsN_s (v := .int .i64 ((x % z : Nat) : Int)) (L.rem (a := x) (b := z) rfl (by show Env.get .d0 .d4 e = _; rw [h2]) rfl hz), opsN_nil]
    rfl
  rw [code_seq s]
theorem run7 (n : Nat) (hn : n < 256) (x : Nat) (hx : x < 256) : isTrue (lev ctx 60 7 [.int .u8 (.ofNat n), .int .u8 (.ofNat x)] .none Heap.empty).1 = true := by
  have e0 : (lev ctx 60 7 [.int .u8 (.ofNat n), .int .u8 (.ofNat x)] .none Heap.empty).1 = runFun i7 (lev ctx 59) [.int .u8 (.ofNat n), .int .u8 (.ofNat x)] Heap.empty := by kernel_rfl
  rw [e0, runFun_body (by kernel_rfl), body7, head7 n hn]
  obtain ⟨k, hk⟩ : ∃ k, k = 1 + n % 8 := ⟨_, rfl⟩
  rw [← hk]
  have all := all7 k (by omega) (by omega)
  obtain ⟨e, h, hr, hb⟩ := thenB_ok (all.c (.int .u8 (.ofNat n)) (.int .u8 (.ofNat x)) (x % k) (Nat.mod_lt _ (by omega)))
  have hs := all.g (.int .u8 (.ofNat n)) (.int .u8 (.ofNat x))
  rw [hr] at hs
  have hr' : code (seqs [p7_2, p7_3, p7_4, p7_5] .skip) (lev ctx 59) maxRounds (e7 (.int .u8 (.ofNat n)) (.int .u8 (.ofNat x)) k) Heap.empty = .ok .nrm e h := hr
  rw [code_seqs _ _ _ _ _ _ (by rw [hr']; rfl), hr']
  show isTrue (endCall i7.results (code (.seq p7_6 r7) (lev ctx 59) maxRounds e h)) = true
  rw [mid7 x k hx (by omega) e h _ _ hs]
  exact hb
end
end Go.Eng.YtbokieoaabpjfaaGreatDoor
