/- Part of a proof of a law, by an evaluator that the machine follows: rules, contracts of functions, what they come to. No condition of its own. -/
import Derived.Test.YtjgmahbgfbkhnaaRunB
import Derived.Test.YtjgmahbgfbkhnaaRunC
set_option maxRecDepth 1000000
namespace Go.Eng.Ytjgmahbgfbkhnaa
open Go.Eng
noncomputable section
structure All9 (k : Nat) : Prop where
  g : ∀ n x y : V, see9 (envOf (run9a n x y k)) = (x, y, .int .i64 (.ofNat k))
  c : ∀ n x y : V, thenB (run9a n x y k) (fun e h => allBelow (fun a => allBelow (fun b => thenB (run9b (nat9 a) (nat9 b) e h) fun e h => trueV (runV e h l9a [])) k) k) = true
  d : ∀ (n x y a b : V) (rest : List V), thenB (run9a n x y k) (fun e h => thenB (run9b a b e h) (end9 rest)) = true
theorem all9 (k : Nat) (h1 : 2 ≤ k) (h3 : k ≤ 12) : All9 k := by
  rcases (by omega : k = 2 ∨ k = 3 ∨ k = 4 ∨ k = 5 ∨ k = 6 ∨ k = 7 ∨ k = 8 ∨ k = 9 ∨ k = 10 ∨ k = 11 ∨ k = 12) with rfl | rfl | rfl | rfl | rfl | rfl | rfl | rfl | rfl | rfl | rfl
  · exact ⟨g9_2, c9_2, d9_2⟩
  · exact ⟨g9_3, c9_3, d9_3⟩
  · exact ⟨g9_4, c9_4, d9_4⟩
  · exact ⟨g9_5, c9_5, d9_5⟩
  · exact ⟨g9_6, c9_6, d9_6⟩
  · exact ⟨g9_7, c9_7, d9_7⟩
  · exact ⟨g9_8, c9_8, d9_8⟩
  · exact ⟨g9_9, c9_9, d9_9⟩
  · exact ⟨g9_10, c9_10, d9_10⟩
  · exact ⟨g9_11, c9_11, d9_11⟩
  · exact ⟨g9_12, c9_12, d9_12⟩
theorem head9 (n : Nat) (hn : n < 256) (x y : V) (c : C) (call : CallT) : code (.seq p9_0 (.seq p9_1 c)) call maxRounds (argsP [.int .u8 (.ofNat n), x, y] 0 Env.nil) Heap.empty = code c call maxRounds (e9 (.int .u8 (.ofNat n)) x y (2 + n % 11)) Heap.empty := by
  have s0 : code p9_0 call maxRounds (argsP [.int .u8 (.ofNat n), x, y] 0 Env.nil) Heap.empty = .ok .nrm (Env.set .d0 .d3 (.bool false) (argsP [.int .u8 (.ofNat n), x, y] 0 Env.nil)) Heap.empty := by
    unfold p9_0
    rw [code_reg, opsN_s (v := .bool false) rfl, opsN_nil]
  rw [code_seq s0]
  have s1 : code p9_1 call maxRounds (Env.set .d0 .d3 (.bool false) (argsP [.int .u8 (.ofNat n), x, y] 0 Env.nil)) Heap.empty = .ok .nrm (e9 (.int .u8 (.ofNat n)) x y (2 + n % 11)) Heap.empty := by
    unfold p9_1
    rw [code_reg, opsN_p (v := .int .i64 (n : Int)) (L.conv64 rfl (And.intro (by omega) (by omega))), opsN_p (v := .int .i64 ((n % 11 : Nat) : Int)) (L.rem (b := 11) rfl rfl rfl (by decide)),
      opsN_s (v := .int .i64 ((2 + n % 11 : Nat) : Int)) (L.addE rfl rfl (by omega) (And.intro (by omega) (by omega))), opsN_nil]
    rfl
  rw [code_seq s1]
theorem mid9 (x y z : Nat) (hx : x < 256) (hy : y < 256) (hz : z ≠ 0) (e : Env) (h : Heap) (c : C) (call : CallT) (hs : see9 e = (.int .u8 (.ofNat x), .int .u8 (.ofNat y), .int .i64 (.ofNat z))) :
    code (.seq p9_7 c) call maxRounds e h = code c call maxRounds (set9 (nat9 (x % z)) (nat9 (y % z)) e) h := by
  have h1 : Env.get .d0 .d1 e = .int .u8 (x : Int) := congrArg (·.1) hs
  have h2 : Env.get .d0 .d2 e = .int .u8 (y : Int) := congrArg (·.2.1) hs
  have h3 : Env.get .d0 .d5 e = .int .i64 (z : Int) := congrArg (·.2.2) hs
  have s : code p9_7 call maxRounds e h = .ok .nrm (set9 (nat9 (x % z)) (nat9 (y % z)) e) h := by
    unfold p9_7
    rw [code_draw, opsD_p (v := .int .u8 (x : Int)) (by show LR.val (Env.get .d0 .d1 e) = _; rw [h1]), opsD_p (v := .int .i64 (x : Int)) (L.conv64 rfl (And.intro (by omega) (by omega))), opsD_p (v := .int .i64 (z : Int)) (by show LR.val (Env.get .d0 .d5 e) = _; rw [h3]),
      opsD_p (v := .int .i64 ((x % z : Nat) : Int)) (L.rem (a := x) (b := z) rfl rfl rfl hz), opsD_p (v := .int .u8 (y : Int)) (by show LR.val (Env.get .d0 .d2 e) = _; rw [h2]), opsD_p (v := .int .i64 (y : Int)) (L.conv64 rfl (And.intro (by omega) (by omega))),
      opsD_p (v := .int .i64 (z : Int)) (by show LR.val (Env.get .d0 .d5 e) = _; rw [h3]), opsD_p (v := .int .i64 ((y % z : Nat) : Int)) (L.rem (a := y) (b := z) rfl rfl rfl hz), opsD_s (v := .int .i64 ((x % z : Nat) : Int)) rfl, opsD_s (v := .int .i64 ((y % z : Nat) : Int)) rfl, opsD_nil]
    rfl
  rw [code_seq s]
theorem run9 (n : Nat) (hn : n < 256) (x : Nat) (hx : x < 256) (y : Nat) (hy : y < 256) : isTrue (lev ctxL 60 9 [.int .u8 (.ofNat n), .int .u8 (.ofNat x), .int .u8 (.ofNat y)] .none Heap.empty).1 = true := by
  have e0 : (lev ctxL 60 9 [.int .u8 (.ofNat n), .int .u8 (.ofNat x), .int .u8 (.ofNat y)] .none Heap.empty).1 = runFun i9 (lev ctxL 59) [.int .u8 (.ofNat n), .int .u8 (.ofNat x), .int .u8 (.ofNat y)] Heap.empty := by kernel_rfl
  rw [e0, runFun_body (by kernel_rfl), body9, head9 n hn]
  obtain ⟨k, hk⟩ : ∃ k, k = 2 + n % 11 := ⟨_, rfl⟩
  rw [← hk]
  have all := all9 k (by omega) (by omega)
  obtain ⟨e, h, hr, hc⟩ := thenB_ok (all.c (.int .u8 (.ofNat n)) (.int .u8 (.ofNat x)) (.int .u8 (.ofNat y)))
  have hc := allBelow_at (allBelow_at hc (x % k) (Nat.mod_lt _ (by omega))) (y % k) (Nat.mod_lt _ (by omega))
  obtain ⟨e8, h8, hr8, hv⟩ := thenB_ok hc
  obtain ⟨rest, hv⟩ := trueV_ok hv
  have hd := all.d (.int .u8 (.ofNat n)) (.int .u8 (.ofNat x)) (.int .u8 (.ofNat y)) (nat9 (x % k)) (nat9 (y % k)) rest
  rw [hr] at hd
  have hd : thenB (run9b (nat9 (x % k)) (nat9 (y % k)) e h) (end9 rest) = true := hd
  rw [hr8] at hd
  have hd : end9 rest e8 h8 = true := hd
  have hs := all.g (.int .u8 (.ofNat n)) (.int .u8 (.ofNat x)) (.int .u8 (.ofNat y))
  rw [hr] at hs
  have hr' : code (seqs [p9_2, p9_3, p9_4, p9_5, p9_6] .skip) (lev ctxL 59) maxRounds (e9 (.int .u8 (.ofNat n)) (.int .u8 (.ofNat x)) (.int .u8 (.ofNat y)) k) Heap.empty = .ok .nrm e h := hr
  rw [code_seqs _ _ _ _ _ _ (by rw [hr']; rfl), hr']
  show isTrue (endCall i9.results (code (.seq p9_7 (.seq p9_8 (.seq (.reg 31975556254751780059 (l9a ++ l9b)) .ret))) (lev ctxL 59) maxRounds e h)) = true
  rw [mid9 x y k hx hy (by omega) e h _ _ hs]
  have hr8' : code p9_8 (lev ctxL 59) maxRounds (set9 (nat9 (x % k)) (nat9 (y % k)) e) h = .ok .nrm e8 h8 := hr8
  rw [code_seq hr8']
  show fin9 (opsN (l9a ++ l9b) (lev ctxL 59) [] e8 h8) = true
  rw [runV_ok l9a [] _ hv]
  exact hd
end
end Go.Eng.Ytjgmahbgfbkhnaa
