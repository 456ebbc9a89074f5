/- Part of a proof of a law, by an evaluator that the machine follows: rules, contracts of functions, what they come to. No condition of its own. -/
import Derived.Test.YtjgmahbgfbkhnaaLeast
import Derived.Test.YtjgmahbgfbkhnaaTwo
set_option maxRecDepth 1000000
namespace Go.Eng.Ytjgmahbgfbkhnaa
open Go.Eng
noncomputable section
def p7_0 : C := (.reg 1 [.s .d0 .d3 (.L (.mov (.c (.bool false))))])
def p7_1 : C := (.reg 14 [.p (.L (.conv .i64 (.t .d0 .d0))),
    .p (.L (.bin .rem (.l 0) (.c (.int .i64 3)))),
    .s .d0 .d4 (.L (.bin .add (.c (.int .i64 1)) (.l 0)))])
def p7_2 : C := (.reg 6 [.p (.L (.conv .u64 (.t .d0 .d4))),
    .s .d0 .d6 (.L (.shf true (.c (.int .i64 1)) (.l 0)))])
def p7_3 : C := (.reg 1 [.s .d1 .d3 (.L (.mov (.c (.slN))))])
def p7_4 : C := (.seq (.reg 1 [.s .d0 .d5 (.L (.mov (.c (.int .i64 0))))])
  (.block 0 (.loop (.seq (.seq (.reg 4 [.s .d0 .d7 (.L (.bin .lss (.t .d0 .d5) (.t .d0 .d6)))])
  (.cond (.t .d0 .d7) .skip (.exit 0)))
  (.seq (.block 1 (.seq (.reg 1 [.s .d1 .d0 (.L (.mov (.c (.int .i64 0))))])
  (.block 2 (.loop (.seq (.seq (.reg 4 [.s .d1 .d1 (.L (.bin .lss (.t .d1 .d0) (.t .d0 .d4)))])
  (.cond (.t .d1 .d1) .skip (.exit 2)))
  (.seq (.block 3 (.seq (.reg 60 [.p (.L (.conv .u64 (.t .d1 .d0))),
    .p (.L (.shf false (.t .d0 .d5) (.l 0))),
    .p (.L (.bin .and (.l 0) (.c (.int .i64 1)))),
    .s .d1 .d2 (.L (.bin .eql (.l 0) (.c (.int .i64 0))))])
  (.cond (.t .d1 .d2) (.reg 16332 [.p (.H (.call 21 [(.t .d0 .d5)])),
    .p (.L (.bins .add (.c (.str 1 115)) (.l 0))),
    .p (.L (.conv .u64 (.t .d1 .d0))),
    .p (.L (.shf true (.c (.int .i64 1)) (.l 0))),
    .p (.L (.bin .or (.t .d0 .d5) (.l 0))),
    .p (.H (.call 21 [(.l 0)])),
    .p (.L (.bins .add (.c (.str 1 115)) (.l 0))),
    .p (.L (.build [.str 0 0, .str 0 0, .int .i64 0] [(0, 1, (.l 5)), (1, 1, (.l 0))])),
    .p (.L (.bsl 3 1 [.str 0 0, .str 0 0, .int .i64 0] [(0, 3, (.l 0))])),
    .s .d1 .d3 (.H (.append 3 40 (.t .d1 .d3) (.l 0)))]) .skip)))
  (.reg 2 [.s .d1 .d0 (.L (.bin .add (.t .d1 .d0) (.c (.int .i64 1))))])))))))
  (.reg 2 [.s .d0 .d5 (.L (.bin .add (.t .d0 .d5) (.c (.int .i64 1))))]))))))
def p7_5 : C := (.reg 250 [.p (.H (.call 12 [(.t .d1 .d3)])),
    .p (.L (.ext 0 (.l 0))),
    .p (.L (.ext 1 (.l 1))),
    .s .d1 .d5 (.L (.alloc [.slN, .slN, .slN, .slN, .int .i64 0, .int .i64 0])),
    .p (.H (.store 6 (.l 0) (.l 2))),
    .s .d1 .d4 (.L (.mov (.l 2)))])
def p7_6 : C := (.seq (.reg 130038 [.p (.H (.call 15 [(.t .d1 .d4)])),
    .p (.L (.bin .neq (.l 0) (.c (.int .i64 0)))),
    .g (.l 0) false (.L (.faddr 0 (.t .d1 .d5))),
    .g (.l 1) false (.L (.load (.l 0))),
    .g (.l 2) false (.L (.len false (.l 0))),
    .g (.l 3) false (.L (.mov (.t .d0 .d6))),
    .g (.l 4) false (.L (.bin .neq (.l 1) (.l 0))),
    .p (.L (.pick (.l 5) (.c (.bool true)) (.l 0))),
    .g (.l 0) false (.L (.faddr 2 (.t .d1 .d5))),
    .g (.l 1) false (.L (.load (.l 0))),
    .g (.l 2) false (.L (.len false (.l 0))),
    .g (.l 3) false (.L (.mov (.t .d0 .d6))),
    .g (.l 4) false (.L (.bin .neq (.l 1) (.l 0))),
    .s .d1 .d6 (.L (.pick (.l 5) (.c (.bool true)) (.l 0)))])
  (.cond (.t .d1 .d6) (.seq (.reg 1 [.s .d0 .d3 (.L (.mov (.c (.bool false))))])
  .ret) .skip))
def p7_7 : C := (.draw [0, 1, 2, 3, 4, 5, 6, 7, 8, 9] [⟨.p (.L (.mov (.t .d0 .d1))), []⟩,
    ⟨.p (.L (.conv .i64 (.l 0))), []⟩,
    ⟨.p (.L (.mov (.t .d0 .d6))), []⟩,
    ⟨.p (.L (.bin .rem (.l 1) (.l 0))), []⟩,
    ⟨.p (.L (.mov (.t .d0 .d2))), []⟩,
    ⟨.p (.L (.conv .i64 (.l 0))), []⟩,
    ⟨.p (.L (.mov (.t .d0 .d6))), []⟩,
    ⟨.p (.L (.bin .rem (.l 1) (.l 0))), []⟩,
    ⟨.s .d1 .d7 (.L (.mov (.l 4))), []⟩,
    ⟨.s .d2 .d0 (.L (.mov (.l 1))), []⟩])
def r7_8 : C := (.seq (.draw [0, 1, 5, 6, 2, 3, 4, 7, 8, 9, 10, 11] [⟨.p (.L (.loadn 6 (.t .d1 .d5))), []⟩,
    ⟨.p (.L (.mov (.t .d1 .d7))), []⟩,
    ⟨.p (.L (.loadn 6 (.t .d1 .d5))), []⟩,
    ⟨.p (.L (.mov (.t .d2 .d0))), []⟩,
    ⟨.p (.H (.call 21 [(.l 2)])), [3, 1]⟩,
    ⟨.p (.L (.bins .add (.c (.str 1 115)) (.l 0))), []⟩,
    ⟨.p (.H (.call 18 [(.l 5), (.l 0)])), [3]⟩,
    ⟨.p (.H (.call 21 [(.l 3)])), [4]⟩,
    ⟨.p (.L (.bins .add (.c (.str 1 115)) (.l 0))), []⟩,
    ⟨.p (.H (.call 18 [(.l 6), (.l 0)])), []⟩,
    ⟨.s .d2 .d1 (.L (.mov (.l 3))), []⟩,
    ⟨.s .d2 .d2 (.L (.mov (.l 1))), []⟩])
  (.seq (.draw [0, 1, 2, 3, 4, 5, 6, 7, 8, 9, 10, 11, 12, 13, 14, 15, 16, 17, 18, 19, 20, 21, 22, 23, 24, 25, 26, 27, 28, 29, 30, 31, 32, 33, 34, 35, 36, 37, 38, 39, 40, 41, 42, 43, 44, 45, 46, 47, 48, 49, 50, 51, 52, 53, 54, 55, 56, 57, 58, 59, 60, 61, 62, 63, 64, 65] [⟨.p (.L (.mov (.t .d2 .d1))), []⟩,
    ⟨.p (.L (.bin .geq (.l 0) (.c (.int .i64 0)))), []⟩,
    ⟨.p (.L (.mov (.l 0))), []⟩,
    ⟨.g (.l 0) true (.L (.mov (.t .d2 .d2))), []⟩,
    ⟨.g (.l 1) true (.L (.bin .geq (.l 0) (.c (.int .i64 0)))), []⟩,
    ⟨.p (.L (.pick (.l 2) (.l 0) (.c (.bool false)))), []⟩,
    ⟨.p (.L (.mov (.l 0))), []⟩,
    ⟨.g (.l 0) true (.L (.faddr 0 (.t .d1 .d5))), []⟩,
    ⟨.g (.l 1) true (.L (.load (.l 0))), []⟩,
    ⟨.g (.l 2) true (.L (.faddr 2 (.t .d1 .d5))), []⟩,
    ⟨.g (.l 3) true (.L (.load (.l 0))), []⟩,
    ⟨.g (.l 4) true (.L (.mov (.t .d2 .d1))), []⟩,
    ⟨.g (.l 5) true (.L (.iaddr 1 (.l 1) (.l 0))), []⟩,
    ⟨.g (.l 6) true (.L (.load (.l 0))), []⟩,
    ⟨.g (.l 7) true (.L (.mov (.t .d2 .d2))), []⟩,
    ⟨.g (.l 8) true (.L (.iaddr 1 (.l 1) (.l 0))), []⟩,
    ⟨.g (.l 9) true (.L (.load (.l 0))), []⟩,
    ⟨.g (.l 10) true (.L (.iaddr 1 (.l 8) (.l 0))), []⟩,
    ⟨.g (.l 11) true (.L (.load (.l 0))), []⟩,
    ⟨.g (.l 12) true (.L (.mov (.t .d1 .d7))), []⟩,
    ⟨.g (.l 13) true (.L (.mov (.t .d2 .d0))), []⟩,
    ⟨.g (.l 14) true (.L (.bin .or (.l 1) (.l 0))), []⟩,
    ⟨.g (.l 15) true (.H (.call 21 [(.l 0)])), [13, 11, 8, 5, 3]⟩,
    ⟨.g (.l 16) true (.L (.bins .add (.c (.str 1 115)) (.l 0))), []⟩,
    ⟨.g (.l 17) true (.L (.bins .eql (.l 5) (.l 0))), []⟩,
    ⟨.p (.L (.pick (.l 18) (.l 0) (.c (.bool false)))), []⟩,
    ⟨.p (.L (.mov (.l 0))), []⟩,
    ⟨.g (.l 0) true (.L (.faddr 0 (.t .d1 .d5))), []⟩,
    ⟨.g (.l 1) true (.L (.load (.l 0))), []⟩,
    ⟨.g (.l 2) true (.L (.faddr 3 (.t .d1 .d5))), []⟩,
    ⟨.g (.l 3) true (.L (.load (.l 0))), []⟩,
    ⟨.g (.l 4) true (.L (.mov (.t .d2 .d1))), []⟩,
    ⟨.g (.l 5) true (.L (.iaddr 1 (.l 1) (.l 0))), []⟩,
    ⟨.g (.l 6) true (.L (.load (.l 0))), []⟩,
    ⟨.g (.l 7) true (.L (.mov (.t .d2 .d2))), []⟩,
    ⟨.g (.l 8) true (.L (.iaddr 1 (.l 1) (.l 0))), []⟩,
    ⟨.g (.l 9) true (.L (.load (.l 0))), []⟩,
    ⟨.g (.l 10) true (.L (.iaddr 1 (.l 8) (.l 0))), []⟩,
    ⟨.g (.l 11) true (.L (.load (.l 0))), []⟩,
    ⟨.g (.l 12) true (.L (.mov (.t .d1 .d7))), []⟩,
    ⟨.g (.l 13) true (.L (.mov (.t .d2 .d0))), []⟩,
    ⟨.g (.l 14) true (.L (.bin .and (.l 1) (.l 0))), []⟩,
    ⟨.g (.l 15) true (.H (.call 21 [(.l 0)])), [13, 11, 8, 5, 3]⟩,
    ⟨.g (.l 16) true (.L (.bins .add (.c (.str 1 115)) (.l 0))), []⟩,
    ⟨.g (.l 17) true (.L (.bins .eql (.l 5) (.l 0))), []⟩,
    ⟨.p (.L (.pick (.l 18) (.l 0) (.c (.bool false)))), []⟩,
    ⟨.p (.L (.mov (.l 0))), []⟩,
    ⟨.g (.l 0) true (.L (.faddr 1 (.t .d1 .d5))), []⟩,
    ⟨.g (.l 1) true (.L (.load (.l 0))), []⟩,
    ⟨.g (.l 2) true (.L (.mov (.t .d2 .d1))), []⟩,
    ⟨.g (.l 3) true (.L (.iaddr 1 (.l 1) (.l 0))), []⟩,
    ⟨.g (.l 4) true (.L (.load (.l 0))), []⟩,
    ⟨.g (.l 5) true (.L (.mov (.t .d2 .d2))), []⟩,
    ⟨.g (.l 6) true (.L (.iaddr 1 (.l 1) (.l 0))), []⟩,
    ⟨.g (.l 7) true (.L (.load (.l 0))), []⟩,
    ⟨.g (.l 8) true (.L (.mov (.t .d1 .d7))), []⟩,
    ⟨.g (.l 9) true (.L (.mov (.t .d2 .d0))), []⟩,
    ⟨.g (.l 10) true (.L (.bin .and (.l 1) (.l 0))), []⟩,
    ⟨.g (.l 11) true (.L (.mov (.t .d1 .d7))), []⟩,
    ⟨.g (.l 12) true (.L (.bin .eql (.l 1) (.l 0))), []⟩,
    ⟨.g (.l 13) true (.L (.eq false .bool (.l 5) (.l 0))), []⟩,
    ⟨.p (.L (.pick (.l 14) (.l 0) (.c (.bool false)))), []⟩,
    ⟨.p (.L (.mov (.l 0))), []⟩,
    ⟨.g (.l 0) true (.H (.call 11 [])), []⟩,
    ⟨.p (.L (.pick (.l 1) (.l 0) (.c (.bool false)))), []⟩,
    ⟨.s .d0 .d3 (.L (.mov (.l 0))), []⟩])
  .ret))
theorem body7 : i7.body = .seq p7_0 (.seq p7_1 (seqs [p7_2, p7_3, p7_4, p7_5, p7_6] (.seq p7_7 r7_8))) := by kernel_rfl
def e7 (n x y : V) (k : Nat) : Env := Env.set .d0 .d4 (.int .i64 (.ofNat k)) (Env.set .d0 .d3 (.bool false) (argsP [n, x, y] 0 Env.nil))
def run7a (n x y : V) (k : Nat) : CR := code (seqs [p7_2, p7_3, p7_4, p7_5, p7_6] .skip) (lev ctxL 59) maxRounds (e7 n x y k) Heap.empty
def end7 (a b : Nat) (e : Env) (h : Heap) : Bool := isTrue (endCall i7.results (code r7_8 (lev ctxL 59) maxRounds (Env.set .d2 .d0 (.int .i64 (.ofNat b)) (Env.set .d1 .d7 (.int .i64 (.ofNat a)) e)) h))
def see7 (e : Env) : V × V × V := (Env.get .d0 .d1 e, Env.get .d0 .d2 e, Env.get .d0 .d6 e)
theorem g7_1 (n x y : V) : see7 (envOf (run7a n x y 1)) = (x, y, .int .i64 (.ofNat 2)) := by kernel_rfl
theorem c7_1_0 (n x y : V) : thenB (run7a n x y 1) (fun e h => allBelow (fun b => end7 0 b e h) 2) = true := by kernel_rfl
theorem c7_1_1 (n x y : V) : thenB (run7a n x y 1) (fun e h => allBelow (fun b => end7 1 b e h) 2) = true := by kernel_rfl
theorem g7_2 (n x y : V) : see7 (envOf (run7a n x y 2)) = (x, y, .int .i64 (.ofNat 4)) := by kernel_rfl
theorem c7_2_0 (n x y : V) : thenB (run7a n x y 2) (fun e h => allBelow (fun b => end7 0 b e h) 4) = true := by kernel_rfl
theorem c7_2_1 (n x y : V) : thenB (run7a n x y 2) (fun e h => allBelow (fun b => end7 1 b e h) 4) = true := by kernel_rfl
theorem c7_2_2 (n x y : V) : thenB (run7a n x y 2) (fun e h => allBelow (fun b => end7 2 b e h) 4) = true := by kernel_rfl
theorem c7_2_3 (n x y : V) : thenB (run7a n x y 2) (fun e h => allBelow (fun b => end7 3 b e h) 4) = true := by kernel_rfl
theorem g7_3 (n x y : V) : see7 (envOf (run7a n x y 3)) = (x, y, .int .i64 (.ofNat 8)) := by kernel_rfl
theorem c7_3_0 (n x y : V) : thenB (run7a n x y 3) (fun e h => allBelow (fun b => end7 0 b e h) 8) = true := by kernel_rfl
theorem c7_3_1 (n x y : V) : thenB (run7a n x y 3) (fun e h => allBelow (fun b => end7 1 b e h) 8) = true := by kernel_rfl
theorem c7_3_2 (n x y : V) : thenB (run7a n x y 3) (fun e h => allBelow (fun b => end7 2 b e h) 8) = true := by kernel_rfl
theorem c7_3_3 (n x y : V) : thenB (run7a n x y 3) (fun e h => allBelow (fun b => end7 3 b e h) 8) = true := by kernel_rfl
theorem c7_3_4 (n x y : V) : thenB (run7a n x y 3) (fun e h => allBelow (fun b => end7 4 b e h) 8) = true := by kernel_rfl
theorem c7_3_5 (n x y : V) : thenB (run7a n x y 3) (fun e h => allBelow (fun b => end7 5 b e h) 8) = true := by kernel_rfl
theorem c7_3_6 (n x y : V) : thenB (run7a n x y 3) (fun e h => allBelow (fun b => end7 6 b e h) 8) = true := by kernel_rfl
theorem c7_3_7 (n x y : V) : thenB (run7a n x y 3) (fun e h => allBelow (fun b => end7 7 b e h) 8) = true := by kernel_rfl
theorem all7 (k : Nat) (h1 : 1 ≤ k) (h3 : k ≤ 3) : ∃ z, z ≠ 0 ∧ ∀ n x y : V, see7 (envOf (run7a n x y k)) = (x, y, .int .i64 (.ofNat z)) ∧ ∀ a, a < z → thenB (run7a n x y k) (fun e h => allBelow (fun b => end7 a b e h) z) = true := by
  rcases (by omega : k = 1 ∨ k = 2 ∨ k = 3) with rfl | rfl | rfl
  · refine ⟨2, by decide, fun n x y => ⟨g7_1 n x y, fun a ha => ?_⟩⟩
    rcases (by omega : a = 0 ∨ a = 1) with rfl | rfl
    · exact c7_1_0 n x y
    · exact c7_1_1 n x y
  · refine ⟨4, by decide, fun n x y => ⟨g7_2 n x y, fun a ha => ?_⟩⟩
    rcases (by omega : a = 0 ∨ a = 1 ∨ a = 2 ∨ a = 3) with rfl | rfl | rfl | rfl
    · exact c7_2_0 n x y
    · exact c7_2_1 n x y
    · exact c7_2_2 n x y
    · exact c7_2_3 n x y
  · refine ⟨8, by decide, fun n x y => ⟨g7_3 n x y, fun a ha => ?_⟩⟩
    rcases (by omega : a = 0 ∨ a = 1 ∨ a = 2 ∨ a = 3 ∨ a = 4 ∨ a = 5 ∨ a = 6 ∨ a = 7) with rfl | rfl | rfl | rfl | rfl | rfl | rfl | rfl
    · exact c7_3_0 n x y
    · exact c7_3_1 n x y
    · exact c7_3_2 n x y
    · exact c7_3_3 n x y
    · exact c7_3_4 n x y
    · exact c7_3_5 n x y
    · exact c7_3_6 n x y
    · exact c7_3_7 n x y
theorem head7 (n : Nat) (hn : n < 256) (x y : V) (c : C) (call : CallT) : code (.seq p7_0 (.seq p7_1 c)) call maxRounds (argsP [.int .u8 (.ofNat n), x, y] 0 Env.nil) Heap.empty = code c call maxRounds (e7 (.int .u8 (.ofNat n)) x y (1 + n % 3)) Heap.empty := by
  have s0 : code p7_0 call maxRounds (argsP [.int .u8 (.ofNat n), x, y] 0 Env.nil) Heap.empty = .ok .nrm (Env.set .d0 .d3 (.bool false) (argsP [.int .u8 (.ofNat n), x, y] 0 Env.nil)) Heap.empty := by
    unfold p7_0
    rw [code_reg, opsN_s (v := .bool false) rfl, opsN_nil]
  rw [code_seq s0]
  have s1 : code p7_1 call maxRounds (Env.set .d0 .d3 (.bool false) (argsP [.int .u8 (.ofNat n), x, y] 0 Env.nil)) Heap.empty = .ok .nrm (e7 (.int .u8 (.ofNat n)) x y (1 + n % 3)) Heap.empty := by
    unfold p7_1
    rw [code_reg, opsN_p (v := .int .i64 (n : Int)) (L.conv64 rfl (And.intro (by omega) (by omega))), opsN_p (v := .int .i64 ((n % 3 : Nat) : Int)) (L.rem (b := 3) rfl rfl rfl (by decide)),
      opsN_s (v := .int .i64 ((1 + n % 3 : Nat) : Int)) (L.addE rfl rfl (by omega) (And.intro (by omega) (by omega))), opsN_nil]
    rfl
  rw [code_seq s1]
theorem mid7 (x y z : Nat) (hx : x < 256) (hy : y < 256) (hz : z ≠ 0) (e : Env) (h : Heap) (c : C) (call : CallT) (hs : see7 e = (.int .u8 (.ofNat x), .int .u8 (.ofNat y), .int .i64 (.ofNat z))) :
    code (.seq p7_7 c) call maxRounds e h = code c call maxRounds (Env.set .d2 .d0 (.int .i64 (.ofNat (y % z))) (Env.set .d1 .d7 (.int .i64 (.ofNat (x % z))) e)) h := by
  have h1 : Env.get .d0 .d1 e = .int .u8 (x : Int) := congrArg (·.1) hs
  have h2 : Env.get .d0 .d2 e = .int .u8 (y : Int) := congrArg (·.2.1) hs
  have h3 : Env.get .d0 .d6 e = .int .i64 (z : Int) := congrArg (·.2.2) hs
  have s : code p7_7 call maxRounds e h = .ok .nrm (Env.set .d2 .d0 (.int .i64 (.ofNat (y % z))) (Env.set .d1 .d7 (.int .i64 (.ofNat (x % z))) e)) h := by
    unfold p7_7
    rw [code_draw, opsD_p (v := .int .u8 (x : Int)) (by show LR.val (Env.get .d0 .d1 e) = _; rw [h1]), opsD_p (v := .int .i64 (x : Int)) (L.conv64 rfl (And.intro (by omega) (by omega))), opsD_p (v := .int .i64 (z : Int)) (by show LR.val (Env.get .d0 .d6 e) = _; rw [h3]),
      opsD_p (v := .int .i64 ((x % z : Nat) : Int)) (L.rem (a := x) (b := z) rfl rfl rfl hz), opsD_p (v := .int .u8 (y : Int)) (by show LR.val (Env.get .d0 .d2 e) = _; rw [h2]), opsD_p (v := .int .i64 (y : Int)) (L.conv64 rfl (And.intro (by omega) (by omega))),
      opsD_p (v := .int .i64 (z : Int)) (by show LR.val (Env.get .d0 .d6 e) = _; rw [h3]), opsD_p (v := .int .i64 ((y % z : Nat) : Int)) (L.rem (a := y) (b := z) rfl rfl rfl hz), opsD_s (v := .int .i64 ((x % z : Nat) : Int)) rfl, opsD_s (v := .int .i64 ((y % z : Nat) : Int)) rfl, opsD_nil]
    rfl
  rw [code_seq s]
theorem run7 (n : Nat) (hn : n < 256) (x : Nat) (hx : x < 256) (y : Nat) (hy : y < 256) : isTrue (lev ctxL 60 7 [.int .u8 (.ofNat n), .int .u8 (.ofNat x), .int .u8 (.ofNat y)] .none Heap.empty).1 = true := by
  have e0 : (lev ctxL 60 7 [.int .u8 (.ofNat n), .int .u8 (.ofNat x), .int .u8 (.ofNat y)] .none Heap.empty).1 = runFun i7 (lev ctxL 59) [.int .u8 (.ofNat n), .int .u8 (.ofNat x), .int .u8 (.ofNat y)] Heap.empty := by kernel_rfl
  rw [e0, runFun_body (by kernel_rfl), body7, head7 n hn]
  obtain ⟨z, hz, hall⟩ := all7 (1 + n % 3) (by omega) (by omega)
  obtain ⟨hs, hc⟩ := hall (.int .u8 (.ofNat n)) (.int .u8 (.ofNat x)) (.int .u8 (.ofNat y))
  obtain ⟨e, h, hr, hb⟩ := thenB_ok (hc (x % z) (Nat.mod_lt _ (by omega)))
  have hr' : code (seqs [p7_2, p7_3, p7_4, p7_5, p7_6] .skip) (lev ctxL 59) maxRounds (e7 (.int .u8 (.ofNat n)) (.int .u8 (.ofNat x)) (.int .u8 (.ofNat y)) (1 + n % 3)) Heap.empty = .ok .nrm e h := hr
  rw [code_seqs _ _ _ _ _ _ (by rw [hr']; rfl), hr']
  rw [hr] at hs
  show isTrue (endCall i7.results (code (.seq p7_7 r7_8) (lev ctxL 59) maxRounds e h)) = true
  rw [mid7 x y z hx hy hz e h _ _ hs]
  exact allBelow_at hb (y % z) (Nat.mod_lt _ (by omega))
end
end Go.Eng.Ytjgmahbgfbkhnaa
