/- Part of a proof of a law, by an evaluator that the machine follows: rules, contracts of functions, what they come to. No condition of its own. -/
import Derived.Test.YtbokieoaabpjfaaGreatDoorCtx
import Derived.Test.YtbokieoaabpjfaaGreatDoorSym
set_option maxRecDepth 1000000
namespace Go.Eng.YtbokieoaabpjfaaGreatDoor
open Go.Eng
noncomputable section
def p10_0 : C := (.reg 1 [.s .d0 .d2 (.L (.mov (.c (.bool false))))])
def p10_1 : C := (.reg 14 [.p (.L (.conv .i64 (.t .d0 .d0))),
    .p (.L (.bin .rem (.l 0) (.c (.int .i64 20)))),
    .s .d0 .d4 (.L (.bin .add (.c (.int .i64 20)) (.l 0)))])
def r10 : C := (.seq (.reg 1 [.s .d0 .d7 (.L (.mov (.c (.slN))))])
  (.seq (.seq (.reg 1 [.s .d0 .d3 (.L (.mov (.c (.int .i64 0))))])
  (.block 0 (.loop (.seq (.seq (.reg 4 [.s .d0 .d5 (.L (.bin .lss (.t .d0 .d3) (.t .d0 .d4)))])
  (.cond (.t .d0 .d5) .skip (.exit 0)))
  (.seq (.block 1 (.seq (.reg 6 [.p (.H (.call 26 [(.t .d0 .d3)])),
    .s .d0 .d6 (.L (.bins .add (.c (.str 1 110)) (.l 0)))])
  (.reg 248 [.p (.L (.bins .add (.c (.str 7 9118715755130733)) (.t .d0 .d6))),
    .p (.L (.bins .add (.l 0) (.c (.str 1 59)))),
    .p (.L (.build [.str 0 0, .str 0 0] [(0, 1, (.t .d0 .d6)), (1, 1, (.l 0))])),
    .p (.L (.bsl 2 1 [.str 0 0, .str 0 0] [(0, 2, (.l 0))])),
    .s .d0 .d7 (.H (.append 2 32 (.t .d0 .d7) (.l 0)))])))
  (.reg 2 [.s .d0 .d3 (.L (.bin .add (.t .d0 .d3) (.c (.int .i64 1))))]))))))
  (.seq (.seq (.reg 1 [.s .d1 .d0 (.L (.mov (.t .d0 .d1)))])
  (.cond (.t .d1 .d0) (.reg 60 [.p (.L (.iaddr 2 (.t .d0 .d7) (.c (.int .i64 0)))),
    .p (.L (.loadn 2 (.l 0))),
    .p (.L (.bsl 2 1 [.str 0 0, .str 0 0] [(0, 2, (.l 0))])),
    .s .d0 .d7 (.H (.append 2 32 (.t .d0 .d7) (.l 0)))]) .skip))
  (.seq (.reg 122 [.p (.H (.call 22 [(.c (.str 9 1095356621079191904620)), (.t .d0 .d7)])),
    .p (.L (.ext 0 (.l 0))),
    .p (.L (.ext 1 (.l 1))),
    .s .d1 .d3 (.L (.mov (.l 1))),
    .s .d1 .d2 (.L (.mov (.l 1)))])
  (.seq (.seq (.reg 1 [.s .d1 .d1 (.L (.mov (.t .d0 .d1)))])
  (.cond (.t .d1 .d1) (.seq (.reg 1782 [.p (.H (.call 24 [(.t .d1 .d2)])),
    .p (.L (.bin .eql (.l 0) (.c (.int .i64 1)))),
    .g (.l 0) true (.L (.mov (.t .d1 .d3))),
    .g (.l 1) true (.L (.len false (.l 0))),
    .g (.l 2) true (.L (.bin .eql (.l 0) (.c (.int .i64 0)))),
    .p (.L (.pick (.l 3) (.l 0) (.c (.bool false)))),
    .g (.l 0) true (.H (.call 11 [])),
    .s .d0 .d2 (.L (.pick (.l 1) (.l 0) (.c (.bool false))))])
  .ret) .skip))
  (.seq (.reg 7307190 [.p (.H (.call 24 [(.t .d1 .d2)])),
    .p (.L (.bin .eql (.l 0) (.c (.int .i64 14)))),
    .p (.L (.bin .gtr (.t .d0 .d4) (.c (.int .i64 30)))),
    .p (.L (.eq false .bool (.l 1) (.l 0))),
    .g (.l 0) true (.L (.mov (.t .d0 .d4))),
    .g (.l 1) true (.L (.bin .gtr (.l 0) (.c (.int .i64 30)))),
    .g (.l 2) true (.L (.mov (.l 0))),
    .g (.l 0) false (.L (.mov (.t .d1 .d2))),
    .g (.l 1) false (.H (.call 24 [(.l 0)])),
    .g (.l 2) false (.L (.bin .eql (.l 0) (.c (.int .i64 0)))),
    .g (.l 6) true (.L (.pick (.l 3) (.c (.bool true)) (.l 0))),
    .p (.L (.pick (.l 7) (.l 0) (.c (.bool false)))),
    .g (.l 0) true (.L (.mov (.t .d1 .d3))),
    .g (.l 1) true (.L (.len false (.l 0))),
    .g (.l 2) true (.L (.bin .eql (.l 0) (.c (.int .i64 0)))),
    .p (.L (.pick (.l 3) (.l 0) (.c (.bool false)))),
    .g (.l 0) true (.H (.call 11 [])),
    .s .d0 .d2 (.L (.pick (.l 1) (.l 0) (.c (.bool false))))])
  .ret))))))
theorem body10 : i10.body = .seq p10_0 (.seq p10_1 r10) := by kernel_rfl
def e10 (n x : V) (k : Nat) : Env := Env.set .d0 .d4 (.int .i64 (.ofNat k)) (Env.set .d0 .d2 (.bool false) (argsP [n, x] 0 Env.nil))
def end10 (n : V) (x : Bool) (k : Nat) : Bool := isTrue (endCall i10.results (code r10 (lev ctx 59) maxRounds (e10 n (.bool x) k) Heap.empty))
theorem c10_20_true (n : V) : end10 n true 20 = true := by kernel_rfl
theorem c10_20_false (n : V) : end10 n false 20 = true := by kernel_rfl
theorem c10_21_true (n : V) : end10 n true 21 = true := by kernel_rfl
theorem c10_21_false (n : V) : end10 n false 21 = true := by kernel_rfl
theorem c10_22_true (n : V) : end10 n true 22 = true := by kernel_rfl
theorem c10_22_false (n : V) : end10 n false 22 = true := by kernel_rfl
theorem c10_23_true (n : V) : end10 n true 23 = true := by kernel_rfl
theorem c10_23_false (n : V) : end10 n false 23 = true := by kernel_rfl
theorem c10_24_true (n : V) : end10 n true 24 = true := by kernel_rfl
theorem c10_24_false (n : V) : end10 n false 24 = true := by kernel_rfl
theorem c10_31_true (n : V) : end10 n true 31 = true := by kernel_rfl
theorem c10_31_false (n : V) : end10 n false 31 = true := by kernel_rfl
theorem c10_32_true (n : V) : end10 n true 32 = true := by kernel_rfl
theorem c10_32_false (n : V) : end10 n false 32 = true := by kernel_rfl
theorem c10_33_true (n : V) : end10 n true 33 = true := by kernel_rfl
theorem c10_33_false (n : V) : end10 n false 33 = true := by kernel_rfl
theorem c10_34_true (n : V) : end10 n true 34 = true := by kernel_rfl
theorem c10_34_false (n : V) : end10 n false 34 = true := by kernel_rfl
theorem c10_35_true (n : V) : end10 n true 35 = true := by kernel_rfl
theorem c10_35_false (n : V) : end10 n false 35 = true := by kernel_rfl
theorem c10_36_true (n : V) : end10 n true 36 = true := by kernel_rfl
theorem c10_36_false (n : V) : end10 n false 36 = true := by kernel_rfl
theorem c10_37_true (n : V) : end10 n true 37 = true := by kernel_rfl
theorem c10_37_false (n : V) : end10 n false 37 = true := by kernel_rfl
theorem c10_38_true (n : V) : end10 n true 38 = true := by kernel_rfl
theorem c10_38_false (n : V) : end10 n false 38 = true := by kernel_rfl
theorem c10_39_true (n : V) : end10 n true 39 = true := by kernel_rfl
theorem c10_39_false (n : V) : end10 n false 39 = true := by kernel_rfl
end
end Go.Eng.YtbokieoaabpjfaaGreatDoor
