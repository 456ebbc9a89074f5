/- Part of a proof of a law, by an evaluator that the machine follows: rules, contracts of functions, what they come to. No condition of its own. -/
import Derived.Test.YtbokieoaabpjfaaGreatDoorCtx
import Derived.Test.YtbokieoaabpjfaaGreatDoorSym
set_option maxRecDepth 1000000
namespace Go.Eng.YtbokieoaabpjfaaGreatDoor
open Go.Eng
noncomputable section
def p7_0 : C := (.reg 1 [.s .d0 .d2 (.L (.mov (.c (.bool false))))])
def p7_1 : C := (.reg 14 [.p (.L (.conv .i64 (.t .d0 .d0))),
    .p (.L (.bin .rem (.l 0) (.c (.int .i64 8)))),
    .s .d0 .d4 (.L (.bin .add (.c (.int .i64 1)) (.l 0)))])
def p7_2 : C := (.reg 1 [.s .d1 .d1 (.L (.mov (.c (.slN))))])
def p7_3 : C := (.seq (.reg 1 [.s .d0 .d3 (.L (.mov (.c (.int .i64 0))))])
  (.block 0 (.loop (.seq (.seq (.reg 4 [.s .d0 .d5 (.L (.bin .lss (.t .d0 .d3) (.t .d0 .d4)))])
  (.cond (.t .d0 .d5) .skip (.exit 0)))
  (.seq (.block 1 (.seq (.reg 30 [.p (.L (.conv .u8 (.t .d0 .d3))),
    .p (.L (.bin .add (.c (.int .u8 97)) (.l 0))),
    .p (.L (.bsl 1 2 [.int .u8 0] [(0, 1, (.c (.int .u8 109))), (1, 1, (.l 0))])),
    .s .d0 .d6 (.L (.bstr (.l 0)))])
  (.seq (.reg 6 [.p (.L (.bins .add (.c (.str 7 9118715755130733)) (.t .d0 .d6))),
    .s .d1 .d0 (.L (.bins .add (.l 0) (.c (.str 2 8251))))])
  (.seq (.seq (.reg 2 [.s .d0 .d7 (.L (.bin .gtr (.t .d0 .d3) (.c (.int .i64 0))))])
  (.cond (.t .d0 .d7) (.reg 1018 [.p (.L (.bins .add (.t .d1 .d0) (.c (.str 7 9135234099473769)))),
    .p (.L (.bin .sub (.t .d0 .d3) (.c (.int .i64 1)))),
    .p (.L (.conv .u8 (.l 0))),
    .p (.L (.bin .add (.c (.int .u8 97)) (.l 0))),
    .p (.L (.bsl 1 2 [.int .u8 0] [(0, 1, (.c (.int .u8 109))), (1, 1, (.l 0))])),
    .p (.L (.bstr (.l 0))),
    .p (.L (.bins .add (.l 5) (.l 0))),
    .s .d1 .d0 (.L (.bins .add (.l 0) (.c (.str 1 59))))]) .skip))
  (.reg 56 [.p (.L (.build [.str 0 0, .str 0 0] [(0, 1, (.t .d0 .d6)), (1, 1, (.t .d1 .d0))])),
    .p (.L (.bsl 2 1 [.str 0 0, .str 0 0] [(0, 2, (.l 0))])),
    .s .d1 .d1 (.H (.append 2 32 (.t .d1 .d1) (.l 0)))])))))
  (.reg 2 [.s .d0 .d3 (.L (.bin .add (.t .d0 .d3) (.c (.int .i64 1))))]))))))
def p7_4 : C := (.reg 122 [.p (.H (.call 22 [(.c (.str 9 1095356621079191904620)), (.t .d1 .d1)])),
    .p (.L (.ext 0 (.l 0))),
    .p (.L (.ext 1 (.l 1))),
    .s .d1 .d3 (.L (.mov (.l 1))),
    .s .d1 .d2 (.L (.mov (.l 1)))])
def p7_5 : C := (.seq (.reg 246 [.p (.H (.call 24 [(.t .d1 .d2)])),
    .p (.L (.bin .neq (.l 0) (.c (.int .i64 0)))),
    .g (.l 0) false (.L (.mov (.t .d1 .d3))),
    .g (.l 1) false (.L (.len false (.l 0))),
    .g (.l 2) false (.L (.bin .neq (.l 0) (.c (.int .i64 0)))),
    .s .d1 .d4 (.L (.pick (.l 3) (.c (.bool true)) (.l 0)))])
  (.cond (.t .d1 .d4) (.seq (.reg 1 [.s .d0 .d2 (.L (.mov (.c (.bool false))))])
  .ret) .skip))
def p7_6 : C := (.reg 10 [.p (.L (.conv .i64 (.t .d0 .d1))),
    .s .d1 .d5 (.L (.bin .rem (.l 0) (.t .d0 .d4)))])
def r7 : C := (.seq (.reg 2044 [.p (.L (.conv .u8 (.t .d1 .d5))),
    .p (.L (.bin .add (.c (.int .u8 97)) (.l 0))),
    .p (.L (.bsl 1 2 [.int .u8 0] [(0, 1, (.c (.int .u8 109))), (1, 1, (.l 0))])),
    .p (.L (.bstr (.l 0))),
    .p (.L (.bins .add (.c (.str 18 2827218014995925812444210228674157714108269)) (.l 0))),
    .p (.L (.bins .add (.l 0) (.c (.str 1 59)))),
    .p (.L (.iaddr 2 (.t .d1 .d1) (.c (.int .i64 0)))),
    .p (.L (.faddr 1 (.l 0))),
    .p (.H (.store 1 (.l 0) (.l 2)))])
  (.seq (.reg 122 [.p (.H (.call 22 [(.c (.str 9 1095356621079191904620)), (.t .d1 .d1)])),
    .p (.L (.ext 0 (.l 0))),
    .p (.L (.ext 1 (.l 1))),
    .s .d1 .d7 (.L (.mov (.l 1))),
    .s .d1 .d6 (.L (.mov (.l 1)))])
  (.seq (.seq (.reg 4086 [.p (.H (.call 24 [(.t .d1 .d6)])),
    .p (.L (.bin .neq (.l 0) (.c (.int .i64 0)))),
    .g (.l 0) false (.L (.mov (.t .d1 .d7))),
    .g (.l 1) false (.L (.len false (.l 0))),
    .g (.l 2) false (.L (.mov (.t .d0 .d4))),
    .g (.l 3) false (.L (.mov (.t .d1 .d5))),
    .g (.l 4) false (.L (.bin .add (.l 0) (.c (.int .i64 2)))),
    .g (.l 5) false (.L (.minmax false (.l 2) (.l 0))),
    .g (.l 6) false (.L (.bin .neq (.l 4) (.l 0))),
    .s .d2 .d0 (.L (.pick (.l 7) (.c (.bool true)) (.l 0)))])
  (.cond (.t .d2 .d0) (.seq (.reg 1 [.s .d0 .d2 (.L (.mov (.c (.bool false))))])
  .ret) .skip))
  (.seq (.seq (.reg 1 [.s .d2 .d1 (.L (.mov (.c (.int .i64 0))))])
  (.block 2 (.loop (.seq (.seq (.reg 12 [.p (.L (.len false (.t .d1 .d7))),
    .s .d2 .d2 (.L (.bin .lss (.t .d2 .d1) (.l 0)))])
  (.cond (.t .d2 .d2) .skip (.exit 2)))
  (.seq (.block 3 (.seq (.reg 1 [.s .d2 .d4 (.L (.mov (.c (.int .i64 4))))])
  (.seq (.seq (.reg 4 [.s .d2 .d3 (.L (.bin .gtr (.t .d2 .d1) (.t .d1 .d5)))])
  (.cond (.t .d2 .d3) (.reg 1 [.s .d2 .d4 (.L (.mov (.c (.int .i64 5))))]) .skip))
  (.seq (.draw [0, 1, 2, 3, 4, 5, 6, 7, 8, 9, 10, 11, 12, 13, 14, 15, 16, 17, 18, 19] [⟨.p (.L (.mov (.t .d1 .d7))), []⟩,
    ⟨.p (.L (.mov (.t .d2 .d1))), []⟩,
    ⟨.p (.L (.iaddr 4 (.l 1) (.l 0))), []⟩,
    ⟨.p (.L (.faddr 2 (.l 0))), []⟩,
    ⟨.p (.L (.load (.l 0))), []⟩,
    ⟨.p (.L (.mov (.t .d2 .d4))), []⟩,
    ⟨.p (.L (.bin .neq (.l 1) (.l 0))), []⟩,
    ⟨.p (.L (.mov (.l 0))), []⟩,
    ⟨.g (.l 0) false (.L (.mov (.t .d1 .d7))), []⟩,
    ⟨.g (.l 1) false (.L (.mov (.t .d2 .d1))), []⟩,
    ⟨.g (.l 2) false (.L (.iaddr 4 (.l 1) (.l 0))), []⟩,
    ⟨.g (.l 3) false (.L (.faddr 0 (.l 0))), []⟩,
    ⟨.g (.l 4) false (.L (.load (.l 0))), []⟩,
    ⟨.g (.l 5) false (.L (.mov (.t .d2 .d1))), []⟩,
    ⟨.g (.l 6) false (.L (.conv .u8 (.l 0))), []⟩,
    ⟨.g (.l 7) false (.L (.bin .add (.c (.int .u8 97)) (.l 0))), []⟩,
    ⟨.g (.l 8) false (.L (.bsl 1 2 [.int .u8 0] [(0, 1, (.c (.int .u8 109))), (1, 1, (.l 0))])), []⟩,
    ⟨.g (.l 9) false (.L (.bstr (.l 0))), []⟩,
    ⟨.g (.l 10) false (.L (.bins .neq (.l 5) (.l 0))), []⟩,
    ⟨.s .d2 .d5 (.L (.pick (.l 11) (.c (.bool true)) (.l 0))), []⟩])
  (.cond (.t .d2 .d5) (.seq (.reg 1 [.s .d0 .d2 (.L (.mov (.c (.bool false))))])
  .ret) .skip)))))
  (.reg 2 [.s .d2 .d1 (.L (.bin .add (.t .d2 .d1) (.c (.int .i64 1))))]))))))
  (.seq (.reg 1 [.s .d0 .d2 (.H (.call 11 []))])
  .ret)))))
theorem body7 : i7.body = .seq p7_0 (.seq p7_1 (seqs [p7_2, p7_3, p7_4, p7_5] (.seq p7_6 r7))) := by kernel_rfl
def e7 (n x : V) (k : Nat) : Env := Env.set .d0 .d4 (.int .i64 (.ofNat k)) (Env.set .d0 .d2 (.bool false) (argsP [n, x] 0 Env.nil))
def run7a (n x : V) (k : Nat) : CR := code (seqs [p7_2, p7_3, p7_4, p7_5] .skip) (lev ctx 59) maxRounds (e7 n x k) Heap.empty
def end7 (t : Nat) (e : Env) (h : Heap) : Bool := isTrue (endCall i7.results (code r7 (lev ctx 59) maxRounds (Env.set .d1 .d5 (.int .i64 (.ofNat t)) e) h))
def see7 (e : Env) : V × V := (Env.get .d0 .d1 e, Env.get .d0 .d4 e)
theorem g7_1 (n x : V) : see7 (envOf (run7a n x 1)) = (x, .int .i64 (.ofNat 1)) := by kernel_rfl
theorem c7_1_0 (n x : V) : thenB (run7a n x 1) (fun e h => allBelow (fun i => end7 (Nat.add 0 i) e h) 1) = true := by kernel_rfl
theorem g7_2 (n x : V) : see7 (envOf (run7a n x 2)) = (x, .int .i64 (.ofNat 2)) := by kernel_rfl
theorem c7_2_0 (n x : V) : thenB (run7a n x 2) (fun e h => allBelow (fun i => end7 (Nat.add 0 i) e h) 2) = true := by kernel_rfl
theorem g7_3 (n x : V) : see7 (envOf (run7a n x 3)) = (x, .int .i64 (.ofNat 3)) := by kernel_rfl
theorem c7_3_0 (n x : V) : thenB (run7a n x 3) (fun e h => allBelow (fun i => end7 (Nat.add 0 i) e h) 3) = true := by kernel_rfl
theorem g7_4 (n x : V) : see7 (envOf (run7a n x 4)) = (x, .int .i64 (.ofNat 4)) := by kernel_rfl
theorem c7_4_0 (n x : V) : thenB (run7a n x 4) (fun e h => allBelow (fun i => end7 (Nat.add 0 i) e h) 3) = true := by kernel_rfl
theorem c7_4_3 (n x : V) : thenB (run7a n x 4) (fun e h => allBelow (fun i => end7 (Nat.add 3 i) e h) 1) = true := by kernel_rfl
theorem g7_5 (n x : V) : see7 (envOf (run7a n x 5)) = (x, .int .i64 (.ofNat 5)) := by kernel_rfl
theorem c7_5_0 (n x : V) : thenB (run7a n x 5) (fun e h => allBelow (fun i => end7 (Nat.add 0 i) e h) 3) = true := by kernel_rfl
theorem c7_5_3 (n x : V) : thenB (run7a n x 5) (fun e h => allBelow (fun i => end7 (Nat.add 3 i) e h) 2) = true := by kernel_rfl
end
end Go.Eng.YtbokieoaabpjfaaGreatDoor
