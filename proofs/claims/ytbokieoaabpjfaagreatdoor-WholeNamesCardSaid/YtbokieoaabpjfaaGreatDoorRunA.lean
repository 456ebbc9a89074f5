/- Part of a proof of a law, by an evaluator that the machine follows: rules, contracts of functions, what they come to. No condition of its own. -/
import Derived.Test.YtbokieoaabpjfaaGreatDoorCtx
import Derived.Test.YtbokieoaabpjfaaGreatDoorSym
set_option maxRecDepth 1000000
namespace Go.Eng.YtbokieoaabpjfaaGreatDoor
open Go.Eng
noncomputable section
def p9 : List C := [(.reg 1 [.s .d0 .d1 (.L (.mov (.c (.bool false))))]), (.reg 30 [.p (.L (.bin .rem (.t .d0 .d0) (.c (.int .u8 26)))),
    .p (.L (.bin .add (.c (.int .u8 97)) (.l 0))),
    .p (.L (.bsl 1 1 [.int .u8 0] [(0, 1, (.l 0))])),
    .s .d0 .d2 (.L (.bstr (.l 0)))])]
def r9 : C := (.seq (.reg 62 [.p (.L (.bins .add (.c (.str 7 9118715755130733)) (.t .d0 .d2))),
    .p (.L (.bins .add (.l 0) (.c (.str 16 78674335880579174941851362884526153787)))),
    .p (.L (.build [.str 0 0, .str 0 0] [(0, 1, (.c (.str 2 31354))), (1, 1, (.l 0))])),
    .p (.L (.build [.str 0 0, .str 0 0] [(0, 1, (.c (.str 2 31097))), (1, 1, (.c (.str 57 90946351855816637988049045710943827697029710531037080296194496360930442388266845177195038988390492324037250456072723768075874941702270829)))])),
    .s .d0 .d3 (.L (.bsl 2 2 [.str 0 0, .str 0 0] [(0, 2, (.l 1)), (2, 2, (.l 0))]))])
  (.seq (.reg 122 [.p (.H (.call 22 [(.c (.str 9 1096149254613609111916)), (.t .d0 .d3)])),
    .p (.L (.ext 0 (.l 0))),
    .p (.L (.ext 1 (.l 1))),
    .s .d0 .d5 (.L (.mov (.l 1))),
    .s .d0 .d4 (.L (.mov (.l 1)))])
  (.seq (.seq (.reg 246 [.p (.H (.call 24 [(.t .d0 .d4)])),
    .p (.L (.bin .neq (.l 0) (.c (.int .i64 0)))),
    .g (.l 0) false (.L (.mov (.t .d0 .d5))),
    .g (.l 1) false (.L (.len false (.l 0))),
    .g (.l 2) false (.L (.bin .neq (.l 0) (.c (.int .i64 2)))),
    .s .d0 .d6 (.L (.pick (.l 3) (.c (.bool true)) (.l 0)))])
  (.cond (.t .d0 .d6) (.seq (.reg 1 [.s .d0 .d1 (.L (.mov (.c (.bool false))))])
  .ret) .skip))
  (.seq (.reg 57310 [.p (.L (.iaddr 4 (.t .d0 .d5) (.c (.int .i64 0)))),
    .p (.L (.loadn 4 (.l 0))),
    .p (.L (.build [.str 0 0, .int .i64 0, .int .i64 0, .str 0 0] [(0, 1, (.c (.str 2 31097))), (1, 1, (.c (.int .i64 18))), (2, 1, (.c (.int .i64 5))), (3, 1, (.c (.str 2 31354)))])),
    .p (.L (.eq false (.st [(0, .str), (1, .int), (2, .int), (3, .str)]) (.l 1) (.l 0))),
    .g (.l 0) true (.L (.mov (.t .d0 .d5))),
    .g (.l 1) true (.L (.iaddr 4 (.l 0) (.c (.int .i64 1)))),
    .g (.l 2) true (.L (.loadn 4 (.l 0))),
    .g (.l 3) true (.L (.mov (.t .d0 .d2))),
    .g (.l 4) true (.L (.build [.str 0 0, .int .i64 0, .int .i64 0, .str 0 0] [(0, 1, (.c (.str 2 31354))), (1, 1, (.c (.int .i64 7))), (2, 1, (.c (.int .i64 2))), (3, 1, (.l 0))])),
    .g (.l 5) true (.L (.eq false (.st [(0, .str), (1, .int), (2, .int), (3, .str)]) (.l 2) (.l 0))),
    .p (.L (.pick (.l 6) (.l 0) (.c (.bool false)))),
    .g (.l 0) true (.H (.call 11 [])),
    .s .d0 .d1 (.L (.pick (.l 1) (.l 0) (.c (.bool false))))])
  .ret))))
def st9 (a : Nat) : CR := code (seqs p9 .skip) (lev ctx 59) maxRounds (argsP [.int .u8 (.ofNat a)] 0 Env.nil) Heap.empty
theorem body9 : i9.body = seqs p9 r9 := by kernel_rfl
theorem pre9 : allBelow (fun a => isNrm (st9 a) && (Env.same (envOf (st9 a)) (Env.set .d0 .d0 (.int .u8 (.ofNat a)) (envOf (st9 (a.mod 26)))) && Heap.same (heapOf (st9 a)) (heapOf (st9 (a.mod 26))))) 256 = true := by kernel_rfl
theorem c9_0 (a : Nat) : isTrue (endCall i9.results (code r9 (lev ctx 59) maxRounds (Env.set .d0 .d0 (.int .u8 (.ofNat a)) (envOf (st9 0))) (heapOf (st9 0)))) = true := by kernel_rfl
theorem c9_1 (a : Nat) : isTrue (endCall i9.results (code r9 (lev ctx 59) maxRounds (Env.set .d0 .d0 (.int .u8 (.ofNat a)) (envOf (st9 1))) (heapOf (st9 1)))) = true := by kernel_rfl
theorem c9_2 (a : Nat) : isTrue (endCall i9.results (code r9 (lev ctx 59) maxRounds (Env.set .d0 .d0 (.int .u8 (.ofNat a)) (envOf (st9 2))) (heapOf (st9 2)))) = true := by kernel_rfl
theorem c9_3 (a : Nat) : isTrue (endCall i9.results (code r9 (lev ctx 59) maxRounds (Env.set .d0 .d0 (.int .u8 (.ofNat a)) (envOf (st9 3))) (heapOf (st9 3)))) = true := by kernel_rfl
theorem c9_4 (a : Nat) : isTrue (endCall i9.results (code r9 (lev ctx 59) maxRounds (Env.set .d0 .d0 (.int .u8 (.ofNat a)) (envOf (st9 4))) (heapOf (st9 4)))) = true := by kernel_rfl
theorem c9_5 (a : Nat) : isTrue (endCall i9.results (code r9 (lev ctx 59) maxRounds (Env.set .d0 .d0 (.int .u8 (.ofNat a)) (envOf (st9 5))) (heapOf (st9 5)))) = true := by kernel_rfl
theorem c9_6 (a : Nat) : isTrue (endCall i9.results (code r9 (lev ctx 59) maxRounds (Env.set .d0 .d0 (.int .u8 (.ofNat a)) (envOf (st9 6))) (heapOf (st9 6)))) = true := by kernel_rfl
theorem c9_7 (a : Nat) : isTrue (endCall i9.results (code r9 (lev ctx 59) maxRounds (Env.set .d0 .d0 (.int .u8 (.ofNat a)) (envOf (st9 7))) (heapOf (st9 7)))) = true := by kernel_rfl
theorem c9_8 (a : Nat) : isTrue (endCall i9.results (code r9 (lev ctx 59) maxRounds (Env.set .d0 .d0 (.int .u8 (.ofNat a)) (envOf (st9 8))) (heapOf (st9 8)))) = true := by kernel_rfl
theorem c9_9 (a : Nat) : isTrue (endCall i9.results (code r9 (lev ctx 59) maxRounds (Env.set .d0 .d0 (.int .u8 (.ofNat a)) (envOf (st9 9))) (heapOf (st9 9)))) = true := by kernel_rfl
theorem c9_10 (a : Nat) : isTrue (endCall i9.results (code r9 (lev ctx 59) maxRounds (Env.set .d0 .d0 (.int .u8 (.ofNat a)) (envOf (st9 10))) (heapOf (st9 10)))) = true := by kernel_rfl
theorem c9_11 (a : Nat) : isTrue (endCall i9.results (code r9 (lev ctx 59) maxRounds (Env.set .d0 .d0 (.int .u8 (.ofNat a)) (envOf (st9 11))) (heapOf (st9 11)))) = true := by kernel_rfl
theorem c9_12 (a : Nat) : isTrue (endCall i9.results (code r9 (lev ctx 59) maxRounds (Env.set .d0 .d0 (.int .u8 (.ofNat a)) (envOf (st9 12))) (heapOf (st9 12)))) = true := by kernel_rfl
end
end Go.Eng.YtbokieoaabpjfaaGreatDoor
