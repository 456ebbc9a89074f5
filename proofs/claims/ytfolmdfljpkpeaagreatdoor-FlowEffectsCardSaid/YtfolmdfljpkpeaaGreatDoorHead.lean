/- Part of a proof of a law, by an evaluator that the machine follows: rules, contracts of functions, what they come to. No condition of its own. -/
import Derived.Test.YtfolmdfljpkpeaaGreatDoorCtx
set_option maxRecDepth 1000000
namespace Go.Eng.YtfolmdfljpkpeaaGreatDoor
open Go.Eng
noncomputable section
def p6_0 : C := (.reg 1 [.s .d0 .d2 (.L (.mov (.c (.bool false))))])
def p6_1 : C := (.reg 1 [.s .d1 .d1 (.L (.bsl 1 4 [.str 0 0] [(0, 1, (.c (.str 2 28521))), (1, 1, (.c (.str 3 7628142))), (2, 1, (.c (.str 3 6778732))), (3, 1, (.c (.str 3 6581874)))]))])
def p6_2 : C := (.reg 7 [.s .d0 .d7 (.L (.mov (.c (.str 0 0)))),
    .s .d1 .d4 (.L (.mov (.c (.str 0 0)))),
    .s .d1 .d6 (.L (.mov (.c (.str 0 0))))])
def p6_3 : C := (.reg 1 [.s .d2 .d0 (.L (.mov (.c (.int .i64 0))))])
def p6_4 : C := (.seq (.reg 1 [.s .d0 .d3 (.L (.mov (.c (.int .i64 0))))])
  (.block 0 (.loop (.seq (.seq (.reg 2 [.s .d0 .d4 (.L (.bin .lss (.t .d0 .d3) (.c (.int .i64 4))))])
  (.cond (.t .d0 .d4) .skip (.exit 0)))
  (.seq (.block 1 (.seq (.draw [0, 1, 2, 3, 4, 5, 6, 7, 8, 9, 10, 11, 12, 13, 14, 15, 16, 17, 18, 19, 20, 21] [⟨.p (.L (.mov (.t .d0 .d3))), []⟩,
    ⟨.p (.L (.mov (.t .d0 .d0))), []⟩,
    ⟨.p (.L (.len false (.l 0))), []⟩,
    ⟨.p (.L (.bin .lss (.l 2) (.l 0))), []⟩,
    ⟨.p (.L (.mov (.l 0))), []⟩,
    ⟨.g (.l 0) true (.L (.mov (.t .d0 .d0))), []⟩,
    ⟨.g (.l 1) true (.L (.mov (.t .d0 .d3))), []⟩,
    ⟨.g (.l 2) true (.L (.iaddr 1 (.l 1) (.l 0))), []⟩,
    ⟨.g (.l 3) true (.L (.load (.l 0))), []⟩,
    ⟨.p (.L (.pick (.l 4) (.l 0) (.c (.bool false)))), []⟩,
    ⟨.p (.L (.mov (.t .d0 .d3))), []⟩,
    ⟨.p (.L (.mov (.t .d0 .d1))), []⟩,
    ⟨.p (.L (.len false (.l 0))), []⟩,
    ⟨.p (.L (.bin .lss (.l 2) (.l 0))), []⟩,
    ⟨.p (.L (.mov (.l 0))), []⟩,
    ⟨.g (.l 0) true (.L (.mov (.t .d0 .d1))), []⟩,
    ⟨.g (.l 1) true (.L (.mov (.t .d0 .d3))), []⟩,
    ⟨.g (.l 2) true (.L (.iaddr 1 (.l 1) (.l 0))), []⟩,
    ⟨.g (.l 3) true (.L (.load (.l 0))), []⟩,
    ⟨.p (.L (.pick (.l 4) (.l 0) (.c (.bool false)))), []⟩,
    ⟨.s .d0 .d5 (.L (.mov (.l 10))), []⟩,
    ⟨.s .d1 .d2 (.L (.mov (.l 1))), []⟩])
  (.seq (.seq (.reg 1 [.s .d0 .d6 (.L (.mov (.t .d0 .d5)))])
  (.cond (.t .d0 .d6) (.seq (.seq (.reg 2 [.s .d1 .d0 (.L (.bins .neq (.t .d0 .d7) (.c (.str 0 0))))])
  (.cond (.t .d1 .d0) (.reg 2 [.s .d0 .d7 (.L (.bins .add (.t .d0 .d7) (.c (.str 2 8236))))]) .skip))
  (.reg 56 [.p (.L (.iaddr 1 (.t .d1 .d1) (.t .d0 .d3))),
    .p (.L (.load (.l 0))),
    .s .d0 .d7 (.L (.bins .add (.t .d0 .d7) (.l 0)))])) .skip))
  (.seq (.seq (.reg 1 [.s .d1 .d3 (.L (.mov (.t .d1 .d2)))])
  (.cond (.t .d1 .d3) (.seq (.seq (.reg 2 [.s .d1 .d5 (.L (.bins .neq (.t .d1 .d4) (.c (.str 0 0))))])
  (.cond (.t .d1 .d5) (.reg 2 [.s .d1 .d4 (.L (.bins .add (.t .d1 .d4) (.c (.str 2 8236))))]) .skip))
  (.seq (.reg 56 [.p (.L (.iaddr 1 (.t .d1 .d1) (.t .d0 .d3))),
    .p (.L (.load (.l 0))),
    .s .d1 .d4 (.L (.bins .add (.t .d1 .d4) (.l 0)))])
  (.reg 242 [.p (.L (.bins .add (.t .d1 .d6) (.c (.str 5 139392019813)))),
    .p (.L (.iaddr 1 (.t .d1 .d1) (.t .d0 .d3))),
    .p (.L (.load (.l 0))),
    .p (.L (.bins .add (.l 2) (.l 0))),
    .s .d1 .d6 (.L (.bins .add (.l 0) (.c (.str 2 8251))))]))) .skip))
  (.seq (.reg 28 [.g (.t .d1 .d2) true (.L (.mov (.t .d0 .d5))),
    .g (.t .d1 .d2) true (.L (.not (.l 0))),
    .s .d1 .d7 (.L (.pick (.t .d1 .d2) (.l 0) (.c (.bool false))))])
  (.cond (.t .d1 .d7) (.reg 2 [.s .d2 .d0 (.L (.bin .add (.t .d2 .d0) (.c (.int .i64 1))))]) .skip))))))
  (.reg 2 [.s .d0 .d3 (.L (.bin .add (.t .d0 .d3) (.c (.int .i64 1))))]))))))
def r6 : C := (.seq (.reg 16246 [.p (.L (.bins .add (.c (.str 32 55691815917758265087426024570835774185546941423143292443936938034761142923117)) (.t .d0 .d7))),
    .p (.L (.bins .add (.l 0) (.c (.str 4 544940157)))),
    .p (.L (.bins .add (.l 0) (.t .d1 .d6))),
    .p (.L (.bins .add (.l 0) (.c (.str 1 125)))),
    .p (.H (.call 10 [(.l 0)])),
    .p (.L (.ext 0 (.l 0))),
    .p (.L (.ext 1 (.l 1))),
    .p (.L (.ext 2 (.l 2))),
    .s .d2 .d1 (.L (.alloc [.str 0 0, .int .i64 0, .slN, .slN, .slN])),
    .p (.H (.store 5 (.l 0) (.l 3))),
    .s .d2 .d7 (.L (.mov (.l 3)))])
  (.seq (.reg 16246 [.p (.L (.bins .add (.c (.str 33 14257104874946115838226708123723763859927290519999577531604083018784204078215021)) (.t .d1 .d4))),
    .p (.L (.bins .add (.l 0) (.c (.str 28 12966761346384478986129636077870562250154777761349289781681471561853)))),
    .p (.L (.bins .add (.l 0) (.t .d0 .d7))),
    .p (.L (.bins .add (.l 0) (.c (.str 15 649690831623535309596630517561368701)))),
    .p (.H (.call 10 [(.l 0)])),
    .p (.L (.ext 0 (.l 0))),
    .p (.L (.ext 1 (.l 1))),
    .p (.L (.ext 2 (.l 2))),
    .s .d2 .d2 (.L (.alloc [.str 0 0, .int .i64 0, .slN, .slN, .slN])),
    .p (.H (.store 5 (.l 0) (.l 3))),
    .s .d3 .d0 (.L (.mov (.l 3)))])
  (.seq (.draw [0, 3, 1, 2, 4, 5, 6, 7] [⟨.p (.L (.loadn 5 (.t .d2 .d1))), []⟩,
    ⟨.p (.L (.loadn 5 (.t .d2 .d2))), []⟩,
    ⟨.p (.H (.call 21 [])), [1, 0]⟩,
    ⟨.p (.H (.call 16 [(.l 2), (.l 0), (.c (.slN))])), [1]⟩,
    ⟨.p (.H (.call 21 [])), [2]⟩,
    ⟨.p (.H (.call 16 [(.l 3), (.l 0), (.c (.slN))])), []⟩,
    ⟨.s .d2 .d3 (.L (.mov (.l 2))), []⟩,
    ⟨.s .d3 .d1 (.L (.mov (.l 1))), []⟩])
  (.seq (.seq (.reg 1 [.s .d2 .d4 (.L (.mov (.c (.int .i64 0))))])
  (.block 2 (.loop (.seq (.seq (.reg 12 [.p (.L (.len false (.t .d2 .d3))),
    .s .d2 .d5 (.L (.bin .lss (.t .d2 .d4) (.l 0)))])
  (.cond (.t .d2 .d5) .skip (.exit 2)))
  (.seq (.block 3 (.seq (.reg 60 [.p (.L (.iaddr 4 (.t .d2 .d3) (.t .d2 .d4))),
    .p (.L (.faddr 2 (.l 0))),
    .p (.L (.load (.l 0))),
    .s .d2 .d6 (.L (.bin .neq (.l 0) (.c (.int .i64 13))))])
  (.cond (.t .d2 .d6) (.seq (.reg 1 [.s .d0 .d2 (.L (.mov (.c (.bool false))))])
  .ret) .skip)))
  (.reg 2 [.s .d2 .d4 (.L (.bin .add (.t .d2 .d4) (.c (.int .i64 1))))]))))))
  (.seq (.reg 1830842 [.p (.L (.bin .eql (.t .d2 .d7) (.c (.int .i64 0)))),
    .g (.l 0) true (.L (.mov (.t .d3 .d0))),
    .g (.l 1) true (.L (.bin .eql (.l 0) (.c (.int .i64 0)))),
    .p (.L (.pick (.l 2) (.l 0) (.c (.bool false)))),
    .g (.l 0) true (.L (.mov (.t .d2 .d3))),
    .g (.l 1) true (.L (.len false (.l 0))),
    .g (.l 2) true (.L (.mov (.t .d2 .d0))),
    .g (.l 3) true (.L (.bin .eql (.l 1) (.l 0))),
    .p (.L (.pick (.l 4) (.l 0) (.c (.bool false)))),
    .g (.l 0) true (.L (.mov (.t .d3 .d1))),
    .g (.l 1) true (.L (.len false (.l 0))),
    .g (.l 2) true (.L (.mov (.t .d2 .d0))),
    .g (.l 3) true (.L (.bin .eql (.l 1) (.l 0))),
    .p (.L (.pick (.l 4) (.l 0) (.c (.bool false)))),
    .g (.l 0) true (.H (.call 12 [])),
    .s .d0 .d2 (.L (.pick (.l 1) (.l 0) (.c (.bool false))))])
  .ret)))))
def p6 : List C := [p6_0, p6_1, p6_2, p6_3, p6_4]
theorem body6 : i6.body = seqs p6 r6 := by kernel_rfl
/-- what lies in memory at the start: what the two slices show -/
def H0 (o0 o1 : Obj) : Heap := ⟨T.set 0 o0 (T.set 1 o1 T.e), 8, T.e, [], .none⟩
/-- the first loop -/
def P6 (a0 a1 : V) (o0 o1 : Obj) : CR := code (seqs p6 .skip) (lev ctx 59) maxRounds (argsP [a0, a1] 0 Env.nil) (H0 o0 o1)
def C6 (s0 s1 s2 s3 u0 u1 u2 u3 : Bool) : CR := P6 (.sl 0 0 4 (some 4)) (.sl 1 0 4 (some 4)) (.box [.bool s0, .bool s1, .bool s2, .bool s3]) (.box [.bool u0, .bool u1, .bool u2, .bool u3])
def E6 (s0 s1 s2 s3 u0 u1 u2 u3 : Bool) (a0 a1 : V) : Env := Env.set .d0 .d0 a0 (Env.set .d0 .d1 a1 (envOf (C6 s0 s1 s2 s3 u0 u1 u2 u3)))
def H6 (s0 s1 s2 s3 u0 u1 u2 u3 : Bool) (o0 o1 : Obj) : Heap := ⟨T.set 0 o0 (T.set 1 o1 (heapOf (C6 s0 s1 s2 s3 u0 u1 u2 u3)).t), (heapOf (C6 s0 s1 s2 s3 u0 u1 u2 u3)).next, (heapOf (C6 s0 s1 s2 s3 u0 u1 u2 u3)).fams, (heapOf (C6 s0 s1 s2 s3 u0 u1 u2 u3)).ds, (heapOf (C6 s0 s1 s2 s3 u0 u1 u2 u3)).pc⟩
/-- the rest, whatever the slices are -/
def R6 (s0 s1 s2 s3 u0 u1 u2 u3 : Bool) (a0 a1 : V) (o0 o1 : Obj) : Bool := isTrue (endCall i6.results (code r6 (lev ctx 59) maxRounds (E6 s0 s1 s2 s3 u0 u1 u2 u3 a0 a1) (H6 s0 s1 s2 s3 u0 u1 u2 u3 o0 o1)))
end
end Go.Eng.YtfolmdfljpkpeaaGreatDoor
