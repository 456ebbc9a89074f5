/- Part of a proof of a law, by an evaluator that the machine follows: rules, contracts of functions, what they come to. No condition of its own. -/
import Derived.Test.YtfapefhnicdncaaEngC
set_option linter.unusedVariables false
set_option linter.unusedSimpArgs false
set_option maxRecDepth 100000
namespace Go.Eng.Ytfapefhnicdncaa
open Go.Eng
noncomputable section
def i3 : Fun :=
  ⟨2, [0, 1, 4, 5, 7, 23, 9, 41, 8, 6, 12, 15, 10, 13, 11, 14], [.tmp .d0 .d2], (.seq (.reg 1 [.s .d0 .d2 (.L (.mov (.c (.bool false))))])
  (.seq (.reg 4 [.s .d0 .d3 (.H (.call 5 [(.t .d0 .d0), (.t .d0 .d1)]))])
  (.seq (.reg 1 [.s .d1 .d1 (.L (.mov (.c (.slN))))])
  (.seq (.seq (.reg 6 [.p (.L (.len false (.t .d0 .d3))),
    .s .d0 .d4 (.L (.bin .sub (.l 0) (.c (.int .i64 1))))])
  (.block 0 (.loop (.seq (.seq (.reg 2 [.s .d0 .d5 (.L (.bin .geq (.t .d0 .d4) (.c (.int .i64 0))))])
  (.cond (.t .d0 .d5) .skip (.exit 0)))
  (.seq (.block 1 (.seq (.reg 508 [.p (.L (.iaddr 2 (.t .d0 .d3) (.t .d0 .d4))),
    .p (.L (.faddr 0 (.l 0))),
    .p (.L (.load (.l 0))),
    .p (.L (.bsl 1 1 [.str 0 0] [(0, 1, (.c (.str 2 31354)))])),
    .p (.L (.build [.str 0 0, .slN] [(0, 1, (.l 1)), (1, 1, (.l 0))])),
    .s .d1 .d0 (.L (.alloc [.str 0 0, .slN])),
    .p (.H (.store 2 (.l 0) (.l 1)))])
  (.seq (.seq (.reg 124 [.p (.L (.iaddr 2 (.t .d0 .d3) (.t .d0 .d4))),
    .p (.L (.faddr 1 (.l 0))),
    .p (.L (.load (.l 0))),
    .p (.L (.len false (.l 0))),
    .s .d0 .d6 (.L (.bin .sub (.l 0) (.c (.int .i64 1))))])
  (.block 2 (.loop (.seq (.seq (.reg 2 [.s .d0 .d7 (.L (.bin .geq (.t .d0 .d6) (.c (.int .i64 0))))])
  (.cond (.t .d0 .d7) .skip (.exit 2)))
  (.seq (.block 3 (.draw [0, 1, 2, 3, 4, 5, 6, 7, 8, 9, 10, 11, 12, 13, 14, 15, 16, 17, 18, 19, 20, 21] [⟨.p (.L (.faddr 1 (.t .d1 .d0))), []⟩,
    ⟨.p (.L (.load (.l 0))), []⟩,
    ⟨.p (.L (.mov (.t .d0 .d3))), []⟩,
    ⟨.p (.L (.mov (.t .d0 .d4))), []⟩,
    ⟨.p (.L (.iaddr 2 (.l 1) (.l 0))), []⟩,
    ⟨.p (.L (.faddr 1 (.l 0))), []⟩,
    ⟨.p (.L (.load (.l 0))), []⟩,
    ⟨.p (.L (.mov (.t .d0 .d6))), []⟩,
    ⟨.p (.L (.iaddr 1 (.l 1) (.l 0))), []⟩,
    ⟨.p (.L (.load (.l 0))), []⟩,
    ⟨.p (.L (.mov (.t .d0 .d3))), []⟩,
    ⟨.p (.L (.mov (.t .d0 .d4))), []⟩,
    ⟨.p (.L (.iaddr 2 (.l 1) (.l 0))), []⟩,
    ⟨.p (.L (.faddr 1 (.l 0))), []⟩,
    ⟨.p (.L (.load (.l 0))), []⟩,
    ⟨.p (.L (.mov (.t .d0 .d6))), []⟩,
    ⟨.p (.L (.iaddr 1 (.l 1) (.l 0))), []⟩,
    ⟨.p (.L (.load (.l 0))), []⟩,
    ⟨.p (.L (.bsl 1 2 [.str 0 0] [(0, 1, (.l 8)), (1, 1, (.l 0))])), []⟩,
    ⟨.p (.H (.append 1 16 (.l 17) (.l 0))), []⟩,
    ⟨.p (.L (.faddr 1 (.t .d1 .d0))), []⟩,
    ⟨.p (.H (.store 1 (.l 0) (.l 1))), []⟩]))
  (.reg 2 [.s .d0 .d6 (.L (.bin .sub (.t .d0 .d6) (.c (.int .i64 1))))]))))))
  (.reg 14 [.p (.L (.loadn 2 (.t .d1 .d0))),
    .p (.L (.bsl 2 1 [.str 0 0, .slN] [(0, 2, (.l 0))])),
    .s .d1 .d1 (.H (.append 2 40 (.t .d1 .d1) (.l 0)))]))))
  (.reg 2 [.s .d0 .d4 (.L (.bin .sub (.t .d0 .d4) (.c (.int .i64 1))))]))))))
  (.seq (.reg 506 [.p (.H (.call 6 [(.t .d0 .d3)])),
    .p (.L (.ext 0 (.l 0))),
    .p (.L (.ext 1 (.l 1))),
    .p (.L (.ext 2 (.l 2))),
    .s .d1 .d4 (.L (.mov (.l 2))),
    .s .d1 .d6 (.L (.mov (.l 2))),
    .s .d1 .d2 (.L (.mov (.l 2)))])
  (.seq (.reg 506 [.p (.H (.call 6 [(.t .d1 .d1)])),
    .p (.L (.ext 0 (.l 0))),
    .p (.L (.ext 1 (.l 1))),
    .p (.L (.ext 2 (.l 2))),
    .s .d1 .d5 (.L (.mov (.l 2))),
    .s .d1 .d7 (.L (.mov (.l 2))),
    .s .d1 .d3 (.L (.mov (.l 2)))])
  (.seq (.reg 1826550 [.p (.H (.call 7 [(.t .d1 .d2)])),
    .p (.L (.bin .eql (.l 0) (.c (.int .i64 0)))),
    .g (.l 0) true (.L (.mov (.t .d1 .d3))),
    .g (.l 1) true (.H (.call 7 [(.l 0)])),
    .g (.l 2) true (.L (.bin .eql (.l 0) (.c (.int .i64 0)))),
    .p (.L (.pick (.l 3) (.l 0) (.c (.bool false)))),
    .g (.l 0) true (.L (.mov (.t .d1 .d4))),
    .g (.l 1) true (.L (.mov (.t .d1 .d5))),
    .g (.l 2) true (.H (.call 8 [(.l 1), (.l 0)])),
    .p (.L (.pick (.l 3) (.l 0) (.c (.bool false)))),
    .g (.l 0) true (.L (.mov (.t .d1 .d6))),
    .g (.l 1) true (.L (.mov (.t .d1 .d7))),
    .g (.l 2) true (.H (.call 8 [(.l 1), (.l 0)])),
    .p (.L (.pick (.l 3) (.l 0) (.c (.bool false)))),
    .g (.l 0) true (.H (.call 9 [])),
    .s .d0 .d2 (.L (.pick (.l 1) (.l 0) (.c (.bool false))))])
  .ret)))))))⟩
def i4 : Fun :=
  ⟨2, [0, 1, 4, 5, 8, 6, 7, 34, 9, 38, 10, 62, 11, 66, 12, 73, 85], [.tmp .d0 .d2], (.seq (.reg 1 [.s .d0 .d2 (.L (.mov (.c (.bool false))))])
  (.seq (.reg 4 [.s .d0 .d3 (.H (.call 5 [(.t .d0 .d0), (.t .d0 .d1)]))])
  (.seq (.reg 506 [.p (.H (.call 6 [(.t .d0 .d3)])),
    .p (.L (.ext 0 (.l 0))),
    .p (.L (.ext 1 (.l 1))),
    .p (.L (.ext 2 (.l 2))),
    .s .d0 .d5 (.L (.mov (.l 2))),
    .s .d0 .d6 (.L (.mov (.l 2))),
    .s .d0 .d4 (.L (.mov (.l 2)))])
  (.seq (.seq (.reg 8182 [.p (.H (.call 7 [(.t .d0 .d4)])),
    .p (.L (.bin .neq (.l 0) (.c (.int .i64 0)))),
    .g (.l 0) false (.L (.mov (.t .d0 .d5))),
    .g (.l 1) false (.L (.len false (.l 0))),
    .g (.l 2) false (.L (.mov (.t .d0 .d6))),
    .g (.l 3) false (.L (.len false (.l 0))),
    .g (.l 4) false (.L (.bin .add (.l 2) (.l 0))),
    .g (.l 5) false (.L (.mov (.t .d0 .d3))),
    .g (.l 6) false (.L (.len false (.l 0))),
    .g (.l 7) false (.L (.bin .neq (.l 2) (.l 0))),
    .s .d0 .d7 (.L (.pick (.l 8) (.c (.bool true)) (.l 0)))])
  (.cond (.t .d0 .d7) (.seq (.reg 1 [.s .d0 .d2 (.L (.mov (.c (.bool false))))])
  .ret) .skip))
  (.seq (.seq (.reg 1 [.s .d1 .d0 (.L (.mov (.c (.int .i64 0))))])
  (.block 0 (.loop (.seq (.seq (.reg 12 [.p (.L (.len false (.t .d0 .d3))),
    .s .d1 .d1 (.L (.bin .lss (.t .d1 .d0) (.l 0)))])
  (.cond (.t .d1 .d1) .skip (.exit 0)))
  (.seq (.block 1 (.seq (.reg 28 [.p (.L (.iaddr 2 (.t .d0 .d3) (.t .d1 .d0))),
    .p (.L (.faddr 0 (.l 0))),
    .s .d1 .d2 (.L (.load (.l 0)))])
  (.seq (.reg 130916 [.p (.H (.call 10 [(.t .d0 .d5), (.t .d1 .d2)])),
    .p (.H (.call 10 [(.t .d0 .d6), (.t .d1 .d2)])),
    .p (.L (.eq false .bool (.l 1) (.l 0))),
    .g (.l 0) false (.L (.mov (.t .d0 .d3))),
    .g (.l 1) false (.L (.mov (.t .d1 .d2))),
    .g (.l 2) false (.L (.mov (.t .d1 .d2))),
    .g (.l 3) false (.H (.call 11 [(.l 2), (.l 1), (.l 0)])),
    .g (.l 4) false (.L (.mov (.t .d0 .d6))),
    .g (.l 5) false (.L (.mov (.t .d1 .d2))),
    .g (.l 6) false (.H (.call 10 [(.l 1), (.l 0)])),
    .g (.l 7) false (.L (.eq true .bool (.l 3) (.l 0))),
    .s .d1 .d3 (.L (.pick (.l 8) (.c (.bool true)) (.l 0)))])
  (.cond (.t .d1 .d3) (.seq (.reg 1 [.s .d0 .d2 (.L (.mov (.c (.bool false))))])
  .ret) .skip))))
  (.reg 2 [.s .d1 .d0 (.L (.bin .add (.t .d1 .d0) (.c (.int .i64 1))))]))))))
  (.seq (.seq (.reg 1 [.s .d1 .d4 (.L (.mov (.c (.int .i64 0))))])
  (.block 2 (.loop (.seq (.seq (.reg 12 [.p (.L (.len false (.t .d0 .d5))),
    .s .d1 .d5 (.L (.bin .lss (.t .d1 .d4) (.l 0)))])
  (.cond (.t .d1 .d5) .skip (.exit 2)))
  (.seq (.block 3 (.seq (.reg 2 [.s .d1 .d6 (.L (.mov (.t .d1 .d4)))])
  (.block 4 (.loop (.seq (.seq (.reg 12 [.p (.L (.len false (.t .d0 .d5))),
    .s .d1 .d7 (.L (.bin .lss (.t .d1 .d6) (.l 0)))])
  (.cond (.t .d1 .d7) .skip (.exit 4)))
  (.seq (.block 5 (.seq (.draw [0, 1, 2, 3, 4, 5, 6, 7, 8, 9] [⟨.p (.L (.mov (.t .d0 .d3))), []⟩,
    ⟨.p (.L (.mov (.t .d0 .d5))), []⟩,
    ⟨.p (.L (.mov (.t .d1 .d4))), []⟩,
    ⟨.p (.L (.iaddr 1 (.l 1) (.l 0))), []⟩,
    ⟨.p (.L (.load (.l 0))), []⟩,
    ⟨.p (.L (.mov (.t .d0 .d5))), []⟩,
    ⟨.p (.L (.mov (.t .d1 .d6))), []⟩,
    ⟨.p (.L (.iaddr 1 (.l 1) (.l 0))), []⟩,
    ⟨.p (.L (.load (.l 0))), []⟩,
    ⟨.s .d2 .d0 (.H (.call 11 [(.l 8), (.l 4), (.l 0)])), []⟩])
  (.cond (.t .d2 .d0) (.seq (.reg 1 [.s .d0 .d2 (.L (.mov (.c (.bool false))))])
  .ret) .skip)))
  (.reg 2 [.s .d1 .d6 (.L (.bin .add (.t .d1 .d6) (.c (.int .i64 1))))])))))))
  (.reg 2 [.s .d1 .d4 (.L (.bin .add (.t .d1 .d4) (.c (.int .i64 1))))]))))))
  (.seq (.reg 1 [.s .d0 .d2 (.H (.call 9 []))])
  .ret)))))))⟩
def i5 : Fun :=
  ⟨2, [0, 1, 4, 7, 5, 16, 6, 8, 36, 9], [.tmp .d0 .d2], (.seq (.reg 1 [.s .d0 .d2 (.L (.mov (.c (.slN))))])
  (.seq (.reg 14 [.p (.L (.conv .i64 (.t .d0 .d0))),
    .p (.L (.bin .rem (.l 0) (.c (.int .i64 8)))),
    .s .d0 .d4 (.L (.bin .add (.c (.int .i64 1)) (.l 0)))])
  (.seq (.reg 1 [.s .d0 .d6 (.L (.mov (.c (.slN))))])
  (.seq (.seq (.reg 1 [.s .d0 .d3 (.L (.mov (.c (.int .i64 0))))])
  (.block 0 (.loop (.seq (.seq (.reg 4 [.s .d0 .d5 (.L (.bin .lss (.t .d0 .d3) (.t .d0 .d4)))])
  (.cond (.t .d0 .d5) .skip (.exit 0)))
  (.seq (.block 1 (.reg 508 [.p (.L (.conv .u8 (.t .d0 .d3))),
    .p (.L (.bin .add (.c (.int .u8 97)) (.l 0))),
    .p (.L (.bsl 1 1 [.int .u8 0] [(0, 1, (.l 0))])),
    .p (.L (.bstr (.l 0))),
    .p (.L (.build [.str 0 0, .slN] [(0, 1, (.l 0))])),
    .p (.L (.bsl 2 1 [.str 0 0, .slN] [(0, 2, (.l 0))])),
    .s .d0 .d6 (.H (.append 2 40 (.t .d0 .d6) (.l 0)))]))
  (.reg 2 [.s .d0 .d3 (.L (.bin .add (.t .d0 .d3) (.c (.int .i64 1))))]))))))
  (.seq (.seq (.reg 1 [.s .d0 .d7 (.L (.mov (.c (.int .i64 0))))])
  (.block 2 (.loop (.seq (.seq (.reg 474 [.p (.L (.bin .add (.t .d0 .d7) (.c (.int .i64 1)))),
    .p (.L (.len false (.t .d0 .d1))),
    .p (.L (.bin .lss (.l 1) (.l 0))),
    .g (.l 0) true (.L (.mov (.t .d0 .d7))),
    .g (.l 1) true (.L (.bin .lss (.l 0) (.c (.int .i64 40)))),
    .s .d1 .d0 (.L (.pick (.l 2) (.l 0) (.c (.bool false))))])
  (.cond (.t .d1 .d0) .skip (.exit 2)))
  (.seq (.block 3 (.seq (.reg 92 [.p (.L (.iaddr 1 (.t .d0 .d1) (.t .d0 .d7))),
    .p (.L (.load (.l 0))),
    .p (.L (.conv .i64 (.l 0))),
    .s .d1 .d1 (.L (.bin .rem (.l 0) (.t .d0 .d4)))])
  (.draw [0, 1, 2, 3, 4, 5, 6, 7, 8, 9, 10, 11, 12, 13, 14, 15, 16, 17, 18, 19, 20, 21, 22] [⟨.p (.L (.mov (.t .d0 .d6))), []⟩,
    ⟨.p (.L (.mov (.t .d1 .d1))), []⟩,
    ⟨.p (.L (.mov (.t .d0 .d6))), []⟩,
    ⟨.p (.L (.mov (.t .d1 .d1))), []⟩,
    ⟨.p (.L (.iaddr 2 (.l 1) (.l 0))), []⟩,
    ⟨.p (.L (.faddr 1 (.l 0))), []⟩,
    ⟨.p (.L (.load (.l 0))), []⟩,
    ⟨.p (.L (.mov (.t .d0 .d1))), []⟩,
    ⟨.p (.L (.mov (.t .d0 .d7))), []⟩,
    ⟨.p (.L (.bin .add (.l 0) (.c (.int .i64 1)))), []⟩,
    ⟨.p (.L (.iaddr 1 (.l 2) (.l 0))), []⟩,
    ⟨.p (.L (.load (.l 0))), []⟩,
    ⟨.p (.L (.mov (.t .d0 .d4))), []⟩,
    ⟨.p (.L (.conv .u8 (.l 0))), []⟩,
    ⟨.p (.L (.bin .rem (.l 2) (.l 0))), []⟩,
    ⟨.p (.L (.bin .add (.c (.int .u8 97)) (.l 0))), []⟩,
    ⟨.p (.L (.bsl 1 1 [.int .u8 0] [(0, 1, (.l 0))])), []⟩,
    ⟨.p (.L (.bstr (.l 0))), []⟩,
    ⟨.p (.L (.bsl 1 1 [.str 0 0] [(0, 1, (.l 0))])), []⟩,
    ⟨.p (.H (.append 1 16 (.l 12) (.l 0))), []⟩,
    ⟨.p (.L (.iaddr 2 (.l 19) (.l 18))), []⟩,
    ⟨.p (.L (.faddr 1 (.l 0))), []⟩,
    ⟨.p (.H (.store 1 (.l 0) (.l 2))), []⟩])))
  (.reg 2 [.s .d0 .d7 (.L (.bin .add (.t .d0 .d7) (.c (.int .i64 2))))]))))))
  (.seq (.reg 2 [.s .d0 .d2 (.L (.mov (.t .d0 .d6)))])
  .ret))))))⟩
def i6 : Fun :=
  ⟨1, [0, 2, 3, 4, 5, 22, 26, 25, 27, 24, 9, 10, 37, 6, 7, 60, 59, 61, 58, 11, 13, 70, 14, 15, 75], [.tmp .d0 .d1, .tmp .d0 .d2, .tmp .d0 .d3], (.seq (.reg 7 [.s .d0 .d1 (.L (.mov (.c (.slN)))),
    .s .d0 .d2 (.L (.mov (.c (.slN)))),
    .s .d0 .d3 (.L (.mov (.c (.int .i64 0))))])
  (.seq (.reg 2 [.s .d0 .d4 (.H (.call 12 [(.t .d0 .d0)]))])
  (.seq (.seq (.reg 26 [.p (.L (.lenm (.t .d0 .d4))),
    .p (.L (.len false (.t .d0 .d0))),
    .s .d0 .d5 (.L (.bin .lss (.l 1) (.l 0)))])
  (.cond (.t .d0 .d5) (.seq (.reg 7 [.s .d0 .d1 (.L (.mov (.c (.slN)))),
    .s .d0 .d2 (.L (.mov (.c (.slN)))),
    .s .d0 .d3 (.L (.mov (.c (.int .i64 1))))])
  .ret) .skip))
  (.seq (.reg 7 [.p (.L (.mkmap)),
    .s .d1 .d5 (.L (.alloc [.mapN])),
    .p (.H (.store 1 (.l 0) (.l 1)))])
  (.seq (.reg 1 [.s .d1 .d6 (.L (.mov (.c (.slN))))])
  (.seq (.seq (.reg 7 [.s .d1 .d1 (.L (.mov (.t .d0 .d0))),
    .s .d0 .d7 (.L (.len false (.l 0))),
    .s .d0 .d6 (.L (.mov (.c (.int .i64 0))))])
  (.block 0 (.loop (.seq (.reg 1 [.s .d1 .d0 (.L (.bin .lss (.t .d0 .d6) (.t .d0 .d7)))])
  (.seq (.cond (.t .d1 .d0) .skip (.exit 0))
  (.seq (.block 1 (.seq (.reg 15 [.p (.L (.iaddr 2 (.t .d1 .d1) (.t .d0 .d6))),
    .p (.L (.loadn 2 (.l 0))),
    .s .d1 .d2 (.L (.alloc [.str 0 0, .slN])),
    .p (.H (.store 2 (.l 0) (.l 1)))])
  (.seq (.reg 14 [.p (.L (.faddr 0 (.t .d1 .d2))),
    .p (.L (.load (.l 0))),
    .s .d1 .d3 (.H (.call 13 [(.t .d0 .d4), (.l 0)]))])
  (.seq (.reg 14 [.p (.L (.faddr 0 (.t .d1 .d2))),
    .p (.L (.load (.l 0))),
    .s .d1 .d4 (.L (.lookup .str (.bool false) false (.t .d1 .d3) (.l 0)))])
  (.cond (.t .d1 .d4) (.reg 30 [.p (.L (.faddr 0 (.t .d1 .d2))),
    .p (.L (.load (.l 0))),
    .p (.L (.bsl 1 1 [.str 0 0] [(0, 1, (.l 0))])),
    .s .d0 .d2 (.H (.append 1 16 (.t .d0 .d2) (.l 0)))]) (.seq (.reg 23 [.p (.L (.load (.t .d1 .d5))),
    .p (.L (.faddr 0 (.t .d1 .d2))),
    .p (.L (.load (.l 0))),
    .p (.H (.mupd .str (.l 2) (.l 0) (.t .d1 .d3)))])
  (.reg 30 [.p (.L (.faddr 0 (.t .d1 .d2))),
    .p (.L (.load (.l 0))),
    .p (.L (.bsl 1 1 [.str 0 0] [(0, 1, (.l 0))])),
    .s .d1 .d6 (.H (.append 1 16 (.t .d1 .d6) (.l 0)))])))))))
  (.reg 1 [.s .d0 .d6 (.L (.bin .add (.t .d0 .d6) (.c (.int .i64 1))))])))))))
  (.seq (.reg 2 [.p (.H (.call 14 [(.t .d0 .d2)]))])
  (.seq (.reg 2 [.p (.H (.call 14 [(.t .d1 .d6)]))])
  (.seq (.reg 7 [.p (.L (.mkmap)),
    .s .d2 .d3 (.L (.alloc [.mapN])),
    .p (.H (.store 1 (.l 0) (.l 1)))])
  (.seq (.seq (.reg 7 [.s .d2 .d2 (.L (.mov (.t .d0 .d2))),
    .s .d2 .d0 (.L (.len false (.l 0))),
    .s .d1 .d7 (.L (.mov (.c (.int .i64 0))))])
  (.block 2 (.loop (.seq (.reg 1 [.s .d2 .d1 (.L (.bin .lss (.t .d1 .d7) (.t .d2 .d0)))])
  (.seq (.cond (.t .d2 .d1) .skip (.exit 2))
  (.seq (.block 3 (.seq (.reg 3 [.p (.L (.iaddr 1 (.t .d2 .d2) (.t .d1 .d7))),
    .s .d2 .d4 (.L (.load (.l 0)))])
  (.reg 5 [.p (.L (.load (.t .d2 .d3))),
    .p (.H (.mupd .str (.l 0) (.t .d2 .d4) (.c (.bool true))))])))
  (.reg 1 [.s .d1 .d7 (.L (.bin .add (.t .d1 .d7) (.c (.int .i64 1))))])))))))
  (.seq (.reg 1 [.s .d2 .d6 (.L (.fn 15 [] [(.t .d1 .d5), (.t .d2 .d3)]))])
  (.seq (.block 4 (.loop (.seq (.seq (.reg 6 [.p (.L (.len false (.t .d1 .d6))),
    .s .d2 .d5 (.L (.bin .gtr (.l 0) (.c (.int .i64 0))))])
  (.cond (.t .d2 .d5) .skip (.exit 4)))
  (.block 5 (.seq (.reg 4 [.s .d2 .d7 (.H (.call 16 [(.t .d1 .d6), (.t .d2 .d6)]))])
  (.seq (.seq (.reg 2 [.s .d3 .d0 (.L (.bin .lss (.t .d2 .d7) (.c (.int .i64 0))))])
  (.cond (.t .d3 .d0) (.exit 4) .skip))
  (.seq (.draw [0, 1, 2, 3, 4, 5] [⟨.p (.L (.load (.t .d2 .d3))), []⟩,
    ⟨.p (.L (.mov (.t .d1 .d6))), []⟩,
    ⟨.p (.L (.mov (.t .d2 .d7))), []⟩,
    ⟨.p (.L (.iaddr 1 (.l 1) (.l 0))), []⟩,
    ⟨.p (.L (.load (.l 0))), []⟩,
    ⟨.p (.H (.mupd .str (.l 4) (.l 0) (.c (.bool true)))), []⟩])
  (.seq (.reg 120 [.p (.L (.iaddr 1 (.t .d1 .d6) (.t .d2 .d7))),
    .p (.L (.load (.l 0))),
    .p (.L (.bsl 1 1 [.str 0 0] [(0, 1, (.l 0))])),
    .s .d0 .d1 (.H (.append 1 16 (.t .d0 .d1) (.l 0)))])
  (.reg 24 [.p (.L (.bin .add (.t .d2 .d7) (.c (.int .i64 1)))),
    .s .d1 .d6 (.H (.call 17 [(.t .d1 .d6), (.t .d2 .d7), (.l 0)]))])))))))))
  (.seq (.reg 16 [.s .d0 .d3 (.L (.mov (.c (.int .i64 0))))])
  .ret)))))))))))))⟩
def i7 : Fun :=
  ⟨1, [0, 2], [.tmp .d0 .d1], (.seq (.reg 1 [.s .d0 .d1 (.L (.mov (.c (.int .i64 0))))])
  (.seq (.reg 2 [.s .d0 .d1 (.L (.mov (.t .d0 .d0)))])
  .ret))⟩
def i8 : Fun :=
  ⟨2, [0, 1, 4, 10, 5, 14, 25], [.tmp .d0 .d2], (.seq (.reg 1 [.s .d0 .d2 (.L (.mov (.c (.bool false))))])
  (.seq (.seq (.reg 26 [.p (.L (.len false (.t .d0 .d0))),
    .p (.L (.len false (.t .d0 .d1))),
    .s .d0 .d3 (.L (.bin .neq (.l 1) (.l 0)))])
  (.cond (.t .d0 .d3) (.seq (.reg 1 [.s .d0 .d2 (.L (.mov (.c (.bool false))))])
  .ret) .skip))
  (.seq (.seq (.reg 1 [.s .d0 .d4 (.L (.mov (.c (.int .i64 0))))])
  (.block 0 (.loop (.seq (.seq (.reg 12 [.p (.L (.len false (.t .d0 .d0))),
    .s .d0 .d5 (.L (.bin .lss (.t .d0 .d4) (.l 0)))])
  (.cond (.t .d0 .d5) .skip (.exit 0)))
  (.seq (.block 1 (.seq (.draw [0, 1, 2, 3, 4, 5, 6, 7, 8] [⟨.p (.L (.mov (.t .d0 .d0))), []⟩,
    ⟨.p (.L (.mov (.t .d0 .d4))), []⟩,
    ⟨.p (.L (.iaddr 1 (.l 1) (.l 0))), []⟩,
    ⟨.p (.L (.load (.l 0))), []⟩,
    ⟨.p (.L (.mov (.t .d0 .d1))), []⟩,
    ⟨.p (.L (.mov (.t .d0 .d4))), []⟩,
    ⟨.p (.L (.iaddr 1 (.l 1) (.l 0))), []⟩,
    ⟨.p (.L (.load (.l 0))), []⟩,
    ⟨.s .d0 .d6 (.L (.bins .neq (.l 4) (.l 0))), []⟩])
  (.cond (.t .d0 .d6) (.seq (.reg 1 [.s .d0 .d2 (.L (.mov (.c (.bool false))))])
  .ret) .skip)))
  (.reg 2 [.s .d0 .d4 (.L (.bin .add (.t .d0 .d4) (.c (.int .i64 1))))]))))))
  (.seq (.reg 1 [.s .d0 .d2 (.L (.mov (.c (.bool true))))])
  .ret))))⟩
def i9 : Fun :=
  ⟨0, [0, 3, 2, 1], [.tmp .d0 .d0], (.seq (.reg 1 [.s .d0 .d0 (.L (.mov (.c (.bool false))))])
  (.seq (.reg 4063 [.p (.L (.bsl 1 1 [.str 0 0] [(0, 1, (.c (.str 1 98)))])),
    .p (.L (.build [.str 0 0, .slN] [(0, 1, (.c (.str 1 97))), (1, 1, (.l 0))])),
    .p (.L (.build [.str 0 0, .slN] [(0, 1, (.c (.str 1 98)))])),
    .p (.L (.bsl 2 2 [.str 0 0, .slN] [(0, 2, (.l 1)), (2, 2, (.l 0))])),
    .p (.H (.call 6 [(.l 0)])),
    .p (.L (.ext 0 (.l 0))),
    .p (.L (.ext 1 (.l 1))),
    .p (.L (.ext 2 (.l 2))),
    .s .d0 .d3 (.L (.mov (.l 2))),
    .s .d0 .d2 (.L (.mov (.l 2))),
    .s .d0 .d1 (.L (.mov (.l 2)))])
  (.seq (.reg 515830 [.p (.H (.call 7 [(.t .d0 .d1)])),
    .p (.L (.bin .eql (.l 0) (.c (.int .i64 0)))),
    .g (.l 0) true (.L (.mov (.t .d0 .d2))),
    .g (.l 1) true (.L (.len false (.l 0))),
    .g (.l 2) true (.L (.bin .eql (.l 0) (.c (.int .i64 0)))),
    .p (.L (.pick (.l 3) (.l 0) (.c (.bool false)))),
    .g (.l 0) true (.L (.mov (.t .d0 .d3))),
    .g (.l 1) true (.L (.len false (.l 0))),
    .g (.l 2) true (.L (.bin .eql (.l 0) (.c (.int .i64 2)))),
    .p (.L (.pick (.l 3) (.l 0) (.c (.bool false)))),
    .g (.l 0) true (.L (.mov (.t .d0 .d3))),
    .g (.l 1) true (.L (.iaddr 1 (.l 0) (.c (.int .i64 0)))),
    .g (.l 2) true (.L (.load (.l 0))),
    .g (.l 3) true (.L (.bins .eql (.l 0) (.c (.str 1 98)))),
    .s .d0 .d0 (.L (.pick (.l 4) (.l 0) (.c (.bool false))))])
  .ret)))⟩
def i10 : Fun :=
  ⟨2, [0, 1, 4], [.tmp .d0 .d2], (.seq (.reg 1 [.s .d0 .d2 (.L (.mov (.c (.bool false))))])
  (.seq (.reg 12 [.p (.H (.call 18 [(.t .d0 .d0), (.t .d0 .d1)])),
    .s .d0 .d2 (.L (.bin .geq (.l 0) (.c (.int .i64 0))))])
  .ret))⟩
def i11 : Fun :=
  ⟨3, [0, 1, 2, 6], [.tmp .d0 .d3], (.seq (.reg 1 [.s .d0 .d3 (.L (.mov (.c (.bool false))))])
  (.seq (.reg 42 [.p (.H (.call 12 [(.t .d0 .d0)])),
    .p (.H (.call 13 [(.l 0), (.t .d0 .d1)])),
    .s .d0 .d3 (.L (.lookup .str (.bool false) false (.l 0) (.t .d0 .d2)))])
  .ret))⟩
def i12 : Fun :=
  ⟨1, [0, 2, 15, 14, 16, 13, 5, 3, 25, 24, 26, 23, 7, 32, 31, 33, 30, 9, 11, 42], [.tmp .d0 .d1], (.seq (.reg 1 [.s .d0 .d1 (.L (.mov (.c (.mapN))))])
  (.seq (.reg 1 [.s .d0 .d7 (.L (.mkmap))])
  (.seq (.seq (.reg 7 [.s .d0 .d5 (.L (.mov (.t .d0 .d0))),
    .s .d0 .d3 (.L (.len false (.l 0))),
    .s .d0 .d2 (.L (.mov (.c (.int .i64 0))))])
  (.block 0 (.loop (.seq (.reg 1 [.s .d0 .d4 (.L (.bin .lss (.t .d0 .d2) (.t .d0 .d3)))])
  (.seq (.cond (.t .d0 .d4) .skip (.exit 0))
  (.seq (.block 1 (.seq (.reg 15 [.p (.L (.iaddr 2 (.t .d0 .d5) (.t .d0 .d2))),
    .p (.L (.loadn 2 (.l 0))),
    .s .d0 .d6 (.L (.alloc [.str 0 0, .slN])),
    .p (.H (.store 2 (.l 0) (.l 1)))])
  (.reg 14 [.p (.L (.faddr 0 (.t .d0 .d6))),
    .p (.L (.load (.l 0))),
    .p (.H (.mupd .str (.t .d0 .d7) (.l 0) (.c (.slN))))])))
  (.reg 1 [.s .d0 .d2 (.L (.bin .add (.t .d0 .d2) (.c (.int .i64 1))))])))))))
  (.seq (.seq (.reg 7 [.s .d1 .d3 (.L (.mov (.t .d0 .d0))),
    .s .d1 .d1 (.L (.len false (.l 0))),
    .s .d1 .d0 (.L (.mov (.c (.int .i64 0))))])
  (.block 2 (.loop (.seq (.reg 1 [.s .d1 .d2 (.L (.bin .lss (.t .d1 .d0) (.t .d1 .d1)))])
  (.seq (.cond (.t .d1 .d2) .skip (.exit 2))
  (.seq (.block 3 (.seq (.reg 15 [.p (.L (.iaddr 2 (.t .d1 .d3) (.t .d1 .d0))),
    .p (.L (.loadn 2 (.l 0))),
    .s .d1 .d4 (.L (.alloc [.str 0 0, .slN])),
    .p (.H (.store 2 (.l 0) (.l 1)))])
  (.seq (.reg 15 [.p (.L (.faddr 1 (.t .d1 .d4))),
    .s .d2 .d0 (.L (.load (.l 0))),
    .s .d1 .d6 (.L (.len false (.l 0))),
    .s .d1 .d5 (.L (.mov (.c (.int .i64 0))))])
  (.block 4 (.loop (.seq (.reg 1 [.s .d1 .d7 (.L (.bin .lss (.t .d1 .d5) (.t .d1 .d6)))])
  (.seq (.cond (.t .d1 .d7) .skip (.exit 4))
  (.seq (.block 5 (.seq (.reg 3 [.p (.L (.iaddr 1 (.t .d2 .d0) (.t .d1 .d5))),
    .s .d2 .d1 (.L (.load (.l 0)))])
  (.seq (.reg 180 [.p (.L (.lookup .str (.slN) true (.t .d0 .d7) (.t .d2 .d1))),
    .p (.L (.ext 0 (.l 0))),
    .p (.L (.ext 1 (.l 1))),
    .s .d2 .d2 (.L (.mov (.l 0)))])
  (.seq (.reg 1 [.s .d2 .d3 (.L (.mov (.t .d2 .d2)))])
  (.cond (.t .d2 .d3) (.draw [0, 1, 2, 3, 4, 5, 6, 7, 8, 9, 10] [⟨.p (.L (.mov (.t .d0 .d7))), []⟩,
    ⟨.p (.L (.faddr 0 (.t .d1 .d4))), []⟩,
    ⟨.p (.L (.load (.l 0))), []⟩,
    ⟨.p (.L (.mov (.t .d0 .d7))), []⟩,
    ⟨.p (.L (.faddr 0 (.t .d1 .d4))), []⟩,
    ⟨.p (.L (.load (.l 0))), []⟩,
    ⟨.p (.L (.lookup .str (.slN) false (.l 2) (.l 0))), []⟩,
    ⟨.p (.L (.mov (.t .d2 .d1))), []⟩,
    ⟨.p (.L (.bsl 1 1 [.str 0 0] [(0, 1, (.l 0))])), []⟩,
    ⟨.p (.H (.append 1 16 (.l 2) (.l 0))), [6]⟩,
    ⟨.p (.H (.mupd .str (.l 9) (.l 7) (.l 0))), []⟩]) .skip)))))
  (.reg 1 [.s .d1 .d5 (.L (.bin .add (.t .d1 .d5) (.c (.int .i64 1))))])))))))))
  (.reg 1 [.s .d1 .d0 (.L (.bin .add (.t .d1 .d0) (.c (.int .i64 1))))])))))))
  (.seq (.reg 2 [.s .d0 .d1 (.L (.mov (.t .d0 .d7)))])
  .ret)))))⟩
def i13 : Fun :=
  ⟨2, [0, 1, 4, 6, 15, 5, 7, 29], [.tmp .d0 .d2], (.seq (.reg 1 [.s .d0 .d2 (.L (.mov (.c (.mapN))))])
  (.seq (.reg 1 [.s .d0 .d5 (.L (.mkmap))])
  (.seq (.reg 12 [.p (.L (.lookup .str (.slN) false (.t .d0 .d0) (.t .d0 .d1))),
    .s .d0 .d3 (.H (.call 19 [(.l 0)]))])
  (.seq .skip
  (.seq (.block 0 (.loop (.seq (.seq (.reg 6 [.p (.L (.len false (.t .d0 .d3))),
    .s .d0 .d4 (.L (.bin .gtr (.l 0) (.c (.int .i64 0))))])
  (.cond (.t .d0 .d4) .skip (.exit 0)))
  (.block 1 (.seq (.reg 60 [.p (.L (.len false (.t .d0 .d3))),
    .p (.L (.bin .sub (.l 0) (.c (.int .i64 1)))),
    .p (.L (.iaddr 1 (.t .d0 .d3) (.l 0))),
    .s .d0 .d6 (.L (.load (.l 0)))])
  (.seq (.reg 28 [.p (.L (.len false (.t .d0 .d3))),
    .p (.L (.bin .sub (.l 0) (.c (.int .i64 1)))),
    .s .d0 .d3 (.L (.ssl 1 (.t .d0 .d3) none (some (.l 0)) none))])
  (.seq (.seq (.reg 4 [.s .d0 .d7 (.L (.lookup .str (.bool false) false (.t .d0 .d5) (.t .d0 .d6)))])
  (.cond (.t .d0 .d7) (.exit 1) .skip))
  (.seq (.reg 4 [.p (.H (.mupd .str (.t .d0 .d5) (.t .d0 .d6) (.c (.bool true))))])
  (.reg 24 [.p (.L (.lookup .str (.slN) false (.t .d0 .d0) (.t .d0 .d6))),
    .s .d0 .d3 (.H (.append 1 16 (.t .d0 .d3) (.l 0)))])))))))))
  (.seq (.reg 2 [.s .d0 .d2 (.L (.mov (.t .d0 .d5)))])
  .ret))))))⟩
def i16 : Fun :=
  ⟨2, [0, 1, 4, 8, 7, 9, 5, 16], [.tmp .d0 .d2], (.seq (.reg 1 [.s .d0 .d2 (.L (.mov (.c (.int .i64 0))))])
  (.seq (.seq (.reg 6 [.s .d0 .d4 (.L (.len false (.t .d0 .d0))),
    .s .d0 .d3 (.L (.mov (.c (.int .i64 0))))])
  (.block 0 (.loop (.seq (.reg 1 [.s .d0 .d5 (.L (.bin .lss (.t .d0 .d3) (.t .d0 .d4)))])
  (.seq (.cond (.t .d0 .d5) .skip (.exit 0))
  (.seq (.block 1 (.seq (.reg 2 [.s .d0 .d6 (.L (.mov (.t .d0 .d3)))])
  (.seq (.reg 56 [.p (.L (.iaddr 1 (.t .d0 .d0) (.t .d0 .d6))),
    .p (.L (.load (.l 0))),
    .s .d0 .d7 (.H (.callv (.t .d0 .d1) [(.l 0)]))])
  (.cond (.t .d0 .d7) (.seq (.reg 2 [.s .d0 .d2 (.L (.mov (.t .d0 .d6)))])
  .ret) .skip))))
  (.reg 1 [.s .d0 .d3 (.L (.bin .add (.t .d0 .d3) (.c (.int .i64 1))))])))))))
  (.seq (.reg 1 [.s .d0 .d2 (.L (.mov (.c (.int .i64 (-1)))))])
  .ret)))⟩
def i17 : Fun :=
  ⟨3, [0, 1, 2, 6, 16, 7], [.tmp .d0 .d3], (.seq (.reg 1 [.s .d0 .d3 (.L (.mov (.c (.slN))))])
  (.seq (.reg 48 [.p (.L (.len false (.t .d0 .d0))),
    .p (.L (.ssl 1 (.t .d0 .d0) (some (.t .d0 .d1)) (some (.t .d0 .d2)) (some (.l 0))))])
  (.seq (.seq (.reg 4 [.s .d0 .d4 (.L (.bin .eql (.t .d0 .d1) (.t .d0 .d2)))])
  (.cond (.t .d0 .d4) (.seq (.reg 2 [.s .d0 .d3 (.L (.mov (.t .d0 .d0)))])
  .ret) .skip))
  (.seq (.reg 2 [.s .d0 .d5 (.L (.len false (.t .d0 .d0)))])
  (.seq (.draw [0, 1, 2, 3, 4, 5, 6, 7] [⟨.p (.L (.mov (.t .d0 .d0))), []⟩,
    ⟨.p (.L (.mov (.t .d0 .d1))), []⟩,
    ⟨.p (.L (.ssl 1 (.l 1) none (some (.l 0)) none)), []⟩,
    ⟨.p (.L (.mov (.t .d0 .d0))), []⟩,
    ⟨.p (.L (.mov (.t .d0 .d2))), []⟩,
    ⟨.p (.L (.ssl 1 (.l 1) (some (.l 0)) none none)), []⟩,
    ⟨.p (.H (.append 1 16 (.l 3) (.l 0))), []⟩,
    ⟨.s .d0 .d0 (.L (.mov (.l 0))), []⟩])
  (.seq (.reg 52 [.p (.L (.len false (.t .d0 .d0))),
    .p (.L (.ssl 1 (.t .d0 .d0) (some (.l 0)) (some (.t .d0 .d5)) none)),
    .p (.H (.clear [.str 0 0] (.l 0)))])
  (.seq (.reg 2 [.s .d0 .d3 (.L (.mov (.t .d0 .d0)))])
  .ret)))))))⟩
def i18 : Fun :=
  ⟨2, [0, 1, 4, 5, 9, 17], [.tmp .d0 .d2], (.seq (.reg 1 [.s .d0 .d2 (.L (.mov (.c (.int .i64 0))))])
  (.seq (.seq (.reg 1 [.s .d0 .d3 (.L (.mov (.c (.int .i64 0))))])
  (.block 0 (.loop (.seq (.seq (.reg 12 [.p (.L (.len false (.t .d0 .d0))),
    .s .d0 .d4 (.L (.bin .lss (.t .d0 .d3) (.l 0)))])
  (.cond (.t .d0 .d4) .skip (.exit 0)))
  (.seq (.block 1 (.seq (.reg 44 [.p (.L (.iaddr 1 (.t .d0 .d0) (.t .d0 .d3))),
    .p (.L (.load (.l 0))),
    .s .d0 .d5 (.L (.bins .eql (.l 0) (.t .d0 .d1)))])
  (.cond (.t .d0 .d5) (.seq (.reg 2 [.s .d0 .d2 (.L (.mov (.t .d0 .d3)))])
  .ret) .skip)))
  (.reg 2 [.s .d0 .d3 (.L (.bin .add (.t .d0 .d3) (.c (.int .i64 1))))]))))))
  (.seq (.reg 1 [.s .d0 .d2 (.L (.mov (.c (.int .i64 (-1)))))])
  .ret)))⟩
def i19 : Fun :=
  ⟨1, [0, 2, 4], [.tmp .d0 .d1], (.seq (.reg 1 [.s .d0 .d1 (.L (.mov (.c (.slN))))])
  (.seq (.seq (.reg 2 [.s .d0 .d2 (.L (.eq false .sl (.t .d0 .d0) (.c (.slN))))])
  (.cond (.t .d0 .d2) (.seq (.reg 1 [.s .d0 .d1 (.L (.mov (.c (.slN))))])
  .ret) .skip))
  (.seq (.reg 5 [.p (.L (.bsl 1 0 [.str 0 0] [])),
    .s .d0 .d1 (.H (.append 1 16 (.l 0) (.t .d0 .d0)))])
  .ret)))⟩
def n1 {α : Type} : R8 (Option α) := R8.all none
def n2 {α : Type} : R8 (R8 (Option α)) := R8.all n1
def funs : T Fun := ⟨⟨⟨⟨none, none, none, (some i3), (some i4), (some i5), (some i6), (some i7)⟩, ⟨(some i8), (some i9), (some i10), (some i11), (some i12), (some i13), none, none⟩, ⟨(some i16), (some i17), (some i18), (some i19), none, none, none, none⟩, ⟨none, none, none, none, none, none, none, none⟩, ⟨none, none, none, none, none, none, none, none⟩, n1, n1, n1⟩, n2, n2, n2, n2, n2, n2, n2⟩, none, .mt⟩
def dfuns : T FunD := ⟨⟨n2, n2, n2, n2, n2, n2, n2, n2⟩, none, .mt⟩
end
end Go.Eng.Ytfapefhnicdncaa
