/- Part of a proof of a law, by an evaluator that the machine follows: rules, contracts of functions, what they come to. No condition of its own. -/
import Derived.Test.YtmcjcbldmoijiaaGreatDoorEngC
set_option linter.unusedVariables false
set_option linter.unusedSimpArgs false
set_option maxRecDepth 100000
namespace Go.Eng.YtmcjcbldmoijiaaGreatDoor
open Go.Eng
noncomputable section
def i5 : Fun :=
  ⟨2, [0, 1, 4, 15, 5, 6, 23, 35, 7, 39, 57], [.tmp .d0 .d2], (.seq (.reg 1 [.s .d0 .d2 (.L (.mov (.c (.bool false))))])
  (.seq (.seq (.reg 246 [.p (.L (.len false (.t .d0 .d0))),
    .p (.L (.bin .gtr (.l 0) (.c (.int .i64 60)))),
    .g (.l 0) false (.L (.mov (.t .d0 .d1))),
    .g (.l 1) false (.L (.len false (.l 0))),
    .g (.l 2) false (.L (.bin .gtr (.l 0) (.c (.int .i64 60)))),
    .s .d0 .d3 (.L (.pick (.l 3) (.c (.bool true)) (.l 0)))])
  (.cond (.t .d0 .d3) (.seq (.reg 1 [.s .d0 .d2 (.H (.call 8 []))])
  .ret) .skip))
  (.seq (.reg 4 [.s .d0 .d4 (.H (.call 17 [(.t .d0 .d0), (.t .d0 .d1)]))])
  (.seq (.seq (.reg 1 [.s .d0 .d5 (.L (.mov (.c (.int .i64 1))))])
  (.block 0 (.loop (.seq (.seq (.reg 12 [.p (.L (.len false (.t .d0 .d4))),
    .s .d0 .d6 (.L (.bin .lss (.t .d0 .d5) (.l 0)))])
  (.cond (.t .d0 .d6) .skip (.exit 0)))
  (.seq (.block 1 (.seq (.draw [0, 1, 2, 3, 4, 5, 6, 7, 8, 9] [⟨.p (.L (.mov (.t .d0 .d4))), []⟩,
    ⟨.p (.L (.mov (.t .d0 .d5))), []⟩,
    ⟨.p (.L (.iaddr 1 (.l 1) (.l 0))), []⟩,
    ⟨.p (.L (.load (.l 0))), []⟩,
    ⟨.p (.L (.mov (.t .d0 .d4))), []⟩,
    ⟨.p (.L (.mov (.t .d0 .d5))), []⟩,
    ⟨.p (.L (.bin .sub (.l 0) (.c (.int .i64 1)))), []⟩,
    ⟨.p (.L (.iaddr 1 (.l 2) (.l 0))), []⟩,
    ⟨.p (.L (.load (.l 0))), []⟩,
    ⟨.s .d0 .d7 (.L (.bins .leq (.l 5) (.l 0))), []⟩])
  (.cond (.t .d0 .d7) (.seq (.reg 1 [.s .d0 .d2 (.L (.mov (.c (.bool false))))])
  .ret) .skip)))
  (.reg 2 [.s .d0 .d5 (.L (.bin .add (.t .d0 .d5) (.c (.int .i64 1))))]))))))
  (.seq (.seq (.reg 1 [.s .d1 .d0 (.L (.mov (.c (.int .i64 0))))])
  (.block 2 (.loop (.seq (.seq (.reg 12 [.p (.L (.len false (.t .d0 .d4))),
    .s .d1 .d1 (.L (.bin .lss (.t .d1 .d0) (.l 0)))])
  (.cond (.t .d1 .d1) .skip (.exit 2)))
  (.seq (.block 3 (.seq (.reg 65400 [.p (.L (.iaddr 1 (.t .d0 .d4) (.t .d1 .d0))),
    .p (.L (.load (.l 0))),
    .p (.H (.call 18 [(.t .d0 .d0), (.l 0)])),
    .p (.L (.not (.l 0))),
    .g (.l 0) true (.L (.mov (.t .d0 .d1))),
    .g (.l 1) true (.L (.mov (.t .d0 .d4))),
    .g (.l 2) true (.L (.mov (.t .d1 .d0))),
    .g (.l 3) true (.L (.iaddr 1 (.l 1) (.l 0))),
    .g (.l 4) true (.L (.load (.l 0))),
    .g (.l 5) true (.H (.call 18 [(.l 4), (.l 0)])),
    .g (.l 6) true (.L (.not (.l 0))),
    .s .d1 .d2 (.L (.pick (.l 7) (.l 0) (.c (.bool false))))])
  (.cond (.t .d1 .d2) (.seq (.reg 1 [.s .d0 .d2 (.L (.mov (.c (.bool false))))])
  .ret) .skip)))
  (.reg 2 [.s .d1 .d0 (.L (.bin .add (.t .d1 .d0) (.c (.int .i64 1))))]))))))
  (.seq (.reg 116899800 [.p (.H (.call 20 [(.t .d0 .d0), (.t .d0 .d1)])),
    .p (.H (.call 19 [(.t .d0 .d4), (.l 0)])),
    .g (.l 0) true (.L (.mov (.t .d0 .d0))),
    .g (.l 1) true (.L (.mov (.t .d0 .d1))),
    .g (.l 2) true (.H (.call 21 [(.l 1), (.l 0)])),
    .g (.l 3) true (.L (.mov (.t .d0 .d0))),
    .g (.l 4) true (.L (.mov (.t .d0 .d1))),
    .g (.l 5) true (.H (.call 22 [(.l 1), (.l 0)])),
    .g (.l 6) true (.L (.eq false .bool (.l 3) (.l 0))),
    .p (.L (.pick (.l 7) (.l 0) (.c (.bool false)))),
    .g (.l 0) true (.L (.mov (.t .d0 .d0))),
    .g (.l 1) true (.L (.mov (.t .d0 .d4))),
    .g (.l 2) true (.H (.call 21 [(.l 1), (.l 0)])),
    .p (.L (.pick (.l 3) (.l 0) (.c (.bool false)))),
    .g (.l 0) true (.L (.mov (.t .d0 .d1))),
    .g (.l 1) true (.L (.mov (.t .d0 .d4))),
    .g (.l 2) true (.H (.call 21 [(.l 1), (.l 0)])),
    .p (.L (.pick (.l 3) (.l 0) (.c (.bool false)))),
    .g (.l 0) true (.H (.call 8 [])),
    .s .d0 .d2 (.L (.pick (.l 1) (.l 0) (.c (.bool false))))])
  .ret))))))⟩
def i8 : Fun :=
  ⟨0, [0, 1, 2, 4, 3], [.tmp .d0 .d0], (.seq (.reg 1 [.s .d0 .d0 (.L (.mov (.c (.bool false))))])
  (.seq (.reg 503 [.p (.L (.build [.str 0 0, .int .i64 0, .slN, .slN, .slN] [(0, 1, (.c (.str 1 109)))])),
    .p (.L (.build [.slN, .slN, .slN, .slN, .int .i64 0, .int .i64 0] [])),
    .p (.H (.call 9 [(.l 1), (.l 0)])),
    .p (.L (.ext 0 (.l 0))),
    .p (.L (.ext 1 (.l 1))),
    .s .d0 .d1 (.L (.alloc [.slN, .slN])),
    .p (.H (.store 2 (.l 0) (.l 2))),
    .s .d0 .d2 (.L (.mov (.l 2)))])
  (.seq (.reg 503 [.p (.L (.loadn 2 (.t .d0 .d1))),
    .p (.H (.call 15 [(.l 0)])),
    .p (.H (.call 14 [(.l 0)])),
    .p (.L (.ext 0 (.l 0))),
    .p (.L (.ext 1 (.l 1))),
    .s .d0 .d4 (.L (.alloc [.slN, .slN])),
    .p (.H (.store 2 (.l 0) (.l 2))),
    .s .d0 .d3 (.L (.mov (.l 2)))])
  (.seq (.reg 133152502 [.p (.L (.len false (.t .d0 .d2))),
    .p (.L (.bin .eql (.l 0) (.c (.int .i64 0)))),
    .g (.l 0) true (.L (.mov (.t .d0 .d3))),
    .g (.l 1) true (.H (.call 16 [(.l 0)])),
    .g (.l 2) true (.L (.bin .eql (.l 0) (.c (.int .i64 0)))),
    .p (.L (.pick (.l 3) (.l 0) (.c (.bool false)))),
    .g (.l 0) true (.L (.faddr 0 (.t .d0 .d4))),
    .g (.l 1) true (.L (.load (.l 0))),
    .g (.l 2) true (.L (.len false (.l 0))),
    .g (.l 3) true (.L (.bin .eql (.l 0) (.c (.int .i64 0)))),
    .p (.L (.pick (.l 4) (.l 0) (.c (.bool false)))),
    .g (.l 0) true (.L (.loadn 2 (.t .d0 .d1))),
    .g (.l 1) true (.H (.call 15 [(.l 0)])),
    .g (.l 2) true (.L (.len false (.l 0))),
    .g (.l 3) true (.L (.bin .eql (.l 0) (.c (.int .i64 9)))),
    .p (.L (.pick (.l 4) (.l 0) (.c (.bool false)))),
    .g (.l 0) true (.L (.bsl 1 1 [.str 0 0] [(0, 1, (.c (.str 1 97)))])),
    .g (.l 1) true (.L (.bsl 1 1 [.str 0 0] [(0, 1, (.c (.str 1 98)))])),
    .g (.l 2) true (.L (.bsl 1 1 [.str 0 0] [(0, 1, (.c (.str 1 97)))])),
    .g (.l 3) true (.H (.call 17 [(.l 1), (.l 0)])),
    .g (.l 4) true (.H (.call 21 [(.l 3), (.l 0)])),
    .s .d0 .d0 (.L (.pick (.l 5) (.l 0) (.c (.bool false))))])
  .ret))))⟩
def i9 : Fun :=
  ⟨2, [0, 1, 4, 5, 2, 3, 6, 28, 37, 36, 38, 35, 7, 9, 55, 54, 56, 53, 11], [.cell .d0 .d2 (some 2), .tmp .d0 .d3], (.seq (.reg 15 [.s .d0 .d4 (.L (.box 5 (.t .d0 .d0))),
    .s .d0 .d5 (.L (.box 6 (.t .d0 .d1))),
    .s .d0 .d2 (.L (.alloc [.slN, .slN])),
    .s .d0 .d3 (.L (.mov (.c (.slN))))])
  (.seq (.reg 31 [.p (.L (.faddr 0 (.t .d0 .d4))),
    .p (.L (.load (.l 0))),
    .p (.L (.loadn 6 (.t .d0 .d5))),
    .p (.L (.build [.str 0 0, .slN, .slN, .slN, .slN, .int .i64 0, .int .i64 0, .slN] [(0, 1, (.l 1)), (1, 6, (.l 0))])),
    .s .d0 .d6 (.L (.box 8 (.l 0)))])
  (.seq (.reg 6 [.p (.L (.loadn 5 (.t .d0 .d4))),
    .p (.H (.call 25 [(.t .d0 .d6), (.l 0)]))])
  (.seq (.reg 6 [.p (.L (.loadn 5 (.t .d0 .d4))),
    .p (.H (.call 26 [(.t .d0 .d6), (.l 0)]))])
  (.seq (.seq (.reg 62 [.p (.L (.nilck (.t .d0 .d6))),
    .p (.L (.faddr 7 (.l 0))),
    .p (.L (.load (.l 0))),
    .p (.L (.len false (.l 0))),
    .s .d0 .d7 (.L (.bin .gtr (.l 0) (.c (.int .i64 0))))])
  (.cond (.t .d0 .d7) (.seq (.draw [0, 1, 2, 3, 4, 5, 6] [⟨.p (.L (.build [.slN, .slN] [])), []⟩,
    ⟨.p (.L (.mov (.t .d0 .d6))), []⟩,
    ⟨.p (.L (.nilck (.l 0))), []⟩,
    ⟨.p (.L (.faddr 7 (.l 0))), []⟩,
    ⟨.p (.L (.load (.l 0))), []⟩,
    ⟨.p (.H (.store 2 (.t .d0 .d2) (.l 4))), [0]⟩,
    ⟨.s .d0 .d3 (.L (.mov (.l 1))), []⟩])
  .ret) .skip))
  (.seq (.reg 1 [.s .d1 .d4 (.L (.alloc [.slN, .slN]))])
  (.seq (.seq (.reg 15 [.p (.L (.faddr 3 (.t .d0 .d4))),
    .s .d1 .d3 (.L (.load (.l 0))),
    .s .d1 .d1 (.L (.len false (.l 0))),
    .s .d1 .d0 (.L (.mov (.c (.int .i64 0))))])
  (.block 0 (.loop (.seq (.reg 1 [.s .d1 .d2 (.L (.bin .lss (.t .d1 .d0) (.t .d1 .d1)))])
  (.seq (.cond (.t .d1 .d2) .skip (.exit 0))
  (.seq (.block 1 (.seq (.reg 15 [.p (.L (.iaddr 4 (.t .d1 .d3) (.t .d1 .d0))),
    .p (.L (.loadn 4 (.l 0))),
    .s .d1 .d5 (.L (.alloc [.str 0 0, .str 0 0, .int .i64 0, .int .i64 0])),
    .p (.H (.store 4 (.l 0) (.l 1)))])
  (.reg 2047 [.p (.L (.faddr 0 (.t .d1 .d4))),
    .p (.L (.load (.l 0))),
    .p (.L (.faddr 0 (.t .d1 .d5))),
    .p (.L (.load (.l 0))),
    .p (.L (.faddr 1 (.t .d1 .d5))),
    .p (.L (.load (.l 0))),
    .p (.L (.build [.str 0 0, .str 0 0, .int .i64 0, .int .i64 0] [(0, 1, (.l 2)), (1, 1, (.l 0))])),
    .p (.L (.bsl 4 1 [.str 0 0, .str 0 0, .int .i64 0, .int .i64 0] [(0, 4, (.l 0))])),
    .p (.H (.append 4 48 (.l 6) (.l 0))),
    .p (.L (.faddr 0 (.t .d1 .d4))),
    .p (.H (.store 1 (.l 0) (.l 1)))])))
  (.reg 1 [.s .d1 .d0 (.L (.bin .add (.t .d1 .d0) (.c (.int .i64 1))))])))))))
  (.seq (.seq (.reg 15 [.p (.L (.faddr 4 (.t .d0 .d4))),
    .s .d2 .d1 (.L (.load (.l 0))),
    .s .d1 .d7 (.L (.len false (.l 0))),
    .s .d1 .d6 (.L (.mov (.c (.int .i64 0))))])
  (.block 2 (.loop (.seq (.reg 1 [.s .d2 .d0 (.L (.bin .lss (.t .d1 .d6) (.t .d1 .d7)))])
  (.seq (.cond (.t .d2 .d0) .skip (.exit 2))
  (.seq (.block 3 (.seq (.reg 15 [.p (.L (.iaddr 8 (.t .d2 .d1) (.t .d1 .d6))),
    .p (.L (.loadn 8 (.l 0))),
    .s .d2 .d2 (.L (.alloc [.str 0 0, .slN, .bool false, .str 0 0, .str 0 0, .slN, .slN, .int .i64 0])),
    .p (.H (.store 8 (.l 0) (.l 1)))])
  (.draw [0, 1, 2, 3, 4, 5, 6, 7] [⟨.p (.L (.faddr 1 (.t .d1 .d4))), []⟩,
    ⟨.p (.L (.load (.l 0))), []⟩,
    ⟨.p (.L (.loadn 8 (.t .d2 .d2))), []⟩,
    ⟨.p (.H (.call 27 [(.l 0)])), [1]⟩,
    ⟨.p (.L (.bsl 6 1 [.str 0 0, .slN, .bool false, .str 0 0, .str 0 0, .slN] [(0, 6, (.l 0))])), []⟩,
    ⟨.p (.H (.append 6 104 (.l 3) (.l 0))), []⟩,
    ⟨.p (.L (.faddr 1 (.t .d1 .d4))), []⟩,
    ⟨.p (.H (.store 1 (.l 0) (.l 1))), []⟩])))
  (.reg 1 [.s .d1 .d6 (.L (.bin .add (.t .d1 .d6) (.c (.int .i64 1))))])))))))
  (.seq (.reg 7 [.p (.L (.faddr 0 (.t .d1 .d4))),
    .p (.L (.load (.l 0))),
    .p (.H (.call 28 [(.l 0), (.c (.fn 29 [] []))]))])
  (.seq (.reg 7 [.p (.L (.faddr 1 (.t .d1 .d4))),
    .p (.L (.load (.l 0))),
    .p (.H (.call 31 [(.l 0), (.c (.fn 32 [] []))]))])
  (.seq (.reg 7 [.p (.L (.loadn 2 (.t .d1 .d4))),
    .p (.H (.store 2 (.t .d0 .d2) (.l 0))),
    .s .d0 .d3 (.L (.mov (.c (.slN))))])
  .ret)))))))))))⟩
def i14 : Fun :=
  ⟨1, [0, 2, 3, 5, 18, 4, 6, 25, 24, 26, 7, 8, 62, 11, 10, 9, 138], [.cell .d0 .d1 (some 2), .tmp .d0 .d2], (.seq (.reg 3 [.s .d0 .d1 (.L (.alloc [.slN, .slN])),
    .s .d0 .d2 (.L (.mov (.c (.int .i64 0))))])
  (.seq (.reg 122 [.p (.H (.call 37 [(.t .d0 .d0)])),
    .p (.L (.ext 0 (.l 0))),
    .p (.L (.ext 1 (.l 1))),
    .s .d0 .d5 (.L (.mov (.l 1))),
    .s .d0 .d3 (.L (.mov (.l 1)))])
  (.seq (.seq (.reg 2 [.s .d0 .d4 (.L (.bin .neq (.t .d0 .d3) (.c (.int .i64 0))))])
  (.cond (.t .d0 .d4) (.seq (.reg 7 [.p (.L (.build [.slN, .slN] [])),
    .p (.H (.store 2 (.t .d0 .d1) (.l 0))),
    .s .d0 .d2 (.L (.mov (.c (.int .i64 2))))])
  .ret) .skip))
  (.seq (.reg 6 [.p (.L (.build [.slN, .bool false] [(0, 1, (.t .d0 .d5))])),
    .s .d0 .d6 (.L (.box 2 (.l 0)))])
  (.seq (.reg 1 [.s .d1 .d2 (.L (.alloc [.slN, .slN]))])
  (.seq (.reg 3 [.s .d1 .d3 (.L (.mov (.c (.slN)))),
    .s .d1 .d7 (.L (.mov (.c (.slN))))])
  (.seq (.seq (.reg 6 [.s .d1 .d0 (.H (.call 38 [(.t .d0 .d6)])),
    .s .d0 .d7 (.L (.mov (.c (.int .i64 0))))])
  (.block 0 (.loop (.seq (.reg 1 [.s .d1 .d1 (.L (.bin .lss (.t .d0 .d7) (.t .d1 .d0)))])
  (.seq (.cond (.t .d1 .d1) .skip (.exit 0))
  (.seq (.block 1 (.seq (.draw [0, 1, 2, 4, 3, 5, 6, 7, 8, 9, 10] [⟨.p (.L (.faddr 0 (.t .d1 .d2))), []⟩,
    ⟨.p (.L (.load (.l 0))), []⟩,
    ⟨.p (.L (.mov (.t .d0 .d6))), []⟩,
    ⟨.p (.L (.mov (.t .d0 .d6))), []⟩,
    ⟨.p (.H (.call 39 [(.l 1)])), [2]⟩,
    ⟨.p (.H (.call 39 [(.l 1)])), [3]⟩,
    ⟨.p (.L (.build [.str 0 0, .str 0 0, .int .i64 0, .int .i64 0] [(0, 1, (.l 1)), (1, 1, (.l 0))])), []⟩,
    ⟨.p (.L (.bsl 4 1 [.str 0 0, .str 0 0, .int .i64 0, .int .i64 0] [(0, 4, (.l 0))])), []⟩,
    ⟨.p (.H (.append 4 48 (.l 6) (.l 0))), []⟩,
    ⟨.p (.L (.faddr 0 (.t .d1 .d2))), []⟩,
    ⟨.p (.H (.store 1 (.l 0) (.l 1))), []⟩])
  (.reg 4094 [.p (.L (.faddr 0 (.t .d1 .d2))),
    .p (.L (.load (.l 0))),
    .p (.L (.faddr 0 (.t .d1 .d2))),
    .p (.L (.load (.l 0))),
    .p (.L (.len false (.l 0))),
    .p (.L (.bin .sub (.l 0) (.c (.int .i64 1)))),
    .p (.L (.iaddr 4 (.l 4) (.l 0))),
    .p (.L (.faddr 0 (.l 0))),
    .p (.L (.load (.l 0))),
    .p (.L (.bsl 1 1 [.str 0 0] [(0, 1, (.l 0))])),
    .s .d1 .d3 (.H (.append 1 16 (.t .d1 .d3) (.l 0)))])))
  (.reg 1 [.s .d0 .d7 (.L (.bin .add (.t .d0 .d7) (.c (.int .i64 1))))])))))))
  (.seq (.block 2 (.loop (.seq (.seq (.reg 8126 [.p (.L (.nilck (.t .d0 .d6))),
    .p (.L (.faddr 0 (.l 0))),
    .p (.L (.load (.l 0))),
    .p (.L (.len false (.l 0))),
    .p (.L (.bin .gtr (.l 0) (.c (.int .i64 0)))),
    .g (.l 0) true (.L (.mov (.t .d0 .d6))),
    .g (.l 1) true (.L (.nilck (.l 0))),
    .g (.l 2) true (.L (.faddr 1 (.l 0))),
    .g (.l 3) true (.L (.load (.l 0))),
    .g (.l 4) true (.L (.not (.l 0))),
    .s .d1 .d4 (.L (.pick (.l 5) (.l 0) (.c (.bool false))))])
  (.cond (.t .d1 .d4) .skip (.exit 2)))
  (.block 3 (.seq (.reg 30 [.p (.H (.call 39 [(.t .d0 .d6)])),
    .p (.L (.build [.str 0 0, .slN, .bool false, .str 0 0, .str 0 0, .slN] [(0, 1, (.l 0))])),
    .s .d1 .d6 (.L (.alloc [.str 0 0, .slN, .bool false, .str 0 0, .str 0 0, .slN])),
    .p (.H (.store 6 (.l 0) (.l 1)))])
  (.seq (.reg 2 [.s .d1 .d5 (.H (.call 39 [(.t .d0 .d6)]))])
  (.seq (.reg 4074 [.p (.L (.bins .eql (.t .d1 .d5) (.c (.str 1 49)))),
    .p (.H (.call 39 [(.t .d0 .d6)])),
    .p (.H (.call 39 [(.t .d0 .d6)])),
    .p (.L (.faddr 2 (.t .d1 .d6))),
    .p (.H (.store 1 (.l 0) (.l 3))),
    .p (.L (.faddr 3 (.t .d1 .d6))),
    .p (.H (.store 1 (.l 0) (.l 4))),
    .p (.L (.faddr 4 (.t .d1 .d6))),
    .p (.H (.store 1 (.l 0) (.l 5)))])
  (.seq (.reg 250 [.p (.H (.call 40 [(.t .d0 .d6)])),
    .p (.H (.call 40 [(.t .d0 .d6)])),
    .p (.L (.faddr 1 (.t .d1 .d6))),
    .p (.H (.store 1 (.l 0) (.l 2))),
    .p (.L (.faddr 5 (.t .d1 .d6))),
    .p (.H (.store 1 (.l 0) (.l 3)))])
  (.seq (.reg 4286570460 [.p (.L (.nilck (.t .d0 .d6))),
    .p (.L (.faddr 1 (.l 0))),
    .p (.L (.load (.l 0))),
    .g (.l 0) false (.L (.mov (.t .d1 .d5))),
    .g (.l 1) false (.L (.bins .neq (.l 0) (.c (.str 1 48)))),
    .g (.l 2) false (.L (.mov (.l 0))),
    .g (.l 0) true (.L (.mov (.t .d1 .d5))),
    .g (.l 1) true (.L (.bins .neq (.l 0) (.c (.str 1 49)))),
    .g (.l 5) false (.L (.pick (.l 2) (.l 0) (.c (.bool false)))),
    .p (.L (.pick (.l 6) (.c (.bool true)) (.l 0))),
    .g (.l 0) false (.L (.faddr 2 (.t .d1 .d6))),
    .g (.l 1) false (.L (.load (.l 0))),
    .g (.l 2) false (.L (.not (.l 0))),
    .g (.l 3) false (.L (.mov (.l 0))),
    .g (.l 0) true (.L (.faddr 3 (.t .d1 .d6))),
    .g (.l 1) true (.L (.load (.l 0))),
    .g (.l 2) true (.L (.bins .neq (.l 0) (.c (.str 0 0)))),
    .g (.l 7) false (.L (.pick (.l 3) (.l 0) (.c (.bool false)))),
    .p (.L (.pick (.l 8) (.c (.bool true)) (.l 0))),
    .g (.l 0) false (.L (.faddr 5 (.t .d1 .d6))),
    .g (.l 1) false (.L (.load (.l 0))),
    .g (.l 2) false (.H (.call 41 [(.l 0)])),
    .g (.l 3) false (.L (.not (.l 0))),
    .p (.L (.pick (.l 4) (.c (.bool true)) (.l 0))),
    .p (.L (.nilck (.t .d0 .d6))),
    .p (.L (.faddr 1 (.l 0))),
    .p (.H (.store 1 (.l 0) (.l 2)))])
  (.seq (.reg 127 [.p (.L (.faddr 1 (.t .d1 .d2))),
    .p (.L (.load (.l 0))),
    .p (.L (.loadn 6 (.t .d1 .d6))),
    .p (.L (.bsl 6 1 [.str 0 0, .slN, .bool false, .str 0 0, .str 0 0, .slN] [(0, 6, (.l 0))])),
    .p (.H (.append 6 104 (.l 2) (.l 0))),
    .p (.L (.faddr 1 (.t .d1 .d2))),
    .p (.H (.store 1 (.l 0) (.l 1)))])
  (.reg 30 [.p (.L (.faddr 0 (.t .d1 .d6))),
    .p (.L (.load (.l 0))),
    .p (.L (.bsl 1 1 [.str 0 0] [(0, 1, (.l 0))])),
    .s .d1 .d7 (.H (.append 1 16 (.t .d1 .d7) (.l 0)))])))))))))))
  (.seq (.seq (.reg 15854 [.p (.L (.nilck (.t .d0 .d6))),
    .p (.L (.faddr 1 (.l 0))),
    .p (.L (.load (.l 0))),
    .g (.l 0) false (.L (.mov (.t .d1 .d3))),
    .g (.l 1) false (.H (.call 41 [(.l 0)])),
    .g (.l 2) false (.L (.not (.l 0))),
    .p (.L (.pick (.l 3) (.c (.bool true)) (.l 0))),
    .g (.l 0) false (.L (.mov (.t .d1 .d7))),
    .g (.l 1) false (.H (.call 41 [(.l 0)])),
    .g (.l 2) false (.L (.not (.l 0))),
    .s .d2 .d0 (.L (.pick (.l 3) (.c (.bool true)) (.l 0)))])
  (.cond (.t .d2 .d0) (.seq (.reg 7 [.p (.L (.build [.slN, .slN] [])),
    .p (.H (.store 2 (.t .d0 .d1) (.l 0))),
    .s .d0 .d2 (.L (.mov (.c (.int .i64 2))))])
  .ret) .skip))
  (.seq (.reg 7 [.p (.L (.loadn 2 (.t .d1 .d2))),
    .p (.H (.store 2 (.t .d0 .d1) (.l 0))),
    .s .d0 .d2 (.L (.mov (.c (.int .i64 0))))])
  .ret))))))))))⟩
def i15 : Fun :=
  ⟨1, [0, 2, 1, 17, 16, 18, 15, 5, 3, 32, 31, 33, 30, 7, 37, 8], [.tmp .d0 .d1], (.seq (.reg 3 [.s .d0 .d2 (.L (.box 2 (.t .d0 .d0))),
    .s .d0 .d1 (.L (.mov (.c (.slN))))])
  (.seq (.reg 31 [.p (.L (.faddr 0 (.t .d0 .d2))),
    .p (.L (.load (.l 0))),
    .p (.L (.len false (.l 0))),
    .p (.H (.call 42 [(.l 0)])),
    .s .d1 .d0 (.L (.bsl 1 1 [.str 0 0] [(0, 1, (.l 0))]))])
  (.seq (.seq (.reg 15 [.p (.L (.faddr 0 (.t .d0 .d2))),
    .s .d0 .d6 (.L (.load (.l 0))),
    .s .d0 .d4 (.L (.len false (.l 0))),
    .s .d0 .d3 (.L (.mov (.c (.int .i64 0))))])
  (.block 0 (.loop (.seq (.reg 1 [.s .d0 .d5 (.L (.bin .lss (.t .d0 .d3) (.t .d0 .d4)))])
  (.seq (.cond (.t .d0 .d5) .skip (.exit 0))
  (.seq (.block 1 (.seq (.reg 15 [.p (.L (.iaddr 4 (.t .d0 .d6) (.t .d0 .d3))),
    .p (.L (.loadn 4 (.l 0))),
    .s .d0 .d7 (.L (.alloc [.str 0 0, .str 0 0, .int .i64 0, .int .i64 0])),
    .p (.H (.store 4 (.l 0) (.l 1)))])
  (.reg 126 [.p (.L (.faddr 0 (.t .d0 .d7))),
    .p (.L (.load (.l 0))),
    .p (.L (.faddr 1 (.t .d0 .d7))),
    .p (.L (.load (.l 0))),
    .p (.L (.bsl 1 2 [.str 0 0] [(0, 1, (.l 2)), (1, 1, (.l 0))])),
    .s .d1 .d0 (.H (.append 1 16 (.t .d1 .d0) (.l 0)))])))
  (.reg 1 [.s .d0 .d3 (.L (.bin .add (.t .d0 .d3) (.c (.int .i64 1))))])))))))
  (.seq (.seq (.reg 15 [.p (.L (.faddr 1 (.t .d0 .d2))),
    .s .d1 .d4 (.L (.load (.l 0))),
    .s .d1 .d2 (.L (.len false (.l 0))),
    .s .d1 .d1 (.L (.mov (.c (.int .i64 0))))])
  (.block 2 (.loop (.seq (.reg 1 [.s .d1 .d3 (.L (.bin .lss (.t .d1 .d1) (.t .d1 .d2)))])
  (.seq (.cond (.t .d1 .d3) .skip (.exit 2))
  (.seq (.block 3 (.seq (.reg 15 [.p (.L (.iaddr 6 (.t .d1 .d4) (.t .d1 .d1))),
    .p (.L (.loadn 6 (.l 0))),
    .s .d1 .d5 (.L (.alloc [.str 0 0, .slN, .bool false, .str 0 0, .str 0 0, .slN])),
    .p (.H (.store 6 (.l 0) (.l 1)))])
  (.seq (.reg 1 [.s .d1 .d7 (.L (.mov (.c (.str 1 48))))])
  (.seq (.seq (.reg 3 [.p (.L (.faddr 2 (.t .d1 .d5))),
    .s .d1 .d6 (.L (.load (.l 0)))])
  (.cond (.t .d1 .d6) (.reg 1 [.s .d1 .d7 (.L (.mov (.c (.str 1 49))))]) .skip))
  (.seq (.draw [0, 1, 2, 3, 4, 5, 6, 7, 8, 9, 10, 11, 12, 13, 14] [⟨.p (.L (.mov (.t .d1 .d0))), []⟩,
    ⟨.p (.L (.faddr 0 (.t .d1 .d5))), []⟩,
    ⟨.p (.L (.load (.l 0))), []⟩,
    ⟨.p (.L (.mov (.t .d1 .d7))), []⟩,
    ⟨.p (.L (.faddr 3 (.t .d1 .d5))), []⟩,
    ⟨.p (.L (.load (.l 0))), []⟩,
    ⟨.p (.L (.faddr 4 (.t .d1 .d5))), []⟩,
    ⟨.p (.L (.load (.l 0))), []⟩,
    ⟨.p (.L (.faddr 1 (.t .d1 .d5))), []⟩,
    ⟨.p (.L (.load (.l 0))), []⟩,
    ⟨.p (.L (.len false (.l 0))), []⟩,
    ⟨.p (.H (.call 42 [(.l 0)])), [8, 5, 3]⟩,
    ⟨.p (.L (.bsl 1 5 [.str 0 0] [(0, 1, (.l 9)), (1, 1, (.l 8)), (2, 1, (.l 6)), (3, 1, (.l 4)), (4, 1, (.l 0))])), []⟩,
    ⟨.p (.H (.append 1 16 (.l 12) (.l 0))), []⟩,
    ⟨.s .d1 .d0 (.L (.mov (.l 0))), []⟩])
  (.seq (.reg 14 [.p (.L (.faddr 1 (.t .d1 .d5))),
    .p (.L (.load (.l 0))),
    .s .d1 .d0 (.H (.append 1 16 (.t .d1 .d0) (.l 0)))])
  (.draw [0, 1, 2, 3, 7, 8, 4, 5, 6, 9, 10] [⟨.p (.L (.mov (.t .d1 .d0))), []⟩,
    ⟨.p (.L (.faddr 5 (.t .d1 .d5))), []⟩,
    ⟨.p (.L (.load (.l 0))), []⟩,
    ⟨.p (.L (.len false (.l 0))), []⟩,
    ⟨.p (.L (.faddr 5 (.t .d1 .d5))), []⟩,
    ⟨.p (.L (.load (.l 0))), []⟩,
    ⟨.p (.H (.call 42 [(.l 2)])), [0]⟩,
    ⟨.p (.L (.bsl 1 1 [.str 0 0] [(0, 1, (.l 0))])), []⟩,
    ⟨.p (.H (.append 1 16 (.l 7) (.l 0))), [2]⟩,
    ⟨.p (.H (.append 1 16 (.l 0) (.l 3))), []⟩,
    ⟨.s .d1 .d0 (.L (.mov (.l 0))), []⟩])))))))
  (.reg 1 [.s .d1 .d1 (.L (.bin .add (.t .d1 .d1) (.c (.int .i64 1))))])))))))
  (.seq (.reg 2 [.s .d0 .d1 (.H (.call 43 [(.t .d1 .d0)]))])
  .ret)))))⟩
def i16 : Fun :=
  ⟨1, [0, 2], [.tmp .d0 .d1], (.seq (.reg 1 [.s .d0 .d1 (.L (.mov (.c (.int .i64 0))))])
  (.seq (.reg 2 [.s .d0 .d1 (.L (.mov (.t .d0 .d0)))])
  .ret))⟩
def i17 : Fun :=
  ⟨2, [0, 1, 4], [.tmp .d0 .d2], (.seq (.reg 1 [.s .d0 .d2 (.L (.mov (.c (.slN))))])
  (.seq (.reg 28 [.p (.L (.bsl 1 2 [.slN] [(0, 1, (.t .d0 .d0)), (1, 1, (.t .d0 .d1))])),
    .p (.H (.call 45 [(.l 0)])),
    .s .d0 .d2 (.H (.call 44 [(.l 0)]))])
  .ret))⟩
def i18 : Fun :=
  ⟨2, [0, 1, 4], [.tmp .d0 .d2], (.seq (.reg 1 [.s .d0 .d2 (.L (.mov (.c (.bool false))))])
  (.seq (.reg 12 [.p (.H (.call 46 [(.t .d0 .d0), (.t .d0 .d1)])),
    .s .d0 .d2 (.L (.bin .geq (.l 0) (.c (.int .i64 0))))])
  .ret))⟩
def i19 : Fun :=
  ⟨2, [0, 1, 4, 10, 5, 14, 25], [.tmp .d0 .d2], (.seq (.reg 1 [.s .d0 .d2 (.L (.mov (.c (.bool false))))])
  (.seq (.seq (.reg 26 [.p (.L (.len false (.t .d0 .d0))),
    .p (.L (.len false (.t .d0 .d1))),
    .s .d0 .d3 (.L (.bin .neq (.l 1) (.l 0)))])
  (.cond (.t .d0 .d3) (.seq (.reg 1 [.s .d0 .d2 (.L (.mov (.c (.bool false))))])
  .ret) .skip))
  (.seq (.seq (.reg 1 [.s .d0 .d4 (.L (.mov (.c (.int .i64 0))))])
  (.block 0 (.loop (.seq (.seq (.reg 12 [.p (.L (.len false (.t .d0 .d0))),
    .s .d0 .d5 (.L (.bin .lss (.t .d0 .d4) (.l 0)))])
  (.cond (.t .d0 .d5) .skip (.exit 0)))
  (.seq (.block 1 (.seq (.draw [0, 1, 2, 3, 4, 5, 6, 7, 8] [⟨.p (.L (.mov (.t .d0 .d0))), []⟩,
    ⟨.p (.L (.mov (.t .d0 .d4))), []⟩,
    ⟨.p (.L (.iaddr 1 (.l 1) (.l 0))), []⟩,
    ⟨.p (.L (.load (.l 0))), []⟩,
    ⟨.p (.L (.mov (.t .d0 .d1))), []⟩,
    ⟨.p (.L (.mov (.t .d0 .d4))), []⟩,
    ⟨.p (.L (.iaddr 1 (.l 1) (.l 0))), []⟩,
    ⟨.p (.L (.load (.l 0))), []⟩,
    ⟨.s .d0 .d6 (.L (.bins .neq (.l 4) (.l 0))), []⟩])
  (.cond (.t .d0 .d6) (.seq (.reg 1 [.s .d0 .d2 (.L (.mov (.c (.bool false))))])
  .ret) .skip)))
  (.reg 2 [.s .d0 .d4 (.L (.bin .add (.t .d0 .d4) (.c (.int .i64 1))))]))))))
  (.seq (.reg 1 [.s .d0 .d2 (.L (.mov (.c (.bool true))))])
  .ret))))⟩
def i20 : Fun :=
  ⟨2, [0, 1, 4, 6, 11, 5, 7, 23], [.tmp .d0 .d2], (.seq (.reg 1 [.s .d0 .d2 (.L (.mov (.c (.slN))))])
  (.seq (.reg 1 [.s .d0 .d5 (.L (.mov (.c (.slN))))])
  (.seq (.seq (.reg 1 [.s .d0 .d3 (.L (.mov (.c (.int .i64 0))))])
  (.block 0 (.loop (.seq (.seq (.reg 12 [.p (.L (.len false (.t .d0 .d0))),
    .s .d0 .d4 (.L (.bin .lss (.t .d0 .d3) (.l 0)))])
  (.cond (.t .d0 .d4) .skip (.exit 0)))
  (.seq (.block 1 (.reg 56 [.p (.L (.iaddr 1 (.t .d0 .d0) (.t .d0 .d3))),
    .p (.L (.load (.l 0))),
    .s .d0 .d5 (.H (.call 47 [(.t .d0 .d5), (.l 0)]))]))
  (.reg 2 [.s .d0 .d3 (.L (.bin .add (.t .d0 .d3) (.c (.int .i64 1))))]))))))
  (.seq (.seq (.reg 1 [.s .d0 .d6 (.L (.mov (.c (.int .i64 0))))])
  (.block 2 (.loop (.seq (.seq (.reg 12 [.p (.L (.len false (.t .d0 .d1))),
    .s .d0 .d7 (.L (.bin .lss (.t .d0 .d6) (.l 0)))])
  (.cond (.t .d0 .d7) .skip (.exit 2)))
  (.seq (.block 3 (.reg 56 [.p (.L (.iaddr 1 (.t .d0 .d1) (.t .d0 .d6))),
    .p (.L (.load (.l 0))),
    .s .d0 .d5 (.H (.call 47 [(.t .d0 .d5), (.l 0)]))]))
  (.reg 2 [.s .d0 .d6 (.L (.bin .add (.t .d0 .d6) (.c (.int .i64 1))))]))))))
  (.seq (.reg 2 [.s .d0 .d2 (.L (.mov (.t .d0 .d5)))])
  .ret)))))⟩
def i21 : Fun :=
  ⟨2, [0, 1, 4, 3], [.tmp .d0 .d2], (.seq (.reg 3 [.s .d0 .d3 (.L (.box 1 (.t .d0 .d1))),
    .s .d0 .d2 (.L (.mov (.c (.bool false))))])
  (.seq (.reg 14 [.p (.L (.fn 49 [] [(.t .d0 .d3)])),
    .p (.H (.call 48 [(.t .d0 .d0), (.l 0)])),
    .s .d0 .d2 (.L (.not (.l 0)))])
  .ret))⟩
def i22 : Fun :=
  ⟨2, [0, 1, 4, 5, 9, 18], [.tmp .d0 .d2], (.seq (.reg 1 [.s .d0 .d2 (.L (.mov (.c (.bool false))))])
  (.seq (.seq (.reg 1 [.s .d0 .d3 (.L (.mov (.c (.int .i64 0))))])
  (.block 0 (.loop (.seq (.seq (.reg 12 [.p (.L (.len false (.t .d0 .d0))),
    .s .d0 .d4 (.L (.bin .lss (.t .d0 .d3) (.l 0)))])
  (.cond (.t .d0 .d4) .skip (.exit 0)))
  (.seq (.block 1 (.seq (.reg 120 [.p (.L (.iaddr 1 (.t .d0 .d0) (.t .d0 .d3))),
    .p (.L (.load (.l 0))),
    .p (.H (.call 46 [(.t .d0 .d1), (.l 0)])),
    .s .d0 .d5 (.L (.bin .lss (.l 0) (.c (.int .i64 0))))])
  (.cond (.t .d0 .d5) (.seq (.reg 1 [.s .d0 .d2 (.L (.mov (.c (.bool false))))])
  .ret) .skip)))
  (.reg 2 [.s .d0 .d3 (.L (.bin .add (.t .d0 .d3) (.c (.int .i64 1))))]))))))
  (.seq (.reg 1 [.s .d0 .d2 (.L (.mov (.c (.bool true))))])
  .ret)))⟩
def i25 : Fun :=
  ⟨2, [0, 1, 3, 21, 20, 22, 19, 6, 4, 36, 35, 37, 34, 8, 51, 50, 52, 49, 10, 66, 65, 67, 64, 12, 73, 72, 74, 71, 14], [], (.seq (.reg 1 [.s .d0 .d2 (.L (.box 5 (.t .d0 .d1)))])
  (.seq (.reg 7 [.p (.L (.faddr 0 (.t .d0 .d2))),
    .p (.L (.load (.l 0))),
    .s .d1 .d0 (.L (.bsl 1 1 [.str 0 0] [(0, 1, (.l 0))]))])
  (.seq (.seq (.reg 15 [.p (.L (.faddr 2 (.t .d0 .d2))),
    .s .d0 .d6 (.L (.load (.l 0))),
    .s .d0 .d4 (.L (.len false (.l 0))),
    .s .d0 .d3 (.L (.mov (.c (.int .i64 0))))])
  (.block 0 (.loop (.seq (.reg 1 [.s .d0 .d5 (.L (.bin .lss (.t .d0 .d3) (.t .d0 .d4)))])
  (.seq (.cond (.t .d0 .d5) .skip (.exit 0))
  (.seq (.block 1 (.seq (.reg 15 [.p (.L (.iaddr 2 (.t .d0 .d6) (.t .d0 .d3))),
    .p (.L (.loadn 2 (.l 0))),
    .s .d0 .d7 (.L (.alloc [.str 0 0, .int .i64 0])),
    .p (.H (.store 2 (.l 0) (.l 1)))])
  (.reg 124 [.p (.L (.faddr 0 (.t .d0 .d7))),
    .p (.L (.load (.l 0))),
    .p (.L (.faddr 1 (.t .d0 .d7))),
    .p (.L (.load (.l 0))),
    .s .d1 .d0 (.H (.call 62 [(.t .d0 .d0), (.t .d1 .d0), (.l 2), (.l 0)]))])))
  (.reg 1 [.s .d0 .d3 (.L (.bin .add (.t .d0 .d3) (.c (.int .i64 1))))])))))))
  (.seq (.reg 1 [.s .d1 .d0 (.L (.mov (.c (.slN))))])
  (.seq (.seq (.reg 15 [.p (.L (.faddr 3 (.t .d0 .d2))),
    .s .d1 .d4 (.L (.load (.l 0))),
    .s .d1 .d2 (.L (.len false (.l 0))),
    .s .d1 .d1 (.L (.mov (.c (.int .i64 0))))])
  (.block 2 (.loop (.seq (.reg 1 [.s .d1 .d3 (.L (.bin .lss (.t .d1 .d1) (.t .d1 .d2)))])
  (.seq (.cond (.t .d1 .d3) .skip (.exit 2))
  (.seq (.block 3 (.seq (.reg 15 [.p (.L (.iaddr 4 (.t .d1 .d4) (.t .d1 .d1))),
    .p (.L (.loadn 4 (.l 0))),
    .s .d1 .d5 (.L (.alloc [.str 0 0, .str 0 0, .int .i64 0, .int .i64 0])),
    .p (.H (.store 4 (.l 0) (.l 1)))])
  (.reg 124 [.p (.L (.faddr 0 (.t .d1 .d5))),
    .p (.L (.load (.l 0))),
    .p (.L (.faddr 3 (.t .d1 .d5))),
    .p (.L (.load (.l 0))),
    .s .d1 .d0 (.H (.call 62 [(.t .d0 .d0), (.t .d1 .d0), (.l 2), (.l 0)]))])))
  (.reg 1 [.s .d1 .d1 (.L (.bin .add (.t .d1 .d1) (.c (.int .i64 1))))])))))))
  (.seq (.seq (.reg 15 [.p (.L (.faddr 4 (.t .d0 .d2))),
    .s .d2 .d1 (.L (.load (.l 0))),
    .s .d1 .d7 (.L (.len false (.l 0))),
    .s .d1 .d6 (.L (.mov (.c (.int .i64 0))))])
  (.block 4 (.loop (.seq (.reg 1 [.s .d2 .d0 (.L (.bin .lss (.t .d1 .d6) (.t .d1 .d7)))])
  (.seq (.cond (.t .d2 .d0) .skip (.exit 4))
  (.seq (.block 5 (.seq (.reg 15 [.p (.L (.iaddr 8 (.t .d2 .d1) (.t .d1 .d6))),
    .p (.L (.loadn 8 (.l 0))),
    .s .d2 .d2 (.L (.alloc [.str 0 0, .slN, .bool false, .str 0 0, .str 0 0, .slN, .slN, .int .i64 0])),
    .p (.H (.store 8 (.l 0) (.l 1)))])
  (.reg 124 [.p (.L (.faddr 0 (.t .d2 .d2))),
    .p (.L (.load (.l 0))),
    .p (.L (.faddr 7 (.t .d2 .d2))),
    .p (.L (.load (.l 0))),
    .s .d1 .d0 (.H (.call 62 [(.t .d0 .d0), (.t .d1 .d0), (.l 2), (.l 0)]))])))
  (.reg 1 [.s .d1 .d6 (.L (.bin .add (.t .d1 .d6) (.c (.int .i64 1))))])))))))
  (.seq (.reg 15 [.p (.L (.faddr 4 (.t .d0 .d2))),
    .s .d2 .d6 (.L (.load (.l 0))),
    .s .d2 .d4 (.L (.len false (.l 0))),
    .s .d2 .d3 (.L (.mov (.c (.int .i64 0))))])
  (.block 6 (.loop (.seq (.reg 1 [.s .d2 .d5 (.L (.bin .lss (.t .d2 .d3) (.t .d2 .d4)))])
  (.seq (.cond (.t .d2 .d5) .skip (.exit 6))
  (.seq (.block 7 (.seq (.reg 15 [.p (.L (.iaddr 8 (.t .d2 .d6) (.t .d2 .d3))),
    .p (.L (.loadn 8 (.l 0))),
    .s .d2 .d7 (.L (.alloc [.str 0 0, .slN, .bool false, .str 0 0, .str 0 0, .slN, .slN, .int .i64 0])),
    .p (.H (.store 8 (.l 0) (.l 1)))])
  (.seq (.reg 1 [.s .d1 .d0 (.L (.mov (.c (.slN))))])
  (.seq (.reg 15 [.p (.L (.faddr 1 (.t .d2 .d7))),
    .s .d3 .d3 (.L (.load (.l 0))),
    .s .d3 .d1 (.L (.len false (.l 0))),
    .s .d3 .d0 (.L (.mov (.c (.int .i64 0))))])
  (.block 8 (.loop (.seq (.reg 1 [.s .d3 .d2 (.L (.bin .lss (.t .d3 .d0) (.t .d3 .d1)))])
  (.seq (.cond (.t .d3 .d2) .skip (.exit 8))
  (.seq (.block 9 (.seq (.reg 15 [.p (.L (.iaddr 3 (.t .d3 .d3) (.t .d3 .d0))),
    .p (.L (.loadn 3 (.l 0))),
    .s .d3 .d4 (.L (.alloc [.str 0 0, .str 0 0, .int .i64 0])),
    .p (.H (.store 3 (.l 0) (.l 1)))])
  (.reg 124 [.p (.L (.faddr 0 (.t .d3 .d4))),
    .p (.L (.load (.l 0))),
    .p (.L (.faddr 2 (.t .d3 .d4))),
    .p (.L (.load (.l 0))),
    .s .d1 .d0 (.H (.call 62 [(.t .d0 .d0), (.t .d1 .d0), (.l 2), (.l 0)]))])))
  (.reg 1 [.s .d3 .d0 (.L (.bin .add (.t .d3 .d0) (.c (.int .i64 1))))]))))))))))
  (.reg 1 [.s .d2 .d3 (.L (.bin .add (.t .d2 .d3) (.c (.int .i64 1))))])))))))))))))⟩
def i26 : Fun :=
  ⟨2, [0, 1, 3, 13, 12, 14, 11, 5, 27, 26, 28, 25, 7, 34, 33, 35, 32, 9, 46], [], (.seq (.reg 1 [.s .d0 .d2 (.L (.box 5 (.t .d0 .d1)))])
  (.seq (.seq (.reg 15 [.p (.L (.faddr 3 (.t .d0 .d2))),
    .s .d0 .d6 (.L (.load (.l 0))),
    .s .d0 .d4 (.L (.len false (.l 0))),
    .s .d0 .d3 (.L (.mov (.c (.int .i64 0))))])
  (.block 0 (.loop (.seq (.reg 1 [.s .d0 .d5 (.L (.bin .lss (.t .d0 .d3) (.t .d0 .d4)))])
  (.seq (.cond (.t .d0 .d5) .skip (.exit 0))
  (.seq (.block 1 (.seq (.reg 15 [.p (.L (.iaddr 4 (.t .d0 .d6) (.t .d0 .d3))),
    .p (.L (.loadn 4 (.l 0))),
    .s .d0 .d7 (.L (.alloc [.str 0 0, .str 0 0, .int .i64 0, .int .i64 0])),
    .p (.H (.store 4 (.l 0) (.l 1)))])
  (.reg 62 [.p (.L (.faddr 1 (.t .d0 .d7))),
    .p (.L (.load (.l 0))),
    .p (.L (.faddr 3 (.t .d0 .d7))),
    .p (.L (.load (.l 0))),
    .p (.H (.call 63 [(.t .d0 .d0), (.l 2), (.l 0)]))])))
  (.reg 1 [.s .d0 .d3 (.L (.bin .add (.t .d0 .d3) (.c (.int .i64 1))))])))))))
  (.seq (.reg 15 [.p (.L (.faddr 4 (.t .d0 .d2))),
    .s .d1 .d3 (.L (.load (.l 0))),
    .s .d1 .d1 (.L (.len false (.l 0))),
    .s .d1 .d0 (.L (.mov (.c (.int .i64 0))))])
  (.block 2 (.loop (.seq (.reg 1 [.s .d1 .d2 (.L (.bin .lss (.t .d1 .d0) (.t .d1 .d1)))])
  (.seq (.cond (.t .d1 .d2) .skip (.exit 2))
  (.seq (.block 3 (.seq (.reg 15 [.p (.L (.iaddr 8 (.t .d1 .d3) (.t .d1 .d0))),
    .p (.L (.loadn 8 (.l 0))),
    .s .d1 .d4 (.L (.alloc [.str 0 0, .slN, .bool false, .str 0 0, .str 0 0, .slN, .slN, .int .i64 0])),
    .p (.H (.store 8 (.l 0) (.l 1)))])
  (.seq (.seq (.reg 15 [.p (.L (.faddr 1 (.t .d1 .d4))),
    .s .d2 .d0 (.L (.load (.l 0))),
    .s .d1 .d6 (.L (.len false (.l 0))),
    .s .d1 .d5 (.L (.mov (.c (.int .i64 0))))])
  (.block 4 (.loop (.seq (.reg 1 [.s .d1 .d7 (.L (.bin .lss (.t .d1 .d5) (.t .d1 .d6)))])
  (.seq (.cond (.t .d1 .d7) .skip (.exit 4))
  (.seq (.block 5 (.seq (.reg 15 [.p (.L (.iaddr 3 (.t .d2 .d0) (.t .d1 .d5))),
    .p (.L (.loadn 3 (.l 0))),
    .s .d2 .d1 (.L (.alloc [.str 0 0, .str 0 0, .int .i64 0])),
    .p (.H (.store 3 (.l 0) (.l 1)))])
  (.reg 62 [.p (.L (.faddr 1 (.t .d2 .d1))),
    .p (.L (.load (.l 0))),
    .p (.L (.faddr 2 (.t .d2 .d1))),
    .p (.L (.load (.l 0))),
    .p (.H (.call 63 [(.t .d0 .d0), (.l 2), (.l 0)]))])))
  (.reg 1 [.s .d1 .d5 (.L (.bin .add (.t .d1 .d5) (.c (.int .i64 1))))])))))))
  (.seq (.seq (.reg 3 [.p (.L (.faddr 2 (.t .d1 .d4))),
    .s .d2 .d2 (.L (.load (.l 0)))])
  (.cond (.t .d2 .d2) (.reg 62 [.p (.L (.faddr 3 (.t .d1 .d4))),
    .p (.L (.load (.l 0))),
    .p (.L (.faddr 7 (.t .d1 .d4))),
    .p (.L (.load (.l 0))),
    .p (.H (.call 63 [(.t .d0 .d0), (.l 2), (.l 0)]))]) .skip))
  (.reg 62 [.p (.L (.faddr 4 (.t .d1 .d4))),
    .p (.L (.load (.l 0))),
    .p (.L (.faddr 7 (.t .d1 .d4))),
    .p (.L (.load (.l 0))),
    .p (.H (.call 63 [(.t .d0 .d0), (.l 2), (.l 0)]))])))))
  (.reg 1 [.s .d1 .d0 (.L (.bin .add (.t .d1 .d0) (.c (.int .i64 1))))])))))))))⟩
def i27 : Fun :=
  ⟨1, [0, 2, 1, 21, 20, 22, 19, 3, 5], [.cell .d0 .d1 (some 6)], (.seq (.reg 3 [.s .d0 .d2 (.L (.box 8 (.t .d0 .d0))),
    .s .d0 .d1 (.L (.alloc [.str 0 0, .slN, .bool false, .str 0 0, .str 0 0, .slN]))])
  (.seq (.draw [0, 1, 2, 3, 4, 5, 6, 7, 8, 9, 12, 10, 11, 13] [⟨.p (.L (.faddr 0 (.t .d0 .d2))), []⟩,
    ⟨.p (.L (.load (.l 0))), []⟩,
    ⟨.p (.L (.faddr 2 (.t .d0 .d2))), []⟩,
    ⟨.p (.L (.load (.l 0))), []⟩,
    ⟨.p (.L (.faddr 3 (.t .d0 .d2))), []⟩,
    ⟨.p (.L (.load (.l 0))), []⟩,
    ⟨.p (.L (.faddr 4 (.t .d0 .d2))), []⟩,
    ⟨.p (.L (.load (.l 0))), []⟩,
    ⟨.p (.L (.faddr 5 (.t .d0 .d2))), []⟩,
    ⟨.p (.L (.load (.l 0))), []⟩,
    ⟨.s .d0 .d7 (.L (.alloc [.str 0 0, .slN, .bool false, .str 0 0, .str 0 0, .slN])), []⟩,
    ⟨.p (.H (.call 44 [(.l 1)])), [9, 7, 5, 3, 0]⟩,
    ⟨.p (.L (.build [.str 0 0, .slN, .bool false, .str 0 0, .str 0 0, .slN] [(0, 1, (.l 10)), (2, 1, (.l 8)), (3, 1, (.l 6)), (4, 1, (.l 4)), (5, 1, (.l 0))])), []⟩,
    ⟨.p (.H (.store 6 (.l 2) (.l 0))), []⟩])
  (.seq (.seq (.reg 15 [.p (.L (.faddr 1 (.t .d0 .d2))),
    .s .d0 .d6 (.L (.load (.l 0))),
    .s .d0 .d4 (.L (.len false (.l 0))),
    .s .d0 .d3 (.L (.mov (.c (.int .i64 0))))])
  (.block 0 (.loop (.seq (.reg 1 [.s .d0 .d5 (.L (.bin .lss (.t .d0 .d3) (.t .d0 .d4)))])
  (.seq (.cond (.t .d0 .d5) .skip (.exit 0))
  (.seq (.block 1 (.seq (.reg 15 [.p (.L (.iaddr 3 (.t .d0 .d6) (.t .d0 .d3))),
    .p (.L (.loadn 3 (.l 0))),
    .s .d1 .d0 (.L (.alloc [.str 0 0, .str 0 0, .int .i64 0])),
    .p (.H (.store 3 (.l 0) (.l 1)))])
  (.reg 255 [.p (.L (.faddr 1 (.t .d0 .d7))),
    .p (.L (.load (.l 0))),
    .p (.L (.faddr 1 (.t .d1 .d0))),
    .p (.L (.load (.l 0))),
    .p (.L (.bsl 1 1 [.str 0 0] [(0, 1, (.l 0))])),
    .p (.H (.append 1 16 (.l 3) (.l 0))),
    .p (.L (.faddr 1 (.t .d0 .d7))),
    .p (.H (.store 1 (.l 0) (.l 1)))])))
  (.reg 1 [.s .d0 .d3 (.L (.bin .add (.t .d0 .d3) (.c (.int .i64 1))))])))))))
  (.seq (.reg 3 [.p (.L (.loadn 6 (.t .d0 .d7))),
    .p (.H (.store 6 (.t .d0 .d1) (.l 0)))])
  .ret))))⟩
def i29 : Fun :=
  ⟨2, [0, 1, 4, 2, 3], [.tmp .d0 .d2], (.seq (.reg 7 [.s .d0 .d3 (.L (.box 4 (.t .d0 .d0))),
    .s .d0 .d4 (.L (.box 4 (.t .d0 .d1))),
    .s .d0 .d2 (.L (.mov (.c (.int .i64 0))))])
  (.seq (.reg 31 [.p (.L (.faddr 0 (.t .d0 .d3))),
    .p (.L (.load (.l 0))),
    .p (.L (.faddr 0 (.t .d0 .d4))),
    .p (.L (.load (.l 0))),
    .s .d0 .d2 (.H (.call 30 [(.l 2), (.l 0)]))])
  .ret))⟩
def i30 : Fun :=
  ⟨2, [0, 1, 4], [.tmp .d0 .d2], (.seq (.reg 1 [.s .d0 .d2 (.L (.mov (.c (.int .i64 0))))])
  (.seq (.reg 4 [.s .d0 .d2 (.H (.call 66 [(.t .d0 .d0), (.t .d0 .d1)]))])
  .ret))⟩
def i32 : Fun :=
  ⟨2, [0, 1, 4, 2, 3], [.tmp .d0 .d2], (.seq (.reg 7 [.s .d0 .d3 (.L (.box 6 (.t .d0 .d0))),
    .s .d0 .d4 (.L (.box 6 (.t .d0 .d1))),
    .s .d0 .d2 (.L (.mov (.c (.int .i64 0))))])
  (.seq (.reg 31 [.p (.L (.faddr 0 (.t .d0 .d3))),
    .p (.L (.load (.l 0))),
    .p (.L (.faddr 0 (.t .d0 .d4))),
    .p (.L (.load (.l 0))),
    .s .d0 .d2 (.H (.call 30 [(.l 2), (.l 0)]))])
  .ret))⟩
def i37 : Fun :=
  ⟨1, [0, 2, 3, 1, 4, 5, 7, 6, 25, 27, 26, 28, 10, 9, 43, 8, 61], [.tmp .d0 .d1, .tmp .d0 .d2], (.seq (.reg 7 [.s .d0 .d3 (.L (.box 1 (.t .d0 .d0))),
    .s .d0 .d1 (.L (.mov (.c (.slN)))),
    .s .d0 .d2 (.L (.mov (.c (.int .i64 0))))])
  (.seq (.reg 3 [.s .d0 .d4 (.L (.alloc [.int .i64 0])),
    .p (.H (.store 1 (.l 0) (.c (.int .i64 0))))])
  (.seq (.reg 1 [.s .d0 .d5 (.L (.fn 71 [] [(.t .d0 .d3), (.t .d0 .d4)]))])
  (.seq (.reg 122 [.p (.H (.callv (.t .d0 .d5) [])),
    .p (.L (.ext 0 (.l 0))),
    .p (.L (.ext 1 (.l 1))),
    .s .d0 .d7 (.L (.mov (.l 1))),
    .s .d0 .d6 (.L (.mov (.l 1)))])
  (.seq (.seq (.reg 506 [.p (.L (.not (.t .d0 .d6))),
    .g (.l 0) false (.L (.mov (.t .d0 .d7))),
    .g (.l 1) false (.L (.load (.t .d0 .d3))),
    .g (.l 2) false (.L (.len false (.l 0))),
    .g (.l 3) false (.L (.bin .quo (.l 0) (.c (.int .i64 4)))),
    .g (.l 4) false (.L (.bin .gtr (.l 3) (.l 0))),
    .s .d1 .d0 (.L (.pick (.l 5) (.c (.bool true)) (.l 0)))])
  (.cond (.t .d1 .d0) (.seq (.reg 3 [.s .d0 .d1 (.L (.mov (.c (.slN)))),
    .s .d0 .d2 (.L (.mov (.c (.int .i64 2))))])
  .ret) .skip))
  (.seq (.reg 1 [.s .d1 .d7 (.L (.mov (.c (.slN))))])
  (.seq (.seq (.reg 3 [.s .d1 .d2 (.L (.mov (.t .d0 .d7))),
    .s .d1 .d1 (.L (.mov (.c (.int .i64 0))))])
  (.block 0 (.loop (.seq (.reg 1 [.s .d1 .d3 (.L (.bin .lss (.t .d1 .d1) (.t .d1 .d2)))])
  (.seq (.cond (.t .d1 .d3) .skip (.exit 0))
  (.seq (.block 1 (.seq (.reg 122 [.p (.H (.callv (.t .d0 .d5) [])),
    .p (.L (.ext 0 (.l 0))),
    .p (.L (.ext 1 (.l 1))),
    .s .d1 .d5 (.L (.mov (.l 1))),
    .s .d1 .d4 (.L (.mov (.l 1)))])
  (.seq (.seq (.reg 1018 [.p (.L (.not (.t .d1 .d4))),
    .g (.l 0) false (.L (.mov (.t .d1 .d5))),
    .g (.l 1) false (.L (.load (.t .d0 .d3))),
    .g (.l 2) false (.L (.len false (.l 0))),
    .g (.l 3) false (.L (.load (.t .d0 .d4))),
    .g (.l 4) false (.L (.bin .sub (.l 1) (.l 0))),
    .g (.l 5) false (.L (.bin .gtr (.l 4) (.l 0))),
    .s .d1 .d6 (.L (.pick (.l 6) (.c (.bool true)) (.l 0)))])
  (.cond (.t .d1 .d6) (.seq (.reg 3 [.s .d0 .d1 (.L (.mov (.c (.slN)))),
    .s .d0 .d2 (.L (.mov (.c (.int .i64 2))))])
  .ret) .skip))
  (.seq (.reg 1006 [.p (.L (.load (.t .d0 .d3))),
    .p (.L (.load (.t .d0 .d4))),
    .p (.L (.load (.t .d0 .d4))),
    .p (.L (.bin .add (.l 0) (.t .d1 .d5))),
    .p (.L (.ssl 1 (.l 3) (some (.l 2)) (some (.l 0)) none)),
    .p (.L (.bstr (.l 0))),
    .p (.L (.bsl 1 1 [.str 0 0] [(0, 1, (.l 0))])),
    .s .d1 .d7 (.H (.append 1 16 (.t .d1 .d7) (.l 0)))])
  (.reg 13 [.p (.L (.load (.t .d0 .d4))),
    .p (.L (.bin .add (.l 0) (.t .d1 .d5))),
    .p (.H (.store 1 (.t .d0 .d4) (.l 0)))])))))
  (.reg 1 [.s .d1 .d1 (.L (.bin .add (.t .d1 .d1) (.c (.int .i64 1))))])))))))
  (.seq (.seq (.reg 15 [.p (.L (.load (.t .d0 .d4))),
    .p (.L (.load (.t .d0 .d3))),
    .p (.L (.len false (.l 0))),
    .s .d2 .d0 (.L (.bin .neq (.l 2) (.l 0)))])
  (.cond (.t .d2 .d0) (.seq (.reg 3 [.s .d0 .d1 (.L (.mov (.c (.slN)))),
    .s .d0 .d2 (.L (.mov (.c (.int .i64 2))))])
  .ret) .skip))
  (.seq (.reg 6 [.s .d0 .d1 (.L (.mov (.t .d1 .d7))),
    .s .d0 .d2 (.L (.mov (.c (.int .i64 0))))])
  .ret)))))))))⟩
def i38 : Fun :=
  ⟨1, [0, 2, 3, 5, 4, 33], [.tmp .d0 .d1], (.seq (.reg 1 [.s .d0 .d1 (.L (.mov (.c (.int .i64 0))))])
  (.seq (.reg 2 [.s .d0 .d2 (.H (.call 39 [(.t .d0 .d0)]))])
  (.seq (.reg 122 [.p (.H (.call 73 [(.t .d0 .d2)])),
    .p (.L (.ext 0 (.l 0))),
    .p (.L (.ext 1 (.l 1))),
    .s .d0 .d4 (.L (.mov (.l 1))),
    .s .d0 .d3 (.L (.mov (.l 1)))])
  (.seq (.seq (.reg 2092986 [.p (.L (.eq true .ifc (.t .d0 .d3) (.c (.ifcN)))),
    .g (.l 0) false (.L (.mov (.t .d0 .d4))),
    .g (.l 1) false (.L (.bin .lss (.l 0) (.c (.int .i64 0)))),
    .p (.L (.pick (.l 2) (.c (.bool true)) (.l 0))),
    .g (.l 0) false (.L (.mov (.t .d0 .d4))),
    .g (.l 1) false (.H (.call 42 [(.l 0)])),
    .g (.l 2) false (.L (.mov (.t .d0 .d2))),
    .g (.l 3) false (.L (.bins .neq (.l 1) (.l 0))),
    .p (.L (.pick (.l 4) (.c (.bool true)) (.l 0))),
    .g (.l 0) false (.L (.mov (.t .d0 .d4))),
    .g (.l 1) false (.L (.mov (.t .d0 .d0))),
    .g (.l 2) false (.L (.nilck (.l 0))),
    .g (.l 3) false (.L (.faddr 0 (.l 0))),
    .g (.l 4) false (.L (.load (.l 0))),
    .g (.l 5) false (.L (.len false (.l 0))),
    .g (.l 6) false (.L (.bin .gtr (.l 5) (.l 0))),
    .s .d0 .d5 (.L (.pick (.l 7) (.c (.bool true)) (.l 0)))])
  (.cond (.t .d0 .d5) (.seq (.reg 14 [.p (.L (.nilck (.t .d0 .d0))),
    .p (.L (.faddr 1 (.l 0))),
    .p (.H (.store 1 (.l 0) (.c (.bool true))))])
  (.seq (.reg 1 [.s .d0 .d1 (.L (.mov (.c (.int .i64 0))))])
  .ret)) .skip))
  (.seq (.reg 2 [.s .d0 .d1 (.L (.mov (.t .d0 .d4)))])
  .ret)))))⟩
def i39 : Fun :=
  ⟨1, [0, 2, 9, 3], [.tmp .d0 .d1], (.seq (.reg 1 [.s .d0 .d1 (.L (.mov (.c (.str 0 0))))])
  (.seq (.seq (.reg 62 [.p (.L (.nilck (.t .d0 .d0))),
    .p (.L (.faddr 0 (.l 0))),
    .p (.L (.load (.l 0))),
    .p (.L (.len false (.l 0))),
    .s .d0 .d2 (.L (.bin .eql (.l 0) (.c (.int .i64 0))))])
  (.cond (.t .d0 .d2) (.seq (.reg 14 [.p (.L (.nilck (.t .d0 .d0))),
    .p (.L (.faddr 1 (.l 0))),
    .p (.H (.store 1 (.l 0) (.c (.bool true))))])
  (.seq (.reg 1 [.s .d0 .d1 (.L (.mov (.c (.str 0 0))))])
  .ret)) .skip))
  (.seq (.reg 62 [.p (.L (.nilck (.t .d0 .d0))),
    .p (.L (.faddr 0 (.l 0))),
    .p (.L (.load (.l 0))),
    .p (.L (.iaddr 1 (.l 0) (.c (.int .i64 0)))),
    .s .d0 .d3 (.L (.load (.l 0)))])
  (.seq (.reg 508 [.p (.L (.nilck (.t .d0 .d0))),
    .p (.L (.faddr 0 (.l 0))),
    .p (.L (.load (.l 0))),
    .p (.L (.ssl 1 (.l 0) (some (.c (.int .i64 1))) none none)),
    .p (.L (.nilck (.t .d0 .d0))),
    .p (.L (.faddr 0 (.l 0))),
    .p (.H (.store 1 (.l 0) (.l 2)))])
  (.seq (.reg 2 [.s .d0 .d1 (.L (.mov (.t .d0 .d3)))])
  .ret)))))⟩
def i40 : Fun :=
  ⟨1, [0, 2, 3, 4], [.tmp .d0 .d1], (.seq (.reg 1 [.s .d0 .d1 (.L (.mov (.c (.slN))))])
  (.seq (.reg 2 [.s .d0 .d2 (.H (.call 38 [(.t .d0 .d0)]))])
  (.seq (.reg 110 [.p (.L (.nilck (.t .d0 .d0))),
    .p (.L (.faddr 0 (.l 0))),
    .p (.L (.load (.l 0))),
    .p (.L (.ssl 1 (.l 0) none (some (.t .d0 .d2)) none)),
    .s .d0 .d3 (.H (.call 74 [(.l 0)]))])
  (.seq (.reg 988 [.p (.L (.nilck (.t .d0 .d0))),
    .p (.L (.faddr 0 (.l 0))),
    .p (.L (.load (.l 0))),
    .p (.L (.ssl 1 (.l 0) (some (.t .d0 .d2)) none none)),
    .p (.L (.nilck (.t .d0 .d0))),
    .p (.L (.faddr 0 (.l 0))),
    .p (.H (.store 1 (.l 0) (.l 2)))])
  (.seq (.reg 2 [.s .d0 .d1 (.L (.mov (.t .d0 .d3)))])
  .ret)))))⟩
def i41 : Fun :=
  ⟨1, [0, 2, 3, 7, 19], [.tmp .d0 .d1], (.seq (.reg 1 [.s .d0 .d1 (.L (.mov (.c (.bool false))))])
  (.seq (.seq (.reg 1 [.s .d0 .d2 (.L (.mov (.c (.int .i64 1))))])
  (.block 0 (.loop (.seq (.seq (.reg 12 [.p (.L (.len false (.t .d0 .d0))),
    .s .d0 .d3 (.L (.bin .lss (.t .d0 .d2) (.l 0)))])
  (.cond (.t .d0 .d3) .skip (.exit 0)))
  (.seq (.block 1 (.seq (.draw [0, 1, 2, 3, 4, 5, 6, 7, 8, 9] [⟨.p (.L (.mov (.t .d0 .d0))), []⟩,
    ⟨.p (.L (.mov (.t .d0 .d2))), []⟩,
    ⟨.p (.L (.iaddr 1 (.l 1) (.l 0))), []⟩,
    ⟨.p (.L (.load (.l 0))), []⟩,
    ⟨.p (.L (.mov (.t .d0 .d0))), []⟩,
    ⟨.p (.L (.mov (.t .d0 .d2))), []⟩,
    ⟨.p (.L (.bin .sub (.l 0) (.c (.int .i64 1)))), []⟩,
    ⟨.p (.L (.iaddr 1 (.l 2) (.l 0))), []⟩,
    ⟨.p (.L (.load (.l 0))), []⟩,
    ⟨.s .d0 .d4 (.L (.bins .leq (.l 5) (.l 0))), []⟩])
  (.cond (.t .d0 .d4) (.seq (.reg 1 [.s .d0 .d1 (.L (.mov (.c (.bool false))))])
  .ret) .skip)))
  (.reg 2 [.s .d0 .d2 (.L (.bin .add (.t .d0 .d2) (.c (.int .i64 1))))]))))))
  (.seq (.reg 1 [.s .d0 .d1 (.L (.mov (.c (.bool true))))])
  .ret)))⟩
def i42 : Fun :=
  ⟨1, [0, 2], [.tmp .d0 .d1], (.seq (.reg 1 [.s .d0 .d1 (.L (.mov (.c (.str 0 0))))])
  (.seq (.reg 2 [.s .d0 .d1 (.H (.call 75 [(.t .d0 .d0)]))])
  .ret))⟩
def i43 : Fun :=
  ⟨1, [0, 2, 11, 10, 12, 9, 5, 3], [.tmp .d0 .d1], (.seq (.reg 1 [.s .d0 .d1 (.L (.mov (.c (.slN))))])
  (.seq (.reg 6 [.p (.L (.len false (.t .d0 .d0))),
    .s .d0 .d7 (.H (.call 76 [(.l 0)]))])
  (.seq (.seq (.reg 7 [.s .d0 .d5 (.L (.mov (.t .d0 .d0))),
    .s .d0 .d3 (.L (.len false (.l 0))),
    .s .d0 .d2 (.L (.mov (.c (.int .i64 0))))])
  (.block 0 (.loop (.seq (.reg 1 [.s .d0 .d4 (.L (.bin .lss (.t .d0 .d2) (.t .d0 .d3)))])
  (.seq (.cond (.t .d0 .d4) .skip (.exit 0))
  (.seq (.block 1 (.seq (.reg 3 [.p (.L (.iaddr 1 (.t .d0 .d5) (.t .d0 .d2))),
    .s .d0 .d6 (.L (.load (.l 0)))])
  (.reg 92 [.p (.L (.len true (.t .d0 .d6))),
    .p (.H (.call 76 [(.l 0)])),
    .p (.H (.append 1 1 (.t .d0 .d7) (.l 0))),
    .s .d0 .d7 (.H (.append 1 1 (.l 0) (.t .d0 .d6)))])))
  (.reg 1 [.s .d0 .d2 (.L (.bin .add (.t .d0 .d2) (.c (.int .i64 1))))])))))))
  (.seq (.reg 2 [.s .d0 .d1 (.L (.mov (.t .d0 .d7)))])
  .ret))))⟩
def i44 : Fun :=
  ⟨1, [0, 2, 3], [.tmp .d0 .d1], (.seq (.reg 1 [.s .d0 .d1 (.L (.mov (.c (.slN))))])
  (.seq (.reg 2 [.s .d0 .d2 (.H (.call 74 [(.t .d0 .d0)]))])
  (.seq (.reg 2 [.p (.H (.call 77 [(.t .d0 .d2)]))])
  (.seq (.reg 2 [.s .d0 .d2 (.H (.call 78 [(.t .d0 .d2)]))])
  (.seq (.reg 52 [.p (.L (.len false (.t .d0 .d2))),
    .p (.L (.len false (.t .d0 .d2))),
    .s .d0 .d1 (.L (.ssl 1 (.t .d0 .d2) none (some (.l 1)) (some (.l 0))))])
  .ret)))))⟩
def i45 : Fun :=
  ⟨1, [0, 2, 11, 10, 12, 9, 5, 3, 20, 27, 26, 28, 25, 6, 8], [.tmp .d0 .d1], (.seq (.reg 1 [.s .d0 .d1 (.L (.mov (.c (.slN))))])
  (.seq (.reg 1 [.s .d0 .d7 (.L (.mov (.c (.int .i64 0))))])
  (.seq (.seq (.reg 7 [.s .d0 .d5 (.L (.mov (.t .d0 .d0))),
    .s .d0 .d3 (.L (.len false (.l 0))),
    .s .d0 .d2 (.L (.mov (.c (.int .i64 0))))])
  (.block 0 (.loop (.seq (.reg 1 [.s .d0 .d4 (.L (.bin .lss (.t .d0 .d2) (.t .d0 .d3)))])
  (.seq (.cond (.t .d0 .d4) .skip (.exit 0))
  (.seq (.block 1 (.seq (.reg 3 [.p (.L (.iaddr 1 (.t .d0 .d5) (.t .d0 .d2))),
    .s .d0 .d6 (.L (.load (.l 0)))])
  (.seq (.reg 12 [.p (.L (.len false (.t .d0 .d6))),
    .s .d0 .d7 (.L (.bin .add (.t .d0 .d7) (.l 0)))])
  (.seq (.reg 2 [.s .d1 .d0 (.L (.bin .lss (.t .d0 .d7) (.c (.int .i64 0))))])
  (.cond (.t .d1 .d0) (.reg 3 [.p (.L (.ifc 9 (.c (.str 16 134789072936214216453580009062074836332)))),
    .p (.H (.panic (.l 0)))]) .skip)))))
  (.reg 1 [.s .d0 .d2 (.L (.bin .add (.t .d0 .d2) (.c (.int .i64 1))))])))))))
  (.seq (.reg 2 [.s .d1 .d5 (.H (.call 79 [(.c (.slN)), (.t .d0 .d7)]))])
  (.seq (.seq (.reg 7 [.s .d1 .d4 (.L (.mov (.t .d0 .d0))),
    .s .d1 .d2 (.L (.len false (.l 0))),
    .s .d1 .d1 (.L (.mov (.c (.int .i64 0))))])
  (.block 2 (.loop (.seq (.reg 1 [.s .d1 .d3 (.L (.bin .lss (.t .d1 .d1) (.t .d1 .d2)))])
  (.seq (.cond (.t .d1 .d3) .skip (.exit 2))
  (.seq (.block 3 (.seq (.reg 3 [.p (.L (.iaddr 1 (.t .d1 .d4) (.t .d1 .d1))),
    .s .d1 .d6 (.L (.load (.l 0)))])
  (.reg 4 [.s .d1 .d5 (.H (.append 1 16 (.t .d1 .d5) (.t .d1 .d6)))])))
  (.reg 1 [.s .d1 .d1 (.L (.bin .add (.t .d1 .d1) (.c (.int .i64 1))))])))))))
  (.seq (.reg 2 [.s .d0 .d1 (.L (.mov (.t .d1 .d5)))])
  .ret))))))⟩
def i46 : Fun :=
  ⟨2, [0, 1, 4, 5, 9, 17], [.tmp .d0 .d2], (.seq (.reg 1 [.s .d0 .d2 (.L (.mov (.c (.int .i64 0))))])
  (.seq (.seq (.reg 1 [.s .d0 .d3 (.L (.mov (.c (.int .i64 0))))])
  (.block 0 (.loop (.seq (.seq (.reg 12 [.p (.L (.len false (.t .d0 .d0))),
    .s .d0 .d4 (.L (.bin .lss (.t .d0 .d3) (.l 0)))])
  (.cond (.t .d0 .d4) .skip (.exit 0)))
  (.seq (.block 1 (.seq (.reg 44 [.p (.L (.iaddr 1 (.t .d0 .d0) (.t .d0 .d3))),
    .p (.L (.load (.l 0))),
    .s .d0 .d5 (.L (.bins .eql (.l 0) (.t .d0 .d1)))])
  (.cond (.t .d0 .d5) (.seq (.reg 2 [.s .d0 .d2 (.L (.mov (.t .d0 .d3)))])
  .ret) .skip)))
  (.reg 2 [.s .d0 .d3 (.L (.bin .add (.t .d0 .d3) (.c (.int .i64 1))))]))))))
  (.seq (.reg 1 [.s .d0 .d2 (.L (.mov (.c (.int .i64 (-1)))))])
  .ret)))⟩
def i47 : Fun :=
  ⟨2, [0, 1, 4, 5, 18, 32, 6, 42], [.tmp .d0 .d2], (.seq (.reg 1 [.s .d0 .d2 (.L (.mov (.c (.slN))))])
  (.seq (.reg 1 [.s .d0 .d3 (.L (.mov (.c (.int .i64 0))))])
  (.seq (.block 0 (.loop (.seq (.seq (.reg 4076 [.p (.L (.len false (.t .d0 .d0))),
    .p (.L (.bin .lss (.t .d0 .d3) (.l 0))),
    .g (.l 0) true (.L (.mov (.t .d0 .d0))),
    .g (.l 1) true (.L (.mov (.t .d0 .d3))),
    .g (.l 2) true (.L (.iaddr 1 (.l 1) (.l 0))),
    .g (.l 3) true (.L (.load (.l 0))),
    .g (.l 4) true (.L (.mov (.t .d0 .d1))),
    .g (.l 5) true (.L (.bins .lss (.l 1) (.l 0))),
    .s .d0 .d4 (.L (.pick (.l 6) (.l 0) (.c (.bool false))))])
  (.cond (.t .d0 .d4) .skip (.exit 0)))
  (.block 1 (.reg 2 [.s .d0 .d3 (.L (.bin .add (.t .d0 .d3) (.c (.int .i64 1))))])))))
  (.seq (.seq (.reg 4076 [.p (.L (.len false (.t .d0 .d0))),
    .p (.L (.bin .lss (.t .d0 .d3) (.l 0))),
    .g (.l 0) true (.L (.mov (.t .d0 .d0))),
    .g (.l 1) true (.L (.mov (.t .d0 .d3))),
    .g (.l 2) true (.L (.iaddr 1 (.l 1) (.l 0))),
    .g (.l 3) true (.L (.load (.l 0))),
    .g (.l 4) true (.L (.mov (.t .d0 .d1))),
    .g (.l 5) true (.L (.bins .eql (.l 1) (.l 0))),
    .s .d0 .d5 (.L (.pick (.l 6) (.l 0) (.c (.bool false))))])
  (.cond (.t .d0 .d5) (.seq (.reg 2 [.s .d0 .d2 (.L (.mov (.t .d0 .d0)))])
  .ret) .skip))
  (.seq (.reg 6 [.p (.L (.bsl 1 1 [.str 0 0] [(0, 1, (.c (.str 0 0)))])),
    .s .d0 .d0 (.H (.append 1 16 (.t .d0 .d0) (.l 0)))])
  (.seq (.seq (.reg 6 [.p (.L (.len false (.t .d0 .d0))),
    .s .d0 .d6 (.L (.bin .sub (.l 0) (.c (.int .i64 1))))])
  (.block 2 (.loop (.seq (.seq (.reg 4 [.s .d0 .d7 (.L (.bin .gtr (.t .d0 .d6) (.t .d0 .d3)))])
  (.cond (.t .d0 .d7) .skip (.exit 2)))
  (.seq (.block 3 (.reg 496 [.p (.L (.bin .sub (.t .d0 .d6) (.c (.int .i64 1)))),
    .p (.L (.iaddr 1 (.t .d0 .d0) (.l 0))),
    .p (.L (.load (.l 0))),
    .p (.L (.iaddr 1 (.t .d0 .d0) (.t .d0 .d6))),
    .p (.H (.store 1 (.l 0) (.l 1)))]))
  (.reg 2 [.s .d0 .d6 (.L (.bin .sub (.t .d0 .d6) (.c (.int .i64 1))))]))))))
  (.seq (.reg 24 [.p (.L (.iaddr 1 (.t .d0 .d0) (.t .d0 .d3))),
    .p (.H (.store 1 (.l 0) (.t .d0 .d1)))])
  (.seq (.reg 2 [.s .d0 .d2 (.L (.mov (.t .d0 .d0)))])
  .ret))))))))⟩
def i48 : Fun :=
  ⟨2, [0, 1, 4], [.tmp .d0 .d2], (.seq (.reg 1 [.s .d0 .d2 (.L (.mov (.c (.bool false))))])
  (.seq (.reg 12 [.p (.H (.call 80 [(.t .d0 .d0), (.t .d0 .d1)])),
    .s .d0 .d2 (.L (.bin .geq (.l 0) (.c (.int .i64 0))))])
  .ret))⟩
def i49 : Fun :=
  ⟨2, [0, 1, 3], [.tmp .d0 .d2], (.seq (.reg 1 [.s .d0 .d2 (.L (.mov (.c (.bool false))))])
  (.seq (.reg 13 [.p (.L (.load (.t .d0 .d1))),
    .p (.H (.call 50 [(.l 0), (.t .d0 .d0)])),
    .s .d0 .d2 (.L (.not (.l 0)))])
  .ret))⟩
def i50 : Fun :=
  ⟨2, [0, 1, 4], [.tmp .d0 .d2], (.seq (.reg 1 [.s .d0 .d2 (.L (.mov (.c (.bool false))))])
  (.seq (.reg 12 [.p (.H (.call 81 [(.t .d0 .d0), (.t .d0 .d1)])),
    .s .d0 .d2 (.L (.bin .geq (.l 0) (.c (.int .i64 0))))])
  .ret))⟩
def i62 : Fun :=
  ⟨4, [0, 1, 2, 3, 8, 11], [.tmp .d0 .d4], (.seq (.reg 1 [.s .d0 .d4 (.L (.mov (.c (.slN))))])
  (.seq (.seq (.reg 4 [.s .d0 .d5 (.H (.call 50 [(.t .d0 .d1), (.t .d0 .d2)]))])
  (.cond (.t .d0 .d5) (.draw [0, 1, 2, 3, 4, 5, 6, 7, 8, 9, 10, 11, 12, 13, 14, 15, 16] [⟨.p (.L (.mov (.t .d0 .d0))), []⟩,
    ⟨.p (.L (.mov (.t .d0 .d0))), []⟩,
    ⟨.p (.L (.nilck (.l 0))), []⟩,
    ⟨.p (.L (.faddr 7 (.l 0))), []⟩,
    ⟨.p (.L (.load (.l 0))), []⟩,
    ⟨.p (.L (.mov (.t .d0 .d0))), []⟩,
    ⟨.p (.L (.nilck (.l 0))), []⟩,
    ⟨.p (.L (.faddr 0 (.l 0))), []⟩,
    ⟨.p (.L (.load (.l 0))), []⟩,
    ⟨.p (.L (.mov (.t .d0 .d3))), []⟩,
    ⟨.p (.L (.mov (.t .d0 .d2))), []⟩,
    ⟨.p (.L (.build [.str 0 0, .int .i64 0, .int .i64 0, .str 0 0] [(0, 1, (.l 2)), (1, 1, (.l 1)), (2, 1, (.c (.int .i64 6))), (3, 1, (.l 0))])), []⟩,
    ⟨.p (.L (.bsl 4 1 [.str 0 0, .int .i64 0, .int .i64 0, .str 0 0] [(0, 4, (.l 0))])), []⟩,
    ⟨.p (.H (.append 4 48 (.l 8) (.l 0))), []⟩,
    ⟨.p (.L (.nilck (.l 13))), []⟩,
    ⟨.p (.L (.faddr 7 (.l 0))), []⟩,
    ⟨.p (.H (.store 1 (.l 0) (.l 2))), []⟩]) .skip))
  (.seq (.reg 12 [.p (.L (.bsl 1 1 [.str 0 0] [(0, 1, (.t .d0 .d2))])),
    .s .d0 .d4 (.H (.append 1 16 (.t .d0 .d1) (.l 0)))])
  .ret)))⟩
def i63 : Fun :=
  ⟨3, [0, 1, 2, 12], [], (.seq (.reg 110 [.p (.L (.nilck (.t .d0 .d0))),
    .p (.L (.faddr 1 (.l 0))),
    .p (.L (.loadn 6 (.l 0))),
    .p (.H (.call 85 [(.l 0), (.t .d0 .d1)])),
    .s .d0 .d3 (.L (.bin .lss (.l 0) (.c (.int .i64 0))))])
  (.cond (.t .d0 .d3) (.draw [0, 1, 2, 3, 4, 5, 6, 7, 8, 9, 10, 11, 12, 13, 14, 15, 16] [⟨.p (.L (.mov (.t .d0 .d0))), []⟩,
    ⟨.p (.L (.mov (.t .d0 .d0))), []⟩,
    ⟨.p (.L (.nilck (.l 0))), []⟩,
    ⟨.p (.L (.faddr 7 (.l 0))), []⟩,
    ⟨.p (.L (.load (.l 0))), []⟩,
    ⟨.p (.L (.mov (.t .d0 .d0))), []⟩,
    ⟨.p (.L (.nilck (.l 0))), []⟩,
    ⟨.p (.L (.faddr 0 (.l 0))), []⟩,
    ⟨.p (.L (.load (.l 0))), []⟩,
    ⟨.p (.L (.mov (.t .d0 .d2))), []⟩,
    ⟨.p (.L (.mov (.t .d0 .d1))), []⟩,
    ⟨.p (.L (.build [.str 0 0, .int .i64 0, .int .i64 0, .str 0 0] [(0, 1, (.l 2)), (1, 1, (.l 1)), (2, 1, (.c (.int .i64 7))), (3, 1, (.l 0))])), []⟩,
    ⟨.p (.L (.bsl 4 1 [.str 0 0, .int .i64 0, .int .i64 0, .str 0 0] [(0, 4, (.l 0))])), []⟩,
    ⟨.p (.H (.append 4 48 (.l 8) (.l 0))), []⟩,
    ⟨.p (.L (.nilck (.l 13))), []⟩,
    ⟨.p (.L (.faddr 7 (.l 0))), []⟩,
    ⟨.p (.H (.store 1 (.l 0) (.l 2))), []⟩]) .skip))⟩
def i71 : Fun :=
  ⟨2, [0, 1, 2, 3, 4, 5], [.tmp .d0 .d2, .tmp .d0 .d3], (.seq (.reg 3 [.s .d0 .d2 (.L (.mov (.c (.int .i64 0)))),
    .s .d0 .d3 (.L (.mov (.c (.bool false))))])
  (.seq (.reg 247 [.p (.L (.load (.t .d0 .d0))),
    .p (.L (.load (.t .d0 .d1))),
    .p (.H (.call 72 [(.l 1), (.l 0)])),
    .p (.L (.ext 0 (.l 0))),
    .p (.L (.ext 1 (.l 1))),
    .s .d0 .d4 (.L (.mov (.l 1))),
    .s .d0 .d5 (.L (.mov (.l 1)))])
  (.seq (.reg 7 [.p (.L (.load (.t .d0 .d1))),
    .p (.L (.bin .add (.l 0) (.c (.int .i64 4)))),
    .p (.H (.store 1 (.t .d0 .d1) (.l 0)))])
  (.seq (.reg 12 [.s .d0 .d2 (.L (.mov (.t .d0 .d4))),
    .s .d0 .d3 (.L (.mov (.t .d0 .d5)))])
  .ret))))⟩
def i72 : Fun :=
  ⟨2, [0, 1, 4, 5, 19], [.tmp .d0 .d2, .tmp .d0 .d3], (.seq (.reg 3 [.s .d0 .d2 (.L (.mov (.c (.int .i64 0)))),
    .s .d0 .d3 (.L (.mov (.c (.bool false))))])
  (.seq (.seq (.reg 16250 [.p (.L (.bin .lss (.t .d0 .d1) (.c (.int .i64 0)))),
    .g (.l 0) false (.L (.mov (.t .d0 .d0))),
    .g (.l 1) false (.L (.len false (.l 0))),
    .g (.l 2) false (.L (.bin .lss (.l 0) (.c (.int .i64 4)))),
    .p (.L (.pick (.l 3) (.c (.bool true)) (.l 0))),
    .g (.l 0) false (.L (.mov (.t .d0 .d1))),
    .g (.l 1) false (.L (.mov (.t .d0 .d0))),
    .g (.l 2) false (.L (.len false (.l 0))),
    .g (.l 3) false (.L (.bin .sub (.l 0) (.c (.int .i64 4)))),
    .g (.l 4) false (.L (.bin .gtr (.l 3) (.l 0))),
    .s .d0 .d4 (.L (.pick (.l 5) (.c (.bool true)) (.l 0)))])
  (.cond (.t .d0 .d4) (.seq (.reg 3 [.s .d0 .d2 (.L (.mov (.c (.int .i64 0)))),
    .s .d0 .d3 (.L (.mov (.c (.bool false))))])
  .ret) .skip))
  (.seq (.draw [0, 1, 2, 3, 4, 5, 6, 7, 8, 9, 10, 11, 12, 13, 14, 15, 16, 17, 18, 19, 20, 21, 22, 23, 24, 25, 26, 27, 28, 29, 30] [⟨.p (.L (.mov (.t .d0 .d0))), []⟩,
    ⟨.p (.L (.mov (.t .d0 .d1))), []⟩,
    ⟨.p (.L (.iaddr 1 (.l 1) (.l 0))), []⟩,
    ⟨.p (.L (.load (.l 0))), []⟩,
    ⟨.p (.L (.conv .i64 (.l 0))), []⟩,
    ⟨.p (.L (.shf true (.l 0) (.c (.int .u64 24)))), []⟩,
    ⟨.p (.L (.mov (.t .d0 .d0))), []⟩,
    ⟨.p (.L (.mov (.t .d0 .d1))), []⟩,
    ⟨.p (.L (.bin .add (.l 0) (.c (.int .i64 1)))), []⟩,
    ⟨.p (.L (.iaddr 1 (.l 2) (.l 0))), []⟩,
    ⟨.p (.L (.load (.l 0))), []⟩,
    ⟨.p (.L (.conv .i64 (.l 0))), []⟩,
    ⟨.p (.L (.shf true (.l 0) (.c (.int .u64 16)))), []⟩,
    ⟨.p (.L (.bin .or (.l 7) (.l 0))), []⟩,
    ⟨.p (.L (.mov (.t .d0 .d0))), []⟩,
    ⟨.p (.L (.mov (.t .d0 .d1))), []⟩,
    ⟨.p (.L (.bin .add (.l 0) (.c (.int .i64 2)))), []⟩,
    ⟨.p (.L (.iaddr 1 (.l 2) (.l 0))), []⟩,
    ⟨.p (.L (.load (.l 0))), []⟩,
    ⟨.p (.L (.conv .i64 (.l 0))), []⟩,
    ⟨.p (.L (.shf true (.l 0) (.c (.int .u64 8)))), []⟩,
    ⟨.p (.L (.bin .or (.l 7) (.l 0))), []⟩,
    ⟨.p (.L (.mov (.t .d0 .d0))), []⟩,
    ⟨.p (.L (.mov (.t .d0 .d1))), []⟩,
    ⟨.p (.L (.bin .add (.l 0) (.c (.int .i64 3)))), []⟩,
    ⟨.p (.L (.iaddr 1 (.l 2) (.l 0))), []⟩,
    ⟨.p (.L (.load (.l 0))), []⟩,
    ⟨.p (.L (.conv .i64 (.l 0))), []⟩,
    ⟨.p (.L (.bin .or (.l 6) (.l 0))), []⟩,
    ⟨.s .d0 .d2 (.L (.mov (.l 0))), []⟩,
    ⟨.s .d0 .d3 (.L (.mov (.c (.bool true)))), []⟩])
  .ret)))⟩
def i73 : Fun :=
  ⟨1, [0, 2, 3, 5, 12, 4], [.tmp .d0 .d1, .tmp .d0 .d2], (.seq (.reg 3 [.s .d0 .d1 (.L (.mov (.c (.int .i64 0)))),
    .s .d0 .d2 (.L (.mov (.c (.ifcN))))])
  (.seq (.reg 122 [.p (.H (.call 106 [(.t .d0 .d0)])),
    .p (.L (.ext 0 (.l 0))),
    .p (.L (.ext 1 (.l 1))),
    .s .d0 .d5 (.L (.mov (.l 1))),
    .s .d0 .d3 (.L (.mov (.l 1)))])
  (.seq (.seq (.reg 2 [.s .d0 .d4 (.L (.eq true .ifc (.t .d0 .d3) (.c (.ifcN))))])
  (.cond (.t .d0 .d4) (.seq (.reg 56 [.p (.H (.call 107 [(.c (.str 4 1768911937)), (.t .d0 .d0), (.c (.int .i64 0)), (.c (.int .i64 0)), (.t .d0 .d3)])),
    .s .d0 .d1 (.L (.mov (.t .d0 .d5))),
    .s .d0 .d2 (.L (.mov (.l 1)))])
  .ret) .skip))
  (.seq (.reg 6 [.s .d0 .d1 (.L (.mov (.t .d0 .d5))),
    .s .d0 .d2 (.L (.mov (.c (.ifcN))))])
  .ret))))⟩
def i74 : Fun :=
  ⟨1, [0, 2, 4], [.tmp .d0 .d1], (.seq (.reg 1 [.s .d0 .d1 (.L (.mov (.c (.slN))))])
  (.seq (.seq (.reg 2 [.s .d0 .d2 (.L (.eq false .sl (.t .d0 .d0) (.c (.slN))))])
  (.cond (.t .d0 .d2) (.seq (.reg 1 [.s .d0 .d1 (.L (.mov (.c (.slN))))])
  .ret) .skip))
  (.seq (.reg 5 [.p (.L (.bsl 1 0 [.str 0 0] [])),
    .s .d0 .d1 (.H (.append 1 16 (.l 0) (.t .d0 .d0)))])
  .ret)))⟩
def i75 : Fun :=
  ⟨1, [0, 2], [.tmp .d0 .d1], (.seq (.reg 1 [.s .d0 .d1 (.L (.mov (.c (.str 0 0))))])
  (.seq (.reg 2 [.s .d0 .d1 (.H (.call 108 [(.t .d0 .d0), (.c (.int .i64 10))]))])
  .ret))⟩
def i76 : Fun :=
  ⟨1, [0, 2], [.tmp .d0 .d1], (.seq (.reg 1 [.s .d0 .d1 (.L (.mov (.c (.slN))))])
  (.seq (.reg 3510 [.p (.L (.shf false (.t .d0 .d0) (.c (.int .u64 24)))),
    .p (.L (.conv .u8 (.l 0))),
    .p (.L (.shf false (.t .d0 .d0) (.c (.int .u64 16)))),
    .p (.L (.conv .u8 (.l 0))),
    .p (.L (.shf false (.t .d0 .d0) (.c (.int .u64 8)))),
    .p (.L (.conv .u8 (.l 0))),
    .p (.L (.conv .u8 (.t .d0 .d0))),
    .s .d0 .d1 (.L (.bsl 1 4 [.int .u8 0] [(0, 1, (.l 5)), (1, 1, (.l 3)), (2, 1, (.l 1)), (3, 1, (.l 0))]))])
  .ret))⟩
def i78 : Fun :=
  ⟨1, [0, 2, 8, 3, 13, 25, 4, 5, 32, 44], [.tmp .d0 .d1], (.seq (.reg 1 [.s .d0 .d1 (.L (.mov (.c (.slN))))])
  (.seq (.seq (.reg 6 [.p (.L (.len false (.t .d0 .d0))),
    .s .d0 .d2 (.L (.bin .lss (.l 0) (.c (.int .i64 2))))])
  (.cond (.t .d0 .d2) (.seq (.reg 2 [.s .d0 .d1 (.L (.mov (.t .d0 .d0)))])
  .ret) .skip))
  (.seq (.seq (.reg 1 [.s .d0 .d3 (.L (.mov (.c (.int .i64 1))))])
  (.block 0 (.loop (.seq (.seq (.reg 12 [.p (.L (.len false (.t .d0 .d0))),
    .s .d0 .d4 (.L (.bin .lss (.t .d0 .d3) (.l 0)))])
  (.cond (.t .d0 .d4) .skip (.exit 0)))
  (.seq (.block 1 (.seq (.draw [0, 1, 2, 3, 4, 5, 6, 7, 8, 9] [⟨.p (.L (.mov (.t .d0 .d0))), []⟩,
    ⟨.p (.L (.mov (.t .d0 .d3))), []⟩,
    ⟨.p (.L (.iaddr 1 (.l 1) (.l 0))), []⟩,
    ⟨.p (.L (.load (.l 0))), []⟩,
    ⟨.p (.L (.mov (.t .d0 .d0))), []⟩,
    ⟨.p (.L (.mov (.t .d0 .d3))), []⟩,
    ⟨.p (.L (.bin .sub (.l 0) (.c (.int .i64 1)))), []⟩,
    ⟨.p (.L (.iaddr 1 (.l 2) (.l 0))), []⟩,
    ⟨.p (.L (.load (.l 0))), []⟩,
    ⟨.s .d0 .d5 (.L (.bins .eql (.l 5) (.l 0))), []⟩])
  (.cond (.t .d0 .d5) (.seq (.reg 4 [.s .d0 .d6 (.L (.ssl 1 (.t .d0 .d0) (some (.t .d0 .d3)) none none))])
  (.seq (.seq (.reg 1 [.s .d0 .d7 (.L (.mov (.c (.int .i64 1))))])
  (.block 2 (.loop (.seq (.seq (.reg 12 [.p (.L (.len false (.t .d0 .d6))),
    .s .d1 .d0 (.L (.bin .lss (.t .d0 .d7) (.l 0)))])
  (.cond (.t .d1 .d0) .skip (.exit 2)))
  (.seq (.block 3 (.seq (.draw [0, 1, 2, 3, 4, 5, 6, 7, 8, 9] [⟨.p (.L (.mov (.t .d0 .d6))), []⟩,
    ⟨.p (.L (.mov (.t .d0 .d7))), []⟩,
    ⟨.p (.L (.iaddr 1 (.l 1) (.l 0))), []⟩,
    ⟨.p (.L (.load (.l 0))), []⟩,
    ⟨.p (.L (.mov (.t .d0 .d6))), []⟩,
    ⟨.p (.L (.mov (.t .d0 .d7))), []⟩,
    ⟨.p (.L (.bin .sub (.l 0) (.c (.int .i64 1)))), []⟩,
    ⟨.p (.L (.iaddr 1 (.l 2) (.l 0))), []⟩,
    ⟨.p (.L (.load (.l 0))), []⟩,
    ⟨.s .d1 .d1 (.L (.bins .neq (.l 5) (.l 0))), []⟩])
  (.cond (.t .d1 .d1) (.seq (.reg 240 [.p (.L (.iaddr 1 (.t .d0 .d6) (.t .d0 .d7))),
    .p (.L (.load (.l 0))),
    .p (.L (.iaddr 1 (.t .d0 .d0) (.t .d0 .d3))),
    .p (.H (.store 1 (.l 0) (.l 1)))])
  (.reg 2 [.s .d0 .d3 (.L (.bin .add (.t .d0 .d3) (.c (.int .i64 1))))])) .skip)))
  (.reg 2 [.s .d0 .d7 (.L (.bin .add (.t .d0 .d7) (.c (.int .i64 1))))]))))))
  (.seq (.reg 12 [.p (.L (.ssl 1 (.t .d0 .d0) (some (.t .d0 .d3)) none none)),
    .p (.H (.clear [.str 0 0] (.l 0)))])
  (.seq (.reg 4 [.s .d0 .d1 (.L (.ssl 1 (.t .d0 .d0) none (some (.t .d0 .d3)) none))])
  .ret)))) .skip)))
  (.reg 2 [.s .d0 .d3 (.L (.bin .add (.t .d0 .d3) (.c (.int .i64 1))))]))))))
  (.seq (.reg 2 [.s .d0 .d1 (.L (.mov (.t .d0 .d0)))])
  .ret))))⟩
def i80 : Fun :=
  ⟨2, [0, 1, 4, 8, 7, 9, 5, 16], [.tmp .d0 .d2], (.seq (.reg 1 [.s .d0 .d2 (.L (.mov (.c (.int .i64 0))))])
  (.seq (.seq (.reg 6 [.s .d0 .d4 (.L (.len false (.t .d0 .d0))),
    .s .d0 .d3 (.L (.mov (.c (.int .i64 0))))])
  (.block 0 (.loop (.seq (.reg 1 [.s .d0 .d5 (.L (.bin .lss (.t .d0 .d3) (.t .d0 .d4)))])
  (.seq (.cond (.t .d0 .d5) .skip (.exit 0))
  (.seq (.block 1 (.seq (.reg 2 [.s .d0 .d6 (.L (.mov (.t .d0 .d3)))])
  (.seq (.reg 56 [.p (.L (.iaddr 1 (.t .d0 .d0) (.t .d0 .d6))),
    .p (.L (.load (.l 0))),
    .s .d0 .d7 (.H (.callv (.t .d0 .d1) [(.l 0)]))])
  (.cond (.t .d0 .d7) (.seq (.reg 2 [.s .d0 .d2 (.L (.mov (.t .d0 .d6)))])
  .ret) .skip))))
  (.reg 1 [.s .d0 .d3 (.L (.bin .add (.t .d0 .d3) (.c (.int .i64 1))))])))))))
  (.seq (.reg 1 [.s .d0 .d2 (.L (.mov (.c (.int .i64 (-1)))))])
  .ret)))⟩
def i81 : Fun :=
  ⟨2, [0, 1, 4, 8, 7, 9, 5, 16], [.tmp .d0 .d2], (.seq (.reg 1 [.s .d0 .d2 (.L (.mov (.c (.int .i64 0))))])
  (.seq (.seq (.reg 6 [.s .d0 .d4 (.L (.len false (.t .d0 .d0))),
    .s .d0 .d3 (.L (.mov (.c (.int .i64 0))))])
  (.block 0 (.loop (.seq (.reg 1 [.s .d0 .d5 (.L (.bin .lss (.t .d0 .d3) (.t .d0 .d4)))])
  (.seq (.cond (.t .d0 .d5) .skip (.exit 0))
  (.seq (.block 1 (.seq (.reg 2 [.s .d0 .d6 (.L (.mov (.t .d0 .d3)))])
  (.seq (.reg 56 [.p (.L (.iaddr 1 (.t .d0 .d0) (.t .d0 .d6))),
    .p (.L (.load (.l 0))),
    .s .d0 .d7 (.L (.bins .eql (.t .d0 .d1) (.l 0)))])
  (.cond (.t .d0 .d7) (.seq (.reg 2 [.s .d0 .d2 (.L (.mov (.t .d0 .d6)))])
  .ret) .skip))))
  (.reg 1 [.s .d0 .d3 (.L (.bin .add (.t .d0 .d3) (.c (.int .i64 1))))])))))))
  (.seq (.reg 1 [.s .d0 .d2 (.L (.mov (.c (.int .i64 (-1)))))])
  .ret)))⟩
def i85 : Fun :=
  ⟨2, [0, 1, 4, 2], [.tmp .d0 .d2], (.seq (.reg 3 [.s .d0 .d3 (.L (.box 6 (.t .d0 .d0))),
    .s .d0 .d2 (.L (.mov (.c (.int .i64 0))))])
  (.seq (.reg 11 [.p (.L (.faddr 0 (.t .d0 .d3))),
    .p (.L (.load (.l 0))),
    .s .d0 .d2 (.H (.call 81 [(.l 0), (.t .d0 .d1)]))])
  .ret))⟩
def i95 : Fun :=
  ⟨1, [0, 2, 4, 8, 14], [.tmp .d0 .d1], (.seq (.reg 1 [.s .d0 .d1 (.L (.mov (.c (.int .i64 0))))])
  (.seq (.seq (.reg 2 [.s .d0 .d2 (.L (.bin .geq (.t .d0 .d0) (.c (.int .u64 4294967296))))])
  (.cond (.t .d0 .d2) (.seq (.reg 2 [.s .d0 .d0 (.L (.shf false (.t .d0 .d0) (.c (.int .u64 32))))])
  (.reg 1 [.s .d0 .d1 (.L (.mov (.c (.int .i64 32))))])) .skip))
  (.seq (.seq (.reg 2 [.s .d0 .d3 (.L (.bin .geq (.t .d0 .d0) (.c (.int .u64 65536))))])
  (.cond (.t .d0 .d3) (.seq (.reg 2 [.s .d0 .d0 (.L (.shf false (.t .d0 .d0) (.c (.int .u64 16))))])
  (.reg 2 [.s .d0 .d1 (.L (.bin .add (.t .d0 .d1) (.c (.int .i64 16))))])) .skip))
  (.seq (.seq (.reg 2 [.s .d0 .d4 (.L (.bin .geq (.t .d0 .d0) (.c (.int .u64 256))))])
  (.cond (.t .d0 .d4) (.seq (.reg 2 [.s .d0 .d0 (.L (.shf false (.t .d0 .d0) (.c (.int .u64 8))))])
  (.reg 2 [.s .d0 .d1 (.L (.bin .add (.t .d0 .d1) (.c (.int .i64 8))))])) .skip))
  (.seq (.reg 60 [.p (.L (.conv .u8 (.t .d0 .d0))),
    .p (.L (.istr (.c (.str 256 1013866857139168856493015739252390649739422828853819106890363778118420553376247557433637691341895324351018602695588957474325319502760499485336098898398377509666851054660423406800006203933793007272033180812049178612605246075062580585469430410618860250057463399279570354286669047577758927328864388992123306212451509403152394148136105363817402562688186708175358218852349079190158732807302672745370040257219644697201681238697346923541678507645485296520536209706771857694240900605172937619415410180424934769249448772944216470541052485265558808433676546390051204254346932932316488017972311616136051587427851453983453479168)) (.l 0))),
    .p (.L (.conv .i64 (.l 0))),
    .s .d0 .d1 (.L (.bin .add (.t .d0 .d1) (.l 0)))])
  .ret)))))⟩
def i106 : Fun :=
  ⟨1, [0, 2, 3, 4, 30, 39, 44, 49, 48, 50, 47, 8, 56, 6, 5, 66, 9, 10], [.tmp .d0 .d1, .tmp .d0 .d2], (.seq (.reg 3 [.s .d0 .d1 (.L (.mov (.c (.int .i64 0)))),
    .s .d0 .d2 (.L (.mov (.c (.ifcN))))])
  (.seq (.reg 2 [.s .d0 .d3 (.L (.len true (.t .d0 .d0)))])
  (.seq (.seq (.reg 261886 [.g (.c (.bool false)) true (.L (.mov (.t .d0 .d3))),
    .g (.c (.bool false)) true (.L (.bin .lss (.c (.int .i64 0)) (.l 0))),
    .g (.c (.bool false)) true (.L (.mov (.l 0))),
    .g (.l 0) true (.L (.mov (.t .d0 .d3))),
    .g (.l 1) true (.L (.bin .lss (.l 0) (.c (.int .i64 10)))),
    .g (.c (.bool false)) true (.L (.pick (.l 2) (.l 0) (.c (.bool false)))),
    .p (.L (.pick (.c (.bool false)) (.l 0) (.c (.bool false)))),
    .g (.l 0) false (.L (.mov (.c (.bool true)))),
    .g (.l 0) true (.L (.mov (.t .d0 .d3))),
    .g (.l 1) true (.L (.bin .lss (.c (.int .i64 0)) (.l 0))),
    .g (.l 2) true (.L (.mov (.l 0))),
    .g (.l 0) true (.L (.mov (.t .d0 .d3))),
    .g (.l 1) true (.L (.bin .lss (.l 0) (.c (.int .i64 19)))),
    .g (.l 5) true (.L (.pick (.l 2) (.l 0) (.c (.bool false)))),
    .g (.l 7) false (.L (.pick (.l 6) (.l 0) (.c (.bool false)))),
    .s .d0 .d4 (.L (.pick (.l 8) (.c (.bool true)) (.l 0)))])
  (.cond (.t .d0 .d4) (.seq (.reg 2 [.s .d1 .d6 (.L (.mov (.t .d0 .d0)))])
  (.seq (.seq (.reg 246 [.p (.L (.istr (.t .d0 .d0) (.c (.int .i64 0)))),
    .p (.L (.bin .eql (.l 0) (.c (.int .u8 45)))),
    .g (.l 0) false (.L (.mov (.t .d0 .d0))),
    .g (.l 1) false (.L (.istr (.l 0) (.c (.int .i64 0)))),
    .g (.l 2) false (.L (.bin .eql (.l 0) (.c (.int .u8 43)))),
    .s .d0 .d5 (.L (.pick (.l 3) (.c (.bool true)) (.l 0)))])
  (.cond (.t .d0 .d5) (.seq (.reg 2 [.s .d0 .d0 (.L (.sstr (.t .d0 .d0) (some (.c (.int .i64 1))) none))])
  (.seq (.reg 6 [.p (.L (.len true (.t .d0 .d0))),
    .s .d0 .d6 (.L (.bin .lss (.l 0) (.c (.int .i64 1))))])
  (.cond (.t .d0 .d6) (.seq (.reg 7 [.p (.L (.ifc 180 (.c (.int .i64 2)))),
    .s .d0 .d1 (.L (.mov (.c (.int .i64 0)))),
    .s .d0 .d2 (.L (.mov (.l 1)))])
  .ret) .skip))) .skip))
  (.seq (.reg 1 [.s .d1 .d5 (.L (.mov (.c (.int .i64 0))))])
  (.seq (.seq (.reg 14 [.s .d1 .d2 (.L (.sbytes (.t .d0 .d0))),
    .s .d1 .d0 (.L (.len false (.l 0))),
    .s .d0 .d7 (.L (.mov (.c (.int .i64 0))))])
  (.block 0 (.loop (.seq (.reg 1 [.s .d1 .d1 (.L (.bin .lss (.t .d0 .d7) (.t .d1 .d0)))])
  (.seq (.cond (.t .d1 .d1) .skip (.exit 0))
  (.seq (.block 1 (.seq (.reg 3 [.p (.L (.iaddr 1 (.t .d1 .d2) (.t .d0 .d7))),
    .s .d1 .d3 (.L (.load (.l 0)))])
  (.seq (.reg 2 [.s .d1 .d3 (.L (.bin .sub (.t .d1 .d3) (.c (.int .u8 48))))])
  (.seq (.seq (.reg 2 [.s .d1 .d4 (.L (.bin .gtr (.t .d1 .d3) (.c (.int .u8 9))))])
  (.cond (.t .d1 .d4) (.seq (.reg 7 [.p (.L (.ifc 180 (.c (.int .i64 2)))),
    .s .d0 .d1 (.L (.mov (.c (.int .i64 0)))),
    .s .d0 .d2 (.L (.mov (.l 1)))])
  .ret) .skip))
  (.reg 26 [.p (.L (.bin .mul (.t .d1 .d5) (.c (.int .i64 10)))),
    .p (.L (.conv .i64 (.t .d1 .d3))),
    .s .d1 .d5 (.L (.bin .add (.l 1) (.l 0)))])))))
  (.reg 1 [.s .d0 .d7 (.L (.bin .add (.t .d0 .d7) (.c (.int .i64 1))))])))))))
  (.seq (.seq (.reg 6 [.p (.L (.istr (.t .d1 .d6) (.c (.int .i64 0)))),
    .s .d1 .d7 (.L (.bin .eql (.l 0) (.c (.int .u8 45))))])
  (.cond (.t .d1 .d7) (.reg 2 [.s .d1 .d5 (.L (.neg (.t .d1 .d5)))]) .skip))
  (.seq (.reg 6 [.s .d0 .d1 (.L (.mov (.t .d1 .d5))),
    .s .d0 .d2 (.L (.mov (.c (.ifcN))))])
  .ret)))))) .skip))
  (.seq (.reg 122 [.p (.H (.call 122 [(.t .d0 .d0), (.c (.int .i64 10)), (.c (.int .i64 0))])),
    .p (.L (.ext 0 (.l 0))),
    .p (.L (.ext 1 (.l 1))),
    .s .d2 .d0 (.L (.mov (.l 1))),
    .s .d2 .d1 (.L (.mov (.l 1)))])
  (.seq (.reg 12 [.s .d0 .d1 (.L (.mov (.t .d2 .d0))),
    .s .d0 .d2 (.L (.mov (.t .d2 .d1)))])
  .ret)))))⟩
def i108 : Fun :=
  ⟨2, [0, 1, 4, 11, 17, 23, 6, 7, 5, 34, 9], [.tmp .d0 .d2], (.seq (.reg 1 [.s .d0 .d2 (.L (.mov (.c (.str 0 0))))])
  (.seq (.seq (.reg 2 [.s .d0 .d3 (.L (.bin .eql (.t .d0 .d1) (.c (.int .i64 10))))])
  (.cond (.t .d0 .d3) (.seq (.seq (.reg 58 [.p (.L (.bin .leq (.c (.int .i64 0)) (.t .d0 .d0))),
    .g (.l 0) true (.L (.mov (.t .d0 .d0))),
    .g (.l 1) true (.L (.bin .lss (.l 0) (.c (.int .i64 100)))),
    .s .d0 .d4 (.L (.pick (.l 2) (.l 0) (.c (.bool false))))])
  (.cond (.t .d0 .d4) (.seq (.reg 2 [.s .d0 .d2 (.H (.call 127 [(.t .d0 .d0)]))])
  .ret) .skip))
  (.seq (.reg 1 [.s .d1 .d0 (.L (.alloc [.int .u8 0, .int .u8 0, .int .u8 0, .int .u8 0, .int .u8 0, .int .u8 0, .int .u8 0, .int .u8 0, .int .u8 0, .int .u8 0, .int .u8 0, .int .u8 0, .int .u8 0, .int .u8 0, .int .u8 0, .int .u8 0, .int .u8 0, .int .u8 0, .int .u8 0, .int .u8 0, .int .u8 0, .int .u8 0, .int .u8 0, .int .u8 0]))])
  (.seq (.reg 2 [.s .d0 .d6 (.L (.conv .u64 (.t .d0 .d0)))])
  (.seq (.seq (.reg 2 [.s .d0 .d5 (.L (.bin .lss (.t .d0 .d0) (.c (.int .i64 0))))])
  (.cond (.t .d0 .d5) (.reg 2 [.s .d0 .d6 (.L (.neg (.t .d0 .d6)))]) .skip))
  (.seq (.reg 2 [.s .d0 .d7 (.H (.call 128 [(.t .d0 .d6)]))])
  (.seq (.reg 22 [.p (.L (.bin .add (.c (.int .i64 1)) (.t .d0 .d7))),
    .p (.L (.sarr 24 1 (.t .d1 .d0) (some (.c (.int .i64 1))) (some (.l 0)) none)),
    .p (.H (.call 129 [(.l 0), (.t .d0 .d6)]))])
  (.seq (.seq (.reg 2 [.s .d1 .d1 (.L (.bin .lss (.t .d0 .d0) (.c (.int .i64 0))))])
  (.cond (.t .d1 .d1) (.seq (.reg 3 [.p (.L (.iarr 24 1 (.t .d1 .d0) (.c (.int .i64 0)))),
    .p (.H (.store 1 (.l 0) (.c (.int .u8 45))))])
  (.seq (.reg 14 [.p (.L (.bin .add (.c (.int .i64 1)) (.t .d0 .d7))),
    .p (.L (.sarr 24 1 (.t .d1 .d0) none (some (.l 0)) none)),
    .s .d0 .d2 (.L (.bstr (.l 0)))])
  .ret)) .skip))
  (.seq (.reg 14 [.p (.L (.bin .add (.c (.int .i64 1)) (.t .d0 .d7))),
    .p (.L (.sarr 24 1 (.t .d1 .d0) (some (.c (.int .i64 1))) (some (.l 0)) none)),
    .s .d0 .d2 (.L (.bstr (.l 0)))])
  .ret)))))))) .skip))
  (.seq (.reg 1458 [.p (.L (.conv .u64 (.t .d0 .d0))),
    .p (.L (.bin .lss (.t .d0 .d0) (.c (.int .i64 0)))),
    .p (.H (.call 130 [(.c (.slN)), (.l 1), (.t .d0 .d1), (.l 0), (.c (.bool false))])),
    .p (.L (.ext 0 (.l 0))),
    .p (.L (.ext 1 (.l 1))),
    .s .d1 .d2 (.L (.mov (.l 0)))])
  (.seq (.reg 2 [.s .d0 .d2 (.L (.mov (.t .d1 .d2)))])
  .ret))))⟩
def i127 : Fun :=
  ⟨1, [0, 2, 4], [.tmp .d0 .d1], (.seq (.reg 1 [.s .d0 .d1 (.L (.mov (.c (.str 0 0))))])
  (.seq (.seq (.reg 2 [.s .d0 .d2 (.L (.bin .lss (.t .d0 .d0) (.c (.int .i64 10))))])
  (.cond (.t .d0 .d2) (.seq (.reg 12 [.p (.L (.bin .add (.t .d0 .d0) (.c (.int .i64 1)))),
    .s .d0 .d1 (.L (.sstr (.c (.str 36 237927390410950444456928663707796224754864904193074819559483181009558347043374296609072)) (some (.t .d0 .d0)) (some (.l 0))))])
  .ret) .skip))
  (.seq (.reg 58 [.p (.L (.bin .mul (.t .d0 .d0) (.c (.int .i64 2)))),
    .p (.L (.bin .mul (.t .d0 .d0) (.c (.int .i64 2)))),
    .p (.L (.bin .add (.l 0) (.c (.int .i64 2)))),
    .s .d0 .d1 (.L (.sstr (.c (.str 200 9938655150514779720929161263213647789093395803754561035662628441001274968862597953692946393464194303251501229616933063375291039650253924995779037586872666250072396106842829501851083234932712366962979930255066872747696324303968523733872590022915936937156789320557469720923390131174387415513794469201054844961267015441141542819553679203788501627738430154234325528792480477051962324423099068299719245009424585859096469223093538032153047611602695245052081125123941502624659711709950000)) (some (.l 2)) (some (.l 0))))])
  .ret)))⟩
def i128 : Fun :=
  ⟨1, [0, 2, 3], [.tmp .d0 .d1], (.seq (.reg 1 [.s .d0 .d1 (.L (.mov (.c (.int .i64 0))))])
  (.seq (.reg 6 [.p (.H (.call 95 [(.t .d0 .d0)])),
    .s .d0 .d2 (.H (.call 149 [(.l 0)]))])
  (.seq (.reg 248 [.p (.L (.iarr 20 1 (.c .bot) (.t .d0 .d2))),
    .p (.L (.load (.l 0))),
    .p (.L (.bin .geq (.t .d0 .d0) (.l 0))),
    .p (.H (.call 150 [(.l 0)])),
    .s .d0 .d1 (.L (.bin .add (.t .d0 .d2) (.l 0)))])
  .ret)))⟩
def i129 : Fun :=
  ⟨2, [0, 1, 4, 20, 5, 7, 6, 9, 8, 11, 10, 99, 12, 13, 15, 14, 139, 16, 161], [], (.seq (.reg 2 [.s .d0 .d2 (.L (.len false (.t .d0 .d0)))])
  (.seq (.block 0 (.loop (.seq (.seq (.reg 2 [.s .d0 .d3 (.L (.bin .geq (.t .d0 .d2) (.c (.int .i64 8))))])
  (.cond (.t .d0 .d3) .skip (.exit 0)))
  (.block 1 (.seq (.reg 6 [.p (.L (.bin .rem (.t .d0 .d1) (.c (.int .u64 100000000)))),
    .s .d0 .d4 (.L (.conv .u32 (.l 0)))])
  (.seq (.reg 2 [.s .d0 .d1 (.L (.bin .quo (.t .d0 .d1) (.c (.int .u64 100000000))))])
  (.seq (.reg 58 [.p (.L (.bin .quo (.t .d0 .d4) (.c (.int .u32 10000)))),
    .p (.L (.bin .rem (.t .d0 .d4) (.c (.int .u32 10000)))),
    .s .d0 .d6 (.L (.mov (.l 1))),
    .s .d0 .d5 (.L (.mov (.l 1)))])
  (.seq (.reg 246 [.p (.L (.bin .quo (.t .d0 .d5) (.c (.int .u32 100)))),
    .p (.L (.bin .mul (.l 0) (.c (.int .u32 2)))),
    .p (.L (.bin .rem (.t .d0 .d5) (.c (.int .u32 100)))),
    .p (.L (.bin .mul (.l 0) (.c (.int .u32 2)))),
    .s .d1 .d0 (.L (.mov (.l 2))),
    .s .d0 .d7 (.L (.mov (.l 1)))])
  (.seq (.reg 246 [.p (.L (.bin .quo (.t .d0 .d6) (.c (.int .u32 100)))),
    .p (.L (.bin .mul (.l 0) (.c (.int .u32 2)))),
    .p (.L (.bin .rem (.t .d0 .d6) (.c (.int .u32 100)))),
    .p (.L (.bin .mul (.l 0) (.c (.int .u32 2)))),
    .s .d1 .d2 (.L (.mov (.l 2))),
    .s .d1 .d1 (.L (.mov (.l 1)))])
  (.seq (.draw [0, 1, 2, 3, 4, 5, 6, 7, 8, 9, 10, 11, 12, 13, 14] [⟨.p (.L (.mov (.t .d0 .d0))), []⟩,
    ⟨.p (.L (.mov (.t .d0 .d2))), []⟩,
    ⟨.p (.L (.bin .sub (.l 0) (.c (.int .i64 1)))), []⟩,
    ⟨.p (.L (.mov (.t .d0 .d0))), []⟩,
    ⟨.p (.L (.mov (.t .d0 .d2))), []⟩,
    ⟨.p (.L (.bin .sub (.l 0) (.c (.int .i64 2)))), []⟩,
    ⟨.p (.L (.mov (.t .d0 .d7))), []⟩,
    ⟨.p (.L (.bin .add (.l 0) (.c (.int .u32 1)))), []⟩,
    ⟨.p (.L (.istr (.c (.str 200 9938655150514779720929161263213647789093395803754561035662628441001274968862597953692946393464194303251501229616933063375291039650253924995779037586872666250072396106842829501851083234932712366962979930255066872747696324303968523733872590022915936937156789320557469720923390131174387415513794469201054844961267015441141542819553679203788501627738430154234325528792480477051962324423099068299719245009424585859096469223093538032153047611602695245052081125123941502624659711709950000)) (.l 0))), []⟩,
    ⟨.p (.L (.mov (.t .d0 .d7))), []⟩,
    ⟨.p (.L (.istr (.c (.str 200 9938655150514779720929161263213647789093395803754561035662628441001274968862597953692946393464194303251501229616933063375291039650253924995779037586872666250072396106842829501851083234932712366962979930255066872747696324303968523733872590022915936937156789320557469720923390131174387415513794469201054844961267015441141542819553679203788501627738430154234325528792480477051962324423099068299719245009424585859096469223093538032153047611602695245052081125123941502624659711709950000)) (.l 0))), []⟩,
    ⟨.p (.L (.iaddr 1 (.l 10) (.l 8))), []⟩,
    ⟨.p (.H (.store 1 (.l 0) (.l 3))), []⟩,
    ⟨.p (.L (.iaddr 1 (.l 9) (.l 7))), []⟩,
    ⟨.p (.H (.store 1 (.l 0) (.l 3))), []⟩])
  (.seq (.draw [0, 1, 2, 3, 4, 5, 6, 7, 8, 9, 10, 11, 12, 13, 14] [⟨.p (.L (.mov (.t .d0 .d0))), []⟩,
    ⟨.p (.L (.mov (.t .d0 .d2))), []⟩,
    ⟨.p (.L (.bin .sub (.l 0) (.c (.int .i64 3)))), []⟩,
    ⟨.p (.L (.mov (.t .d0 .d0))), []⟩,
    ⟨.p (.L (.mov (.t .d0 .d2))), []⟩,
    ⟨.p (.L (.bin .sub (.l 0) (.c (.int .i64 4)))), []⟩,
    ⟨.p (.L (.mov (.t .d1 .d0))), []⟩,
    ⟨.p (.L (.bin .add (.l 0) (.c (.int .u32 1)))), []⟩,
    ⟨.p (.L (.istr (.c (.str 200 9938655150514779720929161263213647789093395803754561035662628441001274968862597953692946393464194303251501229616933063375291039650253924995779037586872666250072396106842829501851083234932712366962979930255066872747696324303968523733872590022915936937156789320557469720923390131174387415513794469201054844961267015441141542819553679203788501627738430154234325528792480477051962324423099068299719245009424585859096469223093538032153047611602695245052081125123941502624659711709950000)) (.l 0))), []⟩,
    ⟨.p (.L (.mov (.t .d1 .d0))), []⟩,
    ⟨.p (.L (.istr (.c (.str 200 9938655150514779720929161263213647789093395803754561035662628441001274968862597953692946393464194303251501229616933063375291039650253924995779037586872666250072396106842829501851083234932712366962979930255066872747696324303968523733872590022915936937156789320557469720923390131174387415513794469201054844961267015441141542819553679203788501627738430154234325528792480477051962324423099068299719245009424585859096469223093538032153047611602695245052081125123941502624659711709950000)) (.l 0))), []⟩,
    ⟨.p (.L (.iaddr 1 (.l 10) (.l 8))), []⟩,
    ⟨.p (.H (.store 1 (.l 0) (.l 3))), []⟩,
    ⟨.p (.L (.iaddr 1 (.l 9) (.l 7))), []⟩,
    ⟨.p (.H (.store 1 (.l 0) (.l 3))), []⟩])
  (.seq (.draw [0, 1, 2, 3, 4, 5, 6, 7, 8, 9, 10, 11, 12, 13, 14] [⟨.p (.L (.mov (.t .d0 .d0))), []⟩,
    ⟨.p (.L (.mov (.t .d0 .d2))), []⟩,
    ⟨.p (.L (.bin .sub (.l 0) (.c (.int .i64 5)))), []⟩,
    ⟨.p (.L (.mov (.t .d0 .d0))), []⟩,
    ⟨.p (.L (.mov (.t .d0 .d2))), []⟩,
    ⟨.p (.L (.bin .sub (.l 0) (.c (.int .i64 6)))), []⟩,
    ⟨.p (.L (.mov (.t .d1 .d1))), []⟩,
    ⟨.p (.L (.bin .add (.l 0) (.c (.int .u32 1)))), []⟩,
    ⟨.p (.L (.istr (.c (.str 200 9938655150514779720929161263213647789093395803754561035662628441001274968862597953692946393464194303251501229616933063375291039650253924995779037586872666250072396106842829501851083234932712366962979930255066872747696324303968523733872590022915936937156789320557469720923390131174387415513794469201054844961267015441141542819553679203788501627738430154234325528792480477051962324423099068299719245009424585859096469223093538032153047611602695245052081125123941502624659711709950000)) (.l 0))), []⟩,
    ⟨.p (.L (.mov (.t .d1 .d1))), []⟩,
    ⟨.p (.L (.istr (.c (.str 200 9938655150514779720929161263213647789093395803754561035662628441001274968862597953692946393464194303251501229616933063375291039650253924995779037586872666250072396106842829501851083234932712366962979930255066872747696324303968523733872590022915936937156789320557469720923390131174387415513794469201054844961267015441141542819553679203788501627738430154234325528792480477051962324423099068299719245009424585859096469223093538032153047611602695245052081125123941502624659711709950000)) (.l 0))), []⟩,
    ⟨.p (.L (.iaddr 1 (.l 10) (.l 8))), []⟩,
    ⟨.p (.H (.store 1 (.l 0) (.l 3))), []⟩,
    ⟨.p (.L (.iaddr 1 (.l 9) (.l 7))), []⟩,
    ⟨.p (.H (.store 1 (.l 0) (.l 3))), []⟩])
  (.seq (.draw [0, 1, 2, 3, 4, 5, 6, 7, 8, 9, 10, 11, 12, 13, 14] [⟨.p (.L (.mov (.t .d0 .d0))), []⟩,
    ⟨.p (.L (.mov (.t .d0 .d2))), []⟩,
    ⟨.p (.L (.bin .sub (.l 0) (.c (.int .i64 7)))), []⟩,
    ⟨.p (.L (.mov (.t .d0 .d0))), []⟩,
    ⟨.p (.L (.mov (.t .d0 .d2))), []⟩,
    ⟨.p (.L (.bin .sub (.l 0) (.c (.int .i64 8)))), []⟩,
    ⟨.p (.L (.mov (.t .d1 .d2))), []⟩,
    ⟨.p (.L (.bin .add (.l 0) (.c (.int .u32 1)))), []⟩,
    ⟨.p (.L (.istr (.c (.str 200 9938655150514779720929161263213647789093395803754561035662628441001274968862597953692946393464194303251501229616933063375291039650253924995779037586872666250072396106842829501851083234932712366962979930255066872747696324303968523733872590022915936937156789320557469720923390131174387415513794469201054844961267015441141542819553679203788501627738430154234325528792480477051962324423099068299719245009424585859096469223093538032153047611602695245052081125123941502624659711709950000)) (.l 0))), []⟩,
    ⟨.p (.L (.mov (.t .d1 .d2))), []⟩,
    ⟨.p (.L (.istr (.c (.str 200 9938655150514779720929161263213647789093395803754561035662628441001274968862597953692946393464194303251501229616933063375291039650253924995779037586872666250072396106842829501851083234932712366962979930255066872747696324303968523733872590022915936937156789320557469720923390131174387415513794469201054844961267015441141542819553679203788501627738430154234325528792480477051962324423099068299719245009424585859096469223093538032153047611602695245052081125123941502624659711709950000)) (.l 0))), []⟩,
    ⟨.p (.L (.iaddr 1 (.l 10) (.l 8))), []⟩,
    ⟨.p (.H (.store 1 (.l 0) (.l 3))), []⟩,
    ⟨.p (.L (.iaddr 1 (.l 9) (.l 7))), []⟩,
    ⟨.p (.H (.store 1 (.l 0) (.l 3))), []⟩])
  (.reg 2 [.s .d0 .d2 (.L (.bin .sub (.t .d0 .d2) (.c (.int .i64 8))))]))))))))))))))
  (.seq (.reg 2 [.s .d1 .d4 (.L (.conv .u32 (.t .d0 .d1)))])
  (.seq (.seq (.reg 2 [.s .d1 .d3 (.L (.bin .geq (.t .d0 .d2) (.c (.int .i64 4))))])
  (.cond (.t .d1 .d3) (.seq (.reg 2 [.s .d1 .d5 (.L (.bin .rem (.t .d1 .d4) (.c (.int .u32 10000))))])
  (.seq (.reg 2 [.s .d1 .d4 (.L (.bin .quo (.t .d1 .d4) (.c (.int .u32 10000))))])
  (.seq (.reg 246 [.p (.L (.bin .quo (.t .d1 .d5) (.c (.int .u32 100)))),
    .p (.L (.bin .mul (.l 0) (.c (.int .u32 2)))),
    .p (.L (.bin .rem (.t .d1 .d5) (.c (.int .u32 100)))),
    .p (.L (.bin .mul (.l 0) (.c (.int .u32 2)))),
    .s .d1 .d7 (.L (.mov (.l 2))),
    .s .d1 .d6 (.L (.mov (.l 1)))])
  (.seq (.draw [0, 1, 2, 3, 4, 5, 6, 7, 8, 9, 10, 11, 12, 13, 14] [⟨.p (.L (.mov (.t .d0 .d0))), []⟩,
    ⟨.p (.L (.mov (.t .d0 .d2))), []⟩,
    ⟨.p (.L (.bin .sub (.l 0) (.c (.int .i64 1)))), []⟩,
    ⟨.p (.L (.mov (.t .d0 .d0))), []⟩,
    ⟨.p (.L (.mov (.t .d0 .d2))), []⟩,
    ⟨.p (.L (.bin .sub (.l 0) (.c (.int .i64 2)))), []⟩,
    ⟨.p (.L (.mov (.t .d1 .d6))), []⟩,
    ⟨.p (.L (.bin .add (.l 0) (.c (.int .u32 1)))), []⟩,
    ⟨.p (.L (.istr (.c (.str 200 9938655150514779720929161263213647789093395803754561035662628441001274968862597953692946393464194303251501229616933063375291039650253924995779037586872666250072396106842829501851083234932712366962979930255066872747696324303968523733872590022915936937156789320557469720923390131174387415513794469201054844961267015441141542819553679203788501627738430154234325528792480477051962324423099068299719245009424585859096469223093538032153047611602695245052081125123941502624659711709950000)) (.l 0))), []⟩,
    ⟨.p (.L (.mov (.t .d1 .d6))), []⟩,
    ⟨.p (.L (.istr (.c (.str 200 9938655150514779720929161263213647789093395803754561035662628441001274968862597953692946393464194303251501229616933063375291039650253924995779037586872666250072396106842829501851083234932712366962979930255066872747696324303968523733872590022915936937156789320557469720923390131174387415513794469201054844961267015441141542819553679203788501627738430154234325528792480477051962324423099068299719245009424585859096469223093538032153047611602695245052081125123941502624659711709950000)) (.l 0))), []⟩,
    ⟨.p (.L (.iaddr 1 (.l 10) (.l 8))), []⟩,
    ⟨.p (.H (.store 1 (.l 0) (.l 3))), []⟩,
    ⟨.p (.L (.iaddr 1 (.l 9) (.l 7))), []⟩,
    ⟨.p (.H (.store 1 (.l 0) (.l 3))), []⟩])
  (.seq (.draw [0, 1, 2, 3, 4, 5, 6, 7, 8, 9, 10, 11, 12, 13, 14] [⟨.p (.L (.mov (.t .d0 .d0))), []⟩,
    ⟨.p (.L (.mov (.t .d0 .d2))), []⟩,
    ⟨.p (.L (.bin .sub (.l 0) (.c (.int .i64 3)))), []⟩,
    ⟨.p (.L (.mov (.t .d0 .d0))), []⟩,
    ⟨.p (.L (.mov (.t .d0 .d2))), []⟩,
    ⟨.p (.L (.bin .sub (.l 0) (.c (.int .i64 4)))), []⟩,
    ⟨.p (.L (.mov (.t .d1 .d7))), []⟩,
    ⟨.p (.L (.bin .add (.l 0) (.c (.int .u32 1)))), []⟩,
    ⟨.p (.L (.istr (.c (.str 200 9938655150514779720929161263213647789093395803754561035662628441001274968862597953692946393464194303251501229616933063375291039650253924995779037586872666250072396106842829501851083234932712366962979930255066872747696324303968523733872590022915936937156789320557469720923390131174387415513794469201054844961267015441141542819553679203788501627738430154234325528792480477051962324423099068299719245009424585859096469223093538032153047611602695245052081125123941502624659711709950000)) (.l 0))), []⟩,
    ⟨.p (.L (.mov (.t .d1 .d7))), []⟩,
    ⟨.p (.L (.istr (.c (.str 200 9938655150514779720929161263213647789093395803754561035662628441001274968862597953692946393464194303251501229616933063375291039650253924995779037586872666250072396106842829501851083234932712366962979930255066872747696324303968523733872590022915936937156789320557469720923390131174387415513794469201054844961267015441141542819553679203788501627738430154234325528792480477051962324423099068299719245009424585859096469223093538032153047611602695245052081125123941502624659711709950000)) (.l 0))), []⟩,
    ⟨.p (.L (.iaddr 1 (.l 10) (.l 8))), []⟩,
    ⟨.p (.H (.store 1 (.l 0) (.l 3))), []⟩,
    ⟨.p (.L (.iaddr 1 (.l 9) (.l 7))), []⟩,
    ⟨.p (.H (.store 1 (.l 0) (.l 3))), []⟩])
  (.reg 2 [.s .d0 .d2 (.L (.bin .sub (.t .d0 .d2) (.c (.int .i64 4))))])))))) .skip))
  (.seq (.seq (.reg 2 [.s .d2 .d0 (.L (.bin .geq (.t .d0 .d2) (.c (.int .i64 2))))])
  (.cond (.t .d2 .d0) (.seq (.reg 6 [.p (.L (.bin .rem (.t .d1 .d4) (.c (.int .u32 100)))),
    .s .d2 .d1 (.L (.bin .mul (.l 0) (.c (.int .u32 2))))])
  (.seq (.reg 2 [.s .d1 .d4 (.L (.bin .quo (.t .d1 .d4) (.c (.int .u32 100))))])
  (.seq (.draw [0, 1, 2, 3, 4, 5, 6, 7, 8, 9, 10, 11, 12, 13, 14] [⟨.p (.L (.mov (.t .d0 .d0))), []⟩,
    ⟨.p (.L (.mov (.t .d0 .d2))), []⟩,
    ⟨.p (.L (.bin .sub (.l 0) (.c (.int .i64 1)))), []⟩,
    ⟨.p (.L (.mov (.t .d0 .d0))), []⟩,
    ⟨.p (.L (.mov (.t .d0 .d2))), []⟩,
    ⟨.p (.L (.bin .sub (.l 0) (.c (.int .i64 2)))), []⟩,
    ⟨.p (.L (.mov (.t .d2 .d1))), []⟩,
    ⟨.p (.L (.bin .add (.l 0) (.c (.int .u32 1)))), []⟩,
    ⟨.p (.L (.istr (.c (.str 200 9938655150514779720929161263213647789093395803754561035662628441001274968862597953692946393464194303251501229616933063375291039650253924995779037586872666250072396106842829501851083234932712366962979930255066872747696324303968523733872590022915936937156789320557469720923390131174387415513794469201054844961267015441141542819553679203788501627738430154234325528792480477051962324423099068299719245009424585859096469223093538032153047611602695245052081125123941502624659711709950000)) (.l 0))), []⟩,
    ⟨.p (.L (.mov (.t .d2 .d1))), []⟩,
    ⟨.p (.L (.istr (.c (.str 200 9938655150514779720929161263213647789093395803754561035662628441001274968862597953692946393464194303251501229616933063375291039650253924995779037586872666250072396106842829501851083234932712366962979930255066872747696324303968523733872590022915936937156789320557469720923390131174387415513794469201054844961267015441141542819553679203788501627738430154234325528792480477051962324423099068299719245009424585859096469223093538032153047611602695245052081125123941502624659711709950000)) (.l 0))), []⟩,
    ⟨.p (.L (.iaddr 1 (.l 10) (.l 8))), []⟩,
    ⟨.p (.H (.store 1 (.l 0) (.l 3))), []⟩,
    ⟨.p (.L (.iaddr 1 (.l 9) (.l 7))), []⟩,
    ⟨.p (.H (.store 1 (.l 0) (.l 3))), []⟩])
  (.reg 2 [.s .d0 .d2 (.L (.bin .sub (.t .d0 .d2) (.c (.int .i64 2))))])))) .skip))
  (.seq (.reg 2 [.s .d2 .d2 (.L (.bin .gtr (.t .d0 .d2) (.c (.int .i64 0))))])
  (.cond (.t .d2 .d2) (.reg 60 [.p (.L (.bin .add (.c (.int .u32 48)) (.t .d1 .d4))),
    .p (.L (.conv .u8 (.l 0))),
    .p (.L (.iaddr 1 (.t .d0 .d0) (.c (.int .i64 0)))),
    .p (.H (.store 1 (.l 0) (.l 1)))]) .skip)))))))⟩
def i130 : Fun :=
  ⟨5, [0, 1, 2, 3, 4, 10, 11, 28, 30, 34, 15, 46, 13, 16, 12, 14, 17, 68, 18, 89, 94], [.tmp .d0 .d5, .tmp .d0 .d6], (.seq (.reg 3 [.s .d0 .d5 (.L (.mov (.c (.slN)))),
    .s .d0 .d6 (.L (.mov (.c (.str 0 0))))])
  (.seq (.seq (.reg 954 [.p (.L (.bin .lss (.t .d0 .d2) (.c (.int .i64 2)))),
    .g (.l 0) false (.L (.mov (.t .d0 .d2))),
    .g (.l 1) false (.L (.bin .eql (.l 0) (.c (.int .i64 10)))),
    .p (.L (.pick (.l 2) (.c (.bool true)) (.l 0))),
    .g (.l 0) false (.L (.mov (.t .d0 .d2))),
    .g (.l 1) false (.L (.bin .gtr (.l 0) (.c (.int .i64 36)))),
    .s .d0 .d7 (.L (.pick (.l 2) (.c (.bool true)) (.l 0)))])
  (.cond (.t .d0 .d7) (.reg 3 [.p (.L (.ifc 9 (.c (.str 41 216697390027125670893655747107225825579143285394002440301576320671928898198549784051036142863283315)))),
    .p (.H (.panic (.l 0)))]) .skip))
  (.seq (.reg 1 [.s .d1 .d6 (.L (.alloc [.int .u8 0, .int .u8 0, .int .u8 0, .int .u8 0, .int .u8 0, .int .u8 0, .int .u8 0, .int .u8 0, .int .u8 0, .int .u8 0, .int .u8 0, .int .u8 0, .int .u8 0, .int .u8 0, .int .u8 0, .int .u8 0, .int .u8 0, .int .u8 0, .int .u8 0, .int .u8 0, .int .u8 0, .int .u8 0, .int .u8 0, .int .u8 0, .int .u8 0, .int .u8 0, .int .u8 0, .int .u8 0, .int .u8 0, .int .u8 0, .int .u8 0, .int .u8 0, .int .u8 0, .int .u8 0, .int .u8 0, .int .u8 0, .int .u8 0, .int .u8 0, .int .u8 0, .int .u8 0, .int .u8 0, .int .u8 0, .int .u8 0, .int .u8 0, .int .u8 0, .int .u8 0, .int .u8 0, .int .u8 0, .int .u8 0, .int .u8 0, .int .u8 0, .int .u8 0, .int .u8 0, .int .u8 0, .int .u8 0, .int .u8 0, .int .u8 0, .int .u8 0, .int .u8 0, .int .u8 0, .int .u8 0, .int .u8 0, .int .u8 0, .int .u8 0, .int .u8 0]))])
  (.seq (.reg 1 [.s .d1 .d4 (.L (.mov (.c (.int .i64 65))))])
  (.seq (.seq (.reg 1 [.s .d1 .d0 (.L (.mov (.t .d0 .d3)))])
  (.cond (.t .d1 .d0) (.reg 2 [.s .d0 .d1 (.L (.neg (.t .d0 .d1)))]) .skip))
  (.seq (.seq (.reg 2 [.s .d1 .d1 (.H (.call 151 [(.t .d0 .d2)]))])
  (.cond (.t .d1 .d1) (.seq (.reg 14 [.p (.L (.conv .u64 (.t .d0 .d2))),
    .p (.H (.call 152 [(.l 0)])),
    .s .d1 .d7 (.L (.conv .u64 (.l 0)))])
  (.seq (.reg 2 [.s .d1 .d2 (.L (.conv .u64 (.t .d0 .d2)))])
  (.seq (.reg 6 [.p (.L (.conv .u64 (.t .d0 .d2))),
    .s .d1 .d5 (.L (.bin .sub (.l 0) (.c (.int .u64 1))))])
  (.seq (.block 0 (.loop (.seq (.seq (.reg 4 [.s .d1 .d3 (.L (.bin .geq (.t .d0 .d1) (.t .d1 .d2)))])
  (.cond (.t .d1 .d3) .skip (.exit 0)))
  (.block 1 (.seq (.reg 2 [.s .d1 .d4 (.L (.bin .sub (.t .d1 .d4) (.c (.int .i64 1))))])
  (.seq (.reg 120 [.p (.L (.bin .and (.t .d0 .d1) (.t .d1 .d5))),
    .p (.L (.istr (.c (.str 36 237927390410950444456928663707796224754864904193074819559483181009558347043374296609072)) (.l 0))),
    .p (.L (.iarr 65 1 (.t .d1 .d6) (.t .d1 .d4))),
    .p (.H (.store 1 (.l 0) (.l 1)))])
  (.reg 4 [.s .d0 .d1 (.L (.shf false (.t .d0 .d1) (.t .d1 .d7)))])))))))
  (.seq (.reg 2 [.s .d1 .d4 (.L (.bin .sub (.t .d1 .d4) (.c (.int .i64 1))))])
  (.reg 28 [.p (.L (.istr (.c (.str 36 237927390410950444456928663707796224754864904193074819559483181009558347043374296609072)) (.t .d0 .d1))),
    .p (.L (.iarr 65 1 (.t .d1 .d6) (.t .d1 .d4))),
    .p (.H (.store 1 (.l 0) (.l 1)))])))))) (.seq (.reg 2 [.s .d2 .d0 (.L (.conv .u64 (.t .d0 .d2)))])
  (.seq (.block 2 (.loop (.seq (.seq (.reg 4 [.s .d2 .d1 (.L (.bin .geq (.t .d0 .d1) (.t .d2 .d0)))])
  (.cond (.t .d2 .d1) .skip (.exit 2)))
  (.block 3 (.seq (.reg 2 [.s .d1 .d4 (.L (.bin .sub (.t .d1 .d4) (.c (.int .i64 1))))])
  (.seq (.reg 4 [.s .d2 .d2 (.L (.bin .quo (.t .d0 .d1) (.t .d2 .d0)))])
  (.seq (.reg 496 [.p (.L (.bin .mul (.t .d2 .d2) (.t .d2 .d0))),
    .p (.L (.bin .sub (.t .d0 .d1) (.l 0))),
    .p (.L (.istr (.c (.str 36 237927390410950444456928663707796224754864904193074819559483181009558347043374296609072)) (.l 0))),
    .p (.L (.iarr 65 1 (.t .d1 .d6) (.t .d1 .d4))),
    .p (.H (.store 1 (.l 0) (.l 1)))])
  (.reg 2 [.s .d0 .d1 (.L (.mov (.t .d2 .d2)))]))))))))
  (.seq (.reg 2 [.s .d1 .d4 (.L (.bin .sub (.t .d1 .d4) (.c (.int .i64 1))))])
  (.reg 28 [.p (.L (.istr (.c (.str 36 237927390410950444456928663707796224754864904193074819559483181009558347043374296609072)) (.t .d0 .d1))),
    .p (.L (.iarr 65 1 (.t .d1 .d6) (.t .d1 .d4))),
    .p (.H (.store 1 (.l 0) (.l 1)))]))))))
  (.seq (.seq (.reg 1 [.s .d2 .d3 (.L (.mov (.t .d0 .d3)))])
  (.cond (.t .d2 .d3) (.seq (.reg 2 [.s .d1 .d4 (.L (.bin .sub (.t .d1 .d4) (.c (.int .i64 1))))])
  (.reg 6 [.p (.L (.iarr 65 1 (.t .d1 .d6) (.t .d1 .d4))),
    .p (.H (.store 1 (.l 0) (.c (.int .u8 45))))])) .skip))
  (.seq (.seq (.reg 1 [.s .d2 .d4 (.L (.mov (.t .d0 .d4)))])
  (.cond (.t .d2 .d4) (.seq (.reg 12 [.p (.L (.sarr 65 1 (.t .d1 .d6) (some (.t .d1 .d4)) none none)),
    .s .d0 .d5 (.H (.append 1 1 (.t .d0 .d0) (.l 0)))])
  .ret) .skip))
  (.seq (.reg 6 [.p (.L (.sarr 65 1 (.t .d1 .d6) (some (.t .d1 .d4)) none none)),
    .s .d0 .d6 (.L (.bstr (.l 0)))])
  .ret)))))))))⟩
def i149 : Fun :=
  ⟨1, [0, 2], [.tmp .d0 .d1], (.seq (.reg 1 [.s .d0 .d1 (.L (.mov (.c (.int .i64 0))))])
  (.seq (.reg 6 [.p (.L (.bin .mul (.t .d0 .d0) (.c (.int .i64 78913)))),
    .s .d0 .d1 (.L (.shf false (.l 0) (.c (.int .u64 18))))])
  .ret))⟩
def i150 : Fun :=
  ⟨1, [0, 2, 3], [.tmp .d0 .d1], (.seq (.reg 1 [.s .d0 .d1 (.L (.mov (.c (.int .i64 0))))])
  (.seq (.seq (.reg 1 [.s .d0 .d2 (.L (.mov (.t .d0 .d0)))])
  (.cond (.t .d0 .d2) (.seq (.reg 1 [.s .d0 .d1 (.L (.mov (.c (.int .i64 1))))])
  .ret) .skip))
  (.seq (.reg 1 [.s .d0 .d1 (.L (.mov (.c (.int .i64 0))))])
  .ret)))⟩
def i151 : Fun :=
  ⟨1, [0, 2], [.tmp .d0 .d1], (.seq (.reg 1 [.s .d0 .d1 (.L (.mov (.c (.bool false))))])
  (.seq (.reg 28 [.p (.L (.bin .sub (.t .d0 .d0) (.c (.int .i64 1)))),
    .p (.L (.bin .and (.t .d0 .d0) (.l 0))),
    .s .d0 .d1 (.L (.bin .eql (.l 0) (.c (.int .i64 0))))])
  .ret))⟩
def i152 : Fun :=
  ⟨1, [0, 2], [.tmp .d0 .d1], (.seq (.reg 1 [.s .d0 .d1 (.L (.mov (.c (.int .i64 0))))])
  (.seq (.cond (.c (.bool false)) (.seq (.reg 6 [.p (.L (.conv .u32 (.t .d0 .d0))),
    .s .d0 .d1 (.H (.call 161 [(.l 0)]))])
  .ret) .skip)
  (.seq (.reg 2 [.s .d0 .d1 (.H (.call 162 [(.t .d0 .d0)]))])
  .ret)))⟩
def i161 : Fun :=
  ⟨1, [0, 2, 4], [.tmp .d0 .d1], (.seq (.reg 1 [.s .d0 .d1 (.L (.mov (.c (.int .i64 0))))])
  (.seq (.seq (.reg 2 [.s .d0 .d2 (.L (.bin .eql (.t .d0 .d0) (.c (.int .u32 0))))])
  (.cond (.t .d0 .d2) (.seq (.reg 1 [.s .d0 .d1 (.L (.mov (.c (.int .i64 32))))])
  .ret) .skip))
  (.seq (.reg 508 [.p (.L (.neg (.t .d0 .d0))),
    .p (.L (.bin .and (.t .d0 .d0) (.l 0))),
    .p (.L (.bin .mul (.l 0) (.c (.int .u32 125613361)))),
    .p (.L (.shf false (.l 0) (.c (.int .u64 27)))),
    .p (.L (.iarr 32 1 (.c .bot) (.l 0))),
    .p (.L (.load (.l 0))),
    .s .d0 .d1 (.L (.conv .i64 (.l 0)))])
  .ret)))⟩
def i162 : Fun :=
  ⟨1, [0, 2, 4], [.tmp .d0 .d1], (.seq (.reg 1 [.s .d0 .d1 (.L (.mov (.c (.int .i64 0))))])
  (.seq (.seq (.reg 2 [.s .d0 .d2 (.L (.bin .eql (.t .d0 .d0) (.c (.int .u64 0))))])
  (.cond (.t .d0 .d2) (.seq (.reg 1 [.s .d0 .d1 (.L (.mov (.c (.int .i64 64))))])
  .ret) .skip))
  (.seq (.reg 508 [.p (.L (.neg (.t .d0 .d0))),
    .p (.L (.bin .and (.t .d0 .d0) (.l 0))),
    .p (.L (.bin .mul (.l 0) (.c (.int .u64 285870213051353865)))),
    .p (.L (.shf false (.l 0) (.c (.int .u64 58)))),
    .p (.L (.iarr 64 1 (.c .bot) (.l 0))),
    .p (.L (.load (.l 0))),
    .s .d0 .d1 (.L (.conv .i64 (.l 0)))])
  .ret)))⟩
def n1 {α : Type} : R8 (Option α) := R8.all none
def n2 {α : Type} : R8 (R8 (Option α)) := R8.all n1
def funs : T Fun := ⟨⟨⟨⟨none, none, none, none, none, (some i5), none, none⟩, ⟨(some i8), (some i9), none, none, none, none, (some i14), (some i15)⟩, ⟨(some i16), (some i17), (some i18), (some i19), (some i20), (some i21), (some i22), none⟩, ⟨none, (some i25), (some i26), (some i27), none, (some i29), (some i30), none⟩, ⟨(some i32), none, none, none, none, (some i37), (some i38), (some i39)⟩, ⟨(some i40), (some i41), (some i42), (some i43), (some i44), (some i45), (some i46), (some i47)⟩, ⟨(some i48), (some i49), (some i50), none, none, none, none, none⟩, ⟨none, none, none, none, none, none, (some i62), (some i63)⟩⟩, ⟨⟨none, none, none, none, none, none, none, (some i71)⟩, ⟨(some i72), (some i73), (some i74), (some i75), (some i76), none, (some i78), none⟩, ⟨(some i80), (some i81), none, none, none, (some i85), none, none⟩, ⟨none, none, none, none, none, none, none, (some i95)⟩, ⟨none, none, none, none, none, none, none, none⟩, ⟨none, none, (some i106), none, (some i108), none, none, none⟩, ⟨none, none, none, none, none, none, none, none⟩, ⟨none, none, none, none, none, none, none, (some i127)⟩⟩, ⟨⟨(some i128), (some i129), (some i130), none, none, none, none, none⟩, ⟨none, none, none, none, none, none, none, none⟩, ⟨none, none, none, none, none, (some i149), (some i150), (some i151)⟩, ⟨(some i152), none, none, none, none, none, none, none⟩, ⟨none, (some i161), (some i162), none, none, none, none, none⟩, n1, n1, n1⟩, ⟨⟨none, none, none, none, none, none, none, none⟩, n1, n1, n1, n1, n1, n1, n1⟩, n2, n2, n2, n2⟩, none, .mt⟩
def dfuns : T FunD := ⟨⟨n2, n2, n2, n2, n2, n2, n2, n2⟩, none, .mt⟩
end
end Go.Eng.YtmcjcbldmoijiaaGreatDoor
