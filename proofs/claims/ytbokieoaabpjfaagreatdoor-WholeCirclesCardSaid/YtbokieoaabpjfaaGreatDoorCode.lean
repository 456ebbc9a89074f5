/- Part of a proof of a law, by an evaluator that the machine follows: rules, contracts of functions, what they come to. No condition of its own. -/
import Derived.Test.YtbokieoaabpjfaaGreatDoorEng3
set_option maxRecDepth 100000
namespace Go.Eng.YtbokieoaabpjfaaGreatDoor
open Go.Eng
noncomputable section
def i7 : Fun :=
  ⟨2, [0, 1, 4, 7, 5, 23, 8, 35, 9, 6, 11, 10, 64, 12, 14, 13, 95, 15, 99, 104, 16, 124], [.tmp .d0 .d2], (.seq (.reg 1 [.s .d0 .d2 (.L (.mov (.c (.bool false))))])
  (.seq (.reg 14 [.p (.L (.conv .i64 (.t .d0 .d0))),
    .p (.L (.bin .rem (.l 0) (.c (.int .i64 8)))),
    .s .d0 .d4 (.L (.bin .add (.c (.int .i64 1)) (.l 0)))])
  (.seq (.reg 1 [.s .d1 .d1 (.L (.mov (.c (.slN))))])
  (.seq (.seq (.reg 1 [.s .d0 .d3 (.L (.mov (.c (.int .i64 0))))])
  (.block 0 (.loop (.seq (.seq (.reg 4 [.s .d0 .d5 (.L (.bin .lss (.t .d0 .d3) (.t .d0 .d4)))])
  (.cond (.t .d0 .d5) .skip (.exit 0)))
  (.seq (.block 1 (.seq (.reg 30 [.p (.L (.conv .u8 (.t .d0 .d3))),
    .p (.L (.bin .add (.c (.int .u8 97)) (.l 0))),
    .p (.L (.bsl 1 2 [.int .u8 0] [(0, 1, (.c (.int .u8 109))), (1, 1, (.l 0))])),
    .s .d0 .d6 (.L (.bstr (.l 0)))])
  (.seq (.reg 6 [.p (.L (.bins .add (.c (.str 7 9118715755130733)) (.t .d0 .d6))),
    .s .d1 .d0 (.L (.bins .add (.l 0) (.c (.str 2 8251))))])
  (.seq (.seq (.reg 2 [.s .d0 .d7 (.L (.bin .gtr (.t .d0 .d3) (.c (.int .i64 0))))])
  (.cond (.t .d0 .d7) (.reg 1018 [.p (.L (.bins .add (.t .d1 .d0) (.c (.str 7 9135234099473769)))),
    .p (.L (.bin .sub (.t .d0 .d3) (.c (.int .i64 1)))),
    .p (.L (.conv .u8 (.l 0))),
    .p (.L (.bin .add (.c (.int .u8 97)) (.l 0))),
    .p (.L (.bsl 1 2 [.int .u8 0] [(0, 1, (.c (.int .u8 109))), (1, 1, (.l 0))])),
    .p (.L (.bstr (.l 0))),
    .p (.L (.bins .add (.l 5) (.l 0))),
    .s .d1 .d0 (.L (.bins .add (.l 0) (.c (.str 1 59))))]) .skip))
  (.reg 56 [.p (.L (.build [.str 0 0, .str 0 0] [(0, 1, (.t .d0 .d6)), (1, 1, (.t .d1 .d0))])),
    .p (.L (.bsl 2 1 [.str 0 0, .str 0 0] [(0, 2, (.l 0))])),
    .s .d1 .d1 (.H (.append 2 32 (.t .d1 .d1) (.l 0)))])))))
  (.reg 2 [.s .d0 .d3 (.L (.bin .add (.t .d0 .d3) (.c (.int .i64 1))))]))))))
  (.seq (.reg 122 [.p (.H (.call 22 [(.c (.str 9 1095356621079191904620)), (.t .d1 .d1)])),
    .p (.L (.ext 0 (.l 0))),
    .p (.L (.ext 1 (.l 1))),
    .s .d1 .d3 (.L (.mov (.l 1))),
    .s .d1 .d2 (.L (.mov (.l 1)))])
  (.seq (.seq (.reg 246 [.p (.H (.call 24 [(.t .d1 .d2)])),
    .p (.L (.bin .neq (.l 0) (.c (.int .i64 0)))),
    .g (.l 0) false (.L (.mov (.t .d1 .d3))),
    .g (.l 1) false (.L (.len false (.l 0))),
    .g (.l 2) false (.L (.bin .neq (.l 0) (.c (.int .i64 0)))),
    .s .d1 .d4 (.L (.pick (.l 3) (.c (.bool true)) (.l 0)))])
  (.cond (.t .d1 .d4) (.seq (.reg 1 [.s .d0 .d2 (.L (.mov (.c (.bool false))))])
  .ret) .skip))
  (.seq (.reg 10 [.p (.L (.conv .i64 (.t .d0 .d1))),
    .s .d1 .d5 (.L (.bin .rem (.l 0) (.t .d0 .d4)))])
  (.seq (.reg 2044 [.p (.L (.conv .u8 (.t .d1 .d5))),
    .p (.L (.bin .add (.c (.int .u8 97)) (.l 0))),
    .p (.L (.bsl 1 2 [.int .u8 0] [(0, 1, (.c (.int .u8 109))), (1, 1, (.l 0))])),
    .p (.L (.bstr (.l 0))),
    .p (.L (.bins .add (.c (.str 18 2827218014995925812444210228674157714108269)) (.l 0))),
    .p (.L (.bins .add (.l 0) (.c (.str 1 59)))),
    .p (.L (.iaddr 2 (.t .d1 .d1) (.c (.int .i64 0)))),
    .p (.L (.faddr 1 (.l 0))),
    .p (.H (.store 1 (.l 0) (.l 2)))])
  (.seq (.reg 122 [.p (.H (.call 22 [(.c (.str 9 1095356621079191904620)), (.t .d1 .d1)])),
    .p (.L (.ext 0 (.l 0))),
    .p (.L (.ext 1 (.l 1))),
    .s .d1 .d7 (.L (.mov (.l 1))),
    .s .d1 .d6 (.L (.mov (.l 1)))])
  (.seq (.seq (.reg 4086 [.p (.H (.call 24 [(.t .d1 .d6)])),
    .p (.L (.bin .neq (.l 0) (.c (.int .i64 0)))),
    .g (.l 0) false (.L (.mov (.t .d1 .d7))),
    .g (.l 1) false (.L (.len false (.l 0))),
    .g (.l 2) false (.L (.mov (.t .d0 .d4))),
    .g (.l 3) false (.L (.mov (.t .d1 .d5))),
    .g (.l 4) false (.L (.bin .add (.l 0) (.c (.int .i64 2)))),
    .g (.l 5) false (.L (.minmax false (.l 2) (.l 0))),
    .g (.l 6) false (.L (.bin .neq (.l 4) (.l 0))),
    .s .d2 .d0 (.L (.pick (.l 7) (.c (.bool true)) (.l 0)))])
  (.cond (.t .d2 .d0) (.seq (.reg 1 [.s .d0 .d2 (.L (.mov (.c (.bool false))))])
  .ret) .skip))
  (.seq (.seq (.reg 1 [.s .d2 .d1 (.L (.mov (.c (.int .i64 0))))])
  (.block 2 (.loop (.seq (.seq (.reg 12 [.p (.L (.len false (.t .d1 .d7))),
    .s .d2 .d2 (.L (.bin .lss (.t .d2 .d1) (.l 0)))])
  (.cond (.t .d2 .d2) .skip (.exit 2)))
  (.seq (.block 3 (.seq (.reg 1 [.s .d2 .d4 (.L (.mov (.c (.int .i64 4))))])
  (.seq (.seq (.reg 4 [.s .d2 .d3 (.L (.bin .gtr (.t .d2 .d1) (.t .d1 .d5)))])
  (.cond (.t .d2 .d3) (.reg 1 [.s .d2 .d4 (.L (.mov (.c (.int .i64 5))))]) .skip))
  (.seq (.draw [0, 1, 2, 3, 4, 5, 6, 7, 8, 9, 10, 11, 12, 13, 14, 15, 16, 17, 18, 19] [⟨.p (.L (.mov (.t .d1 .d7))), []⟩,
    ⟨.p (.L (.mov (.t .d2 .d1))), []⟩,
    ⟨.p (.L (.iaddr 4 (.l 1) (.l 0))), []⟩,
    ⟨.p (.L (.faddr 2 (.l 0))), []⟩,
    ⟨.p (.L (.load (.l 0))), []⟩,
    ⟨.p (.L (.mov (.t .d2 .d4))), []⟩,
    ⟨.p (.L (.bin .neq (.l 1) (.l 0))), []⟩,
    ⟨.p (.L (.mov (.l 0))), []⟩,
    ⟨.g (.l 0) false (.L (.mov (.t .d1 .d7))), []⟩,
    ⟨.g (.l 1) false (.L (.mov (.t .d2 .d1))), []⟩,
    ⟨.g (.l 2) false (.L (.iaddr 4 (.l 1) (.l 0))), []⟩,
    ⟨.g (.l 3) false (.L (.faddr 0 (.l 0))), []⟩,
    ⟨.g (.l 4) false (.L (.load (.l 0))), []⟩,
    ⟨.g (.l 5) false (.L (.mov (.t .d2 .d1))), []⟩,
    ⟨.g (.l 6) false (.L (.conv .u8 (.l 0))), []⟩,
    ⟨.g (.l 7) false (.L (.bin .add (.c (.int .u8 97)) (.l 0))), []⟩,
    ⟨.g (.l 8) false (.L (.bsl 1 2 [.int .u8 0] [(0, 1, (.c (.int .u8 109))), (1, 1, (.l 0))])), []⟩,
    ⟨.g (.l 9) false (.L (.bstr (.l 0))), []⟩,
    ⟨.g (.l 10) false (.L (.bins .neq (.l 5) (.l 0))), []⟩,
    ⟨.s .d2 .d5 (.L (.pick (.l 11) (.c (.bool true)) (.l 0))), []⟩])
  (.cond (.t .d2 .d5) (.seq (.reg 1 [.s .d0 .d2 (.L (.mov (.c (.bool false))))])
  .ret) .skip)))))
  (.reg 2 [.s .d2 .d1 (.L (.bin .add (.t .d2 .d1) (.c (.int .i64 1))))]))))))
  (.seq (.reg 1 [.s .d0 .d2 (.H (.call 11 []))])
  .ret))))))))))))⟩
def i9 : Fun :=
  ⟨1, [0, 2, 3, 4, 6, 5, 30], [.tmp .d0 .d1], (.seq (.reg 1 [.s .d0 .d1 (.L (.mov (.c (.bool false))))])
  (.seq (.reg 30 [.p (.L (.bin .rem (.t .d0 .d0) (.c (.int .u8 26)))),
    .p (.L (.bin .add (.c (.int .u8 97)) (.l 0))),
    .p (.L (.bsl 1 1 [.int .u8 0] [(0, 1, (.l 0))])),
    .s .d0 .d2 (.L (.bstr (.l 0)))])
  (.seq (.reg 62 [.p (.L (.bins .add (.c (.str 7 9118715755130733)) (.t .d0 .d2))),
    .p (.L (.bins .add (.l 0) (.c (.str 16 78674335880579174941851362884526153787)))),
    .p (.L (.build [.str 0 0, .str 0 0] [(0, 1, (.c (.str 2 31354))), (1, 1, (.l 0))])),
    .p (.L (.build [.str 0 0, .str 0 0] [(0, 1, (.c (.str 2 31097))), (1, 1, (.c (.str 57 90946351855816637988049045710943827697029710531037080296194496360930442388266845177195038988390492324037250456072723768075874941702270829)))])),
    .s .d0 .d3 (.L (.bsl 2 2 [.str 0 0, .str 0 0] [(0, 2, (.l 1)), (2, 2, (.l 0))]))])
  (.seq (.reg 122 [.p (.H (.call 22 [(.c (.str 9 1096149254613609111916)), (.t .d0 .d3)])),
    .p (.L (.ext 0 (.l 0))),
    .p (.L (.ext 1 (.l 1))),
    .s .d0 .d5 (.L (.mov (.l 1))),
    .s .d0 .d4 (.L (.mov (.l 1)))])
  (.seq (.seq (.reg 246 [.p (.H (.call 24 [(.t .d0 .d4)])),
    .p (.L (.bin .neq (.l 0) (.c (.int .i64 0)))),
    .g (.l 0) false (.L (.mov (.t .d0 .d5))),
    .g (.l 1) false (.L (.len false (.l 0))),
    .g (.l 2) false (.L (.bin .neq (.l 0) (.c (.int .i64 2)))),
    .s .d0 .d6 (.L (.pick (.l 3) (.c (.bool true)) (.l 0)))])
  (.cond (.t .d0 .d6) (.seq (.reg 1 [.s .d0 .d1 (.L (.mov (.c (.bool false))))])
  .ret) .skip))
  (.seq (.reg 57310 [.p (.L (.iaddr 4 (.t .d0 .d5) (.c (.int .i64 0)))),
    .p (.L (.loadn 4 (.l 0))),
    .p (.L (.build [.str 0 0, .int .i64 0, .int .i64 0, .str 0 0] [(0, 1, (.c (.str 2 31097))), (1, 1, (.c (.int .i64 18))), (2, 1, (.c (.int .i64 5))), (3, 1, (.c (.str 2 31354)))])),
    .p (.L (.eq false (.st [(0, .str), (1, .int), (2, .int), (3, .str)]) (.l 1) (.l 0))),
    .g (.l 0) true (.L (.mov (.t .d0 .d5))),
    .g (.l 1) true (.L (.iaddr 4 (.l 0) (.c (.int .i64 1)))),
    .g (.l 2) true (.L (.loadn 4 (.l 0))),
    .g (.l 3) true (.L (.mov (.t .d0 .d2))),
    .g (.l 4) true (.L (.build [.str 0 0, .int .i64 0, .int .i64 0, .str 0 0] [(0, 1, (.c (.str 2 31354))), (1, 1, (.c (.int .i64 7))), (2, 1, (.c (.int .i64 2))), (3, 1, (.l 0))])),
    .g (.l 5) true (.L (.eq false (.st [(0, .str), (1, .int), (2, .int), (3, .str)]) (.l 2) (.l 0))),
    .p (.L (.pick (.l 6) (.l 0) (.c (.bool false)))),
    .g (.l 0) true (.H (.call 11 [])),
    .s .d0 .d1 (.L (.pick (.l 1) (.l 0) (.c (.bool false))))])
  .ret))))))⟩
def i10 : Fun :=
  ⟨2, [0, 1, 4, 7, 5, 17, 8, 6, 31, 43, 10, 9], [.tmp .d0 .d2], (.seq (.reg 1 [.s .d0 .d2 (.L (.mov (.c (.bool false))))])
  (.seq (.reg 14 [.p (.L (.conv .i64 (.t .d0 .d0))),
    .p (.L (.bin .rem (.l 0) (.c (.int .i64 20)))),
    .s .d0 .d4 (.L (.bin .add (.c (.int .i64 20)) (.l 0)))])
  (.seq (.reg 1 [.s .d0 .d7 (.L (.mov (.c (.slN))))])
  (.seq (.seq (.reg 1 [.s .d0 .d3 (.L (.mov (.c (.int .i64 0))))])
  (.block 0 (.loop (.seq (.seq (.reg 4 [.s .d0 .d5 (.L (.bin .lss (.t .d0 .d3) (.t .d0 .d4)))])
  (.cond (.t .d0 .d5) .skip (.exit 0)))
  (.seq (.block 1 (.seq (.reg 6 [.p (.H (.call 26 [(.t .d0 .d3)])),
    .s .d0 .d6 (.L (.bins .add (.c (.str 1 110)) (.l 0)))])
  (.reg 248 [.p (.L (.bins .add (.c (.str 7 9118715755130733)) (.t .d0 .d6))),
    .p (.L (.bins .add (.l 0) (.c (.str 1 59)))),
    .p (.L (.build [.str 0 0, .str 0 0] [(0, 1, (.t .d0 .d6)), (1, 1, (.l 0))])),
    .p (.L (.bsl 2 1 [.str 0 0, .str 0 0] [(0, 2, (.l 0))])),
    .s .d0 .d7 (.H (.append 2 32 (.t .d0 .d7) (.l 0)))])))
  (.reg 2 [.s .d0 .d3 (.L (.bin .add (.t .d0 .d3) (.c (.int .i64 1))))]))))))
  (.seq (.seq (.reg 1 [.s .d1 .d0 (.L (.mov (.t .d0 .d1)))])
  (.cond (.t .d1 .d0) (.reg 60 [.p (.L (.iaddr 2 (.t .d0 .d7) (.c (.int .i64 0)))),
    .p (.L (.loadn 2 (.l 0))),
    .p (.L (.bsl 2 1 [.str 0 0, .str 0 0] [(0, 2, (.l 0))])),
    .s .d0 .d7 (.H (.append 2 32 (.t .d0 .d7) (.l 0)))]) .skip))
  (.seq (.reg 122 [.p (.H (.call 22 [(.c (.str 9 1095356621079191904620)), (.t .d0 .d7)])),
    .p (.L (.ext 0 (.l 0))),
    .p (.L (.ext 1 (.l 1))),
    .s .d1 .d3 (.L (.mov (.l 1))),
    .s .d1 .d2 (.L (.mov (.l 1)))])
  (.seq (.seq (.reg 1 [.s .d1 .d1 (.L (.mov (.t .d0 .d1)))])
  (.cond (.t .d1 .d1) (.seq (.reg 1782 [.p (.H (.call 24 [(.t .d1 .d2)])),
    .p (.L (.bin .eql (.l 0) (.c (.int .i64 1)))),
    .g (.l 0) true (.L (.mov (.t .d1 .d3))),
    .g (.l 1) true (.L (.len false (.l 0))),
    .g (.l 2) true (.L (.bin .eql (.l 0) (.c (.int .i64 0)))),
    .p (.L (.pick (.l 3) (.l 0) (.c (.bool false)))),
    .g (.l 0) true (.H (.call 11 [])),
    .s .d0 .d2 (.L (.pick (.l 1) (.l 0) (.c (.bool false))))])
  .ret) .skip))
  (.seq (.reg 7307190 [.p (.H (.call 24 [(.t .d1 .d2)])),
    .p (.L (.bin .eql (.l 0) (.c (.int .i64 14)))),
    .p (.L (.bin .gtr (.t .d0 .d4) (.c (.int .i64 30)))),
    .p (.L (.eq false .bool (.l 1) (.l 0))),
    .g (.l 0) true (.L (.mov (.t .d0 .d4))),
    .g (.l 1) true (.L (.bin .gtr (.l 0) (.c (.int .i64 30)))),
    .g (.l 2) true (.L (.mov (.l 0))),
    .g (.l 0) false (.L (.mov (.t .d1 .d2))),
    .g (.l 1) false (.H (.call 24 [(.l 0)])),
    .g (.l 2) false (.L (.bin .eql (.l 0) (.c (.int .i64 0)))),
    .g (.l 6) true (.L (.pick (.l 3) (.c (.bool true)) (.l 0))),
    .p (.L (.pick (.l 7) (.l 0) (.c (.bool false)))),
    .g (.l 0) true (.L (.mov (.t .d1 .d3))),
    .g (.l 1) true (.L (.len false (.l 0))),
    .g (.l 2) true (.L (.bin .eql (.l 0) (.c (.int .i64 0)))),
    .p (.L (.pick (.l 3) (.l 0) (.c (.bool false)))),
    .g (.l 0) true (.H (.call 11 [])),
    .s .d0 .d2 (.L (.pick (.l 1) (.l 0) (.c (.bool false))))])
  .ret))))))))⟩
def i11 : Fun :=
  ⟨0, [0, 2, 1, 4, 3], [.tmp .d0 .d0], (.seq (.reg 1 [.s .d0 .d0 (.L (.mov (.c (.bool false))))])
  (.seq (.reg 61 [.p (.H (.call 22 [(.c (.str 9 1095356621079191904620)), (.c (.slN))])),
    .p (.L (.ext 0 (.l 0))),
    .p (.L (.ext 1 (.l 1))),
    .s .d0 .d2 (.L (.mov (.l 1))),
    .s .d0 .d1 (.L (.mov (.l 1)))])
  (.seq (.reg 247 [.p (.L (.build [.str 0 0, .str 0 0] [(0, 1, (.c (.str 1 109))), (1, 1, (.c (.str 9 1096221296814752821101)))])),
    .p (.L (.bsl 2 1 [.str 0 0, .str 0 0] [(0, 2, (.l 0))])),
    .p (.H (.call 22 [(.c (.str 6 126909394608492)), (.l 0)])),
    .p (.L (.ext 0 (.l 0))),
    .p (.L (.ext 1 (.l 1))),
    .s .d0 .d4 (.L (.mov (.l 1))),
    .s .d0 .d3 (.L (.mov (.l 1)))])
  (.seq (.reg 33283830 [.p (.H (.call 24 [(.t .d0 .d1)])),
    .p (.L (.bin .eql (.l 0) (.c (.int .i64 0)))),
    .g (.l 0) true (.L (.mov (.t .d0 .d2))),
    .g (.l 1) true (.L (.len false (.l 0))),
    .g (.l 2) true (.L (.bin .eql (.l 0) (.c (.int .i64 0)))),
    .p (.L (.pick (.l 3) (.l 0) (.c (.bool false)))),
    .g (.l 0) true (.L (.mov (.t .d0 .d3))),
    .g (.l 1) true (.H (.call 24 [(.l 0)])),
    .g (.l 2) true (.L (.bin .eql (.l 0) (.c (.int .i64 0)))),
    .p (.L (.pick (.l 3) (.l 0) (.c (.bool false)))),
    .g (.l 0) true (.L (.mov (.t .d0 .d4))),
    .g (.l 1) true (.L (.len false (.l 0))),
    .g (.l 2) true (.L (.bin .eql (.l 0) (.c (.int .i64 1)))),
    .p (.L (.pick (.l 3) (.l 0) (.c (.bool false)))),
    .g (.l 0) true (.L (.mov (.t .d0 .d4))),
    .g (.l 1) true (.L (.iaddr 4 (.l 0) (.c (.int .i64 0)))),
    .g (.l 2) true (.L (.faddr 2 (.l 0))),
    .g (.l 3) true (.L (.load (.l 0))),
    .g (.l 4) true (.L (.bin .eql (.l 0) (.c (.int .i64 14)))),
    .s .d0 .d0 (.L (.pick (.l 5) (.l 0) (.c (.bool false))))])
  .ret))))⟩
def i14 : Fun :=
  ⟨4, [0, 1, 2, 3, 8, 9, 10, 12, 22, 13, 11, 32, 6, 14, 15], [.tmp .d0 .d4, .cell .d0 .d5 (some 2), .tmp .d0 .d6], (.seq (.reg 15 [.s .d1 .d4 (.L (.box 6 (.t .d0 .d2))),
    .s .d0 .d4 (.L (.mov (.c (.slN)))),
    .s .d0 .d5 (.L (.alloc [.slN, .slN])),
    .s .d0 .d6 (.L (.mov (.c (.bool false))))])
  (.seq (.reg 1018 [.p (.H (.call 30 [(.t .d0 .d1)])),
    .p (.L (.ext 0 (.l 0))),
    .p (.L (.ext 1 (.l 1))),
    .p (.L (.ext 2 (.l 2))),
    .s .d1 .d2 (.L (.alloc [.str 0 0, .int .i64 0, .slN, .slN, .slN])),
    .p (.H (.store 5 (.l 0) (.l 3))),
    .s .d0 .d7 (.L (.mov (.l 3))),
    .s .d1 .d1 (.L (.mov (.l 3)))])
  (.seq (.block 0 (.seq (.reg 2 [.s .d1 .d0 (.L (.bin .neq (.t .d0 .d7) (.c (.int .i64 0))))])
  (.cond (.t .d1 .d0) (.seq (.reg 1016 [.p (.H (.call 31 [(.t .d0 .d7)])),
    .p (.L (.build [.str 0 0, .int .i64 0, .int .i64 0, .str 0 0] [(0, 1, (.t .d0 .d0)), (1, 1, (.t .d1 .d1)), (2, 1, (.c (.int .i64 1))), (3, 1, (.l 0))])),
    .p (.L (.bsl 4 1 [.str 0 0, .int .i64 0, .int .i64 0, .str 0 0] [(0, 4, (.l 0))])),
    .p (.L (.build [.slN, .slN] [])),
    .s .d0 .d4 (.L (.mov (.l 1))),
    .p (.H (.store 2 (.t .d0 .d5) (.l 1))),
    .s .d0 .d6 (.L (.mov (.c (.bool false))))])
  .ret) (.seq (.reg 11 [.p (.L (.faddr 0 (.t .d1 .d2))),
    .p (.L (.load (.l 0))),
    .s .d1 .d3 (.L (.bins .neq (.l 0) (.t .d0 .d0)))])
  (.cond (.t .d1 .d3) (.seq (.reg 2046 [.p (.L (.faddr 1 (.t .d1 .d2))),
    .p (.L (.load (.l 0))),
    .p (.L (.faddr 0 (.t .d1 .d2))),
    .p (.L (.load (.l 0))),
    .p (.L (.build [.str 0 0, .int .i64 0, .int .i64 0, .str 0 0] [(0, 1, (.t .d0 .d0)), (1, 1, (.l 2)), (2, 1, (.c (.int .i64 2))), (3, 1, (.l 0))])),
    .p (.L (.bsl 4 1 [.str 0 0, .int .i64 0, .int .i64 0, .str 0 0] [(0, 4, (.l 0))])),
    .p (.L (.build [.slN, .slN] [])),
    .s .d0 .d4 (.L (.mov (.l 1))),
    .p (.H (.store 2 (.t .d0 .d5) (.l 1))),
    .s .d0 .d6 (.L (.mov (.c (.bool false))))])
  .ret) .skip)))))
  (.seq (.reg 503 [.p (.L (.loadn 5 (.t .d1 .d2))),
    .p (.L (.loadn 6 (.t .d1 .d4))),
    .p (.H (.call 32 [(.l 1), (.l 0)])),
    .p (.L (.ext 0 (.l 0))),
    .p (.L (.ext 1 (.l 1))),
    .s .d1 .d5 (.L (.alloc [.slN, .slN])),
    .p (.H (.store 2 (.l 0) (.l 2))),
    .s .d1 .d6 (.L (.mov (.l 2)))])
  (.seq (.draw [0, 1, 2, 4, 5, 6, 7, 3, 8, 9, 10] [⟨.p (.L (.loadn 5 (.t .d1 .d2))), []⟩,
    ⟨.p (.L (.loadn 6 (.t .d1 .d4))), []⟩,
    ⟨.p (.L (.mov (.t .d0 .d3))), []⟩,
    ⟨.p (.L (.loadn 2 (.t .d1 .d5))), []⟩,
    ⟨.p (.L (.mov (.t .d1 .d6))), []⟩,
    ⟨.p (.L (.len false (.l 0))), []⟩,
    ⟨.p (.L (.bin .eql (.l 0) (.c (.int .i64 0)))), []⟩,
    ⟨.p (.H (.call 33 [(.l 6), (.l 5), (.l 4)])), [3]⟩,
    ⟨.s .d0 .d4 (.L (.mov (.l 0))), []⟩,
    ⟨.p (.H (.store 2 (.t .d0 .d5) (.l 5))), []⟩,
    ⟨.s .d0 .d6 (.L (.mov (.l 3))), []⟩])
  .ret)))))⟩
def i19 : Fun :=
  ⟨1, [0, 2, 4, 16, 3, 20, 19, 21, 18, 8, 6], [.tmp .d0 .d1], (.seq (.reg 1 [.s .d0 .d1 (.L (.mov (.c (.slN))))])
  (.seq (.reg 506 [.p (.H (.call 30 [(.t .d0 .d0)])),
    .p (.L (.ext 0 (.l 0))),
    .p (.L (.ext 1 (.l 1))),
    .p (.L (.ext 2 (.l 2))),
    .s .d0 .d4 (.L (.alloc [.str 0 0, .int .i64 0, .slN, .slN, .slN])),
    .p (.H (.store 5 (.l 0) (.l 3))),
    .s .d0 .d2 (.L (.mov (.l 3)))])
  (.seq (.seq (.reg 2 [.s .d0 .d3 (.L (.bin .neq (.t .d0 .d2) (.c (.int .i64 0))))])
  (.cond (.t .d0 .d3) (.seq (.reg 1 [.s .d0 .d1 (.L (.mov (.c (.slN))))])
  .ret) .skip))
  (.seq (.reg 1 [.s .d1 .d2 (.L (.mov (.c (.slN))))])
  (.seq (.seq (.reg 15 [.p (.L (.faddr 2 (.t .d0 .d4))),
    .s .d1 .d0 (.L (.load (.l 0))),
    .s .d0 .d6 (.L (.len false (.l 0))),
    .s .d0 .d5 (.L (.mov (.c (.int .i64 0))))])
  (.block 0 (.loop (.seq (.reg 1 [.s .d0 .d7 (.L (.bin .lss (.t .d0 .d5) (.t .d0 .d6)))])
  (.seq (.cond (.t .d0 .d7) .skip (.exit 0))
  (.seq (.block 1 (.seq (.reg 15 [.p (.L (.iaddr 2 (.t .d1 .d0) (.t .d0 .d5))),
    .p (.L (.loadn 2 (.l 0))),
    .s .d1 .d1 (.L (.alloc [.str 0 0, .int .i64 0])),
    .p (.H (.store 2 (.l 0) (.l 1)))])
  (.reg 30 [.p (.L (.faddr 0 (.t .d1 .d1))),
    .p (.L (.load (.l 0))),
    .p (.L (.bsl 1 1 [.str 0 0] [(0, 1, (.l 0))])),
    .s .d1 .d2 (.H (.append 1 16 (.t .d1 .d2) (.l 0)))])))
  (.reg 1 [.s .d0 .d5 (.L (.bin .add (.t .d0 .d5) (.c (.int .i64 1))))])))))))
  (.seq (.reg 2 [.s .d0 .d1 (.L (.mov (.t .d1 .d2)))])
  .ret))))))⟩
def i22 : Fun :=
  ⟨2, [0, 1, 4, 5, 6, 14, 8, 22, 7, 9], [.tmp .d0 .d2, .tmp .d0 .d3], (.seq (.reg 3 [.s .d0 .d2 (.L (.mov (.c (.slN)))),
    .s .d0 .d3 (.L (.mov (.c (.int .i64 0))))])
  (.seq (.seq (.reg 2 [.s .d0 .d4 (.H (.call 35 [(.t .d0 .d1)]))])
  (.seq (.reg 2 [.s .d0 .d5 (.L (.bin .neq (.t .d0 .d4) (.c (.int .i64 0))))])
  (.cond (.t .d0 .d5) (.seq (.reg 6 [.s .d0 .d2 (.L (.mov (.c (.slN)))),
    .s .d0 .d3 (.L (.mov (.t .d0 .d4)))])
  .ret) .skip)))
  (.seq (.reg 250 [.p (.H (.call 36 [(.t .d0 .d0)])),
    .p (.L (.ext 0 (.l 0))),
    .p (.L (.ext 1 (.l 1))),
    .s .d1 .d0 (.L (.alloc [.slN, .slN, .slN, .slN, .int .i64 0, .int .i64 0])),
    .p (.H (.store 6 (.l 0) (.l 2))),
    .s .d0 .d6 (.L (.mov (.l 2)))])
  (.seq (.seq (.reg 2 [.s .d0 .d7 (.L (.eq true .sl (.t .d0 .d6) (.c (.slN))))])
  (.cond (.t .d0 .d7) (.seq (.reg 6 [.s .d0 .d2 (.L (.mov (.t .d0 .d6))),
    .s .d0 .d3 (.L (.mov (.c (.int .i64 0))))])
  .ret) .skip))
  (.seq (.reg 118 [.p (.L (.fn 38 [] [(.t .d1 .d0)])),
    .p (.H (.call 37 [(.t .d0 .d1), (.l 0)])),
    .p (.L (.ext 0 (.l 0))),
    .p (.L (.ext 1 (.l 1))),
    .s .d1 .d1 (.L (.mov (.l 1)))])
  (.seq (.reg 6 [.s .d0 .d2 (.L (.mov (.t .d1 .d1))),
    .s .d0 .d3 (.L (.mov (.c (.int .i64 0))))])
  .ret))))))⟩
def i24 : Fun :=
  ⟨1, [0, 2], [.tmp .d0 .d1], (.seq (.reg 1 [.s .d0 .d1 (.L (.mov (.c (.int .i64 0))))])
  (.seq (.reg 2 [.s .d0 .d1 (.L (.mov (.t .d0 .d0)))])
  .ret))⟩
def i26 : Fun :=
  ⟨1, [0, 2, 8, 3, 12, 4, 31], [.tmp .d0 .d1], (.seq (.reg 1 [.s .d0 .d1 (.L (.mov (.c (.str 0 0))))])
  (.seq (.reg 10 [.s .d0 .d3 (.L (.conv .u64 (.t .d0 .d0))),
    .s .d0 .d5 (.L (.mov (.c (.str 0 0))))])
  (.seq (.seq (.reg 2 [.s .d0 .d2 (.L (.bin .lss (.t .d0 .d0) (.c (.int .i64 0))))])
  (.cond (.t .d0 .d2) (.reg 2 [.s .d0 .d3 (.L (.neg (.t .d0 .d3)))]) .skip))
  (.seq (.block 0 (.loop (.seq (.seq (.reg 2 [.s .d0 .d4 (.L (.bin .geq (.t .d0 .d3) (.c (.int .u64 10))))])
  (.cond (.t .d0 .d4) .skip (.exit 0)))
  (.block 1 (.seq (.reg 190 [.p (.L (.bin .rem (.t .d0 .d3) (.c (.int .u64 10)))),
    .p (.L (.bin .add (.c (.int .u64 48)) (.l 0))),
    .p (.L (.conv .u8 (.l 0))),
    .p (.L (.bsl 1 1 [.int .u8 0] [(0, 1, (.l 0))])),
    .p (.L (.bstr (.l 0))),
    .s .d0 .d5 (.L (.bins .add (.l 0) (.t .d0 .d5)))])
  (.reg 2 [.s .d0 .d3 (.L (.bin .quo (.t .d0 .d3) (.c (.int .u64 10))))]))))))
  (.seq (.reg 94 [.p (.L (.bin .add (.c (.int .u64 48)) (.t .d0 .d3))),
    .p (.L (.conv .u8 (.l 0))),
    .p (.L (.bsl 1 1 [.int .u8 0] [(0, 1, (.l 0))])),
    .p (.L (.bstr (.l 0))),
    .s .d0 .d5 (.L (.bins .add (.l 0) (.t .d0 .d5)))])
  (.seq (.seq (.reg 2 [.s .d0 .d6 (.L (.bin .lss (.t .d0 .d0) (.c (.int .i64 0))))])
  (.cond (.t .d0 .d6) (.seq (.reg 2 [.s .d0 .d1 (.L (.bins .add (.c (.str 1 45)) (.t .d0 .d5)))])
  .ret) .skip))
  (.seq (.reg 2 [.s .d0 .d1 (.L (.mov (.t .d0 .d5)))])
  .ret)))))))⟩
def i30 : Fun :=
  ⟨1, [0, 2, 3, 4, 6, 15, 7, 5], [.cell .d0 .d1 (some 5), .tmp .d0 .d2, .tmp .d0 .d3], (.seq (.reg 7 [.s .d0 .d1 (.L (.alloc [.str 0 0, .int .i64 0, .slN, .slN, .slN])),
    .s .d0 .d2 (.L (.mov (.c (.int .i64 0)))),
    .s .d0 .d3 (.L (.mov (.c (.int .i64 0))))])
  (.seq (.reg 506 [.p (.H (.call 53 [(.t .d0 .d0)])),
    .p (.L (.ext 0 (.l 0))),
    .p (.L (.ext 1 (.l 1))),
    .p (.L (.ext 2 (.l 2))),
    .s .d0 .d7 (.L (.mov (.l 2))),
    .s .d0 .d4 (.L (.mov (.l 2))),
    .s .d0 .d6 (.L (.mov (.l 2)))])
  (.seq (.seq (.reg 2 [.s .d0 .d5 (.L (.bin .neq (.t .d0 .d4) (.c (.int .i64 0))))])
  (.cond (.t .d0 .d5) (.seq (.reg 57 [.p (.L (.build [.str 0 0, .int .i64 0, .slN, .slN, .slN] [])),
    .p (.H (.store 5 (.t .d0 .d1) (.l 0))),
    .s .d0 .d2 (.L (.mov (.t .d0 .d4))),
    .s .d0 .d3 (.L (.mov (.t .d0 .d6)))])
  .ret) .skip))
  (.seq (.reg 254 [.p (.H (.call 54 [(.t .d0 .d7)])),
    .p (.L (.ext 0 (.l 0))),
    .p (.L (.ext 1 (.l 1))),
    .p (.L (.ext 2 (.l 2))),
    .p (.H (.store 5 (.t .d0 .d1) (.l 2))),
    .s .d0 .d2 (.L (.mov (.l 2))),
    .s .d0 .d3 (.L (.mov (.l 2)))])
  .ret))))⟩
def i31 : Fun :=
  ⟨1, [0, 2], [.tmp .d0 .d1], (.seq (.reg 1 [.s .d0 .d1 (.L (.mov (.c (.str 0 0))))])
  (.seq (.reg 2 [.s .d0 .d1 (.H (.call 55 [(.t .d0 .d0)]))])
  .ret))⟩
def i32 : Fun :=
  ⟨2, [0, 1, 4, 5, 2, 3, 6, 28, 37, 36, 38, 35, 7, 9, 55, 54, 56, 53, 11], [.cell .d0 .d2 (some 2), .tmp .d0 .d3], (.seq (.reg 15 [.s .d0 .d4 (.L (.box 5 (.t .d0 .d0))),
    .s .d0 .d5 (.L (.box 6 (.t .d0 .d1))),
    .s .d0 .d2 (.L (.alloc [.slN, .slN])),
    .s .d0 .d3 (.L (.mov (.c (.slN))))])
  (.seq (.reg 31 [.p (.L (.faddr 0 (.t .d0 .d4))),
    .p (.L (.load (.l 0))),
    .p (.L (.loadn 6 (.t .d0 .d5))),
    .p (.L (.build [.str 0 0, .slN, .slN, .slN, .slN, .int .i64 0, .int .i64 0, .slN] [(0, 1, (.l 1)), (1, 6, (.l 0))])),
    .s .d0 .d6 (.L (.box 8 (.l 0)))])
  (.seq (.reg 6 [.p (.L (.loadn 5 (.t .d0 .d4))),
    .p (.H (.call 56 [(.t .d0 .d6), (.l 0)]))])
  (.seq (.reg 6 [.p (.L (.loadn 5 (.t .d0 .d4))),
    .p (.H (.call 57 [(.t .d0 .d6), (.l 0)]))])
  (.seq (.seq (.reg 62 [.p (.L (.nilck (.t .d0 .d6))),
    .p (.L (.faddr 7 (.l 0))),
    .p (.L (.load (.l 0))),
    .p (.L (.len false (.l 0))),
    .s .d0 .d7 (.L (.bin .gtr (.l 0) (.c (.int .i64 0))))])
  (.cond (.t .d0 .d7) (.seq (.draw [0, 1, 2, 3, 4, 5, 6] [⟨.p (.L (.build [.slN, .slN] [])), []⟩,
    ⟨.p (.L (.mov (.t .d0 .d6))), []⟩,
    ⟨.p (.L (.nilck (.l 0))), []⟩,
    ⟨.p (.L (.faddr 7 (.l 0))), []⟩,
    ⟨.p (.L (.load (.l 0))), []⟩,
    ⟨.p (.H (.store 2 (.t .d0 .d2) (.l 4))), [0]⟩,
    ⟨.s .d0 .d3 (.L (.mov (.l 1))), []⟩])
  .ret) .skip))
  (.seq (.reg 1 [.s .d1 .d4 (.L (.alloc [.slN, .slN]))])
  (.seq (.seq (.reg 15 [.p (.L (.faddr 3 (.t .d0 .d4))),
    .s .d1 .d3 (.L (.load (.l 0))),
    .s .d1 .d1 (.L (.len false (.l 0))),
    .s .d1 .d0 (.L (.mov (.c (.int .i64 0))))])
  (.block 0 (.loop (.seq (.reg 1 [.s .d1 .d2 (.L (.bin .lss (.t .d1 .d0) (.t .d1 .d1)))])
  (.seq (.cond (.t .d1 .d2) .skip (.exit 0))
  (.seq (.block 1 (.seq (.reg 15 [.p (.L (.iaddr 4 (.t .d1 .d3) (.t .d1 .d0))),
    .p (.L (.loadn 4 (.l 0))),
    .s .d1 .d5 (.L (.alloc [.str 0 0, .str 0 0, .int .i64 0, .int .i64 0])),
    .p (.H (.store 4 (.l 0) (.l 1)))])
  (.reg 2047 [.p (.L (.faddr 0 (.t .d1 .d4))),
    .p (.L (.load (.l 0))),
    .p (.L (.faddr 0 (.t .d1 .d5))),
    .p (.L (.load (.l 0))),
    .p (.L (.faddr 1 (.t .d1 .d5))),
    .p (.L (.load (.l 0))),
    .p (.L (.build [.str 0 0, .str 0 0, .int .i64 0, .int .i64 0] [(0, 1, (.l 2)), (1, 1, (.l 0))])),
    .p (.L (.bsl 4 1 [.str 0 0, .str 0 0, .int .i64 0, .int .i64 0] [(0, 4, (.l 0))])),
    .p (.H (.append 4 48 (.l 6) (.l 0))),
    .p (.L (.faddr 0 (.t .d1 .d4))),
    .p (.H (.store 1 (.l 0) (.l 1)))])))
  (.reg 1 [.s .d1 .d0 (.L (.bin .add (.t .d1 .d0) (.c (.int .i64 1))))])))))))
  (.seq (.seq (.reg 15 [.p (.L (.faddr 4 (.t .d0 .d4))),
    .s .d2 .d1 (.L (.load (.l 0))),
    .s .d1 .d7 (.L (.len false (.l 0))),
    .s .d1 .d6 (.L (.mov (.c (.int .i64 0))))])
  (.block 2 (.loop (.seq (.reg 1 [.s .d2 .d0 (.L (.bin .lss (.t .d1 .d6) (.t .d1 .d7)))])
  (.seq (.cond (.t .d2 .d0) .skip (.exit 2))
  (.seq (.block 3 (.seq (.reg 15 [.p (.L (.iaddr 8 (.t .d2 .d1) (.t .d1 .d6))),
    .p (.L (.loadn 8 (.l 0))),
    .s .d2 .d2 (.L (.alloc [.str 0 0, .slN, .bool false, .str 0 0, .str 0 0, .slN, .slN, .int .i64 0])),
    .p (.H (.store 8 (.l 0) (.l 1)))])
  (.draw [0, 1, 2, 3, 4, 5, 6, 7] [⟨.p (.L (.faddr 1 (.t .d1 .d4))), []⟩,
    ⟨.p (.L (.load (.l 0))), []⟩,
    ⟨.p (.L (.loadn 8 (.t .d2 .d2))), []⟩,
    ⟨.p (.H (.call 58 [(.l 0)])), [1]⟩,
    ⟨.p (.L (.bsl 6 1 [.str 0 0, .slN, .bool false, .str 0 0, .str 0 0, .slN] [(0, 6, (.l 0))])), []⟩,
    ⟨.p (.H (.append 6 104 (.l 3) (.l 0))), []⟩,
    ⟨.p (.L (.faddr 1 (.t .d1 .d4))), []⟩,
    ⟨.p (.H (.store 1 (.l 0) (.l 1))), []⟩])))
  (.reg 1 [.s .d1 .d6 (.L (.bin .add (.t .d1 .d6) (.c (.int .i64 1))))])))))))
  (.seq (.reg 7 [.p (.L (.faddr 0 (.t .d1 .d4))),
    .p (.L (.load (.l 0))),
    .p (.H (.call 59 [(.l 0), (.c (.fn 60 [] []))]))])
  (.seq (.reg 7 [.p (.L (.faddr 1 (.t .d1 .d4))),
    .p (.L (.load (.l 0))),
    .p (.H (.call 62 [(.l 0), (.c (.fn 63 [] []))]))])
  (.seq (.reg 7 [.p (.L (.loadn 2 (.t .d1 .d4))),
    .p (.H (.store 2 (.t .d0 .d2) (.l 0))),
    .s .d0 .d3 (.L (.mov (.c (.slN))))])
  .ret)))))))))))⟩
def i33 : Fun :=
  ⟨3, [0, 1, 2, 6, 3, 4, 8, 31, 7, 9, 63, 62, 64, 61, 11, 13, 75, 86, 85, 87, 84, 15, 100, 99, 101, 98, 17], [.tmp .d0 .d3], (.seq (.reg 7 [.s .d0 .d4 (.L (.box 5 (.t .d0 .d0))),
    .s .d0 .d5 (.L (.box 6 (.t .d0 .d1))),
    .s .d0 .d3 (.L (.mov (.c (.slN))))])
  (.seq (.reg 503 [.p (.L (.loadn 5 (.t .d0 .d4))),
    .p (.L (.loadn 6 (.t .d0 .d5))),
    .p (.H (.call 32 [(.l 1), (.l 0)])),
    .p (.L (.ext 0 (.l 0))),
    .p (.L (.ext 1 (.l 1))),
    .s .d1 .d0 (.L (.alloc [.slN, .slN])),
    .p (.H (.store 2 (.l 0) (.l 2))),
    .s .d0 .d6 (.L (.mov (.l 2)))])
  (.seq (.seq (.reg 246 [.p (.L (.len false (.t .d0 .d6))),
    .p (.L (.bin .gtr (.l 0) (.c (.int .i64 0)))),
    .g (.l 0) false (.L (.loadn 6 (.t .d0 .d5))),
    .g (.l 1) false (.H (.call 64 [(.l 0)])),
    .g (.l 2) false (.L (.not (.l 0))),
    .s .d0 .d7 (.L (.pick (.l 3) (.c (.bool true)) (.l 0)))])
  (.cond (.t .d0 .d7) (.seq (.reg 2 [.s .d0 .d3 (.L (.mov (.t .d0 .d6)))])
  .ret) .skip))
  (.seq (.reg 55 [.p (.L (.loadn 5 (.t .d0 .d4))),
    .p (.L (.loadn 6 (.t .d0 .d5))),
    .p (.L (.loadn 2 (.t .d1 .d0))),
    .p (.L (.build [.str 0 0, .int .i64 0, .slN, .slN, .slN, .slN, .slN, .slN, .slN, .int .i64 0, .int .i64 0, .slN, .slN, .slN, .str 0 0, .slN, .bool false, .str 0 0, .str 0 0, .slN, .slN, .int .i64 0, .slN, .slN, .mapN] [(0, 5, (.l 2)), (5, 6, (.l 1)), (11, 2, (.l 0)), (13, 1, (.t .d0 .d2))])),
    .s .d1 .d1 (.L (.box 25 (.l 0)))])
  (.seq (.reg 997045978 [.p (.L (.mkmap)),
    .p (.L (.fn 65 [(.t .d1 .d1)] [])),
    .p (.H (.mupd .int (.l 1) (.c (.int .i64 1)) (.l 0))),
    .p (.L (.fn 66 [(.t .d1 .d1)] [])),
    .p (.H (.mupd .int (.l 3) (.c (.int .i64 2)) (.l 0))),
    .p (.L (.fn 67 [(.t .d1 .d1)] [])),
    .p (.H (.mupd .int (.l 5) (.c (.int .i64 3)) (.l 0))),
    .p (.L (.fn 68 [(.t .d1 .d1)] [])),
    .p (.H (.mupd .int (.l 7) (.c (.int .i64 4)) (.l 0))),
    .p (.L (.fn 69 [(.t .d1 .d1)] [])),
    .p (.H (.mupd .int (.l 9) (.c (.int .i64 5)) (.l 0))),
    .p (.L (.fn 69 [(.t .d1 .d1)] [])),
    .p (.H (.mupd .int (.l 11) (.c (.int .i64 6)) (.l 0))),
    .p (.L (.fn 70 [(.t .d1 .d1)] [])),
    .p (.H (.mupd .int (.l 13) (.c (.int .i64 7)) (.l 0))),
    .p (.L (.fn 71 [(.t .d1 .d1)] [])),
    .p (.H (.mupd .int (.l 15) (.c (.int .i64 8)) (.l 0))),
    .p (.L (.nilck (.t .d1 .d1))),
    .p (.L (.faddr 24 (.l 0))),
    .p (.H (.store 1 (.l 0) (.l 18)))])
  (.seq (.seq (.reg 15 [.p (.L (.faddr 2 (.t .d0 .d4))),
    .s .d1 .d5 (.L (.load (.l 0))),
    .s .d1 .d3 (.L (.len false (.l 0))),
    .s .d1 .d2 (.L (.mov (.c (.int .i64 0))))])
  (.block 0 (.loop (.seq (.reg 1 [.s .d1 .d4 (.L (.bin .lss (.t .d1 .d2) (.t .d1 .d3)))])
  (.seq (.cond (.t .d1 .d4) .skip (.exit 0))
  (.seq (.block 1 (.seq (.reg 15 [.p (.L (.iaddr 2 (.t .d1 .d5) (.t .d1 .d2))),
    .p (.L (.loadn 2 (.l 0))),
    .s .d1 .d6 (.L (.alloc [.str 0 0, .int .i64 0])),
    .p (.H (.store 2 (.l 0) (.l 1)))])
  (.seq (.reg 1006 [.p (.L (.faddr 0 (.t .d1 .d6))),
    .p (.L (.load (.l 0))),
    .p (.H (.call 72 [(.t .d1 .d1), (.l 0)])),
    .p (.L (.ext 0 (.l 0))),
    .p (.L (.ext 1 (.l 1))),
    .p (.L (.alloc [.slN, .slN])),
    .p (.H (.store 2 (.l 0) (.l 2))),
    .s .d1 .d7 (.L (.mov (.l 2)))])
  (.seq (.reg 2 [.s .d2 .d0 (.L (.bin .neq (.t .d1 .d7) (.c (.int .i64 0))))])
  (.cond (.t .d2 .d0) (.reg 62 [.p (.L (.faddr 1 (.t .d1 .d6))),
    .p (.L (.load (.l 0))),
    .p (.L (.faddr 0 (.t .d1 .d6))),
    .p (.L (.load (.l 0))),
    .p (.H (.call 73 [(.t .d1 .d1), (.l 2), (.c (.int .i64 5)), (.l 0)]))]) .skip)))))
  (.reg 1 [.s .d1 .d2 (.L (.bin .add (.t .d1 .d2) (.c (.int .i64 1))))])))))))
  (.seq (.seq (.reg 15 [.p (.L (.faddr 4 (.t .d0 .d4))),
    .s .d2 .d4 (.L (.load (.l 0))),
    .s .d2 .d2 (.L (.len false (.l 0))),
    .s .d2 .d1 (.L (.mov (.c (.int .i64 0))))])
  (.block 2 (.loop (.seq (.reg 1 [.s .d2 .d3 (.L (.bin .lss (.t .d2 .d1) (.t .d2 .d2)))])
  (.seq (.cond (.t .d2 .d3) .skip (.exit 2))
  (.seq (.block 3 (.seq (.reg 15 [.p (.L (.iaddr 8 (.t .d2 .d4) (.t .d2 .d1))),
    .p (.L (.loadn 8 (.l 0))),
    .s .d2 .d5 (.L (.alloc [.str 0 0, .slN, .bool false, .str 0 0, .str 0 0, .slN, .slN, .int .i64 0])),
    .p (.H (.store 8 (.l 0) (.l 1)))])
  (.seq (.reg 508 [.p (.L (.loadn 8 (.t .d2 .d5))),
    .p (.L (.nilck (.t .d1 .d1))),
    .p (.L (.faddr 14 (.l 0))),
    .p (.H (.store 8 (.l 0) (.l 2))),
    .p (.L (.nilck (.t .d1 .d1))),
    .p (.L (.faddr 22 (.l 0))),
    .p (.H (.store 1 (.l 0) (.c (.slN))))])
  (.seq (.seq (.reg 15 [.p (.L (.faddr 1 (.t .d2 .d5))),
    .s .d3 .d1 (.L (.load (.l 0))),
    .s .d2 .d7 (.L (.len false (.l 0))),
    .s .d2 .d6 (.L (.mov (.c (.int .i64 0))))])
  (.block 4 (.loop (.seq (.reg 1 [.s .d3 .d0 (.L (.bin .lss (.t .d2 .d6) (.t .d2 .d7)))])
  (.seq (.cond (.t .d3 .d0) .skip (.exit 4))
  (.seq (.block 5 (.seq (.reg 15 [.p (.L (.iaddr 3 (.t .d3 .d1) (.t .d2 .d6))),
    .p (.L (.loadn 3 (.l 0))),
    .s .d3 .d2 (.L (.alloc [.str 0 0, .str 0 0, .int .i64 0])),
    .p (.H (.store 3 (.l 0) (.l 1)))])
  (.draw [0, 1, 2, 3, 4, 5, 6, 7, 8, 9, 10, 11, 12, 13, 14, 15, 16] [⟨.p (.L (.mov (.t .d1 .d1))), []⟩,
    ⟨.p (.L (.mov (.t .d1 .d1))), []⟩,
    ⟨.p (.L (.nilck (.l 0))), []⟩,
    ⟨.p (.L (.faddr 22 (.l 0))), []⟩,
    ⟨.p (.L (.load (.l 0))), []⟩,
    ⟨.p (.L (.faddr 0 (.t .d3 .d2))), []⟩,
    ⟨.p (.L (.load (.l 0))), []⟩,
    ⟨.p (.L (.mov (.t .d1 .d1))), []⟩,
    ⟨.p (.L (.faddr 1 (.t .d3 .d2))), []⟩,
    ⟨.p (.L (.load (.l 0))), []⟩,
    ⟨.p (.H (.call 74 [(.l 2), (.l 0)])), [5, 3]⟩,
    ⟨.p (.L (.build [.str 0 0, .int .i64 0] [(0, 1, (.l 4)), (1, 1, (.l 0))])), []⟩,
    ⟨.p (.L (.bsl 2 1 [.str 0 0, .int .i64 0] [(0, 2, (.l 0))])), []⟩,
    ⟨.p (.H (.append 2 24 (.l 8) (.l 0))), []⟩,
    ⟨.p (.L (.nilck (.l 13))), []⟩,
    ⟨.p (.L (.faddr 22 (.l 0))), []⟩,
    ⟨.p (.H (.store 1 (.l 0) (.l 2))), []⟩])))
  (.reg 1 [.s .d2 .d6 (.L (.bin .add (.t .d2 .d6) (.c (.int .i64 1))))])))))))
  (.draw [0, 1, 2, 3, 4, 5, 6, 7] [⟨.p (.L (.mov (.t .d1 .d1))), []⟩,
    ⟨.p (.L (.faddr 6 (.t .d2 .d5))), []⟩,
    ⟨.p (.L (.load (.l 0))), []⟩,
    ⟨.p (.L (.mov (.t .d1 .d1))), []⟩,
    ⟨.p (.L (.faddr 4 (.t .d2 .d5))), []⟩,
    ⟨.p (.L (.load (.l 0))), []⟩,
    ⟨.p (.H (.call 74 [(.l 2), (.l 0)])), [3]⟩,
    ⟨.p (.H (.call 75 [(.l 6), (.l 4), (.l 0)])), []⟩])))))
  (.reg 1 [.s .d2 .d1 (.L (.bin .add (.t .d2 .d1) (.c (.int .i64 1))))])))))))
  (.seq (.reg 14 [.p (.L (.nilck (.t .d1 .d1))),
    .p (.L (.faddr 23 (.l 0))),
    .s .d0 .d3 (.L (.load (.l 0)))])
  .ret))))))))⟩
def i35 : Fun :=
  ⟨1, [0, 2, 9, 8, 10, 7, 5, 3, 16, 23], [.tmp .d0 .d1], (.seq (.reg 1 [.s .d0 .d1 (.L (.mov (.c (.int .i64 0))))])
  (.seq (.reg 1 [.s .d0 .d7 (.L (.mkmap))])
  (.seq (.seq (.reg 7 [.s .d0 .d5 (.L (.mov (.t .d0 .d0))),
    .s .d0 .d3 (.L (.len false (.l 0))),
    .s .d0 .d2 (.L (.mov (.c (.int .i64 0))))])
  (.block 0 (.loop (.seq (.reg 1 [.s .d0 .d4 (.L (.bin .lss (.t .d0 .d2) (.t .d0 .d3)))])
  (.seq (.cond (.t .d0 .d4) .skip (.exit 0))
  (.seq (.block 1 (.seq (.reg 15 [.p (.L (.iaddr 2 (.t .d0 .d5) (.t .d0 .d2))),
    .p (.L (.loadn 2 (.l 0))),
    .s .d0 .d6 (.L (.alloc [.str 0 0, .str 0 0])),
    .p (.H (.store 2 (.l 0) (.l 1)))])
  (.seq (.seq (.reg 14 [.p (.L (.faddr 0 (.t .d0 .d6))),
    .p (.L (.load (.l 0))),
    .s .d1 .d0 (.L (.lookup .str (.bool false) false (.t .d0 .d7) (.l 0)))])
  (.cond (.t .d1 .d0) (.seq (.reg 1 [.s .d0 .d1 (.L (.mov (.c (.int .i64 1))))])
  .ret) .skip))
  (.reg 14 [.p (.L (.faddr 0 (.t .d0 .d6))),
    .p (.L (.load (.l 0))),
    .p (.H (.mupd .str (.t .d0 .d7) (.l 0) (.c (.bool true))))]))))
  (.reg 1 [.s .d0 .d2 (.L (.bin .add (.t .d0 .d2) (.c (.int .i64 1))))])))))))
  (.seq (.seq (.reg 6 [.p (.L (.len false (.t .d0 .d0))),
    .s .d1 .d1 (.L (.bin .gtr (.l 0) (.c (.int .i64 30))))])
  (.cond (.t .d1 .d1) (.seq (.reg 1 [.s .d0 .d1 (.L (.mov (.c (.int .i64 14))))])
  .ret) .skip))
  (.seq (.reg 1 [.s .d0 .d1 (.L (.mov (.c (.int .i64 0))))])
  .ret)))))⟩
def i36 : Fun :=
  ⟨1, [0, 2, 3, 5, 14, 6, 4], [.cell .d0 .d1 (some 6), .tmp .d0 .d2], (.seq (.reg 3 [.s .d0 .d1 (.L (.alloc [.slN, .slN, .slN, .slN, .int .i64 0, .int .i64 0])),
    .s .d0 .d2 (.L (.mov (.c (.slN))))])
  (.seq (.reg 1018 [.p (.H (.call 81 [(.t .d0 .d0)])),
    .p (.L (.ext 0 (.l 0))),
    .p (.L (.ext 1 (.l 1))),
    .p (.L (.ext 2 (.l 2))),
    .s .d0 .d6 (.L (.alloc [.slN, .slN, .slN, .slN, .int .i64 0, .int .i64 0])),
    .p (.H (.store 6 (.l 0) (.l 3))),
    .s .d0 .d3 (.L (.mov (.l 3))),
    .s .d0 .d5 (.L (.mov (.l 3)))])
  (.seq (.seq (.reg 2 [.s .d0 .d4 (.L (.bin .neq (.t .d0 .d3) (.c (.int .i64 0))))])
  (.cond (.t .d0 .d4) (.seq (.reg 249 [.p (.L (.build [.slN, .slN, .slN, .slN, .int .i64 0, .int .i64 0] [])),
    .p (.H (.call 31 [(.t .d0 .d3)])),
    .p (.L (.build [.str 0 0, .int .i64 0, .int .i64 0, .str 0 0] [(1, 1, (.t .d0 .d5)), (2, 1, (.c (.int .i64 14))), (3, 1, (.l 0))])),
    .p (.L (.bsl 4 1 [.str 0 0, .int .i64 0, .int .i64 0, .str 0 0] [(0, 4, (.l 0))])),
    .p (.H (.store 6 (.t .d0 .d1) (.l 3))),
    .s .d0 .d2 (.L (.mov (.l 1)))])
  .ret) .skip))
  (.seq (.reg 7 [.p (.L (.loadn 6 (.t .d0 .d6))),
    .p (.H (.store 6 (.t .d0 .d1) (.l 0))),
    .s .d0 .d2 (.L (.mov (.c (.slN))))])
  .ret))))⟩
def i37 : Fun :=
  ⟨2, [0, 1, 4, 5, 23, 22, 24, 21, 6, 8, 10, 46, 45, 47, 44, 13, 9, 14, 59], [.tmp .d0 .d2, .tmp .d0 .d3], (.seq (.reg 3 [.s .d0 .d2 (.L (.mov (.c (.slN)))),
    .s .d0 .d3 (.L (.mov (.c (.mapN))))])
  (.seq (.reg 61 [.p (.L (.mkmap)),
    .p (.H (.call 82 [(.t .d0 .d0)])),
    .p (.L (.mkmap)),
    .p (.L (.build [.mapN, .slN, .mapN, .slN] [(0, 1, (.l 2)), (1, 1, (.l 1)), (2, 1, (.l 0))])),
    .s .d1 .d0 (.L (.box 4 (.l 0)))])
  (.seq (.seq (.reg 7 [.s .d0 .d7 (.L (.mov (.t .d0 .d0))),
    .s .d0 .d5 (.L (.len false (.l 0))),
    .s .d0 .d4 (.L (.mov (.c (.int .i64 0))))])
  (.block 0 (.loop (.seq (.reg 1 [.s .d0 .d6 (.L (.bin .lss (.t .d0 .d4) (.t .d0 .d5)))])
  (.seq (.cond (.t .d0 .d6) .skip (.exit 0))
  (.seq (.block 1 (.seq (.reg 15 [.p (.L (.iaddr 2 (.t .d0 .d7) (.t .d0 .d4))),
    .p (.L (.loadn 2 (.l 0))),
    .s .d1 .d1 (.L (.alloc [.str 0 0, .str 0 0])),
    .p (.H (.store 2 (.l 0) (.l 1)))])
  (.draw [0, 1, 2, 3, 4, 5, 6, 7] [⟨.p (.L (.mov (.t .d1 .d0))), []⟩,
    ⟨.p (.L (.nilck (.l 0))), []⟩,
    ⟨.p (.L (.faddr 0 (.l 0))), []⟩,
    ⟨.p (.L (.load (.l 0))), []⟩,
    ⟨.p (.L (.faddr 0 (.t .d1 .d1))), []⟩,
    ⟨.p (.L (.load (.l 0))), []⟩,
    ⟨.p (.L (.loadn 2 (.t .d1 .d1))), []⟩,
    ⟨.p (.H (.mupd .str (.l 3) (.l 1) (.l 0))), []⟩])))
  (.reg 1 [.s .d0 .d4 (.L (.bin .add (.t .d0 .d4) (.c (.int .i64 1))))])))))))
  (.seq (.reg 2014 [.p (.L (.nilck (.t .d1 .d0))),
    .p (.L (.faddr 1 (.l 0))),
    .p (.L (.load (.l 0))),
    .p (.H (.call 83 [(.l 0)])),
    .p (.L (.ext 0 (.l 0))),
    .p (.L (.ext 1 (.l 1))),
    .p (.L (.ext 2 (.l 2))),
    .s .d2 .d0 (.L (.mov (.l 2))),
    .s .d1 .d2 (.L (.mov (.l 2)))])
  (.seq (.seq (.reg 7 [.s .d1 .d6 (.L (.mov (.t .d1 .d2))),
    .s .d1 .d4 (.L (.len false (.l 0))),
    .s .d1 .d3 (.L (.mov (.c (.int .i64 0))))])
  (.block 2 (.loop (.seq (.reg 1 [.s .d1 .d5 (.L (.bin .lss (.t .d1 .d3) (.t .d1 .d4)))])
  (.seq (.cond (.t .d1 .d5) .skip (.exit 2))
  (.seq (.block 3 (.seq (.reg 3 [.p (.L (.iaddr 1 (.t .d1 .d6) (.t .d1 .d3))),
    .s .d1 .d7 (.L (.load (.l 0)))])
  (.reg 4 [.p (.H (.call 84 [(.t .d1 .d0), (.t .d1 .d7)]))])))
  (.reg 1 [.s .d1 .d3 (.L (.bin .add (.t .d1 .d3) (.c (.int .i64 1))))])))))))
  (.seq .skip
  (.seq (.seq (.reg 1 [.s .d2 .d1 (.L (.mov (.c (.int .i64 0))))])
  (.block 4 (.loop (.seq (.block 5 (.seq (.seq (.reg 12 [.p (.L (.len false (.t .d2 .d0))),
    .s .d2 .d2 (.L (.bin .eql (.t .d2 .d1) (.l 0)))])
  (.cond (.t .d2 .d2) (.exit 4) .skip))
  (.reg 88 [.p (.L (.iaddr 1 (.t .d2 .d0) (.t .d2 .d1))),
    .p (.L (.load (.l 0))),
    .p (.H (.call 85 [(.t .d1 .d0), (.l 0), (.t .d0 .d1)]))])))
  (.reg 2 [.s .d2 .d1 (.L (.bin .add (.t .d2 .d1) (.c (.int .i64 1))))])))))
  (.seq (.draw [0, 1, 2, 3, 5, 6, 7, 8, 4, 9, 10] [⟨.p (.L (.mov (.t .d1 .d0))), []⟩,
    ⟨.p (.L (.nilck (.l 0))), []⟩,
    ⟨.p (.L (.faddr 3 (.l 0))), []⟩,
    ⟨.p (.L (.load (.l 0))), []⟩,
    ⟨.p (.L (.mov (.t .d1 .d0))), []⟩,
    ⟨.p (.L (.nilck (.l 0))), []⟩,
    ⟨.p (.L (.faddr 2 (.l 0))), []⟩,
    ⟨.p (.L (.load (.l 0))), []⟩,
    ⟨.p (.H (.call 86 [(.l 4)])), [0]⟩,
    ⟨.s .d0 .d2 (.L (.mov (.l 0))), []⟩,
    ⟨.s .d0 .d3 (.L (.mov (.l 2))), []⟩])
  .ret))))))))⟩
def i38 : Fun :=
  ⟨3, [0, 1, 2, 5, 6, 7, 3], [.tmp .d0 .d3, .cell .d0 .d4 (some 2), .tmp .d0 .d5], (.seq (.reg 15 [.s .d0 .d6 (.L (.box 2 (.t .d0 .d0))),
    .s .d0 .d3 (.L (.mov (.c (.slN)))),
    .s .d0 .d4 (.L (.alloc [.slN, .slN])),
    .s .d0 .d5 (.L (.mov (.c (.bool false))))])
  (.seq (.reg 8159 [.p (.L (.faddr 0 (.t .d0 .d6))),
    .p (.L (.load (.l 0))),
    .p (.L (.faddr 1 (.t .d0 .d6))),
    .p (.L (.load (.l 0))),
    .p (.L (.loadn 6 (.t .d0 .d2))),
    .p (.H (.call 14 [(.l 3), (.l 1), (.l 0), (.t .d0 .d1)])),
    .p (.L (.ext 0 (.l 0))),
    .p (.L (.ext 1 (.l 1))),
    .p (.L (.ext 2 (.l 2))),
    .s .d0 .d3 (.L (.mov (.l 2))),
    .p (.H (.store 2 (.t .d0 .d4) (.l 2))),
    .s .d0 .d5 (.L (.mov (.l 2)))])
  .ret))⟩
def i53 : Fun :=
  ⟨1, [0, 2, 3, 4, 7], [.tmp .d0 .d1, .tmp .d0 .d2, .tmp .d0 .d3], (.seq (.reg 7 [.s .d0 .d1 (.L (.mov (.c (.slN)))),
    .s .d0 .d2 (.L (.mov (.c (.int .i64 0)))),
    .s .d0 .d3 (.L (.mov (.c (.int .i64 0))))])
  (.seq (.seq (.reg 6 [.p (.L (.len true (.t .d0 .d0))),
    .s .d0 .d4 (.L (.bin .gtr (.l 0) (.c (.int .i64 8192))))])
  (.cond (.t .d0 .d4) (.seq (.reg 7 [.s .d0 .d1 (.L (.mov (.c (.slN)))),
    .s .d0 .d2 (.L (.mov (.c (.int .i64 9)))),
    .s .d0 .d3 (.L (.mov (.c (.int .i64 8192))))])
  .ret) .skip))
  (.seq (.reg 254 [.p (.H (.call 108 [(.t .d0 .d0)])),
    .p (.L (.ext 0 (.l 0))),
    .p (.L (.ext 1 (.l 1))),
    .p (.L (.ext 2 (.l 2))),
    .s .d0 .d1 (.L (.mov (.l 2))),
    .s .d0 .d2 (.L (.mov (.l 2))),
    .s .d0 .d3 (.L (.mov (.l 2)))])
  .ret)))⟩
def i54 : Fun :=
  ⟨1, [0, 2, 3, 4], [.cell .d0 .d1 (some 5), .tmp .d0 .d2, .tmp .d0 .d3], (.seq (.reg 7 [.s .d0 .d1 (.L (.alloc [.str 0 0, .int .i64 0, .slN, .slN, .slN])),
    .s .d0 .d2 (.L (.mov (.c (.int .i64 0)))),
    .s .d0 .d3 (.L (.mov (.c (.int .i64 0))))])
  (.seq (.reg 254 [.p (.H (.call 109 [(.t .d0 .d0), (.c (.fn 110 [] []))])),
    .p (.L (.ext 0 (.l 0))),
    .p (.L (.ext 1 (.l 1))),
    .p (.L (.ext 2 (.l 2))),
    .p (.H (.store 5 (.t .d0 .d1) (.l 2))),
    .s .d0 .d2 (.L (.mov (.l 2))),
    .s .d0 .d3 (.L (.mov (.l 2)))])
  .ret))⟩
def i55 : Fun :=
  ⟨1, [0, 2], [.tmp .d0 .d1], (.seq (.reg 1 [.s .d0 .d1 (.L (.mov (.c (.str 0 0))))])
  (.seq (.reg 2 [.s .d0 .d1 (.H (.call 111 [(.t .d0 .d0), (.c (.int .i64 10))]))])
  .ret))⟩
def i56 : Fun :=
  ⟨2, [0, 1, 3, 21, 20, 22, 19, 6, 4, 36, 35, 37, 34, 8, 51, 50, 52, 49, 10, 66, 65, 67, 64, 12, 73, 72, 74, 71, 14], [], (.seq (.reg 1 [.s .d0 .d2 (.L (.box 5 (.t .d0 .d1)))])
  (.seq (.reg 7 [.p (.L (.faddr 0 (.t .d0 .d2))),
    .p (.L (.load (.l 0))),
    .s .d1 .d0 (.L (.bsl 1 1 [.str 0 0] [(0, 1, (.l 0))]))])
  (.seq (.seq (.reg 15 [.p (.L (.faddr 2 (.t .d0 .d2))),
    .s .d0 .d6 (.L (.load (.l 0))),
    .s .d0 .d4 (.L (.len false (.l 0))),
    .s .d0 .d3 (.L (.mov (.c (.int .i64 0))))])
  (.block 0 (.loop (.seq (.reg 1 [.s .d0 .d5 (.L (.bin .lss (.t .d0 .d3) (.t .d0 .d4)))])
  (.seq (.cond (.t .d0 .d5) .skip (.exit 0))
  (.seq (.block 1 (.seq (.reg 15 [.p (.L (.iaddr 2 (.t .d0 .d6) (.t .d0 .d3))),
    .p (.L (.loadn 2 (.l 0))),
    .s .d0 .d7 (.L (.alloc [.str 0 0, .int .i64 0])),
    .p (.H (.store 2 (.l 0) (.l 1)))])
  (.reg 124 [.p (.L (.faddr 0 (.t .d0 .d7))),
    .p (.L (.load (.l 0))),
    .p (.L (.faddr 1 (.t .d0 .d7))),
    .p (.L (.load (.l 0))),
    .s .d1 .d0 (.H (.call 112 [(.t .d0 .d0), (.t .d1 .d0), (.l 2), (.l 0)]))])))
  (.reg 1 [.s .d0 .d3 (.L (.bin .add (.t .d0 .d3) (.c (.int .i64 1))))])))))))
  (.seq (.reg 1 [.s .d1 .d0 (.L (.mov (.c (.slN))))])
  (.seq (.seq (.reg 15 [.p (.L (.faddr 3 (.t .d0 .d2))),
    .s .d1 .d4 (.L (.load (.l 0))),
    .s .d1 .d2 (.L (.len false (.l 0))),
    .s .d1 .d1 (.L (.mov (.c (.int .i64 0))))])
  (.block 2 (.loop (.seq (.reg 1 [.s .d1 .d3 (.L (.bin .lss (.t .d1 .d1) (.t .d1 .d2)))])
  (.seq (.cond (.t .d1 .d3) .skip (.exit 2))
  (.seq (.block 3 (.seq (.reg 15 [.p (.L (.iaddr 4 (.t .d1 .d4) (.t .d1 .d1))),
    .p (.L (.loadn 4 (.l 0))),
    .s .d1 .d5 (.L (.alloc [.str 0 0, .str 0 0, .int .i64 0, .int .i64 0])),
    .p (.H (.store 4 (.l 0) (.l 1)))])
  (.reg 124 [.p (.L (.faddr 0 (.t .d1 .d5))),
    .p (.L (.load (.l 0))),
    .p (.L (.faddr 3 (.t .d1 .d5))),
    .p (.L (.load (.l 0))),
    .s .d1 .d0 (.H (.call 112 [(.t .d0 .d0), (.t .d1 .d0), (.l 2), (.l 0)]))])))
  (.reg 1 [.s .d1 .d1 (.L (.bin .add (.t .d1 .d1) (.c (.int .i64 1))))])))))))
  (.seq (.seq (.reg 15 [.p (.L (.faddr 4 (.t .d0 .d2))),
    .s .d2 .d1 (.L (.load (.l 0))),
    .s .d1 .d7 (.L (.len false (.l 0))),
    .s .d1 .d6 (.L (.mov (.c (.int .i64 0))))])
  (.block 4 (.loop (.seq (.reg 1 [.s .d2 .d0 (.L (.bin .lss (.t .d1 .d6) (.t .d1 .d7)))])
  (.seq (.cond (.t .d2 .d0) .skip (.exit 4))
  (.seq (.block 5 (.seq (.reg 15 [.p (.L (.iaddr 8 (.t .d2 .d1) (.t .d1 .d6))),
    .p (.L (.loadn 8 (.l 0))),
    .s .d2 .d2 (.L (.alloc [.str 0 0, .slN, .bool false, .str 0 0, .str 0 0, .slN, .slN, .int .i64 0])),
    .p (.H (.store 8 (.l 0) (.l 1)))])
  (.reg 124 [.p (.L (.faddr 0 (.t .d2 .d2))),
    .p (.L (.load (.l 0))),
    .p (.L (.faddr 7 (.t .d2 .d2))),
    .p (.L (.load (.l 0))),
    .s .d1 .d0 (.H (.call 112 [(.t .d0 .d0), (.t .d1 .d0), (.l 2), (.l 0)]))])))
  (.reg 1 [.s .d1 .d6 (.L (.bin .add (.t .d1 .d6) (.c (.int .i64 1))))])))))))
  (.seq (.reg 15 [.p (.L (.faddr 4 (.t .d0 .d2))),
    .s .d2 .d6 (.L (.load (.l 0))),
    .s .d2 .d4 (.L (.len false (.l 0))),
    .s .d2 .d3 (.L (.mov (.c (.int .i64 0))))])
  (.block 6 (.loop (.seq (.reg 1 [.s .d2 .d5 (.L (.bin .lss (.t .d2 .d3) (.t .d2 .d4)))])
  (.seq (.cond (.t .d2 .d5) .skip (.exit 6))
  (.seq (.block 7 (.seq (.reg 15 [.p (.L (.iaddr 8 (.t .d2 .d6) (.t .d2 .d3))),
    .p (.L (.loadn 8 (.l 0))),
    .s .d2 .d7 (.L (.alloc [.str 0 0, .slN, .bool false, .str 0 0, .str 0 0, .slN, .slN, .int .i64 0])),
    .p (.H (.store 8 (.l 0) (.l 1)))])
  (.seq (.reg 1 [.s .d1 .d0 (.L (.mov (.c (.slN))))])
  (.seq (.reg 15 [.p (.L (.faddr 1 (.t .d2 .d7))),
    .s .d3 .d3 (.L (.load (.l 0))),
    .s .d3 .d1 (.L (.len false (.l 0))),
    .s .d3 .d0 (.L (.mov (.c (.int .i64 0))))])
  (.block 8 (.loop (.seq (.reg 1 [.s .d3 .d2 (.L (.bin .lss (.t .d3 .d0) (.t .d3 .d1)))])
  (.seq (.cond (.t .d3 .d2) .skip (.exit 8))
  (.seq (.block 9 (.seq (.reg 15 [.p (.L (.iaddr 3 (.t .d3 .d3) (.t .d3 .d0))),
    .p (.L (.loadn 3 (.l 0))),
    .s .d3 .d4 (.L (.alloc [.str 0 0, .str 0 0, .int .i64 0])),
    .p (.H (.store 3 (.l 0) (.l 1)))])
  (.reg 124 [.p (.L (.faddr 0 (.t .d3 .d4))),
    .p (.L (.load (.l 0))),
    .p (.L (.faddr 2 (.t .d3 .d4))),
    .p (.L (.load (.l 0))),
    .s .d1 .d0 (.H (.call 112 [(.t .d0 .d0), (.t .d1 .d0), (.l 2), (.l 0)]))])))
  (.reg 1 [.s .d3 .d0 (.L (.bin .add (.t .d3 .d0) (.c (.int .i64 1))))]))))))))))
  (.reg 1 [.s .d2 .d3 (.L (.bin .add (.t .d2 .d3) (.c (.int .i64 1))))])))))))))))))⟩
def i57 : Fun :=
  ⟨2, [0, 1, 3, 13, 12, 14, 11, 5, 27, 26, 28, 25, 7, 34, 33, 35, 32, 9, 46], [], (.seq (.reg 1 [.s .d0 .d2 (.L (.box 5 (.t .d0 .d1)))])
  (.seq (.seq (.reg 15 [.p (.L (.faddr 3 (.t .d0 .d2))),
    .s .d0 .d6 (.L (.load (.l 0))),
    .s .d0 .d4 (.L (.len false (.l 0))),
    .s .d0 .d3 (.L (.mov (.c (.int .i64 0))))])
  (.block 0 (.loop (.seq (.reg 1 [.s .d0 .d5 (.L (.bin .lss (.t .d0 .d3) (.t .d0 .d4)))])
  (.seq (.cond (.t .d0 .d5) .skip (.exit 0))
  (.seq (.block 1 (.seq (.reg 15 [.p (.L (.iaddr 4 (.t .d0 .d6) (.t .d0 .d3))),
    .p (.L (.loadn 4 (.l 0))),
    .s .d0 .d7 (.L (.alloc [.str 0 0, .str 0 0, .int .i64 0, .int .i64 0])),
    .p (.H (.store 4 (.l 0) (.l 1)))])
  (.reg 62 [.p (.L (.faddr 1 (.t .d0 .d7))),
    .p (.L (.load (.l 0))),
    .p (.L (.faddr 3 (.t .d0 .d7))),
    .p (.L (.load (.l 0))),
    .p (.H (.call 113 [(.t .d0 .d0), (.l 2), (.l 0)]))])))
  (.reg 1 [.s .d0 .d3 (.L (.bin .add (.t .d0 .d3) (.c (.int .i64 1))))])))))))
  (.seq (.reg 15 [.p (.L (.faddr 4 (.t .d0 .d2))),
    .s .d1 .d3 (.L (.load (.l 0))),
    .s .d1 .d1 (.L (.len false (.l 0))),
    .s .d1 .d0 (.L (.mov (.c (.int .i64 0))))])
  (.block 2 (.loop (.seq (.reg 1 [.s .d1 .d2 (.L (.bin .lss (.t .d1 .d0) (.t .d1 .d1)))])
  (.seq (.cond (.t .d1 .d2) .skip (.exit 2))
  (.seq (.block 3 (.seq (.reg 15 [.p (.L (.iaddr 8 (.t .d1 .d3) (.t .d1 .d0))),
    .p (.L (.loadn 8 (.l 0))),
    .s .d1 .d4 (.L (.alloc [.str 0 0, .slN, .bool false, .str 0 0, .str 0 0, .slN, .slN, .int .i64 0])),
    .p (.H (.store 8 (.l 0) (.l 1)))])
  (.seq (.seq (.reg 15 [.p (.L (.faddr 1 (.t .d1 .d4))),
    .s .d2 .d0 (.L (.load (.l 0))),
    .s .d1 .d6 (.L (.len false (.l 0))),
    .s .d1 .d5 (.L (.mov (.c (.int .i64 0))))])
  (.block 4 (.loop (.seq (.reg 1 [.s .d1 .d7 (.L (.bin .lss (.t .d1 .d5) (.t .d1 .d6)))])
  (.seq (.cond (.t .d1 .d7) .skip (.exit 4))
  (.seq (.block 5 (.seq (.reg 15 [.p (.L (.iaddr 3 (.t .d2 .d0) (.t .d1 .d5))),
    .p (.L (.loadn 3 (.l 0))),
    .s .d2 .d1 (.L (.alloc [.str 0 0, .str 0 0, .int .i64 0])),
    .p (.H (.store 3 (.l 0) (.l 1)))])
  (.reg 62 [.p (.L (.faddr 1 (.t .d2 .d1))),
    .p (.L (.load (.l 0))),
    .p (.L (.faddr 2 (.t .d2 .d1))),
    .p (.L (.load (.l 0))),
    .p (.H (.call 113 [(.t .d0 .d0), (.l 2), (.l 0)]))])))
  (.reg 1 [.s .d1 .d5 (.L (.bin .add (.t .d1 .d5) (.c (.int .i64 1))))])))))))
  (.seq (.seq (.reg 3 [.p (.L (.faddr 2 (.t .d1 .d4))),
    .s .d2 .d2 (.L (.load (.l 0)))])
  (.cond (.t .d2 .d2) (.reg 62 [.p (.L (.faddr 3 (.t .d1 .d4))),
    .p (.L (.load (.l 0))),
    .p (.L (.faddr 7 (.t .d1 .d4))),
    .p (.L (.load (.l 0))),
    .p (.H (.call 113 [(.t .d0 .d0), (.l 2), (.l 0)]))]) .skip))
  (.reg 62 [.p (.L (.faddr 4 (.t .d1 .d4))),
    .p (.L (.load (.l 0))),
    .p (.L (.faddr 7 (.t .d1 .d4))),
    .p (.L (.load (.l 0))),
    .p (.H (.call 113 [(.t .d0 .d0), (.l 2), (.l 0)]))])))))
  (.reg 1 [.s .d1 .d0 (.L (.bin .add (.t .d1 .d0) (.c (.int .i64 1))))])))))))))⟩
def i58 : Fun :=
  ⟨1, [0, 2, 1, 21, 20, 22, 19, 3, 5], [.cell .d0 .d1 (some 6)], (.seq (.reg 3 [.s .d0 .d2 (.L (.box 8 (.t .d0 .d0))),
    .s .d0 .d1 (.L (.alloc [.str 0 0, .slN, .bool false, .str 0 0, .str 0 0, .slN]))])
  (.seq (.draw [0, 1, 2, 3, 4, 5, 6, 7, 8, 9, 12, 10, 11, 13] [⟨.p (.L (.faddr 0 (.t .d0 .d2))), []⟩,
    ⟨.p (.L (.load (.l 0))), []⟩,
    ⟨.p (.L (.faddr 2 (.t .d0 .d2))), []⟩,
    ⟨.p (.L (.load (.l 0))), []⟩,
    ⟨.p (.L (.faddr 3 (.t .d0 .d2))), []⟩,
    ⟨.p (.L (.load (.l 0))), []⟩,
    ⟨.p (.L (.faddr 4 (.t .d0 .d2))), []⟩,
    ⟨.p (.L (.load (.l 0))), []⟩,
    ⟨.p (.L (.faddr 5 (.t .d0 .d2))), []⟩,
    ⟨.p (.L (.load (.l 0))), []⟩,
    ⟨.s .d0 .d7 (.L (.alloc [.str 0 0, .slN, .bool false, .str 0 0, .str 0 0, .slN])), []⟩,
    ⟨.p (.H (.call 114 [(.l 1)])), [9, 7, 5, 3, 0]⟩,
    ⟨.p (.L (.build [.str 0 0, .slN, .bool false, .str 0 0, .str 0 0, .slN] [(0, 1, (.l 10)), (2, 1, (.l 8)), (3, 1, (.l 6)), (4, 1, (.l 4)), (5, 1, (.l 0))])), []⟩,
    ⟨.p (.H (.store 6 (.l 2) (.l 0))), []⟩])
  (.seq (.seq (.reg 15 [.p (.L (.faddr 1 (.t .d0 .d2))),
    .s .d0 .d6 (.L (.load (.l 0))),
    .s .d0 .d4 (.L (.len false (.l 0))),
    .s .d0 .d3 (.L (.mov (.c (.int .i64 0))))])
  (.block 0 (.loop (.seq (.reg 1 [.s .d0 .d5 (.L (.bin .lss (.t .d0 .d3) (.t .d0 .d4)))])
  (.seq (.cond (.t .d0 .d5) .skip (.exit 0))
  (.seq (.block 1 (.seq (.reg 15 [.p (.L (.iaddr 3 (.t .d0 .d6) (.t .d0 .d3))),
    .p (.L (.loadn 3 (.l 0))),
    .s .d1 .d0 (.L (.alloc [.str 0 0, .str 0 0, .int .i64 0])),
    .p (.H (.store 3 (.l 0) (.l 1)))])
  (.reg 255 [.p (.L (.faddr 1 (.t .d0 .d7))),
    .p (.L (.load (.l 0))),
    .p (.L (.faddr 1 (.t .d1 .d0))),
    .p (.L (.load (.l 0))),
    .p (.L (.bsl 1 1 [.str 0 0] [(0, 1, (.l 0))])),
    .p (.H (.append 1 16 (.l 3) (.l 0))),
    .p (.L (.faddr 1 (.t .d0 .d7))),
    .p (.H (.store 1 (.l 0) (.l 1)))])))
  (.reg 1 [.s .d0 .d3 (.L (.bin .add (.t .d0 .d3) (.c (.int .i64 1))))])))))))
  (.seq (.reg 3 [.p (.L (.loadn 6 (.t .d0 .d7))),
    .p (.H (.store 6 (.t .d0 .d1) (.l 0)))])
  .ret))))⟩
def i59 : Fun :=
  ⟨2, [0, 1, 4], [], (.seq (.reg 2 [.s .d0 .d2 (.L (.len false (.t .d0 .d0)))])
  (.reg 88 [.p (.L (.conv .u64 (.t .d0 .d2))),
    .p (.H (.call 116 [(.l 0)])),
    .p (.H (.call 115 [(.t .d0 .d0), (.c (.int .i64 0)), (.t .d0 .d2), (.l 0), (.t .d0 .d1)]))]))⟩
def i61 : Fun :=
  ⟨2, [0, 1, 4], [.tmp .d0 .d2], (.seq (.reg 1 [.s .d0 .d2 (.L (.mov (.c (.int .i64 0))))])
  (.seq (.reg 4 [.s .d0 .d2 (.H (.call 117 [(.t .d0 .d0), (.t .d0 .d1)]))])
  .ret))⟩
def i62 : Fun :=
  ⟨2, [0, 1, 4], [], (.seq (.reg 2 [.s .d0 .d2 (.L (.len false (.t .d0 .d0)))])
  (.reg 88 [.p (.L (.conv .u64 (.t .d0 .d2))),
    .p (.H (.call 116 [(.l 0)])),
    .p (.H (.call 118 [(.t .d0 .d0), (.c (.int .i64 0)), (.t .d0 .d2), (.l 0), (.t .d0 .d1)]))]))⟩
def i64 : Fun :=
  ⟨1, [0, 2, 1, 3, 37, 41, 40, 42, 5, 70, 4, 87, 6, 7], [.tmp .d0 .d1], (.seq (.reg 3 [.s .d0 .d2 (.L (.box 6 (.t .d0 .d0))),
    .s .d0 .d1 (.L (.mov (.c (.bool false))))])
  (.seq (.reg 7 [.p (.L (.faddr 0 (.t .d0 .d2))),
    .p (.L (.load (.l 0))),
    .s .d0 .d3 (.L (.len false (.l 0)))])
  (.seq (.seq (.reg 133160890 [.p (.L (.bin .lss (.t .d0 .d3) (.c (.int .i64 1)))),
    .g (.l 0) false (.L (.mov (.t .d0 .d3))),
    .g (.l 1) false (.L (.bin .gtr (.l 0) (.c (.int .i64 12)))),
    .p (.L (.pick (.l 2) (.c (.bool true)) (.l 0))),
    .g (.l 0) false (.L (.faddr 1 (.t .d0 .d2))),
    .g (.l 1) false (.L (.load (.l 0))),
    .g (.l 2) false (.L (.mov (.t .d0 .d3))),
    .g (.l 3) false (.H (.call 119 [(.l 1), (.l 0)])),
    .g (.l 4) false (.L (.not (.l 0))),
    .p (.L (.pick (.l 5) (.c (.bool true)) (.l 0))),
    .g (.l 0) false (.L (.faddr 2 (.t .d0 .d2))),
    .g (.l 1) false (.L (.load (.l 0))),
    .g (.l 2) false (.L (.mov (.t .d0 .d3))),
    .g (.l 3) false (.H (.call 120 [(.l 1), (.l 0)])),
    .g (.l 4) false (.L (.not (.l 0))),
    .p (.L (.pick (.l 5) (.c (.bool true)) (.l 0))),
    .g (.l 0) false (.L (.faddr 3 (.t .d0 .d2))),
    .g (.l 1) false (.L (.load (.l 0))),
    .g (.l 2) false (.L (.mov (.t .d0 .d3))),
    .g (.l 3) false (.H (.call 120 [(.l 1), (.l 0)])),
    .g (.l 4) false (.L (.not (.l 0))),
    .s .d0 .d4 (.L (.pick (.l 5) (.c (.bool true)) (.l 0)))])
  (.cond (.t .d0 .d4) (.seq (.reg 1 [.s .d0 .d1 (.L (.mov (.c (.bool false))))])
  .ret) .skip))
  (.seq (.reg 2 [.s .d1 .d2 (.L (.mksl 1 [.slN] 24 (.t .d0 .d3) (.t .d0 .d3)))])
  (.seq (.seq (.reg 3 [.s .d0 .d6 (.L (.mov (.t .d0 .d3))),
    .s .d0 .d5 (.L (.mov (.c (.int .i64 0))))])
  (.block 0 (.loop (.seq (.reg 1 [.s .d0 .d7 (.L (.bin .lss (.t .d0 .d5) (.t .d0 .d6)))])
  (.seq (.cond (.t .d0 .d7) .skip (.exit 0))
  (.seq (.block 1 (.seq (.reg 2 [.s .d1 .d0 (.L (.mov (.t .d0 .d5)))])
  (.seq (.seq (.draw [0, 1, 2, 3, 4, 5, 6, 7, 8, 9, 10, 11, 12, 13, 14, 15, 16, 17, 18, 19, 20, 21, 22, 23, 24, 25, 26] [⟨.p (.L (.mov (.t .d1 .d0))), []⟩,
    ⟨.p (.L (.bin .gtr (.l 0) (.c (.int .i64 0)))), []⟩,
    ⟨.p (.L (.mov (.l 0))), []⟩,
    ⟨.g (.l 0) true (.L (.faddr 0 (.t .d0 .d2))), []⟩,
    ⟨.g (.l 1) true (.L (.load (.l 0))), []⟩,
    ⟨.g (.l 2) true (.L (.mov (.t .d1 .d0))), []⟩,
    ⟨.g (.l 3) true (.L (.iaddr 1 (.l 1) (.l 0))), []⟩,
    ⟨.g (.l 4) true (.L (.load (.l 0))), []⟩,
    ⟨.g (.l 5) true (.L (.faddr 0 (.t .d0 .d2))), []⟩,
    ⟨.g (.l 6) true (.L (.load (.l 0))), []⟩,
    ⟨.g (.l 7) true (.L (.mov (.t .d1 .d0))), []⟩,
    ⟨.g (.l 8) true (.L (.bin .sub (.l 0) (.c (.int .i64 1)))), []⟩,
    ⟨.g (.l 9) true (.L (.iaddr 1 (.l 2) (.l 0))), []⟩,
    ⟨.g (.l 10) true (.L (.load (.l 0))), []⟩,
    ⟨.g (.l 11) true (.L (.bins .leq (.l 6) (.l 0))), []⟩,
    ⟨.p (.L (.pick (.l 12) (.l 0) (.c (.bool false)))), []⟩,
    ⟨.p (.L (.mov (.l 0))), []⟩,
    ⟨.g (.l 0) false (.L (.faddr 1 (.t .d0 .d2))), []⟩,
    ⟨.g (.l 1) false (.L (.load (.l 0))), []⟩,
    ⟨.g (.l 2) false (.L (.mov (.t .d1 .d0))), []⟩,
    ⟨.g (.l 3) false (.L (.iaddr 1 (.l 1) (.l 0))), []⟩,
    ⟨.g (.l 4) false (.L (.load (.l 0))), []⟩,
    ⟨.g (.l 5) false (.L (.mov (.t .d1 .d0))), []⟩,
    ⟨.g (.l 6) false (.L (.iaddr 1 (.l 1) (.l 0))), []⟩,
    ⟨.g (.l 7) false (.L (.load (.l 0))), []⟩,
    ⟨.g (.l 8) false (.L (.not (.l 0))), []⟩,
    ⟨.s .d1 .d1 (.L (.pick (.l 9) (.c (.bool true)) (.l 0))), []⟩])
  (.cond (.t .d1 .d1) (.seq (.reg 1 [.s .d0 .d1 (.L (.mov (.c (.bool false))))])
  .ret) .skip))
  (.reg 1004 [.p (.L (.faddr 1 (.t .d0 .d2))),
    .p (.L (.load (.l 0))),
    .p (.L (.iaddr 1 (.l 0) (.t .d1 .d0))),
    .p (.L (.load (.l 0))),
    .p (.H (.call 121 [(.l 0)])),
    .p (.L (.iaddr 1 (.t .d1 .d2) (.t .d1 .d0))),
    .p (.H (.store 1 (.l 0) (.l 1)))]))))
  (.reg 1 [.s .d0 .d5 (.L (.bin .add (.t .d0 .d5) (.c (.int .i64 1))))])))))))
  (.seq (.reg 2 [.p (.H (.call 122 [(.t .d1 .d2)]))])
  (.seq (.seq (.reg 30 [.p (.L (.faddr 1 (.t .d0 .d2))),
    .p (.L (.load (.l 0))),
    .p (.H (.call 123 [(.t .d1 .d2), (.l 0), (.c (.fn 124 [] []))])),
    .s .d1 .d3 (.L (.not (.l 0)))])
  (.cond (.t .d1 .d3) (.seq (.reg 1 [.s .d0 .d1 (.L (.mov (.c (.bool false))))])
  .ret) .skip))
  (.seq (.reg 251 [.p (.L (.loadn 6 (.t .d0 .d2))),
    .p (.H (.call 125 [(.l 0)])),
    .p (.L (.ext 0 (.l 0))),
    .p (.L (.ext 1 (.l 1))),
    .s .d1 .d4 (.L (.alloc [.slN, .slN, .slN, .slN, .int .i64 0, .int .i64 0])),
    .p (.H (.store 6 (.l 0) (.l 2))),
    .s .d1 .d5 (.L (.mov (.l 2)))])
  (.seq (.reg 532643580 [.g (.t .d1 .d5) true (.L (.faddr 4 (.t .d1 .d4))),
    .g (.t .d1 .d5) true (.L (.load (.l 0))),
    .g (.t .d1 .d5) true (.L (.faddr 4 (.t .d0 .d2))),
    .g (.t .d1 .d5) true (.L (.load (.l 0))),
    .g (.t .d1 .d5) true (.L (.bin .eql (.l 2) (.l 0))),
    .p (.L (.pick (.t .d1 .d5) (.l 0) (.c (.bool false)))),
    .g (.l 0) true (.L (.faddr 5 (.t .d1 .d4))),
    .g (.l 1) true (.L (.load (.l 0))),
    .g (.l 2) true (.L (.faddr 5 (.t .d0 .d2))),
    .g (.l 3) true (.L (.load (.l 0))),
    .g (.l 4) true (.L (.bin .eql (.l 2) (.l 0))),
    .p (.L (.pick (.l 5) (.l 0) (.c (.bool false)))),
    .g (.l 0) true (.L (.faddr 2 (.t .d1 .d4))),
    .g (.l 1) true (.L (.load (.l 0))),
    .g (.l 2) true (.L (.faddr 2 (.t .d0 .d2))),
    .g (.l 3) true (.L (.load (.l 0))),
    .g (.l 4) true (.H (.call 126 [(.l 2), (.l 0), (.c (.fn 127 [] []))])),
    .p (.L (.pick (.l 5) (.l 0) (.c (.bool false)))),
    .g (.l 0) true (.L (.faddr 3 (.t .d1 .d4))),
    .g (.l 1) true (.L (.load (.l 0))),
    .g (.l 2) true (.L (.faddr 3 (.t .d0 .d2))),
    .g (.l 3) true (.L (.load (.l 0))),
    .g (.l 4) true (.H (.call 126 [(.l 2), (.l 0), (.c (.fn 127 [] []))])),
    .s .d0 .d1 (.L (.pick (.l 5) (.l 0) (.c (.bool false))))])
  .ret)))))))))⟩
def i66 : Fun :=
  ⟨3, [0, 1, 2, 4], [], (.seq (.reg 1 [.s .d0 .d3 (.L (.box 12 (.t .d0 .d1)))])
  (.draw [0, 1, 2, 3, 4, 5, 6, 7, 8, 9, 10, 11, 12, 13, 14, 18, 15, 16, 17, 19, 20, 21] [⟨.p (.L (.mov (.t .d0 .d0))), []⟩,
    ⟨.p (.L (.faddr 1 (.t .d0 .d3))), []⟩,
    ⟨.p (.L (.load (.l 0))), []⟩,
    ⟨.p (.L (.faddr 2 (.t .d0 .d3))), []⟩,
    ⟨.p (.L (.load (.l 0))), []⟩,
    ⟨.p (.L (.faddr 3 (.t .d0 .d3))), []⟩,
    ⟨.p (.L (.load (.l 0))), []⟩,
    ⟨.p (.L (.mov (.t .d0 .d0))), []⟩,
    ⟨.p (.L (.nilck (.l 0))), []⟩,
    ⟨.p (.L (.faddr 5 (.l 0))), []⟩,
    ⟨.p (.L (.faddr 2 (.l 0))), []⟩,
    ⟨.p (.L (.load (.l 0))), []⟩,
    ⟨.p (.L (.mov (.t .d0 .d0))), []⟩,
    ⟨.p (.L (.faddr 8 (.t .d0 .d3))), []⟩,
    ⟨.p (.L (.load (.l 0))), []⟩,
    ⟨.p (.L (.mov (.t .d0 .d2))), []⟩,
    ⟨.p (.H (.call 128 [(.l 3), (.l 1)])), [13, 11, 9, 4]⟩,
    ⟨.p (.L (.iaddr 1 (.l 5) (.l 0))), []⟩,
    ⟨.p (.L (.load (.l 0))), []⟩,
    ⟨.p (.L (.iaddr 1 (.l 0) (.l 3))), []⟩,
    ⟨.p (.L (.load (.l 0))), []⟩,
    ⟨.p (.H (.call 134 [(.l 20), (.l 18), (.l 16), (.l 14), (.l 0)])), []⟩]))⟩
def i72 : Fun :=
  ⟨2, [0, 1, 4, 5, 3, 14, 6, 34], [.cell .d0 .d2 (some 2), .tmp .d0 .d3], (.seq (.reg 7 [.s .d0 .d4 (.L (.box 1 (.t .d0 .d1))),
    .s .d0 .d2 (.L (.alloc [.slN, .slN])),
    .s .d0 .d3 (.L (.mov (.c (.int .i64 0))))])
  (.seq (.seq (.reg 254 [.p (.L (.nilck (.t .d0 .d0))),
    .p (.L (.faddr 0 (.l 0))),
    .p (.L (.faddr 2 (.l 0))),
    .p (.L (.load (.l 0))),
    .p (.L (.fn 139 [] [(.t .d0 .d4)])),
    .p (.H (.call 138 [(.l 1), (.l 0)])),
    .s .d0 .d5 (.L (.not (.l 0)))])
  (.cond (.t .d0 .d5) (.seq (.reg 7 [.p (.L (.build [.slN, .slN] [])),
    .p (.H (.store 2 (.t .d0 .d2) (.l 0))),
    .s .d0 .d3 (.L (.mov (.c (.int .i64 1))))])
  .ret) .skip))
  (.seq (.reg 62 [.p (.L (.nilck (.t .d0 .d0))),
    .p (.L (.faddr 13 (.l 0))),
    .p (.L (.load (.l 0))),
    .p (.L (.fn 141 [] [(.t .d0 .d4)])),
    .s .d0 .d6 (.H (.call 140 [(.l 1), (.l 0)]))])
  (.seq (.seq (.reg 8186 [.p (.L (.bin .lss (.t .d0 .d6) (.c (.int .i64 0)))),
    .g (.l 0) false (.L (.mov (.t .d0 .d0))),
    .g (.l 1) false (.L (.nilck (.l 0))),
    .g (.l 2) false (.L (.faddr 13 (.l 0))),
    .g (.l 3) false (.L (.load (.l 0))),
    .g (.l 4) false (.L (.mov (.t .d0 .d6))),
    .g (.l 5) false (.L (.iaddr 4 (.l 1) (.l 0))),
    .g (.l 6) false (.L (.faddr 1 (.l 0))),
    .g (.l 7) false (.L (.load (.l 0))),
    .g (.l 8) false (.L (.not (.l 0))),
    .s .d0 .d7 (.L (.pick (.l 9) (.c (.bool true)) (.l 0)))])
  (.cond (.t .d0 .d7) (.seq (.reg 7 [.p (.L (.build [.slN, .slN] [])),
    .p (.H (.store 2 (.t .d0 .d2) (.l 0))),
    .s .d0 .d3 (.L (.mov (.c (.int .i64 2))))])
  .ret) .skip))
  (.seq (.reg 1006 [.p (.L (.nilck (.t .d0 .d0))),
    .p (.L (.faddr 13 (.l 0))),
    .p (.L (.load (.l 0))),
    .p (.L (.iaddr 4 (.l 0) (.t .d0 .d6))),
    .p (.L (.faddr 2 (.l 0))),
    .p (.L (.loadn 2 (.l 0))),
    .p (.H (.store 2 (.t .d0 .d2) (.l 0))),
    .s .d0 .d3 (.L (.mov (.c (.int .i64 0))))])
  .ret)))))⟩
def i73 : Fun :=
  ⟨4, [0, 1, 2, 3], [], (.draw [0, 1, 2, 3, 4, 5, 6, 7, 8, 9, 10, 11, 12, 13, 14, 15, 16, 17, 18] [⟨.p (.L (.mov (.t .d0 .d0))), []⟩,
    ⟨.p (.L (.mov (.t .d0 .d0))), []⟩,
    ⟨.p (.L (.nilck (.l 0))), []⟩,
    ⟨.p (.L (.faddr 23 (.l 0))), []⟩,
    ⟨.p (.L (.load (.l 0))), []⟩,
    ⟨.p (.L (.mov (.t .d0 .d0))), []⟩,
    ⟨.p (.L (.nilck (.l 0))), []⟩,
    ⟨.p (.L (.faddr 0 (.l 0))), []⟩,
    ⟨.p (.L (.faddr 0 (.l 0))), []⟩,
    ⟨.p (.L (.load (.l 0))), []⟩,
    ⟨.p (.L (.mov (.t .d0 .d1))), []⟩,
    ⟨.p (.L (.mov (.t .d0 .d2))), []⟩,
    ⟨.p (.L (.mov (.t .d0 .d3))), []⟩,
    ⟨.p (.L (.build [.str 0 0, .int .i64 0, .int .i64 0, .str 0 0] [(0, 1, (.l 3)), (1, 1, (.l 2)), (2, 1, (.l 1)), (3, 1, (.l 0))])), []⟩,
    ⟨.p (.L (.bsl 4 1 [.str 0 0, .int .i64 0, .int .i64 0, .str 0 0] [(0, 4, (.l 0))])), []⟩,
    ⟨.p (.H (.append 4 48 (.l 10) (.l 0))), []⟩,
    ⟨.p (.L (.nilck (.l 15))), []⟩,
    ⟨.p (.L (.faddr 23 (.l 0))), []⟩,
    ⟨.p (.H (.store 1 (.l 0) (.l 2))), []⟩])⟩
def i74 : Fun :=
  ⟨2, [0, 1, 4, 5, 13], [.tmp .d0 .d2], (.seq (.reg 1 [.s .d0 .d2 (.L (.mov (.c (.int .i64 0))))])
  (.seq (.seq (.reg 46 [.p (.L (.nilck (.t .d0 .d0))),
    .p (.L (.faddr 5 (.l 0))),
    .p (.L (.loadn 6 (.l 0))),
    .s .d0 .d3 (.H (.call 133 [(.l 0), (.t .d0 .d1)]))])
  (.seq (.reg 2 [.s .d0 .d4 (.L (.bin .geq (.t .d0 .d3) (.c (.int .i64 0))))])
  (.cond (.t .d0 .d4) (.seq (.reg 2 [.s .d0 .d2 (.L (.mov (.t .d0 .d3)))])
  .ret) .skip)))
  (.seq (.reg 30 [.p (.L (.nilck (.t .d0 .d0))),
    .p (.L (.faddr 5 (.l 0))),
    .p (.L (.faddr 5 (.l 0))),
    .s .d0 .d2 (.L (.load (.l 0)))])
  .ret)))⟩
def i75 : Fun :=
  ⟨3, [0, 1, 2, 17, 16, 18, 15, 8, 9, 29, 6], [], (.seq (.reg 30 [.p (.L (.nilck (.t .d0 .d0))),
    .p (.L (.faddr 22 (.l 0))),
    .p (.L (.load (.l 0))),
    .s .d1 .d2 (.L (.len false (.l 0)))])
  (.seq .skip
  (.seq (.seq (.reg 7 [.s .d0 .d6 (.L (.mov (.t .d0 .d1))),
    .s .d0 .d4 (.L (.len false (.l 0))),
    .s .d0 .d3 (.L (.mov (.c (.int .i64 0))))])
  (.block 0 (.loop (.seq (.reg 1 [.s .d0 .d5 (.L (.bin .lss (.t .d0 .d3) (.t .d0 .d4)))])
  (.seq (.cond (.t .d0 .d5) .skip (.exit 0))
  (.seq (.block 1 (.seq (.reg 15 [.p (.L (.iaddr 12 (.t .d0 .d6) (.t .d0 .d3))),
    .p (.L (.loadn 12 (.l 0))),
    .s .d0 .d7 (.L (.alloc [.int .i64 0, .int .i64 0, .str 0 0, .str 0 0, .str 0 0, .bool false, .str 0 0, .str 0 0, .slN, .slN, .slN, .slN])),
    .p (.H (.store 12 (.l 0) (.l 1)))])
  (.seq (.draw [0, 1, 2, 3, 4, 5, 6, 7] [⟨.p (.L (.mov (.t .d0 .d0))), []⟩,
    ⟨.p (.L (.nilck (.l 0))), []⟩,
    ⟨.p (.L (.faddr 24 (.l 0))), []⟩,
    ⟨.p (.L (.load (.l 0))), []⟩,
    ⟨.p (.L (.faddr 0 (.t .d0 .d7))), []⟩,
    ⟨.p (.L (.load (.l 0))), []⟩,
    ⟨.p (.L (.lookup .int (.fnN) false (.l 2) (.l 0))), []⟩,
    ⟨.s .d1 .d0 (.L (.mov (.l 0))), []⟩])
  (.seq (.seq (.reg 2 [.s .d1 .d1 (.L (.eq false .fn (.t .d1 .d0) (.c (.fnN))))])
  (.cond (.t .d1 .d1) (.exit 1) .skip))
  (.reg 10 [.p (.L (.loadn 12 (.t .d0 .d7))),
    .p (.H (.callv (.t .d1 .d0) [(.l 0), (.t .d0 .d2)]))])))))
  (.reg 1 [.s .d0 .d3 (.L (.bin .add (.t .d0 .d3) (.c (.int .i64 1))))])))))))
  (.reg 988 [.p (.L (.nilck (.t .d0 .d0))),
    .p (.L (.faddr 22 (.l 0))),
    .p (.L (.load (.l 0))),
    .p (.L (.ssl 2 (.l 0) none (some (.t .d1 .d2)) none)),
    .p (.L (.nilck (.t .d0 .d0))),
    .p (.L (.faddr 22 (.l 0))),
    .p (.H (.store 1 (.l 0) (.l 2)))]))))⟩
def i81 : Fun :=
  ⟨1, [0, 2, 3, 4, 6, 16, 7, 5, 8], [.cell .d0 .d1 (some 6), .tmp .d0 .d2, .tmp .d0 .d3], (.seq (.reg 7 [.s .d0 .d1 (.L (.alloc [.slN, .slN, .slN, .slN, .int .i64 0, .int .i64 0])),
    .s .d0 .d2 (.L (.mov (.c (.int .i64 0)))),
    .s .d0 .d3 (.L (.mov (.c (.int .i64 0))))])
  (.seq (.reg 506 [.p (.H (.call 145 [(.t .d0 .d0)])),
    .p (.L (.ext 0 (.l 0))),
    .p (.L (.ext 1 (.l 1))),
    .p (.L (.ext 2 (.l 2))),
    .s .d0 .d7 (.L (.mov (.l 2))),
    .s .d0 .d4 (.L (.mov (.l 2))),
    .s .d0 .d6 (.L (.mov (.l 2)))])
  (.seq (.seq (.reg 2 [.s .d0 .d5 (.L (.bin .neq (.t .d0 .d4) (.c (.int .i64 0))))])
  (.cond (.t .d0 .d5) (.seq (.reg 57 [.p (.L (.build [.slN, .slN, .slN, .slN, .int .i64 0, .int .i64 0] [])),
    .p (.H (.store 6 (.t .d0 .d1) (.l 0))),
    .s .d0 .d2 (.L (.mov (.t .d0 .d4))),
    .s .d0 .d3 (.L (.mov (.t .d0 .d6)))])
  .ret) .skip))
  (.seq (.reg 250 [.p (.H (.call 146 [(.t .d0 .d7)])),
    .p (.L (.ext 0 (.l 0))),
    .p (.L (.ext 1 (.l 1))),
    .s .d1 .d0 (.L (.alloc [.slN, .slN, .slN, .slN, .int .i64 0, .int .i64 0])),
    .p (.H (.store 6 (.l 0) (.l 2))),
    .s .d0 .d4 (.L (.mov (.l 2)))])
  (.seq (.reg 29 [.p (.L (.loadn 6 (.t .d1 .d0))),
    .p (.H (.store 6 (.t .d0 .d1) (.l 0))),
    .s .d0 .d2 (.L (.mov (.t .d0 .d4))),
    .s .d0 .d3 (.L (.mov (.c (.int .i64 0))))])
  .ret)))))⟩
def i82 : Fun :=
  ⟨1, [0, 2, 12, 11, 13, 10, 5, 8, 7, 34, 6, 3], [.tmp .d0 .d1], (.seq (.reg 1 [.s .d0 .d1 (.L (.mov (.c (.slN))))])
  (.seq (.reg 1 [.s .d1 .d3 (.L (.mov (.c (.slN))))])
  (.seq (.seq (.reg 7 [.s .d0 .d5 (.L (.mov (.t .d0 .d0))),
    .s .d0 .d3 (.L (.len false (.l 0))),
    .s .d0 .d2 (.L (.mov (.c (.int .i64 0))))])
  (.block 0 (.loop (.seq (.reg 1 [.s .d0 .d4 (.L (.bin .lss (.t .d0 .d2) (.t .d0 .d3)))])
  (.seq (.cond (.t .d0 .d4) .skip (.exit 0))
  (.seq (.block 1 (.seq (.reg 15 [.p (.L (.iaddr 2 (.t .d0 .d5) (.t .d0 .d2))),
    .p (.L (.loadn 2 (.l 0))),
    .s .d0 .d6 (.L (.alloc [.str 0 0, .str 0 0])),
    .p (.H (.store 2 (.l 0) (.l 1)))])
  (.seq (.reg 31 [.p (.L (.faddr 0 (.t .d0 .d6))),
    .p (.L (.load (.l 0))),
    .p (.L (.build [.str 0 0, .slN] [(0, 1, (.l 0))])),
    .s .d1 .d2 (.L (.alloc [.str 0 0, .slN])),
    .p (.H (.store 2 (.l 0) (.l 1)))])
  (.seq (.seq (.reg 1015 [.p (.L (.faddr 1 (.t .d0 .d6))),
    .p (.L (.load (.l 0))),
    .p (.H (.call 30 [(.l 0)])),
    .p (.L (.ext 0 (.l 0))),
    .p (.L (.ext 1 (.l 1))),
    .p (.L (.ext 2 (.l 2))),
    .s .d1 .d0 (.L (.alloc [.str 0 0, .int .i64 0, .slN, .slN, .slN])),
    .p (.H (.store 5 (.l 0) (.l 3))),
    .s .d0 .d7 (.L (.mov (.l 3)))])
  (.seq (.reg 506 [.p (.L (.bin .eql (.t .d0 .d7) (.c (.int .i64 0)))),
    .g (.l 0) true (.L (.faddr 0 (.t .d1 .d0))),
    .g (.l 1) true (.L (.load (.l 0))),
    .g (.l 2) true (.L (.faddr 0 (.t .d0 .d6))),
    .g (.l 3) true (.L (.load (.l 0))),
    .g (.l 4) true (.L (.bins .eql (.l 2) (.l 0))),
    .s .d1 .d1 (.L (.pick (.l 5) (.l 0) (.c (.bool false))))])
  (.cond (.t .d1 .d1) (.reg 31 [.p (.L (.faddr 1 (.t .d0 .d6))),
    .p (.L (.load (.l 0))),
    .p (.H (.call 19 [(.l 0)])),
    .p (.L (.faddr 1 (.t .d1 .d2))),
    .p (.H (.store 1 (.l 0) (.l 1)))]) .skip)))
  (.reg 14 [.p (.L (.loadn 2 (.t .d1 .d2))),
    .p (.L (.bsl 2 1 [.str 0 0, .slN] [(0, 2, (.l 0))])),
    .s .d1 .d3 (.H (.append 2 40 (.t .d1 .d3) (.l 0)))])))))
  (.reg 1 [.s .d0 .d2 (.L (.bin .add (.t .d0 .d2) (.c (.int .i64 1))))])))))))
  (.seq (.reg 2 [.s .d0 .d1 (.L (.mov (.t .d1 .d3)))])
  .ret))))⟩
def i83 : Fun :=
  ⟨1, [0, 2, 3, 4, 5, 22, 26, 25, 27, 24, 9, 10, 37, 6, 7, 60, 59, 61, 58, 11, 13, 70, 14, 15, 75], [.tmp .d0 .d1, .tmp .d0 .d2, .tmp .d0 .d3], (.seq (.reg 7 [.s .d0 .d1 (.L (.mov (.c (.slN)))),
    .s .d0 .d2 (.L (.mov (.c (.slN)))),
    .s .d0 .d3 (.L (.mov (.c (.int .i64 0))))])
  (.seq (.reg 2 [.s .d0 .d4 (.H (.call 147 [(.t .d0 .d0)]))])
  (.seq (.seq (.reg 26 [.p (.L (.lenm (.t .d0 .d4))),
    .p (.L (.len false (.t .d0 .d0))),
    .s .d0 .d5 (.L (.bin .lss (.l 1) (.l 0)))])
  (.cond (.t .d0 .d5) (.seq (.reg 7 [.s .d0 .d1 (.L (.mov (.c (.slN)))),
    .s .d0 .d2 (.L (.mov (.c (.slN)))),
    .s .d0 .d3 (.L (.mov (.c (.int .i64 1))))])
  .ret) .skip))
  (.seq (.reg 7 [.p (.L (.mkmap)),
    .s .d1 .d5 (.L (.alloc [.mapN])),
    .p (.H (.store 1 (.l 0) (.l 1)))])
  (.seq (.reg 1 [.s .d1 .d6 (.L (.mov (.c (.slN))))])
  (.seq (.seq (.reg 7 [.s .d1 .d1 (.L (.mov (.t .d0 .d0))),
    .s .d0 .d7 (.L (.len false (.l 0))),
    .s .d0 .d6 (.L (.mov (.c (.int .i64 0))))])
  (.block 0 (.loop (.seq (.reg 1 [.s .d1 .d0 (.L (.bin .lss (.t .d0 .d6) (.t .d0 .d7)))])
  (.seq (.cond (.t .d1 .d0) .skip (.exit 0))
  (.seq (.block 1 (.seq (.reg 15 [.p (.L (.iaddr 2 (.t .d1 .d1) (.t .d0 .d6))),
    .p (.L (.loadn 2 (.l 0))),
    .s .d1 .d2 (.L (.alloc [.str 0 0, .slN])),
    .p (.H (.store 2 (.l 0) (.l 1)))])
  (.seq (.reg 14 [.p (.L (.faddr 0 (.t .d1 .d2))),
    .p (.L (.load (.l 0))),
    .s .d1 .d3 (.H (.call 148 [(.t .d0 .d4), (.l 0)]))])
  (.seq (.reg 14 [.p (.L (.faddr 0 (.t .d1 .d2))),
    .p (.L (.load (.l 0))),
    .s .d1 .d4 (.L (.lookup .str (.bool false) false (.t .d1 .d3) (.l 0)))])
  (.cond (.t .d1 .d4) (.reg 30 [.p (.L (.faddr 0 (.t .d1 .d2))),
    .p (.L (.load (.l 0))),
    .p (.L (.bsl 1 1 [.str 0 0] [(0, 1, (.l 0))])),
    .s .d0 .d2 (.H (.append 1 16 (.t .d0 .d2) (.l 0)))]) (.seq (.reg 23 [.p (.L (.load (.t .d1 .d5))),
    .p (.L (.faddr 0 (.t .d1 .d2))),
    .p (.L (.load (.l 0))),
    .p (.H (.mupd .str (.l 2) (.l 0) (.t .d1 .d3)))])
  (.reg 30 [.p (.L (.faddr 0 (.t .d1 .d2))),
    .p (.L (.load (.l 0))),
    .p (.L (.bsl 1 1 [.str 0 0] [(0, 1, (.l 0))])),
    .s .d1 .d6 (.H (.append 1 16 (.t .d1 .d6) (.l 0)))])))))))
  (.reg 1 [.s .d0 .d6 (.L (.bin .add (.t .d0 .d6) (.c (.int .i64 1))))])))))))
  (.seq (.reg 2 [.p (.H (.call 149 [(.t .d0 .d2)]))])
  (.seq (.reg 2 [.p (.H (.call 149 [(.t .d1 .d6)]))])
  (.seq (.reg 7 [.p (.L (.mkmap)),
    .s .d2 .d3 (.L (.alloc [.mapN])),
    .p (.H (.store 1 (.l 0) (.l 1)))])
  (.seq (.seq (.reg 7 [.s .d2 .d2 (.L (.mov (.t .d0 .d2))),
    .s .d2 .d0 (.L (.len false (.l 0))),
    .s .d1 .d7 (.L (.mov (.c (.int .i64 0))))])
  (.block 2 (.loop (.seq (.reg 1 [.s .d2 .d1 (.L (.bin .lss (.t .d1 .d7) (.t .d2 .d0)))])
  (.seq (.cond (.t .d2 .d1) .skip (.exit 2))
  (.seq (.block 3 (.seq (.reg 3 [.p (.L (.iaddr 1 (.t .d2 .d2) (.t .d1 .d7))),
    .s .d2 .d4 (.L (.load (.l 0)))])
  (.reg 5 [.p (.L (.load (.t .d2 .d3))),
    .p (.H (.mupd .str (.l 0) (.t .d2 .d4) (.c (.bool true))))])))
  (.reg 1 [.s .d1 .d7 (.L (.bin .add (.t .d1 .d7) (.c (.int .i64 1))))])))))))
  (.seq (.reg 1 [.s .d2 .d6 (.L (.fn 150 [] [(.t .d1 .d5), (.t .d2 .d3)]))])
  (.seq (.block 4 (.loop (.seq (.seq (.reg 6 [.p (.L (.len false (.t .d1 .d6))),
    .s .d2 .d5 (.L (.bin .gtr (.l 0) (.c (.int .i64 0))))])
  (.cond (.t .d2 .d5) .skip (.exit 4)))
  (.block 5 (.seq (.reg 4 [.s .d2 .d7 (.H (.call 151 [(.t .d1 .d6), (.t .d2 .d6)]))])
  (.seq (.seq (.reg 2 [.s .d3 .d0 (.L (.bin .lss (.t .d2 .d7) (.c (.int .i64 0))))])
  (.cond (.t .d3 .d0) (.exit 4) .skip))
  (.seq (.draw [0, 1, 2, 3, 4, 5] [⟨.p (.L (.load (.t .d2 .d3))), []⟩,
    ⟨.p (.L (.mov (.t .d1 .d6))), []⟩,
    ⟨.p (.L (.mov (.t .d2 .d7))), []⟩,
    ⟨.p (.L (.iaddr 1 (.l 1) (.l 0))), []⟩,
    ⟨.p (.L (.load (.l 0))), []⟩,
    ⟨.p (.H (.mupd .str (.l 4) (.l 0) (.c (.bool true)))), []⟩])
  (.seq (.reg 120 [.p (.L (.iaddr 1 (.t .d1 .d6) (.t .d2 .d7))),
    .p (.L (.load (.l 0))),
    .p (.L (.bsl 1 1 [.str 0 0] [(0, 1, (.l 0))])),
    .s .d0 .d1 (.H (.append 1 16 (.t .d0 .d1) (.l 0)))])
  (.reg 24 [.p (.L (.bin .add (.t .d2 .d7) (.c (.int .i64 1)))),
    .s .d1 .d6 (.H (.call 152 [(.t .d1 .d6), (.t .d2 .d7), (.l 0)]))])))))))))
  (.seq (.reg 16 [.s .d0 .d3 (.L (.mov (.c (.int .i64 0))))])
  .ret)))))))))))))⟩
def i84 : Fun :=
  ⟨2, [0, 1, 4, 24, 23, 25, 22, 8, 35], [], (.seq (.reg 16110 [.p (.L (.nilck (.t .d0 .d0))),
    .p (.L (.faddr 0 (.l 0))),
    .p (.L (.load (.l 0))),
    .p (.L (.lookup .str (.agg [.str 0 0, .str 0 0]) false (.l 0) (.t .d0 .d1))),
    .p (.L (.field 1 1 false (.l 0))),
    .p (.H (.call 30 [(.l 0)])),
    .p (.L (.ext 0 (.l 0))),
    .p (.L (.ext 1 (.l 1))),
    .p (.L (.ext 2 (.l 2))),
    .s .d0 .d2 (.L (.alloc [.str 0 0, .int .i64 0, .slN, .slN, .slN])),
    .p (.H (.store 5 (.l 0) (.l 3)))])
  (.seq (.reg 15 [.p (.L (.faddr 2 (.t .d0 .d2))),
    .s .d0 .d6 (.L (.load (.l 0))),
    .s .d0 .d4 (.L (.len false (.l 0))),
    .s .d0 .d3 (.L (.mov (.c (.int .i64 0))))])
  (.block 0 (.loop (.seq (.reg 1 [.s .d0 .d5 (.L (.bin .lss (.t .d0 .d3) (.t .d0 .d4)))])
  (.seq (.cond (.t .d0 .d5) .skip (.exit 0))
  (.seq (.block 1 (.seq (.reg 15 [.p (.L (.iaddr 2 (.t .d0 .d6) (.t .d0 .d3))),
    .p (.L (.loadn 2 (.l 0))),
    .s .d0 .d7 (.L (.alloc [.str 0 0, .int .i64 0])),
    .p (.H (.store 2 (.l 0) (.l 1)))])
  (.seq (.draw [0, 1, 2, 3, 4, 5, 6, 7] [⟨.p (.L (.mov (.t .d0 .d0))), []⟩,
    ⟨.p (.L (.nilck (.l 0))), []⟩,
    ⟨.p (.L (.faddr 1 (.l 0))), []⟩,
    ⟨.p (.L (.load (.l 0))), []⟩,
    ⟨.p (.L (.faddr 0 (.t .d0 .d7))), []⟩,
    ⟨.p (.L (.load (.l 0))), []⟩,
    ⟨.p (.L (.mov (.t .d0 .d1))), []⟩,
    ⟨.s .d1 .d0 (.H (.call 153 [(.l 3), (.l 1), (.l 0)])), []⟩])
  (.cond (.t .d1 .d0) (.draw [0, 1, 2, 3, 4, 5, 6, 7, 8, 9, 10, 11, 12, 13, 14, 15] [⟨.p (.L (.mov (.t .d0 .d0))), []⟩,
    ⟨.p (.L (.mov (.t .d0 .d0))), []⟩,
    ⟨.p (.L (.nilck (.l 0))), []⟩,
    ⟨.p (.L (.faddr 3 (.l 0))), []⟩,
    ⟨.p (.L (.load (.l 0))), []⟩,
    ⟨.p (.L (.mov (.t .d0 .d1))), []⟩,
    ⟨.p (.L (.faddr 1 (.t .d0 .d7))), []⟩,
    ⟨.p (.L (.load (.l 0))), []⟩,
    ⟨.p (.L (.faddr 0 (.t .d0 .d7))), []⟩,
    ⟨.p (.L (.load (.l 0))), []⟩,
    ⟨.p (.L (.build [.str 0 0, .int .i64 0, .int .i64 0, .str 0 0] [(0, 1, (.l 4)), (1, 1, (.l 2)), (2, 1, (.c (.int .i64 4))), (3, 1, (.l 0))])), []⟩,
    ⟨.p (.L (.bsl 4 1 [.str 0 0, .int .i64 0, .int .i64 0, .str 0 0] [(0, 4, (.l 0))])), []⟩,
    ⟨.p (.H (.append 4 48 (.l 7) (.l 0))), []⟩,
    ⟨.p (.L (.nilck (.l 12))), []⟩,
    ⟨.p (.L (.faddr 3 (.l 0))), []⟩,
    ⟨.p (.H (.store 1 (.l 0) (.l 2))), []⟩]) .skip))))
  (.reg 1 [.s .d0 .d3 (.L (.bin .add (.t .d0 .d3) (.c (.int .i64 1))))]))))))))⟩
def i85 : Fun :=
  ⟨3, [0, 1, 2, 6, 7, 38, 37, 39, 36, 13, 15, 53, 11, 8, 81, 16, 10, 19, 18, 17, 116, 115, 117, 114, 21, 129], [], (.seq (.reg 238 [.p (.L (.nilck (.t .d0 .d0))),
    .p (.L (.faddr 0 (.l 0))),
    .p (.L (.load (.l 0))),
    .p (.L (.lookup .str (.agg [.str 0 0, .str 0 0]) false (.l 0) (.t .d0 .d1))),
    .s .d0 .d3 (.L (.alloc [.str 0 0, .str 0 0])),
    .p (.H (.store 2 (.l 0) (.l 1)))])
  (.seq (.reg 1015 [.p (.L (.faddr 1 (.t .d0 .d3))),
    .p (.L (.load (.l 0))),
    .p (.H (.call 30 [(.l 0)])),
    .p (.L (.ext 0 (.l 0))),
    .p (.L (.ext 1 (.l 1))),
    .p (.L (.ext 2 (.l 2))),
    .s .d0 .d4 (.L (.alloc [.str 0 0, .int .i64 0, .slN, .slN, .slN])),
    .p (.H (.store 5 (.l 0) (.l 3))),
    .s .d1 .d5 (.L (.mov (.l 3)))])
  (.seq (.reg 1 [.s .d2 .d0 (.L (.mov (.c (.slN))))])
  (.seq (.reg 1 [.s .d1 .d4 (.L (.mov (.c (.slN))))])
  (.seq (.seq (.reg 15 [.p (.L (.faddr 2 (.t .d0 .d4))),
    .s .d1 .d0 (.L (.load (.l 0))),
    .s .d0 .d6 (.L (.len false (.l 0))),
    .s .d0 .d5 (.L (.mov (.c (.int .i64 0))))])
  (.block 0 (.loop (.seq (.reg 1 [.s .d0 .d7 (.L (.bin .lss (.t .d0 .d5) (.t .d0 .d6)))])
  (.seq (.cond (.t .d0 .d7) .skip (.exit 0))
  (.seq (.block 1 (.seq (.reg 15 [.p (.L (.iaddr 2 (.t .d1 .d0) (.t .d0 .d5))),
    .p (.L (.loadn 2 (.l 0))),
    .s .d1 .d1 (.L (.alloc [.str 0 0, .int .i64 0])),
    .p (.H (.store 2 (.l 0) (.l 1)))])
  (.seq (.seq (.draw [0, 1, 2, 3, 4, 5, 6, 7, 8, 9, 10, 11, 12] [⟨.p (.L (.mov (.t .d0 .d0))), []⟩,
    ⟨.p (.L (.nilck (.l 0))), []⟩,
    ⟨.p (.L (.faddr 0 (.l 0))), []⟩,
    ⟨.p (.L (.load (.l 0))), []⟩,
    ⟨.p (.L (.faddr 0 (.t .d1 .d1))), []⟩,
    ⟨.p (.L (.load (.l 0))), []⟩,
    ⟨.p (.L (.lookup .str (.agg [.str 0 0, .str 0 0]) true (.l 2) (.l 0))), []⟩,
    ⟨.p (.L (.mov (.l 0))), []⟩,
    ⟨.p (.L (.ext 0 (.l 0))), []⟩,
    ⟨.p (.L (.ext 1 (.l 1))), []⟩,
    ⟨.p (.L (.alloc [.str 0 0, .str 0 0])), []⟩,
    ⟨.p (.H (.store 2 (.l 0) (.l 2))), []⟩,
    ⟨.s .d1 .d2 (.L (.mov (.l 2))), []⟩])
  (.seq (.reg 2 [.s .d1 .d3 (.L (.not (.t .d1 .d2)))])
  (.cond (.t .d1 .d3) (.seq (.reg 30 [.p (.L (.faddr 0 (.t .d1 .d1))),
    .p (.L (.load (.l 0))),
    .p (.L (.bsl 1 1 [.str 0 0] [(0, 1, (.l 0))])),
    .s .d1 .d4 (.H (.append 1 16 (.t .d1 .d4) (.l 0)))])
  (.draw [0, 1, 2, 3, 4, 5, 6, 7, 8, 9, 10, 11, 12, 13, 14, 15] [⟨.p (.L (.mov (.t .d0 .d0))), []⟩,
    ⟨.p (.L (.mov (.t .d0 .d0))), []⟩,
    ⟨.p (.L (.nilck (.l 0))), []⟩,
    ⟨.p (.L (.faddr 3 (.l 0))), []⟩,
    ⟨.p (.L (.load (.l 0))), []⟩,
    ⟨.p (.L (.mov (.t .d0 .d1))), []⟩,
    ⟨.p (.L (.faddr 1 (.t .d1 .d1))), []⟩,
    ⟨.p (.L (.load (.l 0))), []⟩,
    ⟨.p (.L (.faddr 0 (.t .d1 .d1))), []⟩,
    ⟨.p (.L (.load (.l 0))), []⟩,
    ⟨.p (.L (.build [.str 0 0, .int .i64 0, .int .i64 0, .str 0 0] [(0, 1, (.l 4)), (1, 1, (.l 2)), (2, 1, (.c (.int .i64 3))), (3, 1, (.l 0))])), []⟩,
    ⟨.p (.L (.bsl 4 1 [.str 0 0, .int .i64 0, .int .i64 0, .str 0 0] [(0, 4, (.l 0))])), []⟩,
    ⟨.p (.H (.append 4 48 (.l 7) (.l 0))), []⟩,
    ⟨.p (.L (.nilck (.l 12))), []⟩,
    ⟨.p (.L (.faddr 3 (.l 0))), []⟩,
    ⟨.p (.H (.store 1 (.l 0) (.l 2))), []⟩])) .skip)))
  (.seq (.reg 250 [.p (.L (.bin .eql (.t .d1 .d5) (.c (.int .i64 0)))),
    .g (.l 0) true (.L (.faddr 0 (.t .d0 .d4))),
    .g (.l 1) true (.L (.load (.l 0))),
    .g (.l 2) true (.L (.mov (.t .d0 .d1))),
    .g (.l 3) true (.L (.bins .eql (.l 1) (.l 0))),
    .s .d1 .d6 (.L (.pick (.l 4) (.l 0) (.c (.bool false))))])
  (.cond (.t .d1 .d6) (.seq (.draw [0, 1, 2, 3, 4, 5, 6, 7, 8] [⟨.p (.L (.mov (.t .d0 .d0))), []⟩,
    ⟨.p (.L (.nilck (.l 0))), []⟩,
    ⟨.p (.L (.faddr 2 (.l 0))), []⟩,
    ⟨.p (.L (.load (.l 0))), []⟩,
    ⟨.p (.L (.faddr 0 (.t .d1 .d1))), []⟩,
    ⟨.p (.L (.load (.l 0))), []⟩,
    ⟨.p (.L (.lookup .str (.agg [.str 0 0, .bool false, .slN, .slN]) false (.l 2) (.l 0))), []⟩,
    ⟨.s .d1 .d7 (.L (.alloc [.str 0 0, .bool false, .slN, .slN])), []⟩,
    ⟨.p (.H (.store 4 (.l 0) (.l 1))), []⟩])
  (.seq (.reg 15 [.p (.L (.faddr 0 (.t .d1 .d1))),
    .p (.L (.load (.l 0))),
    .p (.L (.faddr 0 (.t .d1 .d7))),
    .p (.H (.store 1 (.l 0) (.l 1)))])
  (.reg 14 [.p (.L (.loadn 4 (.t .d1 .d7))),
    .p (.L (.bsl 4 1 [.str 0 0, .bool false, .slN, .slN] [(0, 4, (.l 0))])),
    .s .d2 .d0 (.H (.append 4 72 (.t .d2 .d0) (.l 0)))]))) .skip)))))
  (.reg 1 [.s .d0 .d5 (.L (.bin .add (.t .d0 .d5) (.c (.int .i64 1))))])))))))
  (.seq (.reg 4074 [.p (.L (.loadn 2 (.t .d0 .d3))),
    .p (.H (.callv (.t .d0 .d2) [(.l 0), (.t .d2 .d0)])),
    .p (.L (.ext 0 (.l 0))),
    .p (.L (.ext 1 (.l 1))),
    .p (.L (.ext 2 (.l 2))),
    .s .d2 .d2 (.L (.alloc [.slN, .slN])),
    .s .d2 .d3 (.L (.mov (.l 3))),
    .p (.H (.store 2 (.l 1) (.l 3))),
    .s .d2 .d1 (.L (.mov (.l 3)))])
  (.seq (.draw [0, 1, 2, 3, 4, 5, 6, 7, 8, 9] [⟨.p (.L (.mov (.t .d0 .d0))), []⟩,
    ⟨.p (.L (.nilck (.l 0))), []⟩,
    ⟨.p (.L (.faddr 2 (.l 0))), []⟩,
    ⟨.p (.L (.load (.l 0))), []⟩,
    ⟨.p (.L (.mov (.t .d0 .d1))), []⟩,
    ⟨.p (.L (.mov (.t .d0 .d1))), []⟩,
    ⟨.p (.L (.mov (.t .d2 .d1))), []⟩,
    ⟨.p (.L (.loadn 2 (.t .d2 .d2))), []⟩,
    ⟨.p (.L (.build [.str 0 0, .bool false, .slN, .slN] [(0, 1, (.l 2)), (1, 1, (.l 1)), (2, 2, (.l 0))])), []⟩,
    ⟨.p (.H (.mupd .str (.l 5) (.l 4) (.l 0))), []⟩])
  (.seq (.reg 7 [.s .d2 .d7 (.L (.mov (.t .d2 .d3))),
    .s .d2 .d5 (.L (.len false (.l 0))),
    .s .d2 .d4 (.L (.mov (.c (.int .i64 0))))])
  (.block 2 (.loop (.seq (.reg 1 [.s .d2 .d6 (.L (.bin .lss (.t .d2 .d4) (.t .d2 .d5)))])
  (.seq (.cond (.t .d2 .d6) .skip (.exit 2))
  (.seq (.block 3 (.seq (.reg 15 [.p (.L (.iaddr 4 (.t .d2 .d7) (.t .d2 .d4))),
    .p (.L (.loadn 4 (.l 0))),
    .s .d3 .d0 (.L (.alloc [.str 0 0, .int .i64 0, .int .i64 0, .str 0 0])),
    .p (.H (.store 4 (.l 0) (.l 1)))])
  (.seq (.reg 1015 [.p (.L (.faddr 2 (.t .d3 .d0))),
    .p (.L (.load (.l 0))),
    .p (.L (.bin .neq (.l 0) (.c (.int .i64 5)))),
    .g (.l 0) false (.L (.mov (.t .d1 .d4))),
    .g (.l 1) false (.L (.faddr 3 (.t .d3 .d0))),
    .g (.l 2) false (.L (.load (.l 0))),
    .g (.l 3) false (.H (.call 137 [(.l 2), (.l 0)])),
    .g (.l 4) false (.L (.not (.l 0))),
    .s .d3 .d1 (.L (.pick (.l 5) (.c (.bool true)) (.l 0)))])
  (.cond (.t .d3 .d1) (.draw [0, 1, 2, 3, 4, 5, 6, 7, 8, 9, 10] [⟨.p (.L (.mov (.t .d0 .d0))), []⟩,
    ⟨.p (.L (.mov (.t .d0 .d0))), []⟩,
    ⟨.p (.L (.nilck (.l 0))), []⟩,
    ⟨.p (.L (.faddr 3 (.l 0))), []⟩,
    ⟨.p (.L (.load (.l 0))), []⟩,
    ⟨.p (.L (.loadn 4 (.t .d3 .d0))), []⟩,
    ⟨.p (.L (.bsl 4 1 [.str 0 0, .int .i64 0, .int .i64 0, .str 0 0] [(0, 4, (.l 0))])), []⟩,
    ⟨.p (.H (.append 4 48 (.l 2) (.l 0))), []⟩,
    ⟨.p (.L (.nilck (.l 7))), []⟩,
    ⟨.p (.L (.faddr 3 (.l 0))), []⟩,
    ⟨.p (.H (.store 1 (.l 0) (.l 2))), []⟩]) .skip))))
  (.reg 1 [.s .d2 .d4 (.L (.bin .add (.t .d2 .d4) (.c (.int .i64 1))))]))))))))))))))⟩
def i86 : Fun :=
  ⟨1, [0, 2, 3], [.tmp .d0 .d1], (.seq (.reg 1 [.s .d0 .d1 (.L (.mov (.c (.slN))))])
  (.seq (.reg 6 [.p (.H (.call 155 [(.t .d0 .d0), (.c (.fn 156 [] []))])),
    .s .d0 .d2 (.H (.call 154 [(.l 0)]))])
  (.seq (.reg 52 [.p (.L (.len false (.t .d0 .d2))),
    .p (.L (.len false (.t .d0 .d2))),
    .s .d0 .d1 (.L (.ssl 4 (.t .d0 .d2) none (some (.l 1)) (some (.l 0))))])
  .ret)))⟩
def i108 : Fun :=
  ⟨1, [0, 2, 3, 4, 5, 1, 17, 9, 32, 49, 6, 54, 11, 64, 31, 12, 78, 8, 10, 7], [.tmp .d0 .d1, .tmp .d0 .d2, .tmp .d0 .d3], (.seq (.reg 15 [.s .d0 .d5 (.L (.box 1 (.t .d0 .d0))),
    .s .d0 .d1 (.L (.mov (.c (.slN)))),
    .s .d0 .d2 (.L (.mov (.c (.int .i64 0)))),
    .s .d0 .d3 (.L (.mov (.c (.int .i64 0))))])
  (.seq (.reg 3 [.s .d0 .d4 (.L (.alloc [.int .i64 0])),
    .p (.H (.store 1 (.l 0) (.c (.int .i64 0))))])
  (.seq (.reg 1 [.s .d1 .d2 (.L (.fn 161 [] [(.t .d0 .d4), (.t .d0 .d5)]))])
  (.seq (.reg 1 [.s .d2 .d3 (.L (.mov (.c (.slN))))])
  (.seq (.block 0 (.loop (.seq (.seq (.reg 15 [.p (.L (.load (.t .d0 .d4))),
    .p (.L (.load (.t .d0 .d5))),
    .p (.L (.len true (.l 0))),
    .s .d0 .d6 (.L (.bin .lss (.l 2) (.l 0)))])
  (.cond (.t .d0 .d6) .skip (.exit 0)))
  (.block 1 (.seq (.draw [0, 1, 2, 3, 4, 5] [⟨.p (.L (.load (.t .d0 .d4))), []⟩,
    ⟨.p (.L (.load (.t .d0 .d5))), []⟩,
    ⟨.p (.L (.load (.t .d0 .d4))), []⟩,
    ⟨.p (.L (.istr (.l 1) (.l 0))), []⟩,
    ⟨.s .d2 .d1 (.L (.mov (.l 3))), []⟩,
    ⟨.s .d0 .d7 (.L (.mov (.l 1))), []⟩])
  (.seq (.reg 7 [.s .d2 .d2 (.L (.mov (.c (.int .i64 0)))),
    .s .d1 .d4 (.L (.mov (.c (.str 0 0)))),
    .s .d1 .d7 (.L (.mov (.c (.int .i64 0))))])
  (.seq (.block 2 (.seq (.reg 15290 [.p (.L (.bin .eql (.t .d0 .d7) (.c (.int .u8 32)))),
    .g (.l 0) false (.L (.mov (.t .d0 .d7))),
    .g (.l 1) false (.L (.bin .eql (.l 0) (.c (.int .u8 9)))),
    .p (.L (.pick (.l 2) (.c (.bool true)) (.l 0))),
    .g (.l 0) false (.L (.mov (.t .d0 .d7))),
    .g (.l 1) false (.L (.bin .eql (.l 0) (.c (.int .u8 10)))),
    .p (.L (.pick (.l 2) (.c (.bool true)) (.l 0))),
    .g (.l 0) false (.L (.mov (.t .d0 .d7))),
    .g (.l 1) false (.L (.bin .eql (.l 0) (.c (.int .u8 13)))),
    .s .d1 .d0 (.L (.pick (.l 2) (.c (.bool true)) (.l 0)))])
  (.cond (.t .d1 .d0) (.seq (.reg 7 [.p (.L (.load (.t .d0 .d4))),
    .p (.L (.bin .add (.l 0) (.c (.int .i64 1)))),
    .p (.H (.store 1 (.t .d0 .d4) (.l 0)))])
  (.exit 1)) (.seq (.reg 2 [.s .d1 .d1 (.L (.bin .eql (.t .d0 .d7) (.c (.int .u8 35))))])
  (.cond (.t .d1 .d1) (.seq (.reg 2 [.p (.H (.callv (.t .d1 .d2) [(.c (.fn 162 [] []))]))])
  (.exit 1)) (.seq (.reg 2 [.s .d1 .d3 (.H (.call 163 [(.t .d0 .d7)]))])
  (.cond (.t .d1 .d3) (.seq (.reg 2 [.s .d1 .d4 (.H (.callv (.t .d1 .d2) [(.c (.fn 164 [] []))]))])
  (.reg 122 [.p (.H (.call 165 [(.t .d1 .d4)])),
    .p (.L (.ext 0 (.l 0))),
    .p (.L (.ext 1 (.l 1))),
    .s .d2 .d2 (.L (.mov (.l 1))),
    .s .d1 .d7 (.L (.mov (.l 1)))])) (.seq (.reg 2 [.s .d1 .d5 (.H (.call 166 [(.t .d0 .d7)]))])
  (.cond (.t .d1 .d5) (.seq (.reg 2 [.s .d1 .d4 (.H (.callv (.t .d1 .d2) [(.c (.fn 166 [] []))]))])
  (.reg 990 [.p (.L (.load (.t .d0 .d5))),
    .p (.L (.load (.t .d0 .d4))),
    .p (.L (.sstr (.l 1) (some (.l 0)) none)),
    .p (.H (.call 167 [(.t .d1 .d4), (.l 0)])),
    .p (.L (.ext 0 (.l 0))),
    .p (.L (.ext 1 (.l 1))),
    .s .d2 .d2 (.L (.mov (.l 1))),
    .s .d1 .d7 (.L (.mov (.l 1)))])) (.seq (.reg 63 [.p (.L (.load (.t .d0 .d5))),
    .p (.L (.load (.t .d0 .d4))),
    .p (.L (.sstr (.l 1) (some (.l 0)) none)),
    .p (.H (.call 168 [(.l 0)])),
    .s .d2 .d2 (.L (.mov (.c (.int .i64 4)))),
    .s .d1 .d4 (.L (.mov (.l 1)))])
  (.seq (.reg 29 [.p (.L (.load (.t .d0 .d4))),
    .p (.L (.len true (.t .d1 .d4))),
    .p (.L (.bin .add (.l 1) (.l 0))),
    .p (.H (.store 1 (.t .d0 .d4) (.l 0)))])
  (.seq (.reg 2 [.s .d1 .d6 (.L (.bins .eql (.t .d1 .d4) (.c (.str 0 0))))])
  (.cond (.t .d1 .d6) (.reg 1 [.s .d1 .d7 (.L (.mov (.c (.int .i64 10))))]) .skip)))))))))))))
  (.seq (.seq (.reg 2 [.s .d2 .d0 (.L (.bin .neq (.t .d1 .d7) (.c (.int .i64 0))))])
  (.cond (.t .d2 .d0) (.seq (.reg 28 [.s .d0 .d1 (.L (.mov (.c (.slN)))),
    .s .d0 .d2 (.L (.mov (.t .d1 .d7))),
    .s .d0 .d3 (.L (.mov (.t .d2 .d1)))])
  .ret) .skip))
  (.reg 112 [.p (.L (.build [.int .i64 0, .str 0 0, .int .i64 0] [(0, 1, (.t .d2 .d2)), (1, 1, (.t .d1 .d4)), (2, 1, (.t .d2 .d1))])),
    .p (.L (.bsl 3 1 [.int .i64 0, .str 0 0, .int .i64 0] [(0, 3, (.l 0))])),
    .s .d2 .d3 (.H (.append 3 32 (.t .d2 .d3) (.l 0)))])))))))))
  (.seq (.reg 446 [.p (.L (.load (.t .d0 .d5))),
    .p (.L (.len true (.l 0))),
    .p (.L (.build [.int .i64 0, .str 0 0, .int .i64 0] [(0, 1, (.c (.int .i64 0))), (2, 1, (.l 0))])),
    .p (.L (.bsl 3 1 [.int .i64 0, .str 0 0, .int .i64 0] [(0, 3, (.l 0))])),
    .s .d0 .d1 (.H (.append 3 32 (.t .d2 .d3) (.l 0))),
    .s .d0 .d2 (.L (.mov (.c (.int .i64 0)))),
    .s .d0 .d3 (.L (.mov (.c (.int .i64 0))))])
  .ret))))))⟩
def i110 : Fun :=
  ⟨1, [0, 2, 15, 3, 32, 34], [.cell .d0 .d1 (some 5)], (.seq (.reg 1 [.s .d0 .d1 (.L (.alloc [.str 0 0, .int .i64 0, .slN, .slN, .slN]))])
  (.seq (.reg 2 [.p (.H (.call 170 [(.t .d0 .d0), (.c (.str 6 111516500389741))]))])
  (.seq (.reg 246 [.p (.H (.call 171 [(.t .d0 .d0)])),
    .p (.L (.field 2 1 false (.l 0))),
    .p (.H (.call 172 [(.t .d0 .d0)])),
    .p (.L (.build [.str 0 0, .int .i64 0, .slN, .slN, .slN] [(1, 1, (.l 1)), (0, 1, (.l 0))])),
    .s .d0 .d3 (.L (.alloc [.str 0 0, .int .i64 0, .slN, .slN, .slN])),
    .p (.H (.store 5 (.l 0) (.l 1)))])
  (.seq (.reg 2 [.p (.H (.call 170 [(.t .d0 .d0), (.c (.str 1 59))]))])
  (.seq (.block 0 (.loop (.seq (.seq (.reg 2 [.s .d0 .d2 (.H (.call 173 [(.t .d0 .d0), (.c (.str 6 128034844732777))]))])
  (.cond (.t .d0 .d2) .skip (.exit 0)))
  (.block 1 (.seq (.draw [0, 1, 2, 5, 3, 4, 6, 7, 8, 9, 10, 11] [⟨.p (.L (.faddr 2 (.t .d0 .d3))), []⟩,
    ⟨.p (.L (.load (.l 0))), []⟩,
    ⟨.p (.L (.mov (.t .d0 .d0))), []⟩,
    ⟨.p (.L (.mov (.t .d0 .d0))), []⟩,
    ⟨.p (.H (.call 171 [(.l 1)])), [2]⟩,
    ⟨.p (.L (.field 2 1 false (.l 0))), []⟩,
    ⟨.p (.H (.call 172 [(.l 2)])), [4]⟩,
    ⟨.p (.L (.build [.str 0 0, .int .i64 0] [(1, 1, (.l 1)), (0, 1, (.l 0))])), []⟩,
    ⟨.p (.L (.bsl 2 1 [.str 0 0, .int .i64 0] [(0, 2, (.l 0))])), []⟩,
    ⟨.p (.H (.append 2 24 (.l 7) (.l 0))), []⟩,
    ⟨.p (.L (.faddr 2 (.t .d0 .d3))), []⟩,
    ⟨.p (.H (.store 1 (.l 0) (.l 1))), []⟩])
  (.reg 2 [.p (.H (.call 170 [(.t .d0 .d0), (.c (.str 1 59))]))]))))))
  (.seq (.block 2 (.loop (.seq (.seq (.reg 14 [.p (.H (.call 171 [(.t .d0 .d0)])),
    .p (.L (.field 0 1 false (.l 0))),
    .s .d0 .d4 (.L (.bin .neq (.l 0) (.c (.int .i64 0))))])
  (.cond (.t .d0 .d4) .skip (.exit 2)))
  (.block 3 (.seq (.reg 2 [.s .d0 .d5 (.H (.call 173 [(.t .d0 .d0), (.c (.str 3 7496054))]))])
  (.cond (.t .d0 .d5) (.draw [0, 1, 2, 3, 4, 5, 6, 7] [⟨.p (.L (.faddr 3 (.t .d0 .d3))), []⟩,
    ⟨.p (.L (.load (.l 0))), []⟩,
    ⟨.p (.L (.mov (.t .d0 .d0))), []⟩,
    ⟨.p (.H (.call 174 [(.l 0)])), [1]⟩,
    ⟨.p (.L (.bsl 4 1 [.str 0 0, .str 0 0, .int .i64 0, .int .i64 0] [(0, 4, (.l 0))])), []⟩,
    ⟨.p (.H (.append 4 48 (.l 3) (.l 0))), []⟩,
    ⟨.p (.L (.faddr 3 (.t .d0 .d3))), []⟩,
    ⟨.p (.H (.store 1 (.l 0) (.l 1))), []⟩]) (.seq (.reg 2 [.p (.H (.call 170 [(.t .d0 .d0), (.c (.str 4 1668248176))]))])
  (.draw [0, 1, 2, 3, 4, 5, 6, 7] [⟨.p (.L (.faddr 4 (.t .d0 .d3))), []⟩,
    ⟨.p (.L (.load (.l 0))), []⟩,
    ⟨.p (.L (.mov (.t .d0 .d0))), []⟩,
    ⟨.p (.H (.call 175 [(.l 0)])), [1]⟩,
    ⟨.p (.L (.bsl 8 1 [.str 0 0, .slN, .bool false, .str 0 0, .str 0 0, .slN, .slN, .int .i64 0] [(0, 8, (.l 0))])), []⟩,
    ⟨.p (.H (.append 8 136 (.l 3) (.l 0))), []⟩,
    ⟨.p (.L (.faddr 4 (.t .d0 .d3))), []⟩,
    ⟨.p (.H (.store 1 (.l 0) (.l 1))), []⟩]))))))))
  (.seq (.reg 3 [.p (.L (.loadn 5 (.t .d0 .d3))),
    .p (.H (.store 5 (.t .d0 .d1) (.l 0)))])
  .ret)))))))⟩
def i111 : Fun :=
  ⟨2, [0, 1, 4, 11, 17, 23, 6, 7, 5, 34, 9], [.tmp .d0 .d2], (.seq (.reg 1 [.s .d0 .d2 (.L (.mov (.c (.str 0 0))))])
  (.seq (.seq (.reg 2 [.s .d0 .d3 (.L (.bin .eql (.t .d0 .d1) (.c (.int .i64 10))))])
  (.cond (.t .d0 .d3) (.seq (.seq (.reg 58 [.p (.L (.bin .leq (.c (.int .i64 0)) (.t .d0 .d0))),
    .g (.l 0) true (.L (.mov (.t .d0 .d0))),
    .g (.l 1) true (.L (.bin .lss (.l 0) (.c (.int .i64 100)))),
    .s .d0 .d4 (.L (.pick (.l 2) (.l 0) (.c (.bool false))))])
  (.cond (.t .d0 .d4) (.seq (.reg 2 [.s .d0 .d2 (.H (.call 176 [(.t .d0 .d0)]))])
  .ret) .skip))
  (.seq (.reg 1 [.s .d1 .d0 (.L (.alloc [.int .u8 0, .int .u8 0, .int .u8 0, .int .u8 0, .int .u8 0, .int .u8 0, .int .u8 0, .int .u8 0, .int .u8 0, .int .u8 0, .int .u8 0, .int .u8 0, .int .u8 0, .int .u8 0, .int .u8 0, .int .u8 0, .int .u8 0, .int .u8 0, .int .u8 0, .int .u8 0, .int .u8 0, .int .u8 0, .int .u8 0, .int .u8 0]))])
  (.seq (.reg 2 [.s .d0 .d6 (.L (.conv .u64 (.t .d0 .d0)))])
  (.seq (.seq (.reg 2 [.s .d0 .d5 (.L (.bin .lss (.t .d0 .d0) (.c (.int .i64 0))))])
  (.cond (.t .d0 .d5) (.reg 2 [.s .d0 .d6 (.L (.neg (.t .d0 .d6)))]) .skip))
  (.seq (.reg 2 [.s .d0 .d7 (.H (.call 177 [(.t .d0 .d6)]))])
  (.seq (.reg 22 [.p (.L (.bin .add (.c (.int .i64 1)) (.t .d0 .d7))),
    .p (.L (.sarr 24 1 (.t .d1 .d0) (some (.c (.int .i64 1))) (some (.l 0)) none)),
    .p (.H (.call 178 [(.l 0), (.t .d0 .d6)]))])
  (.seq (.seq (.reg 2 [.s .d1 .d1 (.L (.bin .lss (.t .d0 .d0) (.c (.int .i64 0))))])
  (.cond (.t .d1 .d1) (.seq (.reg 3 [.p (.L (.iarr 24 1 (.t .d1 .d0) (.c (.int .i64 0)))),
    .p (.H (.store 1 (.l 0) (.c (.int .u8 45))))])
  (.seq (.reg 14 [.p (.L (.bin .add (.c (.int .i64 1)) (.t .d0 .d7))),
    .p (.L (.sarr 24 1 (.t .d1 .d0) none (some (.l 0)) none)),
    .s .d0 .d2 (.L (.bstr (.l 0)))])
  .ret)) .skip))
  (.seq (.reg 14 [.p (.L (.bin .add (.c (.int .i64 1)) (.t .d0 .d7))),
    .p (.L (.sarr 24 1 (.t .d1 .d0) (some (.c (.int .i64 1))) (some (.l 0)) none)),
    .s .d0 .d2 (.L (.bstr (.l 0)))])
  .ret)))))))) .skip))
  (.seq (.reg 1458 [.p (.L (.conv .u64 (.t .d0 .d0))),
    .p (.L (.bin .lss (.t .d0 .d0) (.c (.int .i64 0)))),
    .p (.H (.call 179 [(.c (.slN)), (.l 1), (.t .d0 .d1), (.l 0), (.c (.bool false))])),
    .p (.L (.ext 0 (.l 0))),
    .p (.L (.ext 1 (.l 1))),
    .s .d1 .d2 (.L (.mov (.l 0)))])
  (.seq (.reg 2 [.s .d0 .d2 (.L (.mov (.t .d1 .d2)))])
  .ret))))⟩
def i112 : Fun :=
  ⟨4, [0, 1, 2, 3, 8, 11], [.tmp .d0 .d4], (.seq (.reg 1 [.s .d0 .d4 (.L (.mov (.c (.slN))))])
  (.seq (.seq (.reg 4 [.s .d0 .d5 (.H (.call 137 [(.t .d0 .d1), (.t .d0 .d2)]))])
  (.cond (.t .d0 .d5) (.draw [0, 1, 2, 3, 4, 5, 6, 7, 8, 9, 10, 11, 12, 13, 14, 15, 16] [⟨.p (.L (.mov (.t .d0 .d0))), []⟩,
    ⟨.p (.L (.mov (.t .d0 .d0))), []⟩,
    ⟨.p (.L (.nilck (.l 0))), []⟩,
    ⟨.p (.L (.faddr 7 (.l 0))), []⟩,
    ⟨.p (.L (.load (.l 0))), []⟩,
    ⟨.p (.L (.mov (.t .d0 .d0))), []⟩,
    ⟨.p (.L (.nilck (.l 0))), []⟩,
    ⟨.p (.L (.faddr 0 (.l 0))), []⟩,
    ⟨.p (.L (.load (.l 0))), []⟩,
    ⟨.p (.L (.mov (.t .d0 .d3))), []⟩,
    ⟨.p (.L (.mov (.t .d0 .d2))), []⟩,
    ⟨.p (.L (.build [.str 0 0, .int .i64 0, .int .i64 0, .str 0 0] [(0, 1, (.l 2)), (1, 1, (.l 1)), (2, 1, (.c (.int .i64 6))), (3, 1, (.l 0))])), []⟩,
    ⟨.p (.L (.bsl 4 1 [.str 0 0, .int .i64 0, .int .i64 0, .str 0 0] [(0, 4, (.l 0))])), []⟩,
    ⟨.p (.H (.append 4 48 (.l 8) (.l 0))), []⟩,
    ⟨.p (.L (.nilck (.l 13))), []⟩,
    ⟨.p (.L (.faddr 7 (.l 0))), []⟩,
    ⟨.p (.H (.store 1 (.l 0) (.l 2))), []⟩]) .skip))
  (.seq (.reg 12 [.p (.L (.bsl 1 1 [.str 0 0] [(0, 1, (.t .d0 .d2))])),
    .s .d0 .d4 (.H (.append 1 16 (.t .d0 .d1) (.l 0)))])
  .ret)))⟩
def i113 : Fun :=
  ⟨3, [0, 1, 2, 12], [], (.seq (.reg 110 [.p (.L (.nilck (.t .d0 .d0))),
    .p (.L (.faddr 1 (.l 0))),
    .p (.L (.loadn 6 (.l 0))),
    .p (.H (.call 133 [(.l 0), (.t .d0 .d1)])),
    .s .d0 .d3 (.L (.bin .lss (.l 0) (.c (.int .i64 0))))])
  (.cond (.t .d0 .d3) (.draw [0, 1, 2, 3, 4, 5, 6, 7, 8, 9, 10, 11, 12, 13, 14, 15, 16] [⟨.p (.L (.mov (.t .d0 .d0))), []⟩,
    ⟨.p (.L (.mov (.t .d0 .d0))), []⟩,
    ⟨.p (.L (.nilck (.l 0))), []⟩,
    ⟨.p (.L (.faddr 7 (.l 0))), []⟩,
    ⟨.p (.L (.load (.l 0))), []⟩,
    ⟨.p (.L (.mov (.t .d0 .d0))), []⟩,
    ⟨.p (.L (.nilck (.l 0))), []⟩,
    ⟨.p (.L (.faddr 0 (.l 0))), []⟩,
    ⟨.p (.L (.load (.l 0))), []⟩,
    ⟨.p (.L (.mov (.t .d0 .d2))), []⟩,
    ⟨.p (.L (.mov (.t .d0 .d1))), []⟩,
    ⟨.p (.L (.build [.str 0 0, .int .i64 0, .int .i64 0, .str 0 0] [(0, 1, (.l 2)), (1, 1, (.l 1)), (2, 1, (.c (.int .i64 7))), (3, 1, (.l 0))])), []⟩,
    ⟨.p (.L (.bsl 4 1 [.str 0 0, .int .i64 0, .int .i64 0, .str 0 0] [(0, 4, (.l 0))])), []⟩,
    ⟨.p (.H (.append 4 48 (.l 8) (.l 0))), []⟩,
    ⟨.p (.L (.nilck (.l 13))), []⟩,
    ⟨.p (.L (.faddr 7 (.l 0))), []⟩,
    ⟨.p (.H (.store 1 (.l 0) (.l 2))), []⟩]) .skip))⟩
def i114 : Fun :=
  ⟨1, [0, 2, 3], [.tmp .d0 .d1], (.seq (.reg 1 [.s .d0 .d1 (.L (.mov (.c (.slN))))])
  (.seq (.reg 2 [.s .d0 .d2 (.H (.call 180 [(.t .d0 .d0)]))])
  (.seq (.reg 2 [.p (.H (.call 149 [(.t .d0 .d2)]))])
  (.seq (.reg 2 [.s .d0 .d2 (.H (.call 181 [(.t .d0 .d2)]))])
  (.seq (.reg 52 [.p (.L (.len false (.t .d0 .d2))),
    .p (.L (.len false (.t .d0 .d2))),
    .s .d0 .d1 (.L (.ssl 1 (.t .d0 .d2) none (some (.l 1)) (some (.l 0))))])
  .ret)))))⟩
def i115 : Fun :=
  ⟨5, [0, 1, 2, 3, 4, 12, 25, 32, 10, 39, 14, 56, 13, 11, 75, 80, 97, 15, 17, 16, 18, 19, 125, 20], [], (.seq (.reg 1 [.s .d1 .d0 (.L (.mov (.c (.bool true))))])
  (.seq (.reg 1 [.s .d1 .d5 (.L (.mov (.c (.bool true))))])
  (.block 0 (.loop (.block 1 (.seq (.reg 4 [.s .d0 .d5 (.L (.bin .sub (.t .d0 .d2) (.t .d0 .d1)))])
  (.seq (.seq (.reg 2 [.s .d0 .d6 (.L (.bin .leq (.t .d0 .d5) (.c (.int .i64 12))))])
  (.cond (.t .d0 .d6) (.seq (.reg 16 [.p (.H (.call 182 [(.t .d0 .d0), (.t .d0 .d1), (.t .d0 .d2), (.t .d0 .d4)]))])
  .ret) .skip))
  (.seq (.seq (.reg 2 [.s .d0 .d7 (.L (.bin .eql (.t .d0 .d3) (.c (.int .i64 0))))])
  (.cond (.t .d0 .d7) (.seq (.reg 16 [.p (.H (.call 183 [(.t .d0 .d0), (.t .d0 .d1), (.t .d0 .d2), (.t .d0 .d4)]))])
  .ret) .skip))
  (.seq (.seq (.reg 2 [.s .d1 .d1 (.L (.not (.t .d1 .d0)))])
  (.cond (.t .d1 .d1) (.seq (.reg 16 [.p (.H (.call 184 [(.t .d0 .d0), (.t .d0 .d1), (.t .d0 .d2), (.t .d0 .d4)]))])
  (.reg 2 [.s .d0 .d3 (.L (.bin .sub (.t .d0 .d3) (.c (.int .i64 1))))])) .skip))
  (.seq (.reg 976 [.p (.H (.call 185 [(.t .d0 .d0), (.t .d0 .d1), (.t .d0 .d2), (.t .d0 .d4)])),
    .p (.L (.ext 0 (.l 0))),
    .p (.L (.ext 1 (.l 1))),
    .s .d1 .d4 (.L (.mov (.l 1))),
    .s .d1 .d2 (.L (.mov (.l 1)))])
  (.seq (.seq (.reg 2 [.s .d1 .d3 (.L (.bin .eql (.t .d1 .d2) (.c (.int .i64 2))))])
  (.cond (.t .d1 .d3) (.seq (.reg 16 [.p (.H (.call 186 [(.t .d0 .d0), (.t .d0 .d1), (.t .d0 .d2), (.t .d0 .d4)]))])
  (.seq (.reg 50 [.p (.L (.bin .sub (.t .d0 .d2) (.c (.int .i64 1)))),
    .p (.L (.bin .sub (.t .d1 .d4) (.t .d0 .d1))),
    .s .d1 .d4 (.L (.bin .sub (.l 1) (.l 0)))])
  (.reg 1 [.s .d1 .d2 (.L (.mov (.c (.int .i64 1))))]))) .skip))
  (.seq (.seq (.reg 236 [.g (.t .d1 .d0) true (.L (.mov (.t .d1 .d5))),
    .p (.L (.pick (.t .d1 .d0) (.l 0) (.c (.bool false)))),
    .g (.l 0) true (.L (.mov (.t .d1 .d2))),
    .g (.l 1) true (.L (.bin .eql (.l 0) (.c (.int .i64 1)))),
    .s .d1 .d6 (.L (.pick (.l 2) (.l 0) (.c (.bool false))))])
  (.cond (.t .d1 .d6) (.seq (.reg 16 [.s .d1 .d7 (.H (.call 187 [(.t .d0 .d0), (.t .d0 .d1), (.t .d0 .d2), (.t .d0 .d4)]))])
  (.cond (.t .d1 .d7) .ret .skip)) .skip))
  (.seq (.seq (.draw [0, 1, 2, 3, 4, 5, 6, 7, 8, 9, 10, 11, 12, 13, 14, 15, 16] [⟨.p (.L (.mov (.t .d0 .d1))), []⟩,
    ⟨.p (.L (.bin .gtr (.l 0) (.c (.int .i64 0)))), []⟩,
    ⟨.p (.L (.mov (.l 0))), []⟩,
    ⟨.g (.l 0) true (.L (.mov (.t .d0 .d4))), []⟩,
    ⟨.g (.l 1) true (.L (.mov (.t .d0 .d0))), []⟩,
    ⟨.g (.l 2) true (.L (.mov (.t .d0 .d1))), []⟩,
    ⟨.g (.l 3) true (.L (.bin .sub (.l 0) (.c (.int .i64 1)))), []⟩,
    ⟨.g (.l 4) true (.L (.iaddr 4 (.l 2) (.l 0))), []⟩,
    ⟨.g (.l 5) true (.L (.loadn 4 (.l 0))), []⟩,
    ⟨.g (.l 6) true (.L (.mov (.t .d0 .d0))), []⟩,
    ⟨.g (.l 7) true (.L (.mov (.t .d1 .d4))), []⟩,
    ⟨.g (.l 8) true (.L (.iaddr 4 (.l 1) (.l 0))), []⟩,
    ⟨.g (.l 9) true (.L (.loadn 4 (.l 0))), []⟩,
    ⟨.g (.l 10) true (.H (.callv (.l 9) [(.l 4), (.l 0)])), []⟩,
    ⟨.g (.l 11) true (.L (.bin .lss (.l 0) (.c (.int .i64 0)))), []⟩,
    ⟨.g (.l 12) true (.L (.not (.l 0))), []⟩,
    ⟨.s .d2 .d0 (.L (.pick (.l 13) (.l 0) (.c (.bool false)))), []⟩])
  (.cond (.t .d2 .d0) (.seq (.reg 32 [.s .d2 .d1 (.H (.call 188 [(.t .d0 .d0), (.t .d0 .d1), (.t .d0 .d2), (.t .d1 .d4), (.t .d0 .d4)]))])
  (.seq (.reg 2 [.s .d0 .d1 (.L (.mov (.t .d2 .d1)))])
  (.exit 1))) .skip))
  (.seq (.reg 1952 [.p (.H (.call 189 [(.t .d0 .d0), (.t .d0 .d1), (.t .d0 .d2), (.t .d1 .d4), (.t .d0 .d4)])),
    .p (.L (.ext 0 (.l 0))),
    .p (.L (.ext 1 (.l 1))),
    .s .d2 .d3 (.L (.mov (.l 1))),
    .s .d2 .d2 (.L (.mov (.l 1)))])
  (.seq (.reg 2 [.s .d1 .d5 (.L (.mov (.t .d2 .d2)))])
  (.seq (.reg 228 [.p (.L (.bin .sub (.t .d2 .d3) (.t .d0 .d1))),
    .p (.L (.bin .sub (.t .d0 .d2) (.t .d2 .d3))),
    .s .d2 .d4 (.L (.mov (.l 1))),
    .s .d2 .d5 (.L (.mov (.l 1)))])
  (.seq (.reg 2 [.s .d2 .d7 (.L (.bin .quo (.t .d0 .d5) (.c (.int .i64 8))))])
  (.seq (.reg 4 [.s .d2 .d6 (.L (.bin .lss (.t .d2 .d4) (.t .d2 .d5)))])
  (.cond (.t .d2 .d6) (.seq (.reg 4 [.s .d1 .d0 (.L (.bin .geq (.t .d2 .d4) (.t .d2 .d7)))])
  (.seq (.reg 32 [.p (.H (.call 115 [(.t .d0 .d0), (.t .d0 .d1), (.t .d2 .d3), (.t .d0 .d3), (.t .d0 .d4)]))])
  (.reg 2 [.s .d0 .d1 (.L (.bin .add (.t .d2 .d3) (.c (.int .i64 1))))]))) (.seq (.reg 4 [.s .d1 .d0 (.L (.bin .geq (.t .d2 .d5) (.t .d2 .d7)))])
  (.seq (.reg 68 [.p (.L (.bin .add (.t .d2 .d3) (.c (.int .i64 1)))),
    .p (.H (.call 115 [(.t .d0 .d0), (.l 0), (.t .d0 .d2), (.t .d0 .d3), (.t .d0 .d4)]))])
  (.reg 2 [.s .d0 .d2 (.L (.mov (.t .d2 .d3)))]))))))))))))))))))))))⟩
def i116 : Fun :=
  ⟨1, [0, 2], [.tmp .d0 .d1], (.seq (.reg 1 [.s .d0 .d1 (.L (.mov (.c (.int .i64 0))))])
  (.seq (.cond (.c (.bool false)) (.seq (.reg 6 [.p (.L (.conv .u32 (.t .d0 .d0))),
    .s .d0 .d1 (.H (.call 190 [(.l 0)]))])
  .ret) .skip)
  (.seq (.reg 2 [.s .d0 .d1 (.H (.call 191 [(.t .d0 .d0)]))])
  .ret)))⟩
def i118 : Fun :=
  ⟨5, [0, 1, 2, 3, 4, 12, 25, 32, 10, 39, 14, 56, 13, 11, 75, 80, 97, 15, 17, 16, 18, 19, 125, 20], [], (.seq (.reg 1 [.s .d1 .d0 (.L (.mov (.c (.bool true))))])
  (.seq (.reg 1 [.s .d1 .d5 (.L (.mov (.c (.bool true))))])
  (.block 0 (.loop (.block 1 (.seq (.reg 4 [.s .d0 .d5 (.L (.bin .sub (.t .d0 .d2) (.t .d0 .d1)))])
  (.seq (.seq (.reg 2 [.s .d0 .d6 (.L (.bin .leq (.t .d0 .d5) (.c (.int .i64 12))))])
  (.cond (.t .d0 .d6) (.seq (.reg 16 [.p (.H (.call 193 [(.t .d0 .d0), (.t .d0 .d1), (.t .d0 .d2), (.t .d0 .d4)]))])
  .ret) .skip))
  (.seq (.seq (.reg 2 [.s .d0 .d7 (.L (.bin .eql (.t .d0 .d3) (.c (.int .i64 0))))])
  (.cond (.t .d0 .d7) (.seq (.reg 16 [.p (.H (.call 194 [(.t .d0 .d0), (.t .d0 .d1), (.t .d0 .d2), (.t .d0 .d4)]))])
  .ret) .skip))
  (.seq (.seq (.reg 2 [.s .d1 .d1 (.L (.not (.t .d1 .d0)))])
  (.cond (.t .d1 .d1) (.seq (.reg 16 [.p (.H (.call 195 [(.t .d0 .d0), (.t .d0 .d1), (.t .d0 .d2), (.t .d0 .d4)]))])
  (.reg 2 [.s .d0 .d3 (.L (.bin .sub (.t .d0 .d3) (.c (.int .i64 1))))])) .skip))
  (.seq (.reg 976 [.p (.H (.call 196 [(.t .d0 .d0), (.t .d0 .d1), (.t .d0 .d2), (.t .d0 .d4)])),
    .p (.L (.ext 0 (.l 0))),
    .p (.L (.ext 1 (.l 1))),
    .s .d1 .d4 (.L (.mov (.l 1))),
    .s .d1 .d2 (.L (.mov (.l 1)))])
  (.seq (.seq (.reg 2 [.s .d1 .d3 (.L (.bin .eql (.t .d1 .d2) (.c (.int .i64 2))))])
  (.cond (.t .d1 .d3) (.seq (.reg 16 [.p (.H (.call 197 [(.t .d0 .d0), (.t .d0 .d1), (.t .d0 .d2), (.t .d0 .d4)]))])
  (.seq (.reg 50 [.p (.L (.bin .sub (.t .d0 .d2) (.c (.int .i64 1)))),
    .p (.L (.bin .sub (.t .d1 .d4) (.t .d0 .d1))),
    .s .d1 .d4 (.L (.bin .sub (.l 1) (.l 0)))])
  (.reg 1 [.s .d1 .d2 (.L (.mov (.c (.int .i64 1))))]))) .skip))
  (.seq (.seq (.reg 236 [.g (.t .d1 .d0) true (.L (.mov (.t .d1 .d5))),
    .p (.L (.pick (.t .d1 .d0) (.l 0) (.c (.bool false)))),
    .g (.l 0) true (.L (.mov (.t .d1 .d2))),
    .g (.l 1) true (.L (.bin .eql (.l 0) (.c (.int .i64 1)))),
    .s .d1 .d6 (.L (.pick (.l 2) (.l 0) (.c (.bool false))))])
  (.cond (.t .d1 .d6) (.seq (.reg 16 [.s .d1 .d7 (.H (.call 198 [(.t .d0 .d0), (.t .d0 .d1), (.t .d0 .d2), (.t .d0 .d4)]))])
  (.cond (.t .d1 .d7) .ret .skip)) .skip))
  (.seq (.seq (.draw [0, 1, 2, 3, 4, 5, 6, 7, 8, 9, 10, 11, 12, 13, 14, 15, 16] [⟨.p (.L (.mov (.t .d0 .d1))), []⟩,
    ⟨.p (.L (.bin .gtr (.l 0) (.c (.int .i64 0)))), []⟩,
    ⟨.p (.L (.mov (.l 0))), []⟩,
    ⟨.g (.l 0) true (.L (.mov (.t .d0 .d4))), []⟩,
    ⟨.g (.l 1) true (.L (.mov (.t .d0 .d0))), []⟩,
    ⟨.g (.l 2) true (.L (.mov (.t .d0 .d1))), []⟩,
    ⟨.g (.l 3) true (.L (.bin .sub (.l 0) (.c (.int .i64 1)))), []⟩,
    ⟨.g (.l 4) true (.L (.iaddr 6 (.l 2) (.l 0))), []⟩,
    ⟨.g (.l 5) true (.L (.loadn 6 (.l 0))), []⟩,
    ⟨.g (.l 6) true (.L (.mov (.t .d0 .d0))), []⟩,
    ⟨.g (.l 7) true (.L (.mov (.t .d1 .d4))), []⟩,
    ⟨.g (.l 8) true (.L (.iaddr 6 (.l 1) (.l 0))), []⟩,
    ⟨.g (.l 9) true (.L (.loadn 6 (.l 0))), []⟩,
    ⟨.g (.l 10) true (.H (.callv (.l 9) [(.l 4), (.l 0)])), []⟩,
    ⟨.g (.l 11) true (.L (.bin .lss (.l 0) (.c (.int .i64 0)))), []⟩,
    ⟨.g (.l 12) true (.L (.not (.l 0))), []⟩,
    ⟨.s .d2 .d0 (.L (.pick (.l 13) (.l 0) (.c (.bool false)))), []⟩])
  (.cond (.t .d2 .d0) (.seq (.reg 32 [.s .d2 .d1 (.H (.call 199 [(.t .d0 .d0), (.t .d0 .d1), (.t .d0 .d2), (.t .d1 .d4), (.t .d0 .d4)]))])
  (.seq (.reg 2 [.s .d0 .d1 (.L (.mov (.t .d2 .d1)))])
  (.exit 1))) .skip))
  (.seq (.reg 1952 [.p (.H (.call 200 [(.t .d0 .d0), (.t .d0 .d1), (.t .d0 .d2), (.t .d1 .d4), (.t .d0 .d4)])),
    .p (.L (.ext 0 (.l 0))),
    .p (.L (.ext 1 (.l 1))),
    .s .d2 .d3 (.L (.mov (.l 1))),
    .s .d2 .d2 (.L (.mov (.l 1)))])
  (.seq (.reg 2 [.s .d1 .d5 (.L (.mov (.t .d2 .d2)))])
  (.seq (.reg 228 [.p (.L (.bin .sub (.t .d2 .d3) (.t .d0 .d1))),
    .p (.L (.bin .sub (.t .d0 .d2) (.t .d2 .d3))),
    .s .d2 .d4 (.L (.mov (.l 1))),
    .s .d2 .d5 (.L (.mov (.l 1)))])
  (.seq (.reg 2 [.s .d2 .d7 (.L (.bin .quo (.t .d0 .d5) (.c (.int .i64 8))))])
  (.seq (.reg 4 [.s .d2 .d6 (.L (.bin .lss (.t .d2 .d4) (.t .d2 .d5)))])
  (.cond (.t .d2 .d6) (.seq (.reg 4 [.s .d1 .d0 (.L (.bin .geq (.t .d2 .d4) (.t .d2 .d7)))])
  (.seq (.reg 32 [.p (.H (.call 118 [(.t .d0 .d0), (.t .d0 .d1), (.t .d2 .d3), (.t .d0 .d3), (.t .d0 .d4)]))])
  (.reg 2 [.s .d0 .d1 (.L (.bin .add (.t .d2 .d3) (.c (.int .i64 1))))]))) (.seq (.reg 4 [.s .d1 .d0 (.L (.bin .geq (.t .d2 .d5) (.t .d2 .d7)))])
  (.seq (.reg 68 [.p (.L (.bin .add (.t .d2 .d3) (.c (.int .i64 1)))),
    .p (.H (.call 118 [(.t .d0 .d0), (.l 0), (.t .d0 .d2), (.t .d0 .d3), (.t .d0 .d4)]))])
  (.reg 2 [.s .d0 .d2 (.L (.mov (.t .d2 .d3)))]))))))))))))))))))))))⟩
def i119 : Fun :=
  ⟨2, [0, 1, 4, 3], [.tmp .d0 .d2], (.seq (.reg 3 [.s .d0 .d3 (.L (.box 1 (.t .d0 .d1))),
    .s .d0 .d2 (.L (.mov (.c (.bool false))))])
  (.seq (.reg 1006 [.p (.L (.len false (.t .d0 .d0))),
    .p (.L (.load (.t .d0 .d3))),
    .p (.L (.bin .eql (.l 1) (.l 0))),
    .g (.l 0) true (.L (.mov (.t .d0 .d0))),
    .g (.l 1) true (.L (.fn 202 [] [(.t .d0 .d3)])),
    .g (.l 2) true (.H (.call 201 [(.l 1), (.l 0)])),
    .g (.l 3) true (.L (.not (.l 0))),
    .s .d0 .d2 (.L (.pick (.l 4) (.l 0) (.c (.bool false))))])
  .ret))⟩
def i120 : Fun :=
  ⟨2, [0, 1, 4, 3], [.tmp .d0 .d2], (.seq (.reg 3 [.s .d0 .d3 (.L (.box 1 (.t .d0 .d1))),
    .s .d0 .d2 (.L (.mov (.c (.bool false))))])
  (.seq (.reg 1006 [.p (.L (.len false (.t .d0 .d0))),
    .p (.L (.load (.t .d0 .d3))),
    .p (.L (.bin .eql (.l 1) (.l 0))),
    .g (.l 0) true (.L (.mov (.t .d0 .d0))),
    .g (.l 1) true (.L (.fn 204 [] [(.t .d0 .d3)])),
    .g (.l 2) true (.H (.call 203 [(.l 1), (.l 0)])),
    .g (.l 3) true (.L (.not (.l 0))),
    .s .d0 .d2 (.L (.pick (.l 4) (.l 0) (.c (.bool false))))])
  .ret))⟩
def i121 : Fun :=
  ⟨1, [0, 2, 4], [.tmp .d0 .d1], (.seq (.reg 1 [.s .d0 .d1 (.L (.mov (.c (.slN))))])
  (.seq (.seq (.reg 2 [.s .d0 .d2 (.L (.eq false .sl (.t .d0 .d0) (.c (.slN))))])
  (.cond (.t .d0 .d2) (.seq (.reg 1 [.s .d0 .d1 (.L (.mov (.c (.slN))))])
  .ret) .skip))
  (.seq (.reg 5 [.p (.L (.bsl 1 0 [.bool false] [])),
    .s .d0 .d1 (.H (.append 1 1 (.l 0) (.t .d0 .d0)))])
  .ret)))⟩
def i122 : Fun :=
  ⟨1, [0, 7, 6, 8, 12, 11, 13, 3, 2, 22, 25, 24, 26, 4], [], (.seq (.reg 6 [.s .d0 .d2 (.L (.len false (.t .d0 .d0))),
    .s .d0 .d1 (.L (.mov (.c (.int .i64 0))))])
  (.block 0 (.loop (.seq (.reg 1 [.s .d0 .d3 (.L (.bin .lss (.t .d0 .d1) (.t .d0 .d2)))])
  (.seq (.cond (.t .d0 .d3) .skip (.exit 0))
  (.seq (.block 1 (.seq (.reg 2 [.s .d1 .d0 (.L (.mov (.t .d0 .d1)))])
  (.seq .skip
  (.seq (.reg 6 [.s .d0 .d5 (.L (.len false (.t .d0 .d0))),
    .s .d0 .d4 (.L (.mov (.c (.int .i64 0))))])
  (.block 2 (.loop (.seq (.reg 1 [.s .d0 .d6 (.L (.bin .lss (.t .d0 .d4) (.t .d0 .d5)))])
  (.seq (.cond (.t .d0 .d6) .skip (.exit 2))
  (.seq (.block 3 (.seq (.reg 2 [.s .d0 .d7 (.L (.mov (.t .d0 .d4)))])
  (.seq (.seq (.reg 236 [.p (.L (.iaddr 1 (.t .d0 .d0) (.t .d0 .d7))),
    .p (.L (.load (.l 0))),
    .p (.L (.iaddr 1 (.l 0) (.t .d1 .d0))),
    .p (.L (.load (.l 0))),
    .s .d1 .d1 (.L (.not (.l 0)))])
  (.cond (.t .d1 .d1) (.exit 3) .skip))
  (.seq (.reg 6 [.s .d1 .d3 (.L (.len false (.t .d0 .d0))),
    .s .d1 .d2 (.L (.mov (.c (.int .i64 0))))])
  (.block 4 (.loop (.seq (.reg 1 [.s .d1 .d4 (.L (.bin .lss (.t .d1 .d2) (.t .d1 .d3)))])
  (.seq (.cond (.t .d1 .d4) .skip (.exit 4))
  (.seq (.block 5 (.seq (.reg 2 [.s .d1 .d5 (.L (.mov (.t .d1 .d2)))])
  (.draw [0, 1, 2, 3, 4, 5, 6, 7, 8, 9, 10, 11, 12, 13, 14, 15, 16, 17, 18, 19, 20, 21, 22] [⟨.p (.L (.mov (.t .d0 .d0))), []⟩,
    ⟨.p (.L (.mov (.t .d0 .d7))), []⟩,
    ⟨.p (.L (.iaddr 1 (.l 1) (.l 0))), []⟩,
    ⟨.p (.L (.load (.l 0))), []⟩,
    ⟨.p (.L (.mov (.t .d1 .d5))), []⟩,
    ⟨.p (.L (.mov (.t .d0 .d0))), []⟩,
    ⟨.p (.L (.mov (.t .d0 .d7))), []⟩,
    ⟨.p (.L (.iaddr 1 (.l 1) (.l 0))), []⟩,
    ⟨.p (.L (.load (.l 0))), []⟩,
    ⟨.p (.L (.mov (.t .d1 .d5))), []⟩,
    ⟨.p (.L (.iaddr 1 (.l 1) (.l 0))), []⟩,
    ⟨.p (.L (.load (.l 0))), []⟩,
    ⟨.p (.L (.mov (.l 0))), []⟩,
    ⟨.g (.l 0) false (.L (.mov (.t .d0 .d0))), []⟩,
    ⟨.g (.l 1) false (.L (.mov (.t .d1 .d0))), []⟩,
    ⟨.g (.l 2) false (.L (.iaddr 1 (.l 1) (.l 0))), []⟩,
    ⟨.g (.l 3) false (.L (.load (.l 0))), []⟩,
    ⟨.g (.l 4) false (.L (.mov (.t .d1 .d5))), []⟩,
    ⟨.g (.l 5) false (.L (.iaddr 1 (.l 1) (.l 0))), []⟩,
    ⟨.g (.l 6) false (.L (.load (.l 0))), []⟩,
    ⟨.p (.L (.pick (.l 7) (.c (.bool true)) (.l 0))), []⟩,
    ⟨.p (.L (.iaddr 1 (.l 17) (.l 16))), []⟩,
    ⟨.p (.H (.store 1 (.l 0) (.l 1))), []⟩])))
  (.reg 1 [.s .d1 .d2 (.L (.bin .add (.t .d1 .d2) (.c (.int .i64 1))))]))))))))))
  (.reg 1 [.s .d0 .d4 (.L (.bin .add (.t .d0 .d4) (.c (.int .i64 1))))]))))))))))
  (.reg 1 [.s .d0 .d1 (.L (.bin .add (.t .d0 .d1) (.c (.int .i64 1))))])))))))⟩
def i123 : Fun :=
  ⟨3, [0, 1, 2, 6, 14, 17, 16, 18, 15, 7, 8, 9, 30], [.tmp .d0 .d3], (.seq (.reg 1 [.s .d0 .d3 (.L (.mov (.c (.bool false))))])
  (.seq (.seq (.reg 26 [.p (.L (.len false (.t .d0 .d0))),
    .p (.L (.len false (.t .d0 .d1))),
    .s .d0 .d4 (.L (.bin .neq (.l 1) (.l 0)))])
  (.cond (.t .d0 .d4) (.seq (.reg 1 [.s .d0 .d3 (.L (.mov (.c (.bool false))))])
  .ret) .skip))
  (.seq (.seq (.reg 7 [.s .d1 .d0 (.L (.mov (.t .d0 .d0))),
    .s .d0 .d6 (.L (.len false (.l 0))),
    .s .d0 .d5 (.L (.mov (.c (.int .i64 0))))])
  (.block 0 (.loop (.seq (.reg 1 [.s .d0 .d7 (.L (.bin .lss (.t .d0 .d5) (.t .d0 .d6)))])
  (.seq (.cond (.t .d0 .d7) .skip (.exit 0))
  (.seq (.block 1 (.seq (.reg 30 [.p (.L (.iaddr 1 (.t .d1 .d0) (.t .d0 .d5))),
    .p (.L (.load (.l 0))),
    .s .d1 .d1 (.L (.mov (.t .d0 .d5))),
    .s .d1 .d2 (.L (.mov (.l 1)))])
  (.seq (.reg 12 [.p (.L (.iaddr 1 (.t .d0 .d1) (.t .d1 .d1))),
    .s .d1 .d3 (.L (.load (.l 0)))])
  (.seq (.reg 24 [.p (.H (.callv (.t .d0 .d2) [(.t .d1 .d2), (.t .d1 .d3)])),
    .s .d1 .d4 (.L (.not (.l 0)))])
  (.cond (.t .d1 .d4) (.seq (.reg 1 [.s .d0 .d3 (.L (.mov (.c (.bool false))))])
  .ret) .skip)))))
  (.reg 1 [.s .d0 .d5 (.L (.bin .add (.t .d0 .d5) (.c (.int .i64 1))))])))))))
  (.seq (.reg 1 [.s .d0 .d3 (.L (.mov (.c (.bool true))))])
  .ret))))⟩
def i124 : Fun :=
  ⟨2, [0, 1, 4, 10, 13, 12, 14, 5, 24], [.tmp .d0 .d2], (.seq (.reg 1 [.s .d0 .d2 (.L (.mov (.c (.bool false))))])
  (.seq (.seq (.reg 26 [.p (.L (.len false (.t .d0 .d0))),
    .p (.L (.len false (.t .d0 .d1))),
    .s .d0 .d3 (.L (.bin .neq (.l 1) (.l 0)))])
  (.cond (.t .d0 .d3) (.seq (.reg 1 [.s .d0 .d2 (.L (.mov (.c (.bool false))))])
  .ret) .skip))
  (.seq (.seq (.reg 6 [.s .d0 .d5 (.L (.len false (.t .d0 .d0))),
    .s .d0 .d4 (.L (.mov (.c (.int .i64 0))))])
  (.block 0 (.loop (.seq (.reg 1 [.s .d0 .d6 (.L (.bin .lss (.t .d0 .d4) (.t .d0 .d5)))])
  (.seq (.cond (.t .d0 .d6) .skip (.exit 0))
  (.seq (.block 1 (.seq (.reg 2 [.s .d0 .d7 (.L (.mov (.t .d0 .d4)))])
  (.seq (.draw [0, 1, 2, 3, 4, 5, 6, 7, 8] [⟨.p (.L (.mov (.t .d0 .d0))), []⟩,
    ⟨.p (.L (.mov (.t .d0 .d7))), []⟩,
    ⟨.p (.L (.iaddr 1 (.l 1) (.l 0))), []⟩,
    ⟨.p (.L (.load (.l 0))), []⟩,
    ⟨.p (.L (.mov (.t .d0 .d1))), []⟩,
    ⟨.p (.L (.mov (.t .d0 .d7))), []⟩,
    ⟨.p (.L (.iaddr 1 (.l 1) (.l 0))), []⟩,
    ⟨.p (.L (.load (.l 0))), []⟩,
    ⟨.s .d1 .d0 (.L (.eq true .bool (.l 4) (.l 0))), []⟩])
  (.cond (.t .d1 .d0) (.seq (.reg 1 [.s .d0 .d2 (.L (.mov (.c (.bool false))))])
  .ret) .skip))))
  (.reg 1 [.s .d0 .d4 (.L (.bin .add (.t .d0 .d4) (.c (.int .i64 1))))])))))))
  (.seq (.reg 1 [.s .d0 .d2 (.L (.mov (.c (.bool true))))])
  .ret))))⟩
def i125 : Fun :=
  ⟨1, [0, 2, 3, 1, 4, 27, 26, 28, 31, 30, 32, 7, 10, 5, 48, 6, 12, 14, 69, 11, 8, 13, 9, 15, 17, 18, 16], [.cell .d0 .d1 (some 6), .tmp .d0 .d2], (.seq (.reg 7 [.s .d0 .d3 (.L (.box 6 (.t .d0 .d0))),
    .s .d0 .d1 (.L (.alloc [.slN, .slN, .slN, .slN, .int .i64 0, .int .i64 0])),
    .s .d0 .d2 (.L (.mov (.c (.bool false))))])
  (.seq (.reg 7 [.p (.L (.faddr 0 (.t .d0 .d3))),
    .p (.L (.load (.l 0))),
    .s .d0 .d4 (.L (.len false (.l 0)))])
  (.seq (.reg 7 [.p (.L (.fn 205 [] [(.t .d0 .d3)])),
    .s .d1 .d5 (.L (.alloc [.fnN])),
    .p (.H (.store 1 (.l 0) (.l 1)))])
  (.seq (.reg 1 [.s .d1 .d7 (.L (.fn 206 [] [(.t .d0 .d3)]))])
  (.seq (.reg 15 [.p (.L (.faddr 2 (.t .d0 .d3))),
    .p (.H (.store 1 (.l 0) (.c (.slN)))),
    .p (.L (.faddr 3 (.t .d0 .d3))),
    .p (.H (.store 1 (.l 0) (.c (.slN))))])
  (.seq (.seq (.reg 3 [.s .d0 .d6 (.L (.mov (.t .d0 .d4))),
    .s .d0 .d5 (.L (.mov (.c (.int .i64 0))))])
  (.block 0 (.loop (.seq (.reg 1 [.s .d0 .d7 (.L (.bin .lss (.t .d0 .d5) (.t .d0 .d6)))])
  (.seq (.cond (.t .d0 .d7) .skip (.exit 0))
  (.seq (.block 1 (.seq (.reg 6 [.s .d1 .d3 (.L (.alloc [.int .i64 0])),
    .p (.H (.store 1 (.l 0) (.t .d0 .d5)))])
  (.seq (.reg 3 [.s .d2 .d4 (.L (.mov (.c (.slN)))),
    .s .d2 .d6 (.L (.mov (.c (.slN))))])
  (.seq (.seq (.reg 3 [.s .d1 .d1 (.L (.mov (.t .d0 .d4))),
    .s .d1 .d0 (.L (.mov (.c (.int .i64 0))))])
  (.block 2 (.loop (.seq (.reg 1 [.s .d1 .d2 (.L (.bin .lss (.t .d1 .d0) (.t .d1 .d1)))])
  (.seq (.cond (.t .d1 .d2) .skip (.exit 2))
  (.seq (.block 3 (.seq (.reg 6 [.s .d1 .d4 (.L (.alloc [.int .i64 0])),
    .p (.H (.store 1 (.l 0) (.t .d1 .d0)))])
  (.seq (.seq (.reg 32247 [.p (.L (.load (.t .d1 .d3))),
    .p (.L (.load (.t .d1 .d4))),
    .p (.L (.bin .neq (.l 1) (.l 0))),
    .g (.l 0) true (.L (.load (.t .d1 .d5))),
    .g (.l 1) true (.L (.load (.t .d1 .d3))),
    .g (.l 2) true (.L (.load (.t .d1 .d4))),
    .g (.l 3) true (.H (.callv (.l 2) [(.l 1), (.l 0)])),
    .p (.L (.pick (.l 4) (.l 0) (.c (.bool false)))),
    .g (.l 0) true (.L (.load (.t .d1 .d5))),
    .g (.l 1) true (.L (.load (.t .d1 .d4))),
    .g (.l 2) true (.L (.load (.t .d1 .d3))),
    .g (.l 3) true (.H (.callv (.l 2) [(.l 1), (.l 0)])),
    .s .d1 .d6 (.L (.pick (.l 4) (.l 0) (.c (.bool false))))])
  (.cond (.t .d1 .d6) (.seq (.reg 7 [.p (.L (.build [.slN, .slN, .slN, .slN, .int .i64 0, .int .i64 0] [])),
    .p (.H (.store 6 (.t .d0 .d1) (.l 0))),
    .s .d0 .d2 (.L (.mov (.c (.bool false))))])
  .ret) .skip))
  (.seq (.reg 494 [.p (.L (.load (.t .d1 .d5))),
    .p (.L (.fn 208 [] [(.t .d1 .d5), (.t .d1 .d3), (.t .d1 .d4)])),
    .p (.H (.call 207 [(.t .d0 .d4), (.l 1), (.l 0)])),
    .p (.L (.ext 0 (.l 0))),
    .p (.L (.ext 1 (.l 1))),
    .s .d2 .d3 (.L (.mov (.l 1))),
    .s .d2 .d0 (.L (.mov (.l 1)))])
  (.seq (.reg 492 [.p (.L (.fn 209 [] [(.t .d1 .d5), (.t .d1 .d3), (.t .d1 .d4)])),
    .p (.H (.call 207 [(.t .d0 .d4), (.t .d1 .d7), (.l 0)])),
    .p (.L (.ext 0 (.l 0))),
    .p (.L (.ext 1 (.l 1))),
    .s .d2 .d5 (.L (.mov (.l 1))),
    .s .d2 .d1 (.L (.mov (.l 1)))])
  (.seq (.seq (.reg 58 [.p (.L (.not (.t .d2 .d0))),
    .g (.l 0) false (.L (.mov (.t .d2 .d1))),
    .g (.l 1) false (.L (.not (.l 0))),
    .s .d2 .d2 (.L (.pick (.l 2) (.c (.bool true)) (.l 0)))])
  (.cond (.t .d2 .d2) (.seq (.reg 7 [.p (.L (.build [.slN, .slN, .slN, .slN, .int .i64 0, .int .i64 0] [])),
    .p (.H (.store 6 (.t .d0 .d1) (.l 0))),
    .s .d0 .d2 (.L (.mov (.c (.bool false))))])
  .ret) .skip))
  (.reg 972 [.p (.L (.bsl 1 1 [.int .i64 0] [(0, 1, (.t .d2 .d3))])),
    .p (.H (.append 1 8 (.t .d2 .d4) (.l 0))),
    .p (.L (.bsl 1 1 [.int .i64 0] [(0, 1, (.t .d2 .d5))])),
    .p (.H (.append 1 8 (.t .d2 .d6) (.l 0))),
    .s .d2 .d4 (.L (.mov (.l 2))),
    .s .d2 .d6 (.L (.mov (.l 1)))])))))))
  (.reg 1 [.s .d1 .d0 (.L (.bin .add (.t .d1 .d0) (.c (.int .i64 1))))])))))))
  (.draw [0, 1, 2, 3, 5, 6, 7, 8, 4, 10, 9, 11, 12, 13] [⟨.p (.L (.faddr 2 (.t .d0 .d3))), []⟩,
    ⟨.p (.L (.load (.l 0))), []⟩,
    ⟨.p (.L (.mov (.t .d2 .d4))), []⟩,
    ⟨.p (.L (.bsl 1 1 [.slN] [(0, 1, (.l 0))])), []⟩,
    ⟨.p (.L (.faddr 3 (.t .d0 .d3))), []⟩,
    ⟨.p (.L (.load (.l 0))), []⟩,
    ⟨.p (.L (.mov (.t .d2 .d6))), []⟩,
    ⟨.p (.L (.bsl 1 1 [.slN] [(0, 1, (.l 0))])), []⟩,
    ⟨.p (.H (.append 1 24 (.l 6) (.l 4))), [2, 0]⟩,
    ⟨.p (.L (.faddr 2 (.t .d0 .d3))), []⟩,
    ⟨.p (.H (.append 1 24 (.l 4) (.l 2))), []⟩,
    ⟨.p (.H (.store 1 (.l 1) (.l 2))), []⟩,
    ⟨.p (.L (.faddr 3 (.t .d0 .d3))), []⟩,
    ⟨.p (.H (.store 1 (.l 0) (.l 2))), []⟩])))))
  (.reg 1 [.s .d0 .d5 (.L (.bin .add (.t .d0 .d5) (.c (.int .i64 1))))])))))))
  (.seq (.reg 246 [.p (.L (.load (.t .d1 .d5))),
    .p (.H (.call 207 [(.t .d0 .d4), (.l 0), (.c (.fn 210 [] []))])),
    .p (.L (.ext 0 (.l 0))),
    .p (.L (.ext 1 (.l 1))),
    .s .d2 .d7 (.L (.mov (.l 1))),
    .s .d3 .d2 (.L (.mov (.l 1)))])
  (.seq (.reg 244 [.p (.H (.call 207 [(.t .d0 .d4), (.t .d1 .d7), (.c (.fn 211 [] []))])),
    .p (.L (.ext 0 (.l 0))),
    .p (.L (.ext 1 (.l 1))),
    .s .d3 .d0 (.L (.mov (.l 1))),
    .s .d3 .d1 (.L (.mov (.l 1)))])
  (.seq (.reg 60 [.p (.L (.faddr 4 (.t .d0 .d3))),
    .p (.H (.store 1 (.l 0) (.t .d2 .d7))),
    .p (.L (.faddr 5 (.t .d0 .d3))),
    .p (.H (.store 1 (.l 0) (.t .d3 .d0)))])
  (.seq (.reg 121 [.p (.L (.loadn 6 (.t .d0 .d3))),
    .g (.t .d3 .d2) true (.L (.mov (.t .d3 .d1))),
    .p (.L (.pick (.t .d3 .d2) (.l 0) (.c (.bool false)))),
    .p (.H (.store 6 (.t .d0 .d1) (.l 2))),
    .s .d0 .d2 (.L (.mov (.l 1)))])
  .ret))))))))))⟩
def i126 : Fun :=
  ⟨3, [0, 1, 2, 6, 14, 17, 16, 18, 15, 7, 8, 9, 30], [.tmp .d0 .d3], (.seq (.reg 1 [.s .d0 .d3 (.L (.mov (.c (.bool false))))])
  (.seq (.seq (.reg 26 [.p (.L (.len false (.t .d0 .d0))),
    .p (.L (.len false (.t .d0 .d1))),
    .s .d0 .d4 (.L (.bin .neq (.l 1) (.l 0)))])
  (.cond (.t .d0 .d4) (.seq (.reg 1 [.s .d0 .d3 (.L (.mov (.c (.bool false))))])
  .ret) .skip))
  (.seq (.seq (.reg 7 [.s .d1 .d0 (.L (.mov (.t .d0 .d0))),
    .s .d0 .d6 (.L (.len false (.l 0))),
    .s .d0 .d5 (.L (.mov (.c (.int .i64 0))))])
  (.block 0 (.loop (.seq (.reg 1 [.s .d0 .d7 (.L (.bin .lss (.t .d0 .d5) (.t .d0 .d6)))])
  (.seq (.cond (.t .d0 .d7) .skip (.exit 0))
  (.seq (.block 1 (.seq (.reg 30 [.p (.L (.iaddr 1 (.t .d1 .d0) (.t .d0 .d5))),
    .p (.L (.load (.l 0))),
    .s .d1 .d1 (.L (.mov (.t .d0 .d5))),
    .s .d1 .d2 (.L (.mov (.l 1)))])
  (.seq (.reg 12 [.p (.L (.iaddr 1 (.t .d0 .d1) (.t .d1 .d1))),
    .s .d1 .d3 (.L (.load (.l 0)))])
  (.seq (.reg 24 [.p (.H (.callv (.t .d0 .d2) [(.t .d1 .d2), (.t .d1 .d3)])),
    .s .d1 .d4 (.L (.not (.l 0)))])
  (.cond (.t .d1 .d4) (.seq (.reg 1 [.s .d0 .d3 (.L (.mov (.c (.bool false))))])
  .ret) .skip)))))
  (.reg 1 [.s .d0 .d5 (.L (.bin .add (.t .d0 .d5) (.c (.int .i64 1))))])))))))
  (.seq (.reg 1 [.s .d0 .d3 (.L (.mov (.c (.bool true))))])
  .ret))))⟩
def i127 : Fun :=
  ⟨2, [0, 1, 4, 10, 13, 12, 14, 5, 24], [.tmp .d0 .d2], (.seq (.reg 1 [.s .d0 .d2 (.L (.mov (.c (.bool false))))])
  (.seq (.seq (.reg 26 [.p (.L (.len false (.t .d0 .d0))),
    .p (.L (.len false (.t .d0 .d1))),
    .s .d0 .d3 (.L (.bin .neq (.l 1) (.l 0)))])
  (.cond (.t .d0 .d3) (.seq (.reg 1 [.s .d0 .d2 (.L (.mov (.c (.bool false))))])
  .ret) .skip))
  (.seq (.seq (.reg 6 [.s .d0 .d5 (.L (.len false (.t .d0 .d0))),
    .s .d0 .d4 (.L (.mov (.c (.int .i64 0))))])
  (.block 0 (.loop (.seq (.reg 1 [.s .d0 .d6 (.L (.bin .lss (.t .d0 .d4) (.t .d0 .d5)))])
  (.seq (.cond (.t .d0 .d6) .skip (.exit 0))
  (.seq (.block 1 (.seq (.reg 2 [.s .d0 .d7 (.L (.mov (.t .d0 .d4)))])
  (.seq (.draw [0, 1, 2, 3, 4, 5, 6, 7, 8] [⟨.p (.L (.mov (.t .d0 .d0))), []⟩,
    ⟨.p (.L (.mov (.t .d0 .d7))), []⟩,
    ⟨.p (.L (.iaddr 1 (.l 1) (.l 0))), []⟩,
    ⟨.p (.L (.load (.l 0))), []⟩,
    ⟨.p (.L (.mov (.t .d0 .d1))), []⟩,
    ⟨.p (.L (.mov (.t .d0 .d7))), []⟩,
    ⟨.p (.L (.iaddr 1 (.l 1) (.l 0))), []⟩,
    ⟨.p (.L (.load (.l 0))), []⟩,
    ⟨.s .d1 .d0 (.L (.bin .neq (.l 4) (.l 0))), []⟩])
  (.cond (.t .d1 .d0) (.seq (.reg 1 [.s .d0 .d2 (.L (.mov (.c (.bool false))))])
  .ret) .skip))))
  (.reg 1 [.s .d0 .d4 (.L (.bin .add (.t .d0 .d4) (.c (.int .i64 1))))])))))))
  (.seq (.reg 1 [.s .d0 .d2 (.L (.mov (.c (.bool true))))])
  .ret))))⟩
def i128 : Fun :=
  ⟨2, [0, 1, 4, 2, 5, 17, 16, 18, 15, 7, 8, 31, 54, 56, 10, 68, 9, 6, 85], [.tmp .d0 .d2], (.seq (.reg 3 [.s .d0 .d3 (.L (.box 1 (.t .d0 .d0))),
    .s .d0 .d2 (.L (.mov (.c (.int .i64 0))))])
  (.seq (.reg 30 [.p (.L (.len false (.t .d0 .d1))),
    .p (.L (.mksl 1 [.int .i64 0] 8 (.l 0) (.l 0))),
    .s .d0 .d4 (.L (.alloc [.slN])),
    .p (.H (.store 1 (.l 0) (.l 1)))])
  (.seq (.reg 1 [.s .d2 .d1 (.L (.fn 212 [] [(.t .d0 .d3), (.t .d0 .d4)]))])
  (.seq (.seq (.reg 7 [.s .d1 .d0 (.L (.mov (.t .d0 .d1))),
    .s .d0 .d6 (.L (.len false (.l 0))),
    .s .d0 .d5 (.L (.mov (.c (.int .i64 0))))])
  (.block 0 (.loop (.seq (.reg 1 [.s .d0 .d7 (.L (.bin .lss (.t .d0 .d5) (.t .d0 .d6)))])
  (.seq (.cond (.t .d0 .d7) .skip (.exit 0))
  (.seq (.block 1 (.seq (.reg 62 [.p (.L (.iaddr 7 (.t .d1 .d0) (.t .d0 .d5))),
    .p (.L (.loadn 7 (.l 0))),
    .s .d1 .d2 (.L (.alloc [.int .i64 0, .int .i64 0, .str 0 0, .str 0 0, .int .i64 0, .int .i64 0, .int .i64 0])),
    .s .d1 .d1 (.L (.mov (.t .d0 .d5))),
    .p (.H (.store 7 (.l 1) (.l 2)))])
  (.seq (.draw [0, 1, 2, 3, 4, 5, 6, 7, 8] [⟨.p (.L (.load (.t .d0 .d4))), []⟩,
    ⟨.p (.L (.mov (.t .d1 .d1))), []⟩,
    ⟨.p (.L (.load (.t .d0 .d3))), []⟩,
    ⟨.p (.L (.nilck (.l 0))), []⟩,
    ⟨.p (.L (.faddr 5 (.l 0))), []⟩,
    ⟨.p (.L (.faddr 4 (.l 0))), []⟩,
    ⟨.p (.L (.load (.l 0))), []⟩,
    ⟨.p (.L (.iaddr 1 (.l 6) (.l 5))), []⟩,
    ⟨.p (.H (.store 1 (.l 0) (.l 1))), []⟩])
  (.seq (.reg 3 [.p (.L (.faddr 0 (.t .d1 .d2))),
    .s .d1 .d3 (.L (.load (.l 0)))])
  (.block 2 (.seq (.reg 1 [.s .d1 .d4 (.L (.bin .eql (.t .d1 .d3) (.c (.int .i64 1))))])
  (.cond (.t .d1 .d4) .skip (.seq (.reg 1 [.s .d1 .d5 (.L (.bin .eql (.t .d1 .d3) (.c (.int .i64 2))))])
  (.cond (.t .d1 .d5) (.seq (.reg 1983 [.p (.L (.load (.t .d0 .d3))),
    .p (.L (.faddr 2 (.t .d1 .d2))),
    .p (.L (.load (.l 0))),
    .p (.L (.faddr 3 (.t .d1 .d2))),
    .p (.L (.load (.l 0))),
    .p (.H (.call 213 [(.l 4), (.l 2), (.l 0)])),
    .p (.L (.ext 0 (.l 0))),
    .p (.L (.ext 1 (.l 1))),
    .s .d2 .d0 (.L (.mov (.l 1))),
    .s .d1 .d6 (.L (.mov (.l 1)))])
  (.seq (.seq (.reg 2 [.s .d1 .d7 (.L (.bin .eql (.t .d1 .d6) (.c (.int .i64 1))))])
  (.cond (.t .d1 .d7) (.draw [0, 1, 2, 3, 4, 5, 6, 7, 8] [⟨.p (.L (.load (.t .d0 .d3))), []⟩,
    ⟨.p (.L (.faddr 6 (.t .d1 .d2))), []⟩,
    ⟨.p (.L (.load (.l 0))), []⟩,
    ⟨.p (.L (.faddr 2 (.t .d1 .d2))), []⟩,
    ⟨.p (.L (.load (.l 0))), []⟩,
    ⟨.p (.L (.faddr 3 (.t .d1 .d2))), []⟩,
    ⟨.p (.L (.load (.l 0))), []⟩,
    ⟨.p (.H (.call 136 [(.l 2), (.l 0)])), [6, 4]⟩,
    ⟨.p (.H (.call 73 [(.l 7), (.l 5), (.c (.int .i64 8)), (.l 0)])), []⟩]) .skip))
  (.reg 25 [.p (.L (.load (.t .d0 .d4))),
    .p (.L (.iaddr 1 (.l 0) (.t .d1 .d1))),
    .p (.H (.store 1 (.l 0) (.t .d2 .d0)))]))) (.draw [0, 1, 2, 3, 4, 5, 6, 7, 8, 9, 10, 14, 15, 16, 17, 11, 12, 13, 18, 19, 20, 21, 22] [⟨.p (.L (.load (.t .d0 .d4))), []⟩,
    ⟨.p (.L (.mov (.t .d1 .d1))), []⟩,
    ⟨.p (.L (.load (.t .d0 .d3))), []⟩,
    ⟨.p (.L (.nilck (.l 0))), []⟩,
    ⟨.p (.L (.faddr 5 (.l 0))), []⟩,
    ⟨.p (.L (.faddr 2 (.l 0))), []⟩,
    ⟨.p (.L (.load (.l 0))), []⟩,
    ⟨.p (.L (.mov (.t .d2 .d1))), []⟩,
    ⟨.p (.L (.mov (.t .d1 .d1))), []⟩,
    ⟨.p (.L (.faddr 4 (.t .d1 .d2))), []⟩,
    ⟨.p (.L (.load (.l 0))), []⟩,
    ⟨.p (.L (.mov (.t .d2 .d1))), []⟩,
    ⟨.p (.L (.mov (.t .d1 .d1))), []⟩,
    ⟨.p (.L (.faddr 5 (.t .d1 .d2))), []⟩,
    ⟨.p (.L (.load (.l 0))), []⟩,
    ⟨.p (.H (.callv (.l 7) [(.l 6), (.l 4)])), [14, 12, 8, 0]⟩,
    ⟨.p (.L (.iaddr 1 (.l 9) (.l 0))), []⟩,
    ⟨.p (.L (.load (.l 0))), []⟩,
    ⟨.p (.H (.callv (.l 6) [(.l 5), (.l 3)])), [17, 15, 11, 0]⟩,
    ⟨.p (.L (.iaddr 1 (.l 1) (.l 0))), []⟩,
    ⟨.p (.L (.load (.l 0))), []⟩,
    ⟨.p (.L (.iaddr 1 (.l 20) (.l 19))), []⟩,
    ⟨.p (.H (.store 1 (.l 0) (.l 1))), []⟩]))))))))))
  (.reg 1 [.s .d0 .d5 (.L (.bin .add (.t .d0 .d5) (.c (.int .i64 1))))])))))))
  (.seq (.seq (.reg 6 [.p (.L (.len false (.t .d0 .d1))),
    .s .d2 .d2 (.L (.bin .eql (.l 0) (.c (.int .i64 0))))])
  (.cond (.t .d2 .d2) (.seq (.reg 31 [.p (.L (.load (.t .d0 .d3))),
    .p (.L (.nilck (.l 0))),
    .p (.L (.faddr 5 (.l 0))),
    .p (.L (.faddr 4 (.l 0))),
    .s .d0 .d2 (.L (.load (.l 0)))])
  .ret) .skip))
  (.seq (.reg 61 [.p (.L (.load (.t .d0 .d4))),
    .p (.L (.len false (.t .d0 .d1))),
    .p (.L (.bin .sub (.l 0) (.c (.int .i64 1)))),
    .p (.L (.iaddr 1 (.l 2) (.l 0))),
    .s .d0 .d2 (.L (.load (.l 0)))])
  .ret))))))⟩
def i133 : Fun :=
  ⟨2, [0, 1, 4, 2], [.tmp .d0 .d2], (.seq (.reg 3 [.s .d0 .d3 (.L (.box 6 (.t .d0 .d0))),
    .s .d0 .d2 (.L (.mov (.c (.int .i64 0))))])
  (.seq (.reg 11 [.p (.L (.faddr 0 (.t .d0 .d3))),
    .p (.L (.load (.l 0))),
    .s .d0 .d2 (.H (.call 216 [(.l 0), (.t .d0 .d1)]))])
  .ret))⟩
def i134 : Fun :=
  ⟨5, [0, 1, 2, 3, 4, 11, 19, 10, 28], [], (.seq (.reg 488 [.p (.H (.call 213 [(.t .d0 .d0), (.t .d0 .d2), (.t .d0 .d3)])),
    .p (.L (.ext 0 (.l 0))),
    .p (.L (.ext 1 (.l 1))),
    .s .d0 .d7 (.L (.mov (.l 1))),
    .s .d0 .d5 (.L (.mov (.l 1)))])
  (.block 0 (.seq (.reg 2 [.s .d0 .d6 (.L (.bin .eql (.t .d0 .d5) (.c (.int .i64 1))))])
  (.cond (.t .d0 .d6) (.reg 48 [.p (.H (.call 136 [(.t .d0 .d2), (.t .d0 .d3)])),
    .p (.H (.call 73 [(.t .d0 .d0), (.t .d0 .d1), (.c (.int .i64 8)), (.l 0)]))]) (.seq (.reg 65530 [.p (.L (.bin .eql (.t .d0 .d5) (.c (.int .i64 0)))),
    .g (.l 0) true (.L (.mov (.t .d0 .d0))),
    .g (.l 1) true (.L (.nilck (.l 0))),
    .g (.l 2) true (.L (.faddr 5 (.l 0))),
    .g (.l 3) true (.L (.faddr 1 (.l 0))),
    .g (.l 4) true (.L (.load (.l 0))),
    .g (.l 5) true (.L (.mov (.t .d0 .d4))),
    .g (.l 6) true (.L (.iaddr 1 (.l 1) (.l 0))),
    .g (.l 7) true (.L (.load (.l 0))),
    .g (.l 8) true (.L (.mov (.t .d0 .d7))),
    .g (.l 9) true (.L (.iaddr 1 (.l 1) (.l 0))),
    .g (.l 10) true (.L (.load (.l 0))),
    .g (.l 11) true (.L (.not (.l 0))),
    .s .d1 .d0 (.L (.pick (.l 12) (.l 0) (.c (.bool false))))])
  (.cond (.t .d1 .d0) (.reg 48 [.p (.H (.call 136 [(.t .d0 .d2), (.t .d0 .d3)])),
    .p (.H (.call 73 [(.t .d0 .d0), (.t .d0 .d1), (.c (.int .i64 10)), (.l 0)]))]) .skip))))))⟩
def i137 : Fun :=
  ⟨2, [0, 1, 4], [.tmp .d0 .d2], (.seq (.reg 1 [.s .d0 .d2 (.L (.mov (.c (.bool false))))])
  (.seq (.reg 12 [.p (.H (.call 216 [(.t .d0 .d0), (.t .d0 .d1)])),
    .s .d0 .d2 (.L (.bin .geq (.l 0) (.c (.int .i64 0))))])
  .ret))⟩
def i138 : Fun :=
  ⟨2, [0, 1, 4], [.tmp .d0 .d2], (.seq (.reg 1 [.s .d0 .d2 (.L (.mov (.c (.bool false))))])
  (.seq (.reg 12 [.p (.H (.call 219 [(.t .d0 .d0), (.t .d0 .d1)])),
    .s .d0 .d2 (.L (.bin .geq (.l 0) (.c (.int .i64 0))))])
  .ret))⟩
def i139 : Fun :=
  ⟨2, [0, 1, 3, 2], [.tmp .d0 .d2], (.seq (.reg 3 [.s .d0 .d3 (.L (.box 2 (.t .d0 .d0))),
    .s .d0 .d2 (.L (.mov (.c (.bool false))))])
  (.seq (.reg 15 [.p (.L (.faddr 0 (.t .d0 .d3))),
    .p (.L (.load (.l 0))),
    .p (.L (.load (.t .d0 .d1))),
    .s .d0 .d2 (.L (.bins .eql (.l 1) (.l 0)))])
  .ret))⟩
def i140 : Fun :=
  ⟨2, [0, 1, 4, 8, 7, 9, 5, 16], [.tmp .d0 .d2], (.seq (.reg 1 [.s .d0 .d2 (.L (.mov (.c (.int .i64 0))))])
  (.seq (.seq (.reg 6 [.s .d0 .d4 (.L (.len false (.t .d0 .d0))),
    .s .d0 .d3 (.L (.mov (.c (.int .i64 0))))])
  (.block 0 (.loop (.seq (.reg 1 [.s .d0 .d5 (.L (.bin .lss (.t .d0 .d3) (.t .d0 .d4)))])
  (.seq (.cond (.t .d0 .d5) .skip (.exit 0))
  (.seq (.block 1 (.seq (.reg 2 [.s .d0 .d6 (.L (.mov (.t .d0 .d3)))])
  (.seq (.reg 56 [.p (.L (.iaddr 4 (.t .d0 .d0) (.t .d0 .d6))),
    .p (.L (.loadn 4 (.l 0))),
    .s .d0 .d7 (.H (.callv (.t .d0 .d1) [(.l 0)]))])
  (.cond (.t .d0 .d7) (.seq (.reg 2 [.s .d0 .d2 (.L (.mov (.t .d0 .d6)))])
  .ret) .skip))))
  (.reg 1 [.s .d0 .d3 (.L (.bin .add (.t .d0 .d3) (.c (.int .i64 1))))])))))))
  (.seq (.reg 1 [.s .d0 .d2 (.L (.mov (.c (.int .i64 (-1)))))])
  .ret)))⟩
def i141 : Fun :=
  ⟨2, [0, 1, 3, 2], [.tmp .d0 .d2], (.seq (.reg 3 [.s .d0 .d3 (.L (.box 4 (.t .d0 .d0))),
    .s .d0 .d2 (.L (.mov (.c (.bool false))))])
  (.seq (.reg 15 [.p (.L (.faddr 0 (.t .d0 .d3))),
    .p (.L (.load (.l 0))),
    .p (.L (.load (.t .d0 .d1))),
    .s .d0 .d2 (.L (.bins .eql (.l 1) (.l 0)))])
  .ret))⟩
def i145 : Fun :=
  ⟨1, [0, 2, 3, 4, 6, 15, 7, 5], [.tmp .d0 .d1, .tmp .d0 .d2, .tmp .d0 .d3], (.seq (.reg 7 [.s .d0 .d1 (.L (.mov (.c (.slN)))),
    .s .d0 .d2 (.L (.mov (.c (.int .i64 0)))),
    .s .d0 .d3 (.L (.mov (.c (.int .i64 0))))])
  (.seq (.reg 506 [.p (.H (.call 53 [(.t .d0 .d0)])),
    .p (.L (.ext 0 (.l 0))),
    .p (.L (.ext 1 (.l 1))),
    .p (.L (.ext 2 (.l 2))),
    .s .d0 .d7 (.L (.mov (.l 2))),
    .s .d0 .d4 (.L (.mov (.l 2))),
    .s .d0 .d6 (.L (.mov (.l 2)))])
  (.seq (.seq (.reg 2 [.s .d0 .d5 (.L (.bin .neq (.t .d0 .d4) (.c (.int .i64 0))))])
  (.cond (.t .d0 .d5) (.seq (.reg 28 [.s .d0 .d1 (.L (.mov (.c (.slN)))),
    .s .d0 .d2 (.L (.mov (.t .d0 .d4))),
    .s .d0 .d3 (.L (.mov (.t .d0 .d6)))])
  .ret) .skip))
  (.seq (.reg 254 [.p (.H (.call 225 [(.t .d0 .d7), (.c (.fn 226 [] []))])),
    .p (.L (.ext 0 (.l 0))),
    .p (.L (.ext 1 (.l 1))),
    .p (.L (.ext 2 (.l 2))),
    .s .d0 .d1 (.L (.mov (.l 2))),
    .s .d0 .d2 (.L (.mov (.l 2))),
    .s .d0 .d3 (.L (.mov (.l 2)))])
  .ret))))⟩
def i146 : Fun :=
  ⟨1, [0, 2, 3, 14, 13, 15, 12, 6, 4, 25, 36, 41, 55, 54, 56, 7, 8, 76, 75, 77, 74, 10, 82, 11, 106], [.cell .d0 .d1 (some 6), .tmp .d0 .d2], (.seq (.reg 3 [.s .d0 .d1 (.L (.alloc [.slN, .slN, .slN, .slN, .int .i64 0, .int .i64 0])),
    .s .d0 .d2 (.L (.mov (.c (.int .i64 0))))])
  (.seq (.reg 1 [.s .d1 .d0 (.L (.mov (.c (.slN))))])
  (.seq (.seq (.reg 7 [.s .d0 .d6 (.L (.mov (.t .d0 .d0))),
    .s .d0 .d4 (.L (.len false (.l 0))),
    .s .d0 .d3 (.L (.mov (.c (.int .i64 0))))])
  (.block 0 (.loop (.seq (.reg 1 [.s .d0 .d5 (.L (.bin .lss (.t .d0 .d3) (.t .d0 .d4)))])
  (.seq (.cond (.t .d0 .d5) .skip (.exit 0))
  (.seq (.block 1 (.seq (.reg 15 [.p (.L (.iaddr 3 (.t .d0 .d6) (.t .d0 .d3))),
    .p (.L (.loadn 3 (.l 0))),
    .s .d0 .d7 (.L (.alloc [.str 0 0, .str 0 0, .int .i64 0])),
    .p (.H (.store 3 (.l 0) (.l 1)))])
  (.seq (.reg 30 [.p (.L (.faddr 0 (.t .d0 .d7))),
    .p (.L (.load (.l 0))),
    .p (.L (.bsl 1 1 [.str 0 0] [(0, 1, (.l 0))])),
    .s .d1 .d0 (.H (.append 1 16 (.t .d1 .d0) (.l 0)))])
  (.seq (.reg 7 [.p (.L (.faddr 1 (.t .d0 .d7))),
    .p (.L (.load (.l 0))),
    .s .d1 .d1 (.L (.bins .neq (.l 0) (.c (.str 0 0))))])
  (.cond (.t .d1 .d1) (.reg 30 [.p (.L (.faddr 1 (.t .d0 .d7))),
    .p (.L (.load (.l 0))),
    .p (.L (.bsl 1 1 [.str 0 0] [(0, 1, (.l 0))])),
    .s .d1 .d0 (.H (.append 1 16 (.t .d1 .d0) (.l 0)))]) .skip)))))
  (.reg 1 [.s .d0 .d3 (.L (.bin .add (.t .d0 .d3) (.c (.int .i64 1))))])))))))
  (.seq (.reg 2 [.p (.H (.call 149 [(.t .d1 .d0)]))])
  (.seq (.reg 2 [.s .d1 .d0 (.H (.call 181 [(.t .d1 .d0)]))])
  (.seq (.block 2 (.seq (.reg 6 [.p (.L (.len false (.t .d1 .d0))),
    .s .d1 .d2 (.L (.bin .eql (.l 0) (.c (.int .i64 0))))])
  (.cond (.t .d1 .d2) (.seq (.reg 7 [.p (.L (.build [.slN, .slN, .slN, .slN, .int .i64 0, .int .i64 0] [])),
    .p (.H (.store 6 (.t .d0 .d1) (.l 0))),
    .s .d0 .d2 (.L (.mov (.c (.int .i64 13))))])
  .ret) (.seq (.reg 6 [.p (.L (.len false (.t .d1 .d0))),
    .s .d1 .d3 (.L (.bin .gtr (.l 0) (.c (.int .i64 12))))])
  (.cond (.t .d1 .d3) (.seq (.reg 7 [.p (.L (.build [.slN, .slN, .slN, .slN, .int .i64 0, .int .i64 0] [])),
    .p (.H (.store 6 (.t .d0 .d1) (.l 0))),
    .s .d0 .d2 (.L (.mov (.c (.int .i64 14))))])
  .ret) .skip)))))
  (.seq (.reg 500 [.p (.L (.len false (.t .d1 .d0))),
    .p (.L (.len false (.t .d1 .d0))),
    .p (.L (.ssl 1 (.t .d1 .d0) none (some (.l 1)) (some (.l 0)))),
    .p (.L (.build [.slN, .slN, .slN, .slN, .int .i64 0, .int .i64 0] [(0, 1, (.l 0))])),
    .s .d1 .d7 (.L (.alloc [.slN, .slN, .slN, .slN, .int .i64 0, .int .i64 0])),
    .p (.H (.store 6 (.l 0) (.l 1)))])
  (.seq (.seq (.reg 6 [.s .d1 .d5 (.L (.len false (.t .d1 .d0))),
    .s .d1 .d4 (.L (.mov (.c (.int .i64 0))))])
  (.block 3 (.loop (.seq (.reg 1 [.s .d1 .d6 (.L (.bin .lss (.t .d1 .d4) (.t .d1 .d5)))])
  (.seq (.cond (.t .d1 .d6) .skip (.exit 3))
  (.seq (.block 4 (.seq (.reg 2 [.s .d2 .d0 (.L (.mov (.t .d1 .d4)))])
  (.seq (.draw [0, 1, 2, 3, 4, 5, 6, 7, 8] [⟨.p (.L (.faddr 1 (.t .d1 .d7))), []⟩,
    ⟨.p (.L (.load (.l 0))), []⟩,
    ⟨.p (.L (.mov (.t .d1 .d0))), []⟩,
    ⟨.p (.L (.len false (.l 0))), []⟩,
    ⟨.p (.L (.mksl 1 [.bool false] 1 (.l 0) (.l 0))), []⟩,
    ⟨.p (.L (.bsl 1 1 [.slN] [(0, 1, (.l 0))])), []⟩,
    ⟨.p (.H (.append 1 24 (.l 4) (.l 0))), []⟩,
    ⟨.p (.L (.faddr 1 (.t .d1 .d7))), []⟩,
    ⟨.p (.H (.store 1 (.l 0) (.l 1))), []⟩])
  (.reg 219 [.p (.L (.faddr 1 (.t .d1 .d7))),
    .p (.L (.load (.l 0))),
    .p (.L (.iaddr 1 (.l 0) (.t .d2 .d0))),
    .p (.L (.load (.l 0))),
    .p (.L (.iaddr 1 (.l 0) (.t .d2 .d0))),
    .p (.H (.store 1 (.l 0) (.c (.bool true))))]))))
  (.reg 1 [.s .d1 .d4 (.L (.bin .add (.t .d1 .d4) (.c (.int .i64 1))))])))))))
  (.seq (.seq (.reg 7 [.s .d2 .d4 (.L (.mov (.t .d0 .d0))),
    .s .d2 .d2 (.L (.len false (.l 0))),
    .s .d2 .d1 (.L (.mov (.c (.int .i64 0))))])
  (.block 5 (.loop (.seq (.reg 1 [.s .d2 .d3 (.L (.bin .lss (.t .d2 .d1) (.t .d2 .d2)))])
  (.seq (.cond (.t .d2 .d3) .skip (.exit 5))
  (.seq (.block 6 (.seq (.reg 15 [.p (.L (.iaddr 3 (.t .d2 .d4) (.t .d2 .d1))),
    .p (.L (.loadn 3 (.l 0))),
    .s .d2 .d5 (.L (.alloc [.str 0 0, .str 0 0, .int .i64 0])),
    .p (.H (.store 3 (.l 0) (.l 1)))])
  (.seq (.reg 7 [.p (.L (.faddr 1 (.t .d2 .d5))),
    .p (.L (.load (.l 0))),
    .s .d2 .d6 (.L (.bins .neq (.l 0) (.c (.str 0 0))))])
  (.cond (.t .d2 .d6) (.draw [0, 1, 2, 3, 4, 8, 9, 10, 5, 6, 7, 11, 12, 13] [⟨.p (.L (.faddr 1 (.t .d1 .d7))), []⟩,
    ⟨.p (.L (.load (.l 0))), []⟩,
    ⟨.p (.L (.loadn 6 (.t .d1 .d7))), []⟩,
    ⟨.p (.L (.faddr 0 (.t .d2 .d5))), []⟩,
    ⟨.p (.L (.load (.l 0))), []⟩,
    ⟨.p (.L (.loadn 6 (.t .d1 .d7))), []⟩,
    ⟨.p (.L (.faddr 1 (.t .d2 .d5))), []⟩,
    ⟨.p (.L (.load (.l 0))), []⟩,
    ⟨.p (.H (.call 133 [(.l 5), (.l 3)])), [6, 2, 0]⟩,
    ⟨.p (.L (.iaddr 1 (.l 7) (.l 0))), []⟩,
    ⟨.p (.L (.load (.l 0))), []⟩,
    ⟨.p (.H (.call 133 [(.l 5), (.l 3)])), [9, 0]⟩,
    ⟨.p (.L (.iaddr 1 (.l 1) (.l 0))), []⟩,
    ⟨.p (.H (.store 1 (.l 0) (.c (.bool true)))), []⟩]) .skip))))
  (.reg 1 [.s .d2 .d1 (.L (.bin .add (.t .d2 .d1) (.c (.int .i64 1))))])))))))
  (.seq (.reg 7 [.p (.L (.faddr 1 (.t .d1 .d7))),
    .p (.L (.load (.l 0))),
    .p (.H (.call 122 [(.l 0)]))])
  (.seq (.reg 123 [.p (.L (.loadn 6 (.t .d1 .d7))),
    .p (.H (.call 125 [(.l 0)])),
    .p (.L (.ext 0 (.l 0))),
    .p (.L (.ext 1 (.l 1))),
    .p (.H (.store 6 (.t .d1 .d7) (.l 1))),
    .s .d2 .d7 (.L (.mov (.l 1)))])
  (.seq (.seq (.reg 2 [.s .d3 .d0 (.L (.not (.t .d2 .d7)))])
  (.cond (.t .d3 .d0) (.seq (.reg 7 [.p (.L (.build [.slN, .slN, .slN, .slN, .int .i64 0, .int .i64 0] [])),
    .p (.H (.store 6 (.t .d0 .d1) (.l 0))),
    .s .d0 .d2 (.L (.mov (.c (.int .i64 13))))])
  .ret) .skip))
  (.seq (.reg 7 [.p (.L (.loadn 6 (.t .d1 .d7))),
    .p (.H (.store 6 (.t .d0 .d1) (.l 0))),
    .s .d0 .d2 (.L (.mov (.c (.int .i64 0))))])
  .ret)))))))))))))⟩
def i147 : Fun :=
  ⟨1, [0, 2, 15, 14, 16, 13, 5, 3, 25, 24, 26, 23, 7, 32, 31, 33, 30, 9, 11, 42], [.tmp .d0 .d1], (.seq (.reg 1 [.s .d0 .d1 (.L (.mov (.c (.mapN))))])
  (.seq (.reg 1 [.s .d0 .d7 (.L (.mkmap))])
  (.seq (.seq (.reg 7 [.s .d0 .d5 (.L (.mov (.t .d0 .d0))),
    .s .d0 .d3 (.L (.len false (.l 0))),
    .s .d0 .d2 (.L (.mov (.c (.int .i64 0))))])
  (.block 0 (.loop (.seq (.reg 1 [.s .d0 .d4 (.L (.bin .lss (.t .d0 .d2) (.t .d0 .d3)))])
  (.seq (.cond (.t .d0 .d4) .skip (.exit 0))
  (.seq (.block 1 (.seq (.reg 15 [.p (.L (.iaddr 2 (.t .d0 .d5) (.t .d0 .d2))),
    .p (.L (.loadn 2 (.l 0))),
    .s .d0 .d6 (.L (.alloc [.str 0 0, .slN])),
    .p (.H (.store 2 (.l 0) (.l 1)))])
  (.reg 14 [.p (.L (.faddr 0 (.t .d0 .d6))),
    .p (.L (.load (.l 0))),
    .p (.H (.mupd .str (.t .d0 .d7) (.l 0) (.c (.slN))))])))
  (.reg 1 [.s .d0 .d2 (.L (.bin .add (.t .d0 .d2) (.c (.int .i64 1))))])))))))
  (.seq (.seq (.reg 7 [.s .d1 .d3 (.L (.mov (.t .d0 .d0))),
    .s .d1 .d1 (.L (.len false (.l 0))),
    .s .d1 .d0 (.L (.mov (.c (.int .i64 0))))])
  (.block 2 (.loop (.seq (.reg 1 [.s .d1 .d2 (.L (.bin .lss (.t .d1 .d0) (.t .d1 .d1)))])
  (.seq (.cond (.t .d1 .d2) .skip (.exit 2))
  (.seq (.block 3 (.seq (.reg 15 [.p (.L (.iaddr 2 (.t .d1 .d3) (.t .d1 .d0))),
    .p (.L (.loadn 2 (.l 0))),
    .s .d1 .d4 (.L (.alloc [.str 0 0, .slN])),
    .p (.H (.store 2 (.l 0) (.l 1)))])
  (.seq (.reg 15 [.p (.L (.faddr 1 (.t .d1 .d4))),
    .s .d2 .d0 (.L (.load (.l 0))),
    .s .d1 .d6 (.L (.len false (.l 0))),
    .s .d1 .d5 (.L (.mov (.c (.int .i64 0))))])
  (.block 4 (.loop (.seq (.reg 1 [.s .d1 .d7 (.L (.bin .lss (.t .d1 .d5) (.t .d1 .d6)))])
  (.seq (.cond (.t .d1 .d7) .skip (.exit 4))
  (.seq (.block 5 (.seq (.reg 3 [.p (.L (.iaddr 1 (.t .d2 .d0) (.t .d1 .d5))),
    .s .d2 .d1 (.L (.load (.l 0)))])
  (.seq (.reg 180 [.p (.L (.lookup .str (.slN) true (.t .d0 .d7) (.t .d2 .d1))),
    .p (.L (.ext 0 (.l 0))),
    .p (.L (.ext 1 (.l 1))),
    .s .d2 .d2 (.L (.mov (.l 0)))])
  (.seq (.reg 1 [.s .d2 .d3 (.L (.mov (.t .d2 .d2)))])
  (.cond (.t .d2 .d3) (.draw [0, 1, 2, 3, 4, 5, 6, 7, 8, 9, 10] [⟨.p (.L (.mov (.t .d0 .d7))), []⟩,
    ⟨.p (.L (.faddr 0 (.t .d1 .d4))), []⟩,
    ⟨.p (.L (.load (.l 0))), []⟩,
    ⟨.p (.L (.mov (.t .d0 .d7))), []⟩,
    ⟨.p (.L (.faddr 0 (.t .d1 .d4))), []⟩,
    ⟨.p (.L (.load (.l 0))), []⟩,
    ⟨.p (.L (.lookup .str (.slN) false (.l 2) (.l 0))), []⟩,
    ⟨.p (.L (.mov (.t .d2 .d1))), []⟩,
    ⟨.p (.L (.bsl 1 1 [.str 0 0] [(0, 1, (.l 0))])), []⟩,
    ⟨.p (.H (.append 1 16 (.l 2) (.l 0))), [6]⟩,
    ⟨.p (.H (.mupd .str (.l 9) (.l 7) (.l 0))), []⟩]) .skip)))))
  (.reg 1 [.s .d1 .d5 (.L (.bin .add (.t .d1 .d5) (.c (.int .i64 1))))])))))))))
  (.reg 1 [.s .d1 .d0 (.L (.bin .add (.t .d1 .d0) (.c (.int .i64 1))))])))))))
  (.seq (.reg 2 [.s .d0 .d1 (.L (.mov (.t .d0 .d7)))])
  .ret)))))⟩
def i148 : Fun :=
  ⟨2, [0, 1, 4, 6, 15, 5, 7, 29], [.tmp .d0 .d2], (.seq (.reg 1 [.s .d0 .d2 (.L (.mov (.c (.mapN))))])
  (.seq (.reg 1 [.s .d0 .d5 (.L (.mkmap))])
  (.seq (.reg 12 [.p (.L (.lookup .str (.slN) false (.t .d0 .d0) (.t .d0 .d1))),
    .s .d0 .d3 (.H (.call 180 [(.l 0)]))])
  (.seq .skip
  (.seq (.block 0 (.loop (.seq (.seq (.reg 6 [.p (.L (.len false (.t .d0 .d3))),
    .s .d0 .d4 (.L (.bin .gtr (.l 0) (.c (.int .i64 0))))])
  (.cond (.t .d0 .d4) .skip (.exit 0)))
  (.block 1 (.seq (.reg 60 [.p (.L (.len false (.t .d0 .d3))),
    .p (.L (.bin .sub (.l 0) (.c (.int .i64 1)))),
    .p (.L (.iaddr 1 (.t .d0 .d3) (.l 0))),
    .s .d0 .d6 (.L (.load (.l 0)))])
  (.seq (.reg 28 [.p (.L (.len false (.t .d0 .d3))),
    .p (.L (.bin .sub (.l 0) (.c (.int .i64 1)))),
    .s .d0 .d3 (.L (.ssl 1 (.t .d0 .d3) none (some (.l 0)) none))])
  (.seq (.seq (.reg 4 [.s .d0 .d7 (.L (.lookup .str (.bool false) false (.t .d0 .d5) (.t .d0 .d6)))])
  (.cond (.t .d0 .d7) (.exit 1) .skip))
  (.seq (.reg 4 [.p (.H (.mupd .str (.t .d0 .d5) (.t .d0 .d6) (.c (.bool true))))])
  (.reg 24 [.p (.L (.lookup .str (.slN) false (.t .d0 .d0) (.t .d0 .d6))),
    .s .d0 .d3 (.H (.append 1 16 (.t .d0 .d3) (.l 0)))])))))))))
  (.seq (.reg 2 [.s .d0 .d2 (.L (.mov (.t .d0 .d5)))])
  .ret))))))⟩
def i149 : Fun :=
  ⟨1, [0, 2], [], (.seq (.reg 2 [.s .d0 .d1 (.L (.len false (.t .d0 .d0)))])
  (.reg 56 [.p (.L (.conv .u64 (.t .d0 .d1))),
    .p (.H (.call 116 [(.l 0)])),
    .p (.H (.call 227 [(.t .d0 .d0), (.c (.int .i64 0)), (.t .d0 .d1), (.l 0)]))]))⟩
def i151 : Fun :=
  ⟨2, [0, 1, 4, 8, 7, 9, 5, 16], [.tmp .d0 .d2], (.seq (.reg 1 [.s .d0 .d2 (.L (.mov (.c (.int .i64 0))))])
  (.seq (.seq (.reg 6 [.s .d0 .d4 (.L (.len false (.t .d0 .d0))),
    .s .d0 .d3 (.L (.mov (.c (.int .i64 0))))])
  (.block 0 (.loop (.seq (.reg 1 [.s .d0 .d5 (.L (.bin .lss (.t .d0 .d3) (.t .d0 .d4)))])
  (.seq (.cond (.t .d0 .d5) .skip (.exit 0))
  (.seq (.block 1 (.seq (.reg 2 [.s .d0 .d6 (.L (.mov (.t .d0 .d3)))])
  (.seq (.reg 56 [.p (.L (.iaddr 1 (.t .d0 .d0) (.t .d0 .d6))),
    .p (.L (.load (.l 0))),
    .s .d0 .d7 (.H (.callv (.t .d0 .d1) [(.l 0)]))])
  (.cond (.t .d0 .d7) (.seq (.reg 2 [.s .d0 .d2 (.L (.mov (.t .d0 .d6)))])
  .ret) .skip))))
  (.reg 1 [.s .d0 .d3 (.L (.bin .add (.t .d0 .d3) (.c (.int .i64 1))))])))))))
  (.seq (.reg 1 [.s .d0 .d2 (.L (.mov (.c (.int .i64 (-1)))))])
  .ret)))⟩
def i152 : Fun :=
  ⟨3, [0, 1, 2, 6, 16, 7], [.tmp .d0 .d3], (.seq (.reg 1 [.s .d0 .d3 (.L (.mov (.c (.slN))))])
  (.seq (.reg 48 [.p (.L (.len false (.t .d0 .d0))),
    .p (.L (.ssl 1 (.t .d0 .d0) (some (.t .d0 .d1)) (some (.t .d0 .d2)) (some (.l 0))))])
  (.seq (.seq (.reg 4 [.s .d0 .d4 (.L (.bin .eql (.t .d0 .d1) (.t .d0 .d2)))])
  (.cond (.t .d0 .d4) (.seq (.reg 2 [.s .d0 .d3 (.L (.mov (.t .d0 .d0)))])
  .ret) .skip))
  (.seq (.reg 2 [.s .d0 .d5 (.L (.len false (.t .d0 .d0)))])
  (.seq (.draw [0, 1, 2, 3, 4, 5, 6, 7] [⟨.p (.L (.mov (.t .d0 .d0))), []⟩,
    ⟨.p (.L (.mov (.t .d0 .d1))), []⟩,
    ⟨.p (.L (.ssl 1 (.l 1) none (some (.l 0)) none)), []⟩,
    ⟨.p (.L (.mov (.t .d0 .d0))), []⟩,
    ⟨.p (.L (.mov (.t .d0 .d2))), []⟩,
    ⟨.p (.L (.ssl 1 (.l 1) (some (.l 0)) none none)), []⟩,
    ⟨.p (.H (.append 1 16 (.l 3) (.l 0))), []⟩,
    ⟨.s .d0 .d0 (.L (.mov (.l 0))), []⟩])
  (.seq (.reg 52 [.p (.L (.len false (.t .d0 .d0))),
    .p (.L (.ssl 1 (.t .d0 .d0) (some (.l 0)) (some (.t .d0 .d5)) none)),
    .p (.H (.clear [.str 0 0] (.l 0)))])
  (.seq (.reg 2 [.s .d0 .d3 (.L (.mov (.t .d0 .d0)))])
  .ret)))))))⟩
def i153 : Fun :=
  ⟨3, [0, 1, 2, 6], [.tmp .d0 .d3], (.seq (.reg 1 [.s .d0 .d3 (.L (.mov (.c (.bool false))))])
  (.seq (.reg 42 [.p (.H (.call 147 [(.t .d0 .d0)])),
    .p (.H (.call 148 [(.l 0), (.t .d0 .d1)])),
    .s .d0 .d3 (.L (.lookup .str (.bool false) false (.l 0) (.t .d0 .d2)))])
  .ret))⟩
def i154 : Fun :=
  ⟨1, [0, 2, 8, 3, 13, 25, 4, 5, 32, 44], [.tmp .d0 .d1], (.seq (.reg 1 [.s .d0 .d1 (.L (.mov (.c (.slN))))])
  (.seq (.seq (.reg 6 [.p (.L (.len false (.t .d0 .d0))),
    .s .d0 .d2 (.L (.bin .lss (.l 0) (.c (.int .i64 2))))])
  (.cond (.t .d0 .d2) (.seq (.reg 2 [.s .d0 .d1 (.L (.mov (.t .d0 .d0)))])
  .ret) .skip))
  (.seq (.seq (.reg 1 [.s .d0 .d3 (.L (.mov (.c (.int .i64 1))))])
  (.block 0 (.loop (.seq (.seq (.reg 12 [.p (.L (.len false (.t .d0 .d0))),
    .s .d0 .d4 (.L (.bin .lss (.t .d0 .d3) (.l 0)))])
  (.cond (.t .d0 .d4) .skip (.exit 0)))
  (.seq (.block 1 (.seq (.draw [0, 1, 2, 3, 4, 5, 6, 7, 8, 9] [⟨.p (.L (.mov (.t .d0 .d0))), []⟩,
    ⟨.p (.L (.mov (.t .d0 .d3))), []⟩,
    ⟨.p (.L (.iaddr 4 (.l 1) (.l 0))), []⟩,
    ⟨.p (.L (.loadn 4 (.l 0))), []⟩,
    ⟨.p (.L (.mov (.t .d0 .d0))), []⟩,
    ⟨.p (.L (.mov (.t .d0 .d3))), []⟩,
    ⟨.p (.L (.bin .sub (.l 0) (.c (.int .i64 1)))), []⟩,
    ⟨.p (.L (.iaddr 4 (.l 2) (.l 0))), []⟩,
    ⟨.p (.L (.loadn 4 (.l 0))), []⟩,
    ⟨.s .d0 .d5 (.L (.eq false (.st [(0, .str), (1, .int), (2, .int), (3, .str)]) (.l 5) (.l 0))), []⟩])
  (.cond (.t .d0 .d5) (.seq (.reg 4 [.s .d0 .d6 (.L (.ssl 4 (.t .d0 .d0) (some (.t .d0 .d3)) none none))])
  (.seq (.seq (.reg 1 [.s .d0 .d7 (.L (.mov (.c (.int .i64 1))))])
  (.block 2 (.loop (.seq (.seq (.reg 12 [.p (.L (.len false (.t .d0 .d6))),
    .s .d1 .d0 (.L (.bin .lss (.t .d0 .d7) (.l 0)))])
  (.cond (.t .d1 .d0) .skip (.exit 2)))
  (.seq (.block 3 (.seq (.draw [0, 1, 2, 3, 4, 5, 6, 7, 8, 9] [⟨.p (.L (.mov (.t .d0 .d6))), []⟩,
    ⟨.p (.L (.mov (.t .d0 .d7))), []⟩,
    ⟨.p (.L (.iaddr 4 (.l 1) (.l 0))), []⟩,
    ⟨.p (.L (.loadn 4 (.l 0))), []⟩,
    ⟨.p (.L (.mov (.t .d0 .d6))), []⟩,
    ⟨.p (.L (.mov (.t .d0 .d7))), []⟩,
    ⟨.p (.L (.bin .sub (.l 0) (.c (.int .i64 1)))), []⟩,
    ⟨.p (.L (.iaddr 4 (.l 2) (.l 0))), []⟩,
    ⟨.p (.L (.loadn 4 (.l 0))), []⟩,
    ⟨.s .d1 .d1 (.L (.eq true (.st [(0, .str), (1, .int), (2, .int), (3, .str)]) (.l 5) (.l 0))), []⟩])
  (.cond (.t .d1 .d1) (.seq (.reg 240 [.p (.L (.iaddr 4 (.t .d0 .d6) (.t .d0 .d7))),
    .p (.L (.loadn 4 (.l 0))),
    .p (.L (.iaddr 4 (.t .d0 .d0) (.t .d0 .d3))),
    .p (.H (.store 4 (.l 0) (.l 1)))])
  (.reg 2 [.s .d0 .d3 (.L (.bin .add (.t .d0 .d3) (.c (.int .i64 1))))])) .skip)))
  (.reg 2 [.s .d0 .d7 (.L (.bin .add (.t .d0 .d7) (.c (.int .i64 1))))]))))))
  (.seq (.reg 12 [.p (.L (.ssl 4 (.t .d0 .d0) (some (.t .d0 .d3)) none none)),
    .p (.H (.clear [.str 0 0, .int .i64 0, .int .i64 0, .str 0 0] (.l 0)))])
  (.seq (.reg 4 [.s .d0 .d1 (.L (.ssl 4 (.t .d0 .d0) none (some (.t .d0 .d3)) none))])
  .ret)))) .skip)))
  (.reg 2 [.s .d0 .d3 (.L (.bin .add (.t .d0 .d3) (.c (.int .i64 1))))]))))))
  (.seq (.reg 2 [.s .d0 .d1 (.L (.mov (.t .d0 .d0)))])
  .ret))))⟩
def i155 : Fun :=
  ⟨2, [0, 1, 4, 10, 5, 6, 34, 42, 7], [.tmp .d0 .d2], (.seq (.reg 1 [.s .d0 .d2 (.L (.mov (.c (.slN))))])
  (.seq (.seq (.reg 6 [.p (.L (.len false (.t .d0 .d0))),
    .s .d0 .d3 (.L (.bin .lss (.l 0) (.c (.int .i64 2))))])
  (.cond (.t .d0 .d3) (.seq (.reg 2 [.s .d0 .d2 (.H (.call 228 [(.t .d0 .d0)]))])
  .ret) .skip))
  (.seq (.draw [0, 1, 2, 3, 4, 5, 7, 8, 9, 10, 11, 12, 6, 13, 14, 15] [⟨.p (.L (.mov (.t .d0 .d0))), []⟩,
    ⟨.p (.L (.mov (.t .d0 .d0))), []⟩,
    ⟨.p (.L (.len false (.l 0))), []⟩,
    ⟨.p (.L (.bin .quo (.l 0) (.c (.int .i64 2)))), []⟩,
    ⟨.p (.L (.ssl 4 (.l 3) none (some (.l 0)) none)), []⟩,
    ⟨.p (.L (.mov (.t .d0 .d1))), []⟩,
    ⟨.p (.L (.mov (.t .d0 .d0))), []⟩,
    ⟨.p (.L (.mov (.t .d0 .d0))), []⟩,
    ⟨.p (.L (.len false (.l 0))), []⟩,
    ⟨.p (.L (.bin .quo (.l 0) (.c (.int .i64 2)))), []⟩,
    ⟨.p (.L (.ssl 4 (.l 3) (some (.l 0)) none none)), []⟩,
    ⟨.p (.L (.mov (.t .d0 .d1))), []⟩,
    ⟨.p (.H (.call 155 [(.l 7), (.l 6)])), [1]⟩,
    ⟨.p (.H (.call 155 [(.l 2), (.l 1)])), []⟩,
    ⟨.s .d0 .d4 (.L (.mov (.l 1))), []⟩,
    ⟨.s .d0 .d5 (.L (.mov (.l 1))), []⟩])
  (.seq (.reg 1 [.s .d1 .d0 (.L (.mov (.c (.slN))))])
  (.seq (.block 0 (.loop (.seq (.seq (.reg 246 [.p (.L (.len false (.t .d0 .d4))),
    .p (.L (.bin .gtr (.l 0) (.c (.int .i64 0)))),
    .g (.l 0) true (.L (.mov (.t .d0 .d5))),
    .g (.l 1) true (.L (.len false (.l 0))),
    .g (.l 2) true (.L (.bin .gtr (.l 0) (.c (.int .i64 0)))),
    .s .d0 .d6 (.L (.pick (.l 3) (.l 0) (.c (.bool false))))])
  (.cond (.t .d0 .d6) .skip (.exit 0)))
  (.block 1 (.seq (.draw [0, 1, 2, 3, 4, 5, 6, 7] [⟨.p (.L (.mov (.t .d0 .d1))), []⟩,
    ⟨.p (.L (.mov (.t .d0 .d5))), []⟩,
    ⟨.p (.L (.iaddr 4 (.l 0) (.c (.int .i64 0)))), []⟩,
    ⟨.p (.L (.loadn 4 (.l 0))), []⟩,
    ⟨.p (.L (.mov (.t .d0 .d4))), []⟩,
    ⟨.p (.L (.iaddr 4 (.l 0) (.c (.int .i64 0)))), []⟩,
    ⟨.p (.L (.loadn 4 (.l 0))), []⟩,
    ⟨.s .d0 .d7 (.H (.callv (.l 6) [(.l 3), (.l 0)])), []⟩])
  (.cond (.t .d0 .d7) (.draw [0, 1, 2, 3, 4, 6, 7, 5, 8, 9] [⟨.p (.L (.mov (.t .d1 .d0))), []⟩,
    ⟨.p (.L (.mov (.t .d0 .d5))), []⟩,
    ⟨.p (.L (.iaddr 4 (.l 0) (.c (.int .i64 0)))), []⟩,
    ⟨.p (.L (.loadn 4 (.l 0))), []⟩,
    ⟨.p (.L (.bsl 4 1 [.str 0 0, .int .i64 0, .int .i64 0, .str 0 0] [(0, 4, (.l 0))])), []⟩,
    ⟨.p (.L (.mov (.t .d0 .d5))), []⟩,
    ⟨.p (.L (.ssl 4 (.l 0) (some (.c (.int .i64 1))) none none)), []⟩,
    ⟨.p (.H (.append 4 48 (.l 6) (.l 2))), [0]⟩,
    ⟨.s .d1 .d0 (.L (.mov (.l 0))), []⟩,
    ⟨.s .d0 .d5 (.L (.mov (.l 2))), []⟩]) (.draw [0, 1, 2, 3, 4, 6, 7, 5, 8, 9] [⟨.p (.L (.mov (.t .d1 .d0))), []⟩,
    ⟨.p (.L (.mov (.t .d0 .d4))), []⟩,
    ⟨.p (.L (.iaddr 4 (.l 0) (.c (.int .i64 0)))), []⟩,
    ⟨.p (.L (.loadn 4 (.l 0))), []⟩,
    ⟨.p (.L (.bsl 4 1 [.str 0 0, .int .i64 0, .int .i64 0, .str 0 0] [(0, 4, (.l 0))])), []⟩,
    ⟨.p (.L (.mov (.t .d0 .d4))), []⟩,
    ⟨.p (.L (.ssl 4 (.l 0) (some (.c (.int .i64 1))) none none)), []⟩,
    ⟨.p (.H (.append 4 48 (.l 6) (.l 2))), [0]⟩,
    ⟨.s .d1 .d0 (.L (.mov (.l 0))), []⟩,
    ⟨.s .d0 .d4 (.L (.mov (.l 2))), []⟩])))))))
  (.seq (.reg 20 [.p (.H (.append 4 48 (.t .d1 .d0) (.t .d0 .d4))),
    .s .d0 .d2 (.H (.append 4 48 (.l 0) (.t .d0 .d5)))])
  .ret))))))⟩
def i156 : Fun :=
  ⟨2, [0, 1, 4, 2, 3], [.tmp .d0 .d2], (.seq (.reg 7 [.s .d0 .d3 (.L (.box 4 (.t .d0 .d0))),
    .s .d0 .d4 (.L (.box 4 (.t .d0 .d1))),
    .s .d0 .d2 (.L (.mov (.c (.bool false))))])
  (.seq (.reg 15 [.p (.L (.loadn 4 (.t .d0 .d3))),
    .p (.L (.loadn 4 (.t .d0 .d4))),
    .p (.H (.call 229 [(.l 1), (.l 0)])),
    .s .d0 .d2 (.L (.bin .lss (.l 0) (.c (.int .i64 0))))])
  .ret))⟩
def i161 : Fun :=
  ⟨3, [0, 1, 2, 4, 17, 5], [.tmp .d0 .d3], (.seq (.reg 1 [.s .d0 .d3 (.L (.mov (.c (.str 0 0))))])
  (.seq (.reg 1 [.s .d0 .d5 (.L (.load (.t .d0 .d1)))])
  (.seq (.block 0 (.loop (.seq (.seq (.reg 2031 [.p (.L (.load (.t .d0 .d1))),
    .p (.L (.load (.t .d0 .d2))),
    .p (.L (.len true (.l 0))),
    .p (.L (.bin .lss (.l 2) (.l 0))),
    .g (.l 0) true (.L (.mov (.t .d0 .d0))),
    .g (.l 1) true (.L (.load (.t .d0 .d2))),
    .g (.l 2) true (.L (.load (.t .d0 .d1))),
    .g (.l 3) true (.L (.istr (.l 1) (.l 0))),
    .g (.l 4) true (.H (.callv (.l 3) [(.l 0)])),
    .s .d0 .d4 (.L (.pick (.l 5) (.l 0) (.c (.bool false))))])
  (.cond (.t .d0 .d4) .skip (.exit 0)))
  (.block 1 (.reg 7 [.p (.L (.load (.t .d0 .d1))),
    .p (.L (.bin .add (.l 0) (.c (.int .i64 1)))),
    .p (.H (.store 1 (.t .d0 .d1) (.l 0)))])))))
  (.seq (.reg 13 [.p (.L (.load (.t .d0 .d2))),
    .p (.L (.load (.t .d0 .d1))),
    .s .d0 .d3 (.L (.sstr (.l 1) (some (.t .d0 .d5)) (some (.l 0))))])
  .ret))))⟩
def i163 : Fun :=
  ⟨1, [0, 2], [.tmp .d0 .d1], (.seq (.reg 1 [.s .d0 .d1 (.L (.mov (.c (.bool false))))])
  (.seq (.reg 58 [.p (.L (.bin .geq (.t .d0 .d0) (.c (.int .u8 97)))),
    .g (.l 0) true (.L (.mov (.t .d0 .d0))),
    .g (.l 1) true (.L (.bin .leq (.l 0) (.c (.int .u8 122)))),
    .s .d0 .d1 (.L (.pick (.l 2) (.l 0) (.c (.bool false))))])
  .ret))⟩
def i164 : Fun :=
  ⟨1, [0, 2], [.tmp .d0 .d1], (.seq (.reg 1 [.s .d0 .d1 (.L (.mov (.c (.bool false))))])
  (.seq (.reg 954 [.p (.H (.call 163 [(.t .d0 .d0)])),
    .g (.l 0) false (.L (.mov (.t .d0 .d0))),
    .g (.l 1) false (.H (.call 166 [(.l 0)])),
    .p (.L (.pick (.l 2) (.c (.bool true)) (.l 0))),
    .g (.l 0) false (.L (.mov (.t .d0 .d0))),
    .g (.l 1) false (.L (.bin .eql (.l 0) (.c (.int .u8 95)))),
    .s .d0 .d1 (.L (.pick (.l 2) (.c (.bool true)) (.l 0)))])
  .ret))⟩
def i165 : Fun :=
  ⟨1, [0, 2, 3, 4, 7], [.tmp .d0 .d1, .tmp .d0 .d2], (.seq (.reg 3 [.s .d0 .d1 (.L (.mov (.c (.int .i64 0)))),
    .s .d0 .d2 (.L (.mov (.c (.int .i64 0))))])
  (.seq (.block 0 (.seq (.reg 2 [.s .d0 .d3 (.H (.call 233 [(.t .d0 .d0)]))])
  (.cond (.t .d0 .d3) (.seq (.reg 3 [.s .d0 .d1 (.L (.mov (.c (.int .i64 3)))),
    .s .d0 .d2 (.L (.mov (.c (.int .i64 0))))])
  .ret) (.seq (.reg 6 [.p (.L (.len true (.t .d0 .d0))),
    .s .d0 .d4 (.L (.bin .gtr (.l 0) (.c (.int .i64 20))))])
  (.cond (.t .d0 .d4) (.seq (.reg 3 [.s .d0 .d1 (.L (.mov (.c (.int .i64 0)))),
    .s .d0 .d2 (.L (.mov (.c (.int .i64 9))))])
  .ret) .skip)))))
  (.seq (.reg 3 [.s .d0 .d1 (.L (.mov (.c (.int .i64 1)))),
    .s .d0 .d2 (.L (.mov (.c (.int .i64 0))))])
  .ret)))⟩
def i166 : Fun :=
  ⟨1, [0, 2], [.tmp .d0 .d1], (.seq (.reg 1 [.s .d0 .d1 (.L (.mov (.c (.bool false))))])
  (.seq (.reg 58 [.p (.L (.bin .geq (.t .d0 .d0) (.c (.int .u8 48)))),
    .g (.l 0) true (.L (.mov (.t .d0 .d0))),
    .g (.l 1) true (.L (.bin .leq (.l 0) (.c (.int .u8 57)))),
    .s .d0 .d1 (.L (.pick (.l 2) (.l 0) (.c (.bool false))))])
  .ret))⟩
def i167 : Fun :=
  ⟨2, [0, 1, 4, 5, 6, 10], [.tmp .d0 .d2, .tmp .d0 .d3], (.seq (.reg 3 [.s .d0 .d2 (.L (.mov (.c (.int .i64 0)))),
    .s .d0 .d3 (.L (.mov (.c (.int .i64 0))))])
  (.seq (.block 0 (.seq (.reg 6 [.p (.L (.len true (.t .d0 .d0))),
    .s .d0 .d4 (.L (.bin .gtr (.l 0) (.c (.int .i64 9))))])
  (.cond (.t .d0 .d4) (.seq (.reg 3 [.s .d0 .d2 (.L (.mov (.c (.int .i64 0)))),
    .s .d0 .d3 (.L (.mov (.c (.int .i64 9))))])
  .ret) (.seq (.seq (.reg 246 [.p (.L (.istr (.t .d0 .d0) (.c (.int .i64 0)))),
    .p (.L (.bin .eql (.l 0) (.c (.int .u8 48)))),
    .g (.l 0) true (.L (.mov (.t .d0 .d0))),
    .g (.l 1) true (.L (.len true (.l 0))),
    .g (.l 2) true (.L (.bin .gtr (.l 0) (.c (.int .i64 1)))),
    .s .d0 .d5 (.L (.pick (.l 3) (.l 0) (.c (.bool false))))])
  (.cond (.t .d0 .d5) .skip (.reg 122 [.p (.L (.bins .neq (.t .d0 .d1) (.c (.str 0 0)))),
    .g (.l 0) true (.L (.mov (.t .d0 .d1))),
    .g (.l 1) true (.L (.istr (.l 0) (.c (.int .i64 0)))),
    .g (.l 2) true (.H (.call 164 [(.l 0)])),
    .s .d0 .d5 (.L (.pick (.l 3) (.l 0) (.c (.bool false))))])))
  (.cond (.t .d0 .d5) (.seq (.reg 3 [.s .d0 .d2 (.L (.mov (.c (.int .i64 0)))),
    .s .d0 .d3 (.L (.mov (.c (.int .i64 10))))])
  .ret) .skip)))))
  (.seq (.reg 3 [.s .d0 .d2 (.L (.mov (.c (.int .i64 2)))),
    .s .d0 .d3 (.L (.mov (.c (.int .i64 0))))])
  .ret)))⟩
def i168 : Fun :=
  ⟨1, [0, 2, 7, 6, 8, 5, 4, 13, 23], [.tmp .d0 .d1], (.seq (.reg 1 [.s .d0 .d1 (.L (.mov (.c (.str 0 0))))])
  (.seq (.seq (.reg 7 [.s .d0 .d5 (.L (.bsl 1 3 [.str 0 0] [(0, 1, (.c (.str 2 15677))), (1, 1, (.c (.str 2 15676))), (2, 1, (.c (.str 2 15917)))])),
    .s .d0 .d3 (.L (.len false (.l 0))),
    .s .d0 .d2 (.L (.mov (.c (.int .i64 0))))])
  (.block 0 (.loop (.seq (.reg 1 [.s .d0 .d4 (.L (.bin .lss (.t .d0 .d2) (.t .d0 .d3)))])
  (.seq (.cond (.t .d0 .d4) .skip (.exit 0))
  (.seq (.block 1 (.seq (.reg 3 [.p (.L (.iaddr 1 (.t .d0 .d5) (.t .d0 .d2))),
    .s .d0 .d6 (.L (.load (.l 0)))])
  (.seq (.reg 4 [.s .d0 .d7 (.H (.call 234 [(.t .d0 .d0), (.t .d0 .d6)]))])
  (.cond (.t .d0 .d7) (.seq (.reg 2 [.s .d0 .d1 (.L (.mov (.t .d0 .d6)))])
  .ret) .skip))))
  (.reg 1 [.s .d0 .d2 (.L (.bin .add (.t .d0 .d2) (.c (.int .i64 1))))])))))))
  (.seq (.seq (.reg 250 [.p (.L (.bins .neq (.t .d0 .d0) (.c (.str 0 0)))),
    .g (.l 0) true (.L (.mov (.t .d0 .d0))),
    .g (.l 1) true (.L (.istr (.l 0) (.c (.int .i64 0)))),
    .g (.l 2) true (.H (.call 235 [(.c (.str 16 44057595459481303378468723561875581224)), (.l 0)])),
    .g (.l 3) true (.L (.bin .geq (.l 0) (.c (.int .i64 0)))),
    .s .d1 .d0 (.L (.pick (.l 4) (.l 0) (.c (.bool false))))])
  (.cond (.t .d1 .d0) (.seq (.reg 2 [.s .d0 .d1 (.L (.sstr (.t .d0 .d0) none (some (.c (.int .i64 1)))))])
  .ret) .skip))
  (.seq (.reg 1 [.s .d0 .d1 (.L (.mov (.c (.str 0 0))))])
  .ret))))⟩
def i170 : Fun :=
  ⟨2, [0, 1, 4, 12, 5], [.tmp .d0 .d2], (.seq (.reg 1 [.s .d0 .d2 (.L (.mov (.c (.int .i64 0))))])
  (.seq (.reg 6 [.p (.H (.call 171 [(.t .d0 .d0)])),
    .s .d0 .d4 (.L (.field 2 1 false (.l 0)))])
  (.seq (.seq (.reg 12 [.p (.H (.call 173 [(.t .d0 .d0), (.t .d0 .d1)])),
    .s .d0 .d3 (.L (.not (.l 0)))])
  (.cond (.t .d0 .d3) (.reg 2 [.p (.H (.call 236 [(.t .d0 .d0), (.c (.int .i64 11))]))]) .skip))
  (.seq (.reg 2 [.s .d0 .d2 (.L (.mov (.t .d0 .d4)))])
  .ret))))⟩
def i171 : Fun :=
  ⟨1, [0, 2], [.cell .d0 .d1 (some 3)], (.seq (.reg 1 [.s .d0 .d1 (.L (.alloc [.int .i64 0, .str 0 0, .int .i64 0]))])
  (.seq (.draw [0, 1, 2, 3, 4, 5, 6, 7, 8, 9, 10] [⟨.p (.L (.mov (.t .d0 .d0))), []⟩,
    ⟨.p (.L (.nilck (.l 0))), []⟩,
    ⟨.p (.L (.faddr 0 (.l 0))), []⟩,
    ⟨.p (.L (.load (.l 0))), []⟩,
    ⟨.p (.L (.mov (.t .d0 .d0))), []⟩,
    ⟨.p (.L (.nilck (.l 0))), []⟩,
    ⟨.p (.L (.faddr 1 (.l 0))), []⟩,
    ⟨.p (.L (.load (.l 0))), []⟩,
    ⟨.p (.L (.iaddr 3 (.l 4) (.l 0))), []⟩,
    ⟨.p (.L (.loadn 3 (.l 0))), []⟩,
    ⟨.p (.H (.store 3 (.t .d0 .d1) (.l 0))), []⟩])
  .ret))⟩
def i172 : Fun :=
  ⟨1, [0, 2], [.tmp .d0 .d1], (.seq (.reg 1 [.s .d0 .d1 (.L (.mov (.c (.str 0 0))))])
  (.seq (.reg 6 [.p (.H (.call 237 [(.t .d0 .d0), (.c (.int .i64 1))])),
    .s .d0 .d1 (.L (.field 1 1 false (.l 0)))])
  .ret))⟩
def i173 : Fun :=
  ⟨2, [0, 1, 4, 5, 9], [.tmp .d0 .d2], (.seq (.reg 1 [.s .d0 .d2 (.L (.mov (.c (.bool false))))])
  (.seq (.reg 4 [.s .d0 .d3 (.H (.call 238 [(.t .d0 .d0), (.t .d0 .d1)]))])
  (.seq (.seq (.reg 1 [.s .d0 .d4 (.L (.mov (.t .d0 .d3)))])
  (.cond (.t .d0 .d4) (.reg 254 [.p (.L (.nilck (.t .d0 .d0))),
    .p (.L (.faddr 1 (.l 0))),
    .p (.L (.load (.l 0))),
    .p (.L (.bin .add (.l 0) (.c (.int .i64 1)))),
    .p (.L (.nilck (.t .d0 .d0))),
    .p (.L (.faddr 1 (.l 0))),
    .p (.H (.store 1 (.l 0) (.l 2)))]) .skip))
  (.seq (.reg 2 [.s .d0 .d2 (.L (.mov (.t .d0 .d3)))])
  .ret))))⟩
def i174 : Fun :=
  ⟨1, [0, 2, 3, 4, 23], [.cell .d0 .d1 (some 4)], (.seq (.reg 1 [.s .d0 .d1 (.L (.alloc [.str 0 0, .str 0 0, .int .i64 0, .int .i64 0]))])
  (.seq (.reg 246 [.p (.H (.call 171 [(.t .d0 .d0)])),
    .p (.L (.field 2 1 false (.l 0))),
    .p (.H (.call 172 [(.t .d0 .d0)])),
    .p (.L (.build [.str 0 0, .str 0 0, .int .i64 0, .int .i64 0] [(3, 1, (.l 1)), (0, 1, (.l 0))])),
    .s .d0 .d2 (.L (.alloc [.str 0 0, .str 0 0, .int .i64 0, .int .i64 0])),
    .p (.H (.store 4 (.l 0) (.l 1)))])
  (.seq (.reg 2 [.p (.H (.call 170 [(.t .d0 .d0), (.c (.str 1 58))]))])
  (.seq (.reg 14 [.p (.H (.call 172 [(.t .d0 .d0)])),
    .p (.L (.faddr 1 (.t .d0 .d2))),
    .p (.H (.store 1 (.l 0) (.l 1)))])
  (.seq (.reg 2 [.p (.H (.call 170 [(.t .d0 .d0), (.c (.str 1 61))]))])
  (.seq (.reg 2 [.s .d0 .d3 (.H (.call 173 [(.t .d0 .d0), (.c (.str 1 45))]))])
  (.seq (.reg 14 [.p (.H (.call 239 [(.t .d0 .d0)])),
    .p (.L (.faddr 2 (.t .d0 .d2))),
    .p (.H (.store 1 (.l 0) (.l 1)))])
  (.seq (.seq (.reg 1 [.s .d0 .d4 (.L (.mov (.t .d0 .d3)))])
  (.cond (.t .d0 .d4) (.reg 31 [.p (.L (.faddr 2 (.t .d0 .d2))),
    .p (.L (.load (.l 0))),
    .p (.L (.neg (.l 0))),
    .p (.L (.faddr 2 (.t .d0 .d2))),
    .p (.H (.store 1 (.l 0) (.l 1)))]) .skip))
  (.seq (.reg 2 [.p (.H (.call 170 [(.t .d0 .d0), (.c (.str 1 59))]))])
  (.seq (.reg 3 [.p (.L (.loadn 4 (.t .d0 .d2))),
    .p (.H (.store 4 (.t .d0 .d1) (.l 0)))])
  .ret))))))))))⟩
def i175 : Fun :=
  ⟨1, [0, 2, 1, 3, 16], [.cell .d0 .d1 (some 8)], (.seq (.reg 3 [.s .d0 .d2 (.L (.box 1 (.t .d0 .d0))),
    .s .d0 .d1 (.L (.alloc [.str 0 0, .slN, .bool false, .str 0 0, .str 0 0, .slN, .slN, .int .i64 0]))])
  (.seq (.draw [0, 3, 6, 1, 2, 4, 5, 7] [⟨.p (.L (.load (.t .d0 .d2))), []⟩,
    ⟨.p (.L (.load (.t .d0 .d2))), []⟩,
    ⟨.s .d0 .d3 (.L (.alloc [.str 0 0, .slN, .bool false, .str 0 0, .str 0 0, .slN, .slN, .int .i64 0])), []⟩,
    ⟨.p (.H (.call 171 [(.l 2)])), [1, 0]⟩,
    ⟨.p (.L (.field 2 1 false (.l 0))), []⟩,
    ⟨.p (.H (.call 172 [(.l 3)])), [2]⟩,
    ⟨.p (.L (.build [.str 0 0, .slN, .bool false, .str 0 0, .str 0 0, .slN, .slN, .int .i64 0] [(7, 1, (.l 1)), (0, 1, (.l 0))])), []⟩,
    ⟨.p (.H (.store 8 (.l 4) (.l 0))), []⟩])
  (.seq (.reg 3 [.p (.L (.load (.t .d0 .d2))),
    .p (.H (.call 170 [(.l 0), (.c (.str 1 40))]))])
  (.seq (.reg 7 [.p (.L (.load (.t .d0 .d2))),
    .p (.L (.fn 241 [] [(.t .d0 .d2), (.t .d0 .d3)])),
    .p (.H (.call 240 [(.l 1), (.c (.str 1 41)), (.l 0)]))])
  (.seq (.seq (.reg 3 [.p (.L (.load (.t .d0 .d2))),
    .s .d0 .d4 (.H (.call 173 [(.l 0), (.c (.str 2 15917))]))])
  (.cond (.t .d0 .d4) (.reg 63 [.p (.L (.load (.t .d0 .d2))),
    .p (.H (.call 172 [(.l 0)])),
    .p (.L (.faddr 2 (.t .d0 .d3))),
    .p (.H (.store 1 (.l 0) (.c (.bool true)))),
    .p (.L (.faddr 3 (.t .d0 .d3))),
    .p (.H (.store 1 (.l 0) (.l 3)))]) .skip))
  (.seq (.reg 3 [.p (.L (.load (.t .d0 .d2))),
    .p (.H (.call 170 [(.l 0), (.c (.str 2 25456))]))])
  (.seq (.reg 15 [.p (.L (.load (.t .d0 .d2))),
    .p (.H (.call 172 [(.l 0)])),
    .p (.L (.faddr 4 (.t .d0 .d3))),
    .p (.H (.store 1 (.l 0) (.l 1)))])
  (.seq (.reg 3 [.p (.L (.load (.t .d0 .d2))),
    .p (.H (.call 170 [(.l 0), (.c (.str 4 1936028533))]))])
  (.seq (.reg 3 [.p (.L (.load (.t .d0 .d2))),
    .p (.H (.call 170 [(.l 0), (.c (.str 1 123))]))])
  (.seq (.reg 7 [.p (.L (.load (.t .d0 .d2))),
    .p (.L (.fn 242 [] [(.t .d0 .d3), (.t .d0 .d2)])),
    .p (.H (.call 240 [(.l 1), (.c (.str 1 125)), (.l 0)]))])
  (.seq (.reg 15 [.p (.L (.load (.t .d0 .d2))),
    .p (.H (.call 243 [(.l 0)])),
    .p (.L (.faddr 6 (.t .d0 .d3))),
    .p (.H (.store 1 (.l 0) (.l 1)))])
  (.seq (.reg 3 [.p (.L (.loadn 8 (.t .d0 .d3))),
    .p (.H (.store 8 (.t .d0 .d1) (.l 0)))])
  .ret))))))))))))⟩
def i176 : Fun :=
  ⟨1, [0, 2, 4], [.tmp .d0 .d1], (.seq (.reg 1 [.s .d0 .d1 (.L (.mov (.c (.str 0 0))))])
  (.seq (.seq (.reg 2 [.s .d0 .d2 (.L (.bin .lss (.t .d0 .d0) (.c (.int .i64 10))))])
  (.cond (.t .d0 .d2) (.seq (.reg 12 [.p (.L (.bin .add (.t .d0 .d0) (.c (.int .i64 1)))),
    .s .d0 .d1 (.L (.sstr (.c (.str 36 237927390410950444456928663707796224754864904193074819559483181009558347043374296609072)) (some (.t .d0 .d0)) (some (.l 0))))])
  .ret) .skip))
  (.seq (.reg 58 [.p (.L (.bin .mul (.t .d0 .d0) (.c (.int .i64 2)))),
    .p (.L (.bin .mul (.t .d0 .d0) (.c (.int .i64 2)))),
    .p (.L (.bin .add (.l 0) (.c (.int .i64 2)))),
    .s .d0 .d1 (.L (.sstr (.c (.str 200 9938655150514779720929161263213647789093395803754561035662628441001274968862597953692946393464194303251501229616933063375291039650253924995779037586872666250072396106842829501851083234932712366962979930255066872747696324303968523733872590022915936937156789320557469720923390131174387415513794469201054844961267015441141542819553679203788501627738430154234325528792480477051962324423099068299719245009424585859096469223093538032153047611602695245052081125123941502624659711709950000)) (some (.l 2)) (some (.l 0))))])
  .ret)))⟩
def i180 : Fun :=
  ⟨1, [0, 2, 4], [.tmp .d0 .d1], (.seq (.reg 1 [.s .d0 .d1 (.L (.mov (.c (.slN))))])
  (.seq (.seq (.reg 2 [.s .d0 .d2 (.L (.eq false .sl (.t .d0 .d0) (.c (.slN))))])
  (.cond (.t .d0 .d2) (.seq (.reg 1 [.s .d0 .d1 (.L (.mov (.c (.slN))))])
  .ret) .skip))
  (.seq (.reg 5 [.p (.L (.bsl 1 0 [.str 0 0] [])),
    .s .d0 .d1 (.H (.append 1 16 (.l 0) (.t .d0 .d0)))])
  .ret)))⟩
def i181 : Fun :=
  ⟨1, [0, 2, 8, 3, 13, 25, 4, 5, 32, 44], [.tmp .d0 .d1], (.seq (.reg 1 [.s .d0 .d1 (.L (.mov (.c (.slN))))])
  (.seq (.seq (.reg 6 [.p (.L (.len false (.t .d0 .d0))),
    .s .d0 .d2 (.L (.bin .lss (.l 0) (.c (.int .i64 2))))])
  (.cond (.t .d0 .d2) (.seq (.reg 2 [.s .d0 .d1 (.L (.mov (.t .d0 .d0)))])
  .ret) .skip))
  (.seq (.seq (.reg 1 [.s .d0 .d3 (.L (.mov (.c (.int .i64 1))))])
  (.block 0 (.loop (.seq (.seq (.reg 12 [.p (.L (.len false (.t .d0 .d0))),
    .s .d0 .d4 (.L (.bin .lss (.t .d0 .d3) (.l 0)))])
  (.cond (.t .d0 .d4) .skip (.exit 0)))
  (.seq (.block 1 (.seq (.draw [0, 1, 2, 3, 4, 5, 6, 7, 8, 9] [⟨.p (.L (.mov (.t .d0 .d0))), []⟩,
    ⟨.p (.L (.mov (.t .d0 .d3))), []⟩,
    ⟨.p (.L (.iaddr 1 (.l 1) (.l 0))), []⟩,
    ⟨.p (.L (.load (.l 0))), []⟩,
    ⟨.p (.L (.mov (.t .d0 .d0))), []⟩,
    ⟨.p (.L (.mov (.t .d0 .d3))), []⟩,
    ⟨.p (.L (.bin .sub (.l 0) (.c (.int .i64 1)))), []⟩,
    ⟨.p (.L (.iaddr 1 (.l 2) (.l 0))), []⟩,
    ⟨.p (.L (.load (.l 0))), []⟩,
    ⟨.s .d0 .d5 (.L (.bins .eql (.l 5) (.l 0))), []⟩])
  (.cond (.t .d0 .d5) (.seq (.reg 4 [.s .d0 .d6 (.L (.ssl 1 (.t .d0 .d0) (some (.t .d0 .d3)) none none))])
  (.seq (.seq (.reg 1 [.s .d0 .d7 (.L (.mov (.c (.int .i64 1))))])
  (.block 2 (.loop (.seq (.seq (.reg 12 [.p (.L (.len false (.t .d0 .d6))),
    .s .d1 .d0 (.L (.bin .lss (.t .d0 .d7) (.l 0)))])
  (.cond (.t .d1 .d0) .skip (.exit 2)))
  (.seq (.block 3 (.seq (.draw [0, 1, 2, 3, 4, 5, 6, 7, 8, 9] [⟨.p (.L (.mov (.t .d0 .d6))), []⟩,
    ⟨.p (.L (.mov (.t .d0 .d7))), []⟩,
    ⟨.p (.L (.iaddr 1 (.l 1) (.l 0))), []⟩,
    ⟨.p (.L (.load (.l 0))), []⟩,
    ⟨.p (.L (.mov (.t .d0 .d6))), []⟩,
    ⟨.p (.L (.mov (.t .d0 .d7))), []⟩,
    ⟨.p (.L (.bin .sub (.l 0) (.c (.int .i64 1)))), []⟩,
    ⟨.p (.L (.iaddr 1 (.l 2) (.l 0))), []⟩,
    ⟨.p (.L (.load (.l 0))), []⟩,
    ⟨.s .d1 .d1 (.L (.bins .neq (.l 5) (.l 0))), []⟩])
  (.cond (.t .d1 .d1) (.seq (.reg 240 [.p (.L (.iaddr 1 (.t .d0 .d6) (.t .d0 .d7))),
    .p (.L (.load (.l 0))),
    .p (.L (.iaddr 1 (.t .d0 .d0) (.t .d0 .d3))),
    .p (.H (.store 1 (.l 0) (.l 1)))])
  (.reg 2 [.s .d0 .d3 (.L (.bin .add (.t .d0 .d3) (.c (.int .i64 1))))])) .skip)))
  (.reg 2 [.s .d0 .d7 (.L (.bin .add (.t .d0 .d7) (.c (.int .i64 1))))]))))))
  (.seq (.reg 12 [.p (.L (.ssl 1 (.t .d0 .d0) (some (.t .d0 .d3)) none none)),
    .p (.H (.clear [.str 0 0] (.l 0)))])
  (.seq (.reg 4 [.s .d0 .d1 (.L (.ssl 1 (.t .d0 .d0) none (some (.t .d0 .d3)) none))])
  .ret)))) .skip)))
  (.reg 2 [.s .d0 .d3 (.L (.bin .add (.t .d0 .d3) (.c (.int .i64 1))))]))))))
  (.seq (.reg 2 [.s .d0 .d1 (.L (.mov (.t .d0 .d0)))])
  .ret))))⟩
def i182 : Fun :=
  ⟨4, [0, 1, 2, 3, 8, 14, 9, 34], [], (.seq (.reg 2 [.s .d0 .d4 (.L (.bin .add (.t .d0 .d1) (.c (.int .i64 1))))])
  (.block 0 (.loop (.seq (.seq (.reg 4 [.s .d0 .d5 (.L (.bin .lss (.t .d0 .d4) (.t .d0 .d2)))])
  (.cond (.t .d0 .d5) .skip (.exit 0)))
  (.seq (.block 1 (.seq (.reg 2 [.s .d0 .d6 (.L (.mov (.t .d0 .d4)))])
  (.block 2 (.loop (.seq (.seq (.draw [0, 1, 2, 3, 4, 5, 6, 7, 8, 9, 10, 11, 12, 13, 14, 15, 16] [⟨.p (.L (.mov (.t .d0 .d6))), []⟩,
    ⟨.p (.L (.mov (.t .d0 .d1))), []⟩,
    ⟨.p (.L (.bin .gtr (.l 1) (.l 0))), []⟩,
    ⟨.p (.L (.mov (.l 0))), []⟩,
    ⟨.g (.l 0) true (.L (.mov (.t .d0 .d3))), []⟩,
    ⟨.g (.l 1) true (.L (.mov (.t .d0 .d0))), []⟩,
    ⟨.g (.l 2) true (.L (.mov (.t .d0 .d6))), []⟩,
    ⟨.g (.l 3) true (.L (.iaddr 4 (.l 1) (.l 0))), []⟩,
    ⟨.g (.l 4) true (.L (.loadn 4 (.l 0))), []⟩,
    ⟨.g (.l 5) true (.L (.mov (.t .d0 .d0))), []⟩,
    ⟨.g (.l 6) true (.L (.mov (.t .d0 .d6))), []⟩,
    ⟨.g (.l 7) true (.L (.bin .sub (.l 0) (.c (.int .i64 1)))), []⟩,
    ⟨.g (.l 8) true (.L (.iaddr 4 (.l 2) (.l 0))), []⟩,
    ⟨.g (.l 9) true (.L (.loadn 4 (.l 0))), []⟩,
    ⟨.g (.l 10) true (.H (.callv (.l 9) [(.l 5), (.l 0)])), []⟩,
    ⟨.g (.l 11) true (.L (.bin .lss (.l 0) (.c (.int .i64 0)))), []⟩,
    ⟨.s .d0 .d7 (.L (.pick (.l 12) (.l 0) (.c (.bool false)))), []⟩])
  (.cond (.t .d0 .d7) .skip (.exit 2)))
  (.seq (.block 3 (.draw [0, 1, 2, 3, 4, 5, 6, 7, 8, 9, 10, 11, 12, 13, 14, 15, 16, 17] [⟨.p (.L (.mov (.t .d0 .d0))), []⟩,
    ⟨.p (.L (.mov (.t .d0 .d6))), []⟩,
    ⟨.p (.L (.mov (.t .d0 .d0))), []⟩,
    ⟨.p (.L (.mov (.t .d0 .d6))), []⟩,
    ⟨.p (.L (.bin .sub (.l 0) (.c (.int .i64 1)))), []⟩,
    ⟨.p (.L (.mov (.t .d0 .d0))), []⟩,
    ⟨.p (.L (.mov (.t .d0 .d6))), []⟩,
    ⟨.p (.L (.bin .sub (.l 0) (.c (.int .i64 1)))), []⟩,
    ⟨.p (.L (.iaddr 4 (.l 2) (.l 0))), []⟩,
    ⟨.p (.L (.loadn 4 (.l 0))), []⟩,
    ⟨.p (.L (.mov (.t .d0 .d0))), []⟩,
    ⟨.p (.L (.mov (.t .d0 .d6))), []⟩,
    ⟨.p (.L (.iaddr 4 (.l 1) (.l 0))), []⟩,
    ⟨.p (.L (.loadn 4 (.l 0))), []⟩,
    ⟨.p (.L (.iaddr 4 (.l 13) (.l 12))), []⟩,
    ⟨.p (.H (.store 4 (.l 0) (.l 5))), []⟩,
    ⟨.p (.L (.iaddr 4 (.l 13) (.l 11))), []⟩,
    ⟨.p (.H (.store 4 (.l 0) (.l 3))), []⟩]))
  (.reg 2 [.s .d0 .d6 (.L (.bin .sub (.t .d0 .d6) (.c (.int .i64 1))))])))))))
  (.reg 2 [.s .d0 .d4 (.L (.bin .add (.t .d0 .d4) (.c (.int .i64 1))))]))))))⟩
def i191 : Fun :=
  ⟨1, [0, 2, 4, 8, 14], [.tmp .d0 .d1], (.seq (.reg 1 [.s .d0 .d1 (.L (.mov (.c (.int .i64 0))))])
  (.seq (.seq (.reg 2 [.s .d0 .d2 (.L (.bin .geq (.t .d0 .d0) (.c (.int .u64 4294967296))))])
  (.cond (.t .d0 .d2) (.seq (.reg 2 [.s .d0 .d0 (.L (.shf false (.t .d0 .d0) (.c (.int .u64 32))))])
  (.reg 1 [.s .d0 .d1 (.L (.mov (.c (.int .i64 32))))])) .skip))
  (.seq (.seq (.reg 2 [.s .d0 .d3 (.L (.bin .geq (.t .d0 .d0) (.c (.int .u64 65536))))])
  (.cond (.t .d0 .d3) (.seq (.reg 2 [.s .d0 .d0 (.L (.shf false (.t .d0 .d0) (.c (.int .u64 16))))])
  (.reg 2 [.s .d0 .d1 (.L (.bin .add (.t .d0 .d1) (.c (.int .i64 16))))])) .skip))
  (.seq (.seq (.reg 2 [.s .d0 .d4 (.L (.bin .geq (.t .d0 .d0) (.c (.int .u64 256))))])
  (.cond (.t .d0 .d4) (.seq (.reg 2 [.s .d0 .d0 (.L (.shf false (.t .d0 .d0) (.c (.int .u64 8))))])
  (.reg 2 [.s .d0 .d1 (.L (.bin .add (.t .d0 .d1) (.c (.int .i64 8))))])) .skip))
  (.seq (.reg 60 [.p (.L (.conv .u8 (.t .d0 .d0))),
    .p (.L (.istr (.c (.str 256 1013866857139168856493015739252390649739422828853819106890363778118420553376247557433637691341895324351018602695588957474325319502760499485336098898398377509666851054660423406800006203933793007272033180812049178612605246075062580585469430410618860250057463399279570354286669047577758927328864388992123306212451509403152394148136105363817402562688186708175358218852349079190158732807302672745370040257219644697201681238697346923541678507645485296520536209706771857694240900605172937619415410180424934769249448772944216470541052485265558808433676546390051204254346932932316488017972311616136051587427851453983453479168)) (.l 0))),
    .p (.L (.conv .i64 (.l 0))),
    .s .d0 .d1 (.L (.bin .add (.t .d0 .d1) (.l 0)))])
  .ret)))))⟩
def i193 : Fun :=
  ⟨4, [0, 1, 2, 3, 8, 14, 9, 34], [], (.seq (.reg 2 [.s .d0 .d4 (.L (.bin .add (.t .d0 .d1) (.c (.int .i64 1))))])
  (.block 0 (.loop (.seq (.seq (.reg 4 [.s .d0 .d5 (.L (.bin .lss (.t .d0 .d4) (.t .d0 .d2)))])
  (.cond (.t .d0 .d5) .skip (.exit 0)))
  (.seq (.block 1 (.seq (.reg 2 [.s .d0 .d6 (.L (.mov (.t .d0 .d4)))])
  (.block 2 (.loop (.seq (.seq (.draw [0, 1, 2, 3, 4, 5, 6, 7, 8, 9, 10, 11, 12, 13, 14, 15, 16] [⟨.p (.L (.mov (.t .d0 .d6))), []⟩,
    ⟨.p (.L (.mov (.t .d0 .d1))), []⟩,
    ⟨.p (.L (.bin .gtr (.l 1) (.l 0))), []⟩,
    ⟨.p (.L (.mov (.l 0))), []⟩,
    ⟨.g (.l 0) true (.L (.mov (.t .d0 .d3))), []⟩,
    ⟨.g (.l 1) true (.L (.mov (.t .d0 .d0))), []⟩,
    ⟨.g (.l 2) true (.L (.mov (.t .d0 .d6))), []⟩,
    ⟨.g (.l 3) true (.L (.iaddr 6 (.l 1) (.l 0))), []⟩,
    ⟨.g (.l 4) true (.L (.loadn 6 (.l 0))), []⟩,
    ⟨.g (.l 5) true (.L (.mov (.t .d0 .d0))), []⟩,
    ⟨.g (.l 6) true (.L (.mov (.t .d0 .d6))), []⟩,
    ⟨.g (.l 7) true (.L (.bin .sub (.l 0) (.c (.int .i64 1)))), []⟩,
    ⟨.g (.l 8) true (.L (.iaddr 6 (.l 2) (.l 0))), []⟩,
    ⟨.g (.l 9) true (.L (.loadn 6 (.l 0))), []⟩,
    ⟨.g (.l 10) true (.H (.callv (.l 9) [(.l 5), (.l 0)])), []⟩,
    ⟨.g (.l 11) true (.L (.bin .lss (.l 0) (.c (.int .i64 0)))), []⟩,
    ⟨.s .d0 .d7 (.L (.pick (.l 12) (.l 0) (.c (.bool false)))), []⟩])
  (.cond (.t .d0 .d7) .skip (.exit 2)))
  (.seq (.block 3 (.draw [0, 1, 2, 3, 4, 5, 6, 7, 8, 9, 10, 11, 12, 13, 14, 15, 16, 17] [⟨.p (.L (.mov (.t .d0 .d0))), []⟩,
    ⟨.p (.L (.mov (.t .d0 .d6))), []⟩,
    ⟨.p (.L (.mov (.t .d0 .d0))), []⟩,
    ⟨.p (.L (.mov (.t .d0 .d6))), []⟩,
    ⟨.p (.L (.bin .sub (.l 0) (.c (.int .i64 1)))), []⟩,
    ⟨.p (.L (.mov (.t .d0 .d0))), []⟩,
    ⟨.p (.L (.mov (.t .d0 .d6))), []⟩,
    ⟨.p (.L (.bin .sub (.l 0) (.c (.int .i64 1)))), []⟩,
    ⟨.p (.L (.iaddr 6 (.l 2) (.l 0))), []⟩,
    ⟨.p (.L (.loadn 6 (.l 0))), []⟩,
    ⟨.p (.L (.mov (.t .d0 .d0))), []⟩,
    ⟨.p (.L (.mov (.t .d0 .d6))), []⟩,
    ⟨.p (.L (.iaddr 6 (.l 1) (.l 0))), []⟩,
    ⟨.p (.L (.loadn 6 (.l 0))), []⟩,
    ⟨.p (.L (.iaddr 6 (.l 13) (.l 12))), []⟩,
    ⟨.p (.H (.store 6 (.l 0) (.l 5))), []⟩,
    ⟨.p (.L (.iaddr 6 (.l 13) (.l 11))), []⟩,
    ⟨.p (.H (.store 6 (.l 0) (.l 3))), []⟩]))
  (.reg 2 [.s .d0 .d6 (.L (.bin .sub (.t .d0 .d6) (.c (.int .i64 1))))])))))))
  (.reg 2 [.s .d0 .d4 (.L (.bin .add (.t .d0 .d4) (.c (.int .i64 1))))]))))))⟩
def i201 : Fun :=
  ⟨2, [0, 1, 4], [.tmp .d0 .d2], (.seq (.reg 1 [.s .d0 .d2 (.L (.mov (.c (.bool false))))])
  (.seq (.reg 12 [.p (.H (.call 256 [(.t .d0 .d0), (.t .d0 .d1)])),
    .s .d0 .d2 (.L (.bin .geq (.l 0) (.c (.int .i64 0))))])
  .ret))⟩
def i202 : Fun :=
  ⟨2, [0, 1, 3], [.tmp .d0 .d2], (.seq (.reg 1 [.s .d0 .d2 (.L (.mov (.c (.bool false))))])
  (.seq (.reg 14 [.p (.L (.len false (.t .d0 .d0))),
    .p (.L (.load (.t .d0 .d1))),
    .s .d0 .d2 (.L (.bin .neq (.l 1) (.l 0)))])
  .ret))⟩
def i203 : Fun :=
  ⟨2, [0, 1, 4], [.tmp .d0 .d2], (.seq (.reg 1 [.s .d0 .d2 (.L (.mov (.c (.bool false))))])
  (.seq (.reg 12 [.p (.H (.call 257 [(.t .d0 .d0), (.t .d0 .d1)])),
    .s .d0 .d2 (.L (.bin .geq (.l 0) (.c (.int .i64 0))))])
  .ret))⟩
def i204 : Fun :=
  ⟨2, [0, 1, 3], [.tmp .d0 .d2], (.seq (.reg 1 [.s .d0 .d2 (.L (.mov (.c (.bool false))))])
  (.seq (.reg 14 [.p (.L (.len false (.t .d0 .d0))),
    .p (.L (.load (.t .d0 .d1))),
    .s .d0 .d2 (.L (.bin .neq (.l 1) (.l 0)))])
  .ret))⟩
def i205 : Fun :=
  ⟨3, [0, 1, 2, 5], [.tmp .d0 .d3], (.seq (.reg 1 [.s .d0 .d3 (.L (.mov (.c (.bool false))))])
  (.seq (.reg 219 [.p (.L (.faddr 1 (.t .d0 .d2))),
    .p (.L (.load (.l 0))),
    .p (.L (.iaddr 1 (.l 0) (.t .d0 .d0))),
    .p (.L (.load (.l 0))),
    .p (.L (.iaddr 1 (.l 0) (.t .d0 .d1))),
    .s .d0 .d3 (.L (.load (.l 0)))])
  .ret))⟩
def i206 : Fun :=
  ⟨3, [0, 1, 2, 5], [.tmp .d0 .d3], (.seq (.reg 1 [.s .d0 .d3 (.L (.mov (.c (.bool false))))])
  (.seq (.reg 219 [.p (.L (.faddr 1 (.t .d0 .d2))),
    .p (.L (.load (.l 0))),
    .p (.L (.iaddr 1 (.l 0) (.t .d0 .d1))),
    .p (.L (.load (.l 0))),
    .p (.L (.iaddr 1 (.l 0) (.t .d0 .d0))),
    .s .d0 .d3 (.L (.load (.l 0)))])
  .ret))⟩
def i207 : Fun :=
  ⟨3, [0, 1, 2, 6, 7, 11, 10, 12, 8, 17, 19, 18, 20, 9, 31], [.tmp .d0 .d3, .tmp .d0 .d4], (.seq (.reg 3 [.s .d0 .d3 (.L (.mov (.c (.int .i64 0)))),
    .s .d0 .d4 (.L (.mov (.c (.bool false))))])
  (.seq .skip
  (.seq (.seq (.reg 3 [.s .d0 .d6 (.L (.mov (.t .d0 .d0))),
    .s .d0 .d5 (.L (.mov (.c (.int .i64 0))))])
  (.block 0 (.loop (.seq (.reg 1 [.s .d0 .d7 (.L (.bin .lss (.t .d0 .d5) (.t .d0 .d6)))])
  (.seq (.cond (.t .d0 .d7) .skip (.exit 0))
  (.seq (.block 1 (.seq (.reg 2 [.s .d1 .d0 (.L (.mov (.t .d0 .d5)))])
  (.seq (.seq (.reg 12 [.p (.H (.callv (.t .d0 .d2) [(.t .d1 .d0)])),
    .s .d1 .d1 (.L (.not (.l 0)))])
  (.cond (.t .d1 .d1) (.exit 1) .skip))
  (.seq (.seq (.reg 3 [.s .d1 .d3 (.L (.mov (.t .d0 .d0))),
    .s .d1 .d2 (.L (.mov (.c (.int .i64 0))))])
  (.block 2 (.loop (.seq (.reg 1 [.s .d1 .d4 (.L (.bin .lss (.t .d1 .d2) (.t .d1 .d3)))])
  (.seq (.cond (.t .d1 .d4) .skip (.exit 2))
  (.seq (.block 3 (.seq (.reg 2 [.s .d1 .d5 (.L (.mov (.t .d1 .d2)))])
  (.seq (.reg 1012 [.p (.H (.callv (.t .d0 .d2) [(.t .d1 .d5)])),
    .g (.l 0) true (.L (.mov (.t .d0 .d1))),
    .g (.l 1) true (.L (.mov (.t .d1 .d0))),
    .g (.l 2) true (.L (.mov (.t .d1 .d5))),
    .g (.l 3) true (.H (.callv (.l 2) [(.l 1), (.l 0)])),
    .g (.l 4) true (.L (.not (.l 0))),
    .s .d1 .d6 (.L (.pick (.l 5) (.l 0) (.c (.bool false))))])
  (.cond (.t .d1 .d6) (.exit 1) .skip))))
  (.reg 1 [.s .d1 .d2 (.L (.bin .add (.t .d1 .d2) (.c (.int .i64 1))))])))))))
  (.seq (.reg 6 [.s .d0 .d3 (.L (.mov (.t .d1 .d0))),
    .s .d0 .d4 (.L (.mov (.c (.bool true))))])
  .ret)))))
  (.reg 1 [.s .d0 .d5 (.L (.bin .add (.t .d0 .d5) (.c (.int .i64 1))))])))))))
  (.seq (.reg 3 [.s .d0 .d3 (.L (.mov (.c (.int .i64 0)))),
    .s .d0 .d4 (.L (.mov (.c (.bool false))))])
  .ret))))⟩
def i208 : Fun :=
  ⟨4, [0, 1, 2, 3, 5], [.tmp .d0 .d4], (.seq (.reg 1 [.s .d0 .d4 (.L (.mov (.c (.bool false))))])
  (.seq (.reg 1003 [.p (.L (.load (.t .d0 .d1))),
    .p (.L (.load (.t .d0 .d2))),
    .p (.H (.callv (.l 1) [(.l 0), (.t .d0 .d0)])),
    .g (.l 0) true (.L (.load (.t .d0 .d1))),
    .g (.l 1) true (.L (.load (.t .d0 .d3))),
    .g (.l 2) true (.L (.mov (.t .d0 .d0))),
    .g (.l 3) true (.H (.callv (.l 2) [(.l 1), (.l 0)])),
    .s .d0 .d4 (.L (.pick (.l 4) (.l 0) (.c (.bool false))))])
  .ret))⟩
def i209 : Fun :=
  ⟨4, [0, 1, 2, 3, 5], [.tmp .d0 .d4], (.seq (.reg 1 [.s .d0 .d4 (.L (.mov (.c (.bool false))))])
  (.seq (.reg 1005 [.p (.L (.load (.t .d0 .d1))),
    .p (.L (.load (.t .d0 .d2))),
    .p (.H (.callv (.l 1) [(.t .d0 .d0), (.l 0)])),
    .g (.l 0) true (.L (.load (.t .d0 .d1))),
    .g (.l 1) true (.L (.mov (.t .d0 .d0))),
    .g (.l 2) true (.L (.load (.t .d0 .d3))),
    .g (.l 3) true (.H (.callv (.l 2) [(.l 1), (.l 0)])),
    .s .d0 .d4 (.L (.pick (.l 4) (.l 0) (.c (.bool false))))])
  .ret))⟩
def i210 : Fun :=
  ⟨1, [0, 2], [.tmp .d0 .d1], (.seq (.reg 1 [.s .d0 .d1 (.L (.mov (.c (.bool false))))])
  (.seq (.reg 1 [.s .d0 .d1 (.L (.mov (.c (.bool true))))])
  .ret))⟩
def i211 : Fun :=
  ⟨1, [0, 2], [.tmp .d0 .d1], (.seq (.reg 1 [.s .d0 .d1 (.L (.mov (.c (.bool false))))])
  (.seq (.reg 1 [.s .d0 .d1 (.L (.mov (.c (.bool true))))])
  .ret))⟩
def i213 : Fun :=
  ⟨3, [0, 1, 2, 6, 7, 18, 8, 9, 39, 5, 12, 51], [.cell .d0 .d3 none, .cell .d0 .d4 none], (.seq (.reg 7 [.s .d1 .d1 (.L (.box 1 (.t .d0 .d2))),
    .s .d0 .d3 (.L (.alloc [.int .i64 0])),
    .s .d0 .d4 (.L (.alloc [.int .i64 0]))])
  (.seq (.reg 126 [.p (.L (.nilck (.t .d0 .d0))),
    .p (.L (.faddr 11 (.l 0))),
    .p (.L (.loadn 2 (.l 0))),
    .s .d0 .d6 (.L (.alloc [.slN, .slN])),
    .p (.H (.store 2 (.l 0) (.l 1))),
    .s .d0 .d7 (.L (.mov (.c (.int .i64 0))))])
  (.seq (.seq (.reg 2 [.s .d0 .d5 (.L (.bins .neq (.t .d0 .d1) (.c (.str 0 0))))])
  (.cond (.t .d0 .d5) (.reg 244 [.p (.H (.call 72 [(.t .d0 .d0), (.t .d0 .d1)])),
    .p (.L (.ext 0 (.l 0))),
    .p (.L (.ext 1 (.l 1))),
    .p (.H (.store 2 (.t .d0 .d6) (.l 1))),
    .s .d0 .d7 (.L (.mov (.l 1)))]) (.seq (.reg 30 [.p (.L (.nilck (.t .d0 .d0))),
    .p (.L (.faddr 22 (.l 0))),
    .p (.L (.load (.l 0))),
    .p (.H (.call 258 [(.l 0)]))])
  (.block 0 .stuck))))
  (.seq (.seq (.reg 2 [.s .d1 .d0 (.L (.bin .neq (.t .d0 .d7) (.c (.int .i64 0))))])
  (.cond (.t .d1 .d0) (.seq (.reg 222 [.p (.L (.nilck (.t .d0 .d0))),
    .p (.L (.faddr 5 (.l 0))),
    .p (.L (.faddr 4 (.l 0))),
    .p (.L (.load (.l 0))),
    .p (.H (.store 1 (.t .d0 .d3) (.l 0))),
    .p (.H (.store 1 (.t .d0 .d4) (.t .d0 .d7)))])
  .ret) .skip))
  (.seq (.reg 15 [.p (.L (.faddr 0 (.t .d0 .d6))),
    .p (.L (.load (.l 0))),
    .p (.L (.fn 259 [] [(.t .d1 .d1)])),
    .s .d1 .d2 (.H (.call 215 [(.l 1), (.l 0)]))])
  (.seq (.seq (.reg 2 [.s .d1 .d3 (.L (.bin .lss (.t .d1 .d2) (.c (.int .i64 0))))])
  (.cond (.t .d1 .d3) (.seq (.reg 126 [.p (.L (.nilck (.t .d0 .d0))),
    .p (.L (.faddr 5 (.l 0))),
    .p (.L (.faddr 4 (.l 0))),
    .p (.L (.load (.l 0))),
    .p (.H (.store 1 (.t .d0 .d3) (.l 0))),
    .p (.H (.store 1 (.t .d0 .d4) (.c (.int .i64 1))))])
  .ret) .skip))
  (.seq (.reg 1014 [.p (.L (.faddr 0 (.t .d0 .d6))),
    .p (.L (.load (.l 0))),
    .p (.L (.iaddr 4 (.l 0) (.t .d1 .d2))),
    .p (.L (.faddr 1 (.l 0))),
    .p (.L (.load (.l 0))),
    .p (.H (.call 74 [(.t .d0 .d0), (.l 0)])),
    .p (.H (.store 1 (.t .d0 .d3) (.l 0))),
    .p (.H (.store 1 (.t .d0 .d4) (.c (.int .i64 0))))])
  .ret)))))))⟩
def i216 : Fun :=
  ⟨2, [0, 1, 4, 8, 7, 9, 5, 16], [.tmp .d0 .d2], (.seq (.reg 1 [.s .d0 .d2 (.L (.mov (.c (.int .i64 0))))])
  (.seq (.seq (.reg 6 [.s .d0 .d4 (.L (.len false (.t .d0 .d0))),
    .s .d0 .d3 (.L (.mov (.c (.int .i64 0))))])
  (.block 0 (.loop (.seq (.reg 1 [.s .d0 .d5 (.L (.bin .lss (.t .d0 .d3) (.t .d0 .d4)))])
  (.seq (.cond (.t .d0 .d5) .skip (.exit 0))
  (.seq (.block 1 (.seq (.reg 2 [.s .d0 .d6 (.L (.mov (.t .d0 .d3)))])
  (.seq (.reg 56 [.p (.L (.iaddr 1 (.t .d0 .d0) (.t .d0 .d6))),
    .p (.L (.load (.l 0))),
    .s .d0 .d7 (.L (.bins .eql (.t .d0 .d1) (.l 0)))])
  (.cond (.t .d0 .d7) (.seq (.reg 2 [.s .d0 .d2 (.L (.mov (.t .d0 .d6)))])
  .ret) .skip))))
  (.reg 1 [.s .d0 .d3 (.L (.bin .add (.t .d0 .d3) (.c (.int .i64 1))))])))))))
  (.seq (.reg 1 [.s .d0 .d2 (.L (.mov (.c (.int .i64 (-1)))))])
  .ret)))⟩
def i219 : Fun :=
  ⟨2, [0, 1, 4, 8, 7, 9, 5, 16], [.tmp .d0 .d2], (.seq (.reg 1 [.s .d0 .d2 (.L (.mov (.c (.int .i64 0))))])
  (.seq (.seq (.reg 6 [.s .d0 .d4 (.L (.len false (.t .d0 .d0))),
    .s .d0 .d3 (.L (.mov (.c (.int .i64 0))))])
  (.block 0 (.loop (.seq (.reg 1 [.s .d0 .d5 (.L (.bin .lss (.t .d0 .d3) (.t .d0 .d4)))])
  (.seq (.cond (.t .d0 .d5) .skip (.exit 0))
  (.seq (.block 1 (.seq (.reg 2 [.s .d0 .d6 (.L (.mov (.t .d0 .d3)))])
  (.seq (.reg 56 [.p (.L (.iaddr 2 (.t .d0 .d0) (.t .d0 .d6))),
    .p (.L (.loadn 2 (.l 0))),
    .s .d0 .d7 (.H (.callv (.t .d0 .d1) [(.l 0)]))])
  (.cond (.t .d0 .d7) (.seq (.reg 2 [.s .d0 .d2 (.L (.mov (.t .d0 .d6)))])
  .ret) .skip))))
  (.reg 1 [.s .d0 .d3 (.L (.bin .add (.t .d0 .d3) (.c (.int .i64 1))))])))))))
  (.seq (.reg 1 [.s .d0 .d2 (.L (.mov (.c (.int .i64 (-1)))))])
  .ret)))⟩
def i226 : Fun :=
  ⟨1, [0, 2, 13, 20, 5, 7, 3, 6, 34, 4], [.tmp .d0 .d1], (.seq (.reg 1 [.s .d0 .d1 (.L (.mov (.c (.slN))))])
  (.seq (.reg 2 [.p (.H (.call 170 [(.t .d0 .d0), (.c (.str 6 126909394608492))]))])
  (.seq (.reg 1 [.s .d0 .d6 (.L (.mov (.c (.slN))))])
  (.seq (.block 0 (.loop (.seq (.seq (.reg 14 [.p (.H (.call 171 [(.t .d0 .d0)])),
    .p (.L (.field 0 1 false (.l 0))),
    .s .d0 .d2 (.L (.bin .neq (.l 0) (.c (.int .i64 0))))])
  (.cond (.t .d0 .d2) .skip (.exit 0)))
  (.block 1 (.seq (.reg 118 [.p (.H (.call 171 [(.t .d0 .d0)])),
    .p (.L (.field 2 1 false (.l 0))),
    .p (.H (.call 172 [(.t .d0 .d0)])),
    .s .d1 .d1 (.L (.mov (.l 1))),
    .s .d0 .d4 (.L (.mov (.l 1)))])
  (.seq (.reg 1 [.s .d0 .d7 (.L (.mov (.c (.bool true))))])
  (.seq (.block 2 (.loop (.seq (.seq (.reg 2 [.s .d0 .d3 (.H (.call 173 [(.t .d0 .d0), (.c (.str 1 60))]))])
  (.cond (.t .d0 .d3) .skip (.exit 2)))
  (.block 3 (.seq (.reg 492 [.p (.H (.call 171 [(.t .d0 .d0)])),
    .p (.L (.field 2 1 false (.l 0))),
    .p (.H (.call 172 [(.t .d0 .d0)])),
    .p (.L (.build [.str 0 0, .str 0 0, .int .i64 0] [(0, 1, (.t .d0 .d4)), (2, 1, (.l 1)), (1, 1, (.l 0))])),
    .s .d0 .d5 (.L (.alloc [.str 0 0, .str 0 0, .int .i64 0])),
    .p (.H (.store 3 (.l 0) (.l 1)))])
  (.seq (.reg 14 [.p (.L (.loadn 3 (.t .d0 .d5))),
    .p (.L (.bsl 3 1 [.str 0 0, .str 0 0, .int .i64 0] [(0, 3, (.l 0))])),
    .s .d0 .d6 (.H (.append 3 40 (.t .d0 .d6) (.l 0)))])
  (.reg 11 [.p (.L (.faddr 1 (.t .d0 .d5))),
    .s .d0 .d4 (.L (.load (.l 0))),
    .s .d0 .d7 (.L (.mov (.c (.bool false))))])))))))
  (.seq (.seq (.reg 1 [.s .d1 .d0 (.L (.mov (.t .d0 .d7)))])
  (.cond (.t .d1 .d0) (.reg 56 [.p (.L (.build [.str 0 0, .str 0 0, .int .i64 0] [(0, 1, (.t .d0 .d4)), (2, 1, (.t .d1 .d1))])),
    .p (.L (.bsl 3 1 [.str 0 0, .str 0 0, .int .i64 0] [(0, 3, (.l 0))])),
    .s .d0 .d6 (.H (.append 3 40 (.t .d0 .d6) (.l 0)))]) .skip))
  (.reg 2 [.p (.H (.call 170 [(.t .d0 .d0), (.c (.str 1 59))]))])))))))))
  (.seq (.reg 2 [.s .d0 .d1 (.L (.mov (.t .d0 .d6)))])
  .ret)))))⟩
def i227 : Fun :=
  ⟨4, [0, 1, 2, 3, 10, 23, 29, 8, 35, 12, 50, 11, 9, 68, 72, 87, 13, 15, 14, 16, 17, 113, 18], [], (.seq (.reg 1 [.s .d0 .d7 (.L (.mov (.c (.bool true))))])
  (.seq (.reg 1 [.s .d1 .d4 (.L (.mov (.c (.bool true))))])
  (.block 0 (.loop (.block 1 (.seq (.reg 4 [.s .d0 .d4 (.L (.bin .sub (.t .d0 .d2) (.t .d0 .d1)))])
  (.seq (.seq (.reg 2 [.s .d0 .d5 (.L (.bin .leq (.t .d0 .d4) (.c (.int .i64 12))))])
  (.cond (.t .d0 .d5) (.seq (.reg 8 [.p (.H (.call 263 [(.t .d0 .d0), (.t .d0 .d1), (.t .d0 .d2)]))])
  .ret) .skip))
  (.seq (.seq (.reg 2 [.s .d0 .d6 (.L (.bin .eql (.t .d0 .d3) (.c (.int .i64 0))))])
  (.cond (.t .d0 .d6) (.seq (.reg 8 [.p (.H (.call 264 [(.t .d0 .d0), (.t .d0 .d1), (.t .d0 .d2)]))])
  .ret) .skip))
  (.seq (.seq (.reg 2 [.s .d1 .d0 (.L (.not (.t .d0 .d7)))])
  (.cond (.t .d1 .d0) (.seq (.reg 8 [.p (.H (.call 265 [(.t .d0 .d0), (.t .d0 .d1), (.t .d0 .d2)]))])
  (.reg 2 [.s .d0 .d3 (.L (.bin .sub (.t .d0 .d3) (.c (.int .i64 1))))])) .skip))
  (.seq (.reg 488 [.p (.H (.call 266 [(.t .d0 .d0), (.t .d0 .d1), (.t .d0 .d2)])),
    .p (.L (.ext 0 (.l 0))),
    .p (.L (.ext 1 (.l 1))),
    .s .d1 .d3 (.L (.mov (.l 1))),
    .s .d1 .d1 (.L (.mov (.l 1)))])
  (.seq (.seq (.reg 2 [.s .d1 .d2 (.L (.bin .eql (.t .d1 .d1) (.c (.int .i64 2))))])
  (.cond (.t .d1 .d2) (.seq (.reg 8 [.p (.H (.call 267 [(.t .d0 .d0), (.t .d0 .d1), (.t .d0 .d2)]))])
  (.seq (.reg 50 [.p (.L (.bin .sub (.t .d0 .d2) (.c (.int .i64 1)))),
    .p (.L (.bin .sub (.t .d1 .d3) (.t .d0 .d1))),
    .s .d1 .d3 (.L (.bin .sub (.l 1) (.l 0)))])
  (.reg 1 [.s .d1 .d1 (.L (.mov (.c (.int .i64 1))))]))) .skip))
  (.seq (.seq (.reg 236 [.g (.t .d0 .d7) true (.L (.mov (.t .d1 .d4))),
    .p (.L (.pick (.t .d0 .d7) (.l 0) (.c (.bool false)))),
    .g (.l 0) true (.L (.mov (.t .d1 .d1))),
    .g (.l 1) true (.L (.bin .eql (.l 0) (.c (.int .i64 1)))),
    .s .d1 .d5 (.L (.pick (.l 2) (.l 0) (.c (.bool false))))])
  (.cond (.t .d1 .d5) (.seq (.reg 8 [.s .d1 .d6 (.H (.call 268 [(.t .d0 .d0), (.t .d0 .d1), (.t .d0 .d2)]))])
  (.cond (.t .d1 .d6) .ret .skip)) .skip))
  (.seq (.seq (.draw [0, 1, 2, 3, 4, 5, 6, 7, 8, 9, 10, 11, 12, 13, 14] [⟨.p (.L (.mov (.t .d0 .d1))), []⟩,
    ⟨.p (.L (.bin .gtr (.l 0) (.c (.int .i64 0)))), []⟩,
    ⟨.p (.L (.mov (.l 0))), []⟩,
    ⟨.g (.l 0) true (.L (.mov (.t .d0 .d0))), []⟩,
    ⟨.g (.l 1) true (.L (.mov (.t .d0 .d1))), []⟩,
    ⟨.g (.l 2) true (.L (.bin .sub (.l 0) (.c (.int .i64 1)))), []⟩,
    ⟨.g (.l 3) true (.L (.iaddr 1 (.l 2) (.l 0))), []⟩,
    ⟨.g (.l 4) true (.L (.load (.l 0))), []⟩,
    ⟨.g (.l 5) true (.L (.mov (.t .d0 .d0))), []⟩,
    ⟨.g (.l 6) true (.L (.mov (.t .d1 .d3))), []⟩,
    ⟨.g (.l 7) true (.L (.iaddr 1 (.l 1) (.l 0))), []⟩,
    ⟨.g (.l 8) true (.L (.load (.l 0))), []⟩,
    ⟨.g (.l 9) true (.H (.call 269 [(.l 4), (.l 0)])), []⟩,
    ⟨.g (.l 10) true (.L (.not (.l 0))), []⟩,
    ⟨.s .d1 .d7 (.L (.pick (.l 11) (.l 0) (.c (.bool false)))), []⟩])
  (.cond (.t .d1 .d7) (.seq (.reg 16 [.s .d2 .d0 (.H (.call 270 [(.t .d0 .d0), (.t .d0 .d1), (.t .d0 .d2), (.t .d1 .d3)]))])
  (.seq (.reg 2 [.s .d0 .d1 (.L (.mov (.t .d2 .d0)))])
  (.exit 1))) .skip))
  (.seq (.reg 976 [.p (.H (.call 271 [(.t .d0 .d0), (.t .d0 .d1), (.t .d0 .d2), (.t .d1 .d3)])),
    .p (.L (.ext 0 (.l 0))),
    .p (.L (.ext 1 (.l 1))),
    .s .d2 .d2 (.L (.mov (.l 1))),
    .s .d2 .d1 (.L (.mov (.l 1)))])
  (.seq (.reg 2 [.s .d1 .d4 (.L (.mov (.t .d2 .d1)))])
  (.seq (.reg 228 [.p (.L (.bin .sub (.t .d2 .d2) (.t .d0 .d1))),
    .p (.L (.bin .sub (.t .d0 .d2) (.t .d2 .d2))),
    .s .d2 .d3 (.L (.mov (.l 1))),
    .s .d2 .d4 (.L (.mov (.l 1)))])
  (.seq (.reg 2 [.s .d2 .d6 (.L (.bin .quo (.t .d0 .d4) (.c (.int .i64 8))))])
  (.seq (.reg 4 [.s .d2 .d5 (.L (.bin .lss (.t .d2 .d3) (.t .d2 .d4)))])
  (.cond (.t .d2 .d5) (.seq (.reg 4 [.s .d0 .d7 (.L (.bin .geq (.t .d2 .d3) (.t .d2 .d6)))])
  (.seq (.reg 16 [.p (.H (.call 227 [(.t .d0 .d0), (.t .d0 .d1), (.t .d2 .d2), (.t .d0 .d3)]))])
  (.reg 2 [.s .d0 .d1 (.L (.bin .add (.t .d2 .d2) (.c (.int .i64 1))))]))) (.seq (.reg 4 [.s .d0 .d7 (.L (.bin .geq (.t .d2 .d4) (.t .d2 .d6)))])
  (.seq (.reg 36 [.p (.L (.bin .add (.t .d2 .d2) (.c (.int .i64 1)))),
    .p (.H (.call 227 [(.t .d0 .d0), (.l 0), (.t .d0 .d2), (.t .d0 .d3)]))])
  (.reg 2 [.s .d0 .d2 (.L (.mov (.t .d2 .d2)))]))))))))))))))))))))))⟩
def i228 : Fun :=
  ⟨1, [0, 2, 4], [.tmp .d0 .d1], (.seq (.reg 1 [.s .d0 .d1 (.L (.mov (.c (.slN))))])
  (.seq (.seq (.reg 2 [.s .d0 .d2 (.L (.eq false .sl (.t .d0 .d0) (.c (.slN))))])
  (.cond (.t .d0 .d2) (.seq (.reg 1 [.s .d0 .d1 (.L (.mov (.c (.slN))))])
  .ret) .skip))
  (.seq (.reg 5 [.p (.L (.bsl 4 0 [.str 0 0, .int .i64 0, .int .i64 0, .str 0 0] [])),
    .s .d0 .d1 (.H (.append 4 48 (.l 0) (.t .d0 .d0)))])
  .ret)))⟩
def i229 : Fun :=
  ⟨2, [0, 1, 4, 2, 3], [.tmp .d0 .d2], (.seq (.reg 7 [.s .d0 .d3 (.L (.box 4 (.t .d0 .d0))),
    .s .d0 .d4 (.L (.box 4 (.t .d0 .d1))),
    .s .d0 .d2 (.L (.mov (.c (.int .i64 0))))])
  (.seq (.draw [0, 1, 2, 3, 5, 6, 7, 8, 10, 11, 12, 13, 15, 16, 17, 18, 4, 9, 14, 19, 20, 21, 22] [⟨.p (.L (.faddr 0 (.t .d0 .d3))), []⟩,
    ⟨.p (.L (.load (.l 0))), []⟩,
    ⟨.p (.L (.faddr 0 (.t .d0 .d4))), []⟩,
    ⟨.p (.L (.load (.l 0))), []⟩,
    ⟨.p (.L (.faddr 1 (.t .d0 .d3))), []⟩,
    ⟨.p (.L (.load (.l 0))), []⟩,
    ⟨.p (.L (.faddr 1 (.t .d0 .d4))), []⟩,
    ⟨.p (.L (.load (.l 0))), []⟩,
    ⟨.p (.L (.faddr 2 (.t .d0 .d3))), []⟩,
    ⟨.p (.L (.load (.l 0))), []⟩,
    ⟨.p (.L (.faddr 2 (.t .d0 .d4))), []⟩,
    ⟨.p (.L (.load (.l 0))), []⟩,
    ⟨.p (.L (.faddr 3 (.t .d0 .d3))), []⟩,
    ⟨.p (.L (.load (.l 0))), []⟩,
    ⟨.p (.L (.faddr 3 (.t .d0 .d4))), []⟩,
    ⟨.p (.L (.load (.l 0))), []⟩,
    ⟨.p (.H (.call 61 [(.l 14), (.l 12)])), [10, 8, 6, 4, 2, 0]⟩,
    ⟨.p (.H (.call 273 [(.l 11), (.l 9)])), [7, 5, 3, 1]⟩,
    ⟨.p (.H (.call 273 [(.l 8), (.l 6)])), [4, 2]⟩,
    ⟨.p (.H (.call 61 [(.l 5), (.l 3)])), []⟩,
    ⟨.p (.L (.bsl 1 4 [.int .i64 0] [(0, 1, (.l 3)), (1, 1, (.l 2)), (2, 1, (.l 1)), (3, 1, (.l 0))])), []⟩,
    ⟨.p (.H (.call 272 [(.l 0)])), []⟩,
    ⟨.s .d0 .d2 (.L (.mov (.l 0))), []⟩])
  .ret))⟩
def i233 : Fun :=
  ⟨1, [0, 2], [.tmp .d0 .d1], (.seq (.reg 1 [.s .d0 .d1 (.L (.mov (.c (.bool false))))])
  (.seq (.reg 5 [.p (.L (.bsl 1 15 [.str 0 0] [(0, 1, (.c (.str 6 111516500389741))), (1, 1, (.c (.str 6 128034844732777))), (2, 1, (.c (.str 3 7496054))), (3, 1, (.c (.str 4 1668248176))), (4, 1, (.c (.str 2 25456))), (5, 1, (.c (.str 4 1936028533))), (6, 1, (.c (.str 3 7628140))), (7, 1, (.c (.str 4 1819042147))), (8, 1, (.c (.str 2 26217))), (9, 1, (.c (.str 4 1702063205))), (10, 1, (.c (.str 5 435610544247))), (11, 1, (.c (.str 4 1953066341))), (12, 1, (.c (.str 6 128009175786866))), (13, 1, (.c (.str 4 1885956979))), (14, 1, (.c (.str 6 126909394608492)))])),
    .s .d0 .d1 (.H (.call 137 [(.l 0), (.t .d0 .d0)]))])
  .ret))⟩
def i234 : Fun :=
  ⟨2, [0, 1, 4], [.tmp .d0 .d2], (.seq (.reg 1 [.s .d0 .d2 (.L (.mov (.c (.bool false))))])
  (.seq (.reg 4 [.s .d0 .d2 (.H (.call 277 [(.t .d0 .d0), (.t .d0 .d1)]))])
  .ret))⟩
def i235 : Fun :=
  ⟨2, [0, 1, 4], [.tmp .d0 .d2], (.seq (.reg 1 [.s .d0 .d2 (.L (.mov (.c (.int .i64 0))))])
  (.seq (.reg 4 [.s .d0 .d2 (.H (.call 278 [(.t .d0 .d0), (.t .d0 .d1)]))])
  .ret))⟩
def i237 : Fun :=
  ⟨2, [0, 1, 4, 5, 11], [.cell .d0 .d2 (some 3)], (.seq (.reg 1 [.s .d0 .d2 (.L (.alloc [.int .i64 0, .str 0 0, .int .i64 0]))])
  (.seq (.reg 14 [.p (.H (.call 171 [(.t .d0 .d0)])),
    .s .d0 .d3 (.L (.alloc [.int .i64 0, .str 0 0, .int .i64 0])),
    .p (.H (.store 3 (.l 0) (.l 1)))])
  (.seq (.seq (.reg 11 [.p (.L (.faddr 0 (.t .d0 .d3))),
    .p (.L (.load (.l 0))),
    .s .d0 .d4 (.L (.bin .neq (.l 0) (.t .d0 .d1)))])
  (.cond (.t .d0 .d4) (.reg 2 [.p (.H (.call 236 [(.t .d0 .d0), (.c (.int .i64 11))]))]) .skip))
  (.seq (.reg 254 [.p (.L (.nilck (.t .d0 .d0))),
    .p (.L (.faddr 1 (.l 0))),
    .p (.L (.load (.l 0))),
    .p (.L (.bin .add (.l 0) (.c (.int .i64 1)))),
    .p (.L (.nilck (.t .d0 .d0))),
    .p (.L (.faddr 1 (.l 0))),
    .p (.H (.store 1 (.l 0) (.l 2)))])
  (.seq (.reg 3 [.p (.L (.loadn 3 (.t .d0 .d3))),
    .p (.H (.store 3 (.t .d0 .d2) (.l 0)))])
  .ret)))))⟩
def i238 : Fun :=
  ⟨2, [0, 1, 4, 5], [.tmp .d0 .d2], (.seq (.reg 1 [.s .d0 .d2 (.L (.mov (.c (.bool false))))])
  (.seq (.reg 14 [.p (.H (.call 171 [(.t .d0 .d0)])),
    .s .d0 .d3 (.L (.alloc [.int .i64 0, .str 0 0, .int .i64 0])),
    .p (.H (.store 3 (.l 0) (.l 1)))])
  (.seq (.reg 16363 [.p (.L (.faddr 1 (.t .d0 .d3))),
    .p (.L (.load (.l 0))),
    .p (.L (.bins .eql (.l 0) (.t .d0 .d1))),
    .g (.l 0) true (.L (.faddr 0 (.t .d0 .d3))),
    .g (.l 1) true (.L (.load (.l 0))),
    .g (.l 2) true (.L (.bin .eql (.l 0) (.c (.int .i64 4)))),
    .g (.l 3) true (.L (.mov (.l 0))),
    .g (.l 0) false (.L (.faddr 0 (.t .d0 .d3))),
    .g (.l 1) false (.L (.load (.l 0))),
    .g (.l 2) false (.L (.bin .eql (.l 0) (.c (.int .i64 3)))),
    .g (.l 7) true (.L (.pick (.l 3) (.c (.bool true)) (.l 0))),
    .s .d0 .d2 (.L (.pick (.l 8) (.l 0) (.c (.bool false))))])
  .ret)))⟩
def i239 : Fun :=
  ⟨1, [0, 2, 3], [.tmp .d0 .d1], (.seq (.reg 1 [.s .d0 .d1 (.L (.mov (.c (.int .i64 0))))])
  (.seq (.reg 238 [.p (.H (.call 237 [(.t .d0 .d0), (.c (.int .i64 2))])),
    .p (.L (.field 1 1 false (.l 0))),
    .p (.H (.call 279 [(.l 0)])),
    .p (.L (.ext 0 (.l 0))),
    .p (.L (.ext 1 (.l 1))),
    .s .d0 .d2 (.L (.mov (.l 1)))])
  (.seq (.reg 2 [.s .d0 .d1 (.L (.mov (.t .d0 .d2)))])
  .ret)))⟩
def i240 : Fun :=
  ⟨3, [0, 1, 2, 10, 6, 14], [], (.seq (.reg 1 [.s .d0 .d4 (.L (.mov (.c (.int .i64 0))))])
  (.block 0 (.loop (.seq (.seq (.reg 12 [.p (.H (.call 173 [(.t .d0 .d0), (.t .d0 .d1)])),
    .s .d0 .d3 (.L (.not (.l 0)))])
  (.cond (.t .d0 .d3) .skip (.exit 0)))
  (.seq (.block 1 (.seq (.seq (.reg 2 [.s .d0 .d5 (.L (.bin .gtr (.t .d0 .d4) (.c (.int .i64 0))))])
  (.cond (.t .d0 .d5) (.reg 2 [.p (.H (.call 170 [(.t .d0 .d0), (.c (.str 1 44))]))]) .skip))
  (.reg 2 [.p (.H (.callv (.t .d0 .d2) []))])))
  (.reg 2 [.s .d0 .d4 (.L (.bin .add (.t .d0 .d4) (.c (.int .i64 1))))]))))))⟩
def i243 : Fun :=
  ⟨1, [0, 2, 6, 20, 3], [.tmp .d0 .d1], (.seq (.reg 1 [.s .d0 .d1 (.L (.mov (.c (.slN))))])
  (.seq (.seq (.reg 6 [.p (.H (.call 238 [(.t .d0 .d0), (.c (.str 1 123))])),
    .s .d0 .d2 (.L (.not (.l 0)))])
  (.cond (.t .d0 .d2) (.reg 2 [.p (.H (.call 236 [(.t .d0 .d0), (.c (.int .i64 11))]))]) .skip))
  (.seq (.reg 2 [.p (.H (.call 280 [(.t .d0 .d0)]))])
  (.seq (.reg 254 [.p (.L (.nilck (.t .d0 .d0))),
    .p (.L (.faddr 1 (.l 0))),
    .p (.L (.load (.l 0))),
    .p (.L (.bin .add (.l 0) (.c (.int .i64 1)))),
    .p (.L (.nilck (.t .d0 .d0))),
    .p (.L (.faddr 1 (.l 0))),
    .p (.H (.store 1 (.l 0) (.l 2)))])
  (.seq (.reg 1 [.s .d0 .d4 (.L (.mov (.c (.slN))))])
  (.seq (.block 0 (.loop (.seq (.seq (.reg 6 [.p (.H (.call 173 [(.t .d0 .d0), (.c (.str 1 125))])),
    .s .d0 .d3 (.L (.not (.l 0)))])
  (.cond (.t .d0 .d3) .skip (.exit 0)))
  (.block 1 (.reg 28 [.p (.H (.call 281 [(.t .d0 .d0)])),
    .p (.L (.bsl 12 1 [.int .i64 0, .int .i64 0, .str 0 0, .str 0 0, .str 0 0, .bool false, .str 0 0, .str 0 0, .slN, .slN, .slN, .slN] [(0, 12, (.l 0))])),
    .s .d0 .d4 (.H (.append 12 200 (.t .d0 .d4) (.l 0)))])))))
  (.seq (.reg 254 [.p (.L (.nilck (.t .d0 .d0))),
    .p (.L (.faddr 2 (.l 0))),
    .p (.L (.load (.l 0))),
    .p (.L (.bin .sub (.l 0) (.c (.int .i64 1)))),
    .p (.L (.nilck (.t .d0 .d0))),
    .p (.L (.faddr 2 (.l 0))),
    .p (.H (.store 1 (.l 0) (.l 2)))])
  (.seq (.reg 2 [.s .d0 .d1 (.L (.mov (.t .d0 .d4)))])
  .ret))))))))⟩
def i256 : Fun :=
  ⟨2, [0, 1, 4, 8, 7, 9, 5, 16], [.tmp .d0 .d2], (.seq (.reg 1 [.s .d0 .d2 (.L (.mov (.c (.int .i64 0))))])
  (.seq (.seq (.reg 6 [.s .d0 .d4 (.L (.len false (.t .d0 .d0))),
    .s .d0 .d3 (.L (.mov (.c (.int .i64 0))))])
  (.block 0 (.loop (.seq (.reg 1 [.s .d0 .d5 (.L (.bin .lss (.t .d0 .d3) (.t .d0 .d4)))])
  (.seq (.cond (.t .d0 .d5) .skip (.exit 0))
  (.seq (.block 1 (.seq (.reg 2 [.s .d0 .d6 (.L (.mov (.t .d0 .d3)))])
  (.seq (.reg 56 [.p (.L (.iaddr 1 (.t .d0 .d0) (.t .d0 .d6))),
    .p (.L (.load (.l 0))),
    .s .d0 .d7 (.H (.callv (.t .d0 .d1) [(.l 0)]))])
  (.cond (.t .d0 .d7) (.seq (.reg 2 [.s .d0 .d2 (.L (.mov (.t .d0 .d6)))])
  .ret) .skip))))
  (.reg 1 [.s .d0 .d3 (.L (.bin .add (.t .d0 .d3) (.c (.int .i64 1))))])))))))
  (.seq (.reg 1 [.s .d0 .d2 (.L (.mov (.c (.int .i64 (-1)))))])
  .ret)))⟩
def i257 : Fun :=
  ⟨2, [0, 1, 4, 8, 7, 9, 5, 16], [.tmp .d0 .d2], (.seq (.reg 1 [.s .d0 .d2 (.L (.mov (.c (.int .i64 0))))])
  (.seq (.seq (.reg 6 [.s .d0 .d4 (.L (.len false (.t .d0 .d0))),
    .s .d0 .d3 (.L (.mov (.c (.int .i64 0))))])
  (.block 0 (.loop (.seq (.reg 1 [.s .d0 .d5 (.L (.bin .lss (.t .d0 .d3) (.t .d0 .d4)))])
  (.seq (.cond (.t .d0 .d5) .skip (.exit 0))
  (.seq (.block 1 (.seq (.reg 2 [.s .d0 .d6 (.L (.mov (.t .d0 .d3)))])
  (.seq (.reg 56 [.p (.L (.iaddr 1 (.t .d0 .d0) (.t .d0 .d6))),
    .p (.L (.load (.l 0))),
    .s .d0 .d7 (.H (.callv (.t .d0 .d1) [(.l 0)]))])
  (.cond (.t .d0 .d7) (.seq (.reg 2 [.s .d0 .d2 (.L (.mov (.t .d0 .d6)))])
  .ret) .skip))))
  (.reg 1 [.s .d0 .d3 (.L (.bin .add (.t .d0 .d3) (.c (.int .i64 1))))])))))))
  (.seq (.reg 1 [.s .d0 .d2 (.L (.mov (.c (.int .i64 (-1)))))])
  .ret)))⟩
def i263 : Fun :=
  ⟨3, [0, 1, 2, 6, 12, 7, 30], [], (.seq (.reg 2 [.s .d0 .d3 (.L (.bin .add (.t .d0 .d1) (.c (.int .i64 1))))])
  (.block 0 (.loop (.seq (.seq (.reg 4 [.s .d0 .d4 (.L (.bin .lss (.t .d0 .d3) (.t .d0 .d2)))])
  (.cond (.t .d0 .d4) .skip (.exit 0)))
  (.seq (.block 1 (.seq (.reg 2 [.s .d0 .d5 (.L (.mov (.t .d0 .d3)))])
  (.block 2 (.loop (.seq (.seq (.draw [0, 1, 2, 3, 4, 5, 6, 7, 8, 9, 10, 11, 12, 13, 14] [⟨.p (.L (.mov (.t .d0 .d5))), []⟩,
    ⟨.p (.L (.mov (.t .d0 .d1))), []⟩,
    ⟨.p (.L (.bin .gtr (.l 1) (.l 0))), []⟩,
    ⟨.p (.L (.mov (.l 0))), []⟩,
    ⟨.g (.l 0) true (.L (.mov (.t .d0 .d0))), []⟩,
    ⟨.g (.l 1) true (.L (.mov (.t .d0 .d5))), []⟩,
    ⟨.g (.l 2) true (.L (.iaddr 1 (.l 1) (.l 0))), []⟩,
    ⟨.g (.l 3) true (.L (.load (.l 0))), []⟩,
    ⟨.g (.l 4) true (.L (.mov (.t .d0 .d0))), []⟩,
    ⟨.g (.l 5) true (.L (.mov (.t .d0 .d5))), []⟩,
    ⟨.g (.l 6) true (.L (.bin .sub (.l 0) (.c (.int .i64 1)))), []⟩,
    ⟨.g (.l 7) true (.L (.iaddr 1 (.l 2) (.l 0))), []⟩,
    ⟨.g (.l 8) true (.L (.load (.l 0))), []⟩,
    ⟨.g (.l 9) true (.H (.call 269 [(.l 5), (.l 0)])), []⟩,
    ⟨.s .d0 .d6 (.L (.pick (.l 10) (.l 0) (.c (.bool false)))), []⟩])
  (.cond (.t .d0 .d6) .skip (.exit 2)))
  (.seq (.block 3 (.draw [0, 1, 2, 3, 4, 5, 6, 7, 8, 9, 10, 11, 12, 13, 14, 15, 16, 17] [⟨.p (.L (.mov (.t .d0 .d0))), []⟩,
    ⟨.p (.L (.mov (.t .d0 .d5))), []⟩,
    ⟨.p (.L (.mov (.t .d0 .d0))), []⟩,
    ⟨.p (.L (.mov (.t .d0 .d5))), []⟩,
    ⟨.p (.L (.bin .sub (.l 0) (.c (.int .i64 1)))), []⟩,
    ⟨.p (.L (.mov (.t .d0 .d0))), []⟩,
    ⟨.p (.L (.mov (.t .d0 .d5))), []⟩,
    ⟨.p (.L (.bin .sub (.l 0) (.c (.int .i64 1)))), []⟩,
    ⟨.p (.L (.iaddr 1 (.l 2) (.l 0))), []⟩,
    ⟨.p (.L (.load (.l 0))), []⟩,
    ⟨.p (.L (.mov (.t .d0 .d0))), []⟩,
    ⟨.p (.L (.mov (.t .d0 .d5))), []⟩,
    ⟨.p (.L (.iaddr 1 (.l 1) (.l 0))), []⟩,
    ⟨.p (.L (.load (.l 0))), []⟩,
    ⟨.p (.L (.iaddr 1 (.l 13) (.l 12))), []⟩,
    ⟨.p (.H (.store 1 (.l 0) (.l 5))), []⟩,
    ⟨.p (.L (.iaddr 1 (.l 13) (.l 11))), []⟩,
    ⟨.p (.H (.store 1 (.l 0) (.l 3))), []⟩]))
  (.reg 2 [.s .d0 .d5 (.L (.bin .sub (.t .d0 .d5) (.c (.int .i64 1))))])))))))
  (.reg 2 [.s .d0 .d3 (.L (.bin .add (.t .d0 .d3) (.c (.int .i64 1))))]))))))⟩
def i266 : Fun :=
  ⟨3, [0, 1, 2, 6, 7, 8, 32, 34, 10, 9, 11, 12, 49, 51, 54], [.tmp .d0 .d3, .tmp .d0 .d4], (.seq (.reg 3 [.s .d0 .d3 (.L (.mov (.c (.int .i64 0)))),
    .s .d0 .d4 (.L (.mov (.c (.int .i64 0))))])
  (.seq (.reg 4 [.s .d0 .d5 (.L (.bin .sub (.t .d0 .d2) (.t .d0 .d1)))])
  (.seq (.reg 1 [.s .d1 .d1 (.L (.alloc [.int .i64 0]))])
  (.seq (.reg 28 [.p (.L (.bin .quo (.t .d0 .d5) (.c (.int .i64 4)))),
    .p (.L (.bin .mul (.l 0) (.c (.int .i64 1)))),
    .s .d1 .d0 (.L (.bin .add (.t .d0 .d1) (.l 0)))])
  (.seq (.reg 28 [.p (.L (.bin .quo (.t .d0 .d5) (.c (.int .i64 4)))),
    .p (.L (.bin .mul (.l 0) (.c (.int .i64 2)))),
    .s .d1 .d2 (.L (.bin .add (.t .d0 .d1) (.l 0)))])
  (.seq (.reg 28 [.p (.L (.bin .quo (.t .d0 .d5) (.c (.int .i64 4)))),
    .p (.L (.bin .mul (.l 0) (.c (.int .i64 3)))),
    .s .d1 .d3 (.L (.bin .add (.t .d0 .d1) (.l 0)))])
  (.seq (.seq (.reg 2 [.s .d0 .d6 (.L (.bin .geq (.t .d0 .d5) (.c (.int .i64 8))))])
  (.cond (.t .d0 .d6) (.seq (.seq (.reg 2 [.s .d0 .d7 (.L (.bin .geq (.t .d0 .d5) (.c (.int .i64 50))))])
  (.cond (.t .d0 .d7) (.seq (.reg 4 [.s .d1 .d0 (.H (.call 288 [(.t .d0 .d0), (.t .d1 .d0), (.t .d1 .d1)]))])
  (.seq (.reg 4 [.s .d1 .d2 (.H (.call 288 [(.t .d0 .d0), (.t .d1 .d2), (.t .d1 .d1)]))])
  (.reg 4 [.s .d1 .d3 (.H (.call 288 [(.t .d0 .d0), (.t .d1 .d3), (.t .d1 .d1)]))]))) .skip))
  (.reg 16 [.s .d1 .d2 (.H (.call 289 [(.t .d0 .d0), (.t .d1 .d0), (.t .d1 .d2), (.t .d1 .d3), (.t .d1 .d1)]))])) .skip))
  (.seq (.reg 1 [.s .d1 .d4 (.L (.load (.t .d1 .d1)))])
  (.block 0 (.seq (.reg 1 [.s .d1 .d5 (.L (.bin .eql (.t .d1 .d4) (.c (.int .i64 0))))])
  (.cond (.t .d1 .d5) (.seq (.reg 6 [.s .d0 .d3 (.L (.mov (.t .d1 .d2))),
    .s .d0 .d4 (.L (.mov (.c (.int .i64 1))))])
  .ret) (.seq (.reg 1 [.s .d1 .d6 (.L (.bin .eql (.t .d1 .d4) (.c (.int .i64 12))))])
  (.cond (.t .d1 .d6) (.seq (.reg 6 [.s .d0 .d3 (.L (.mov (.t .d1 .d2))),
    .s .d0 .d4 (.L (.mov (.c (.int .i64 2))))])
  .ret) (.seq (.reg 6 [.s .d0 .d3 (.L (.mov (.t .d1 .d2))),
    .s .d0 .d4 (.L (.mov (.c (.int .i64 0))))])
  .ret))))))))))))))⟩
def i269 : Fun :=
  ⟨2, [0, 1, 4], [.tmp .d0 .d2], (.seq (.reg 1 [.s .d0 .d2 (.L (.mov (.c (.bool false))))])
  (.seq (.reg 3962 [.p (.H (.call 290 [(.t .d0 .d0)])),
    .g (.l 0) true (.L (.mov (.t .d0 .d1))),
    .g (.l 1) true (.H (.call 290 [(.l 0)])),
    .g (.l 2) true (.L (.not (.l 0))),
    .p (.L (.pick (.l 3) (.l 0) (.c (.bool false)))),
    .g (.l 0) false (.L (.mov (.t .d0 .d0))),
    .g (.l 1) false (.L (.mov (.t .d0 .d1))),
    .g (.l 2) false (.L (.bins .lss (.l 1) (.l 0))),
    .s .d0 .d2 (.L (.pick (.l 3) (.c (.bool true)) (.l 0)))])
  .ret))⟩
def i271 : Fun :=
  ⟨4, [0, 1, 2, 3, 8, 9, 10, 11, 43, 60, 65, 112, 129, 134], [.tmp .d0 .d4, .tmp .d0 .d5], (.seq (.reg 3 [.s .d0 .d4 (.L (.mov (.c (.int .i64 0)))),
    .s .d0 .d5 (.L (.mov (.c (.bool false))))])
  (.seq (.draw [0, 1, 2, 3, 4, 5, 6, 7, 8, 9, 10, 11, 12, 13, 14, 15] [⟨.p (.L (.mov (.t .d0 .d0))), []⟩,
    ⟨.p (.L (.mov (.t .d0 .d1))), []⟩,
    ⟨.p (.L (.mov (.t .d0 .d0))), []⟩,
    ⟨.p (.L (.mov (.t .d0 .d3))), []⟩,
    ⟨.p (.L (.mov (.t .d0 .d0))), []⟩,
    ⟨.p (.L (.mov (.t .d0 .d3))), []⟩,
    ⟨.p (.L (.iaddr 1 (.l 1) (.l 0))), []⟩,
    ⟨.p (.L (.load (.l 0))), []⟩,
    ⟨.p (.L (.mov (.t .d0 .d0))), []⟩,
    ⟨.p (.L (.mov (.t .d0 .d1))), []⟩,
    ⟨.p (.L (.iaddr 1 (.l 1) (.l 0))), []⟩,
    ⟨.p (.L (.load (.l 0))), []⟩,
    ⟨.p (.L (.iaddr 1 (.l 11) (.l 10))), []⟩,
    ⟨.p (.H (.store 1 (.l 0) (.l 5))), []⟩,
    ⟨.p (.L (.iaddr 1 (.l 11) (.l 10))), []⟩,
    ⟨.p (.H (.store 1 (.l 0) (.l 3))), []⟩])
  (.seq (.reg 58 [.p (.L (.bin .add (.t .d0 .d1) (.c (.int .i64 1)))),
    .p (.L (.bin .sub (.t .d0 .d2) (.c (.int .i64 1)))),
    .s .d0 .d6 (.L (.mov (.l 1))),
    .s .d0 .d7 (.L (.mov (.l 1)))])
  (.seq (.block 0 (.loop (.seq (.seq (.draw [0, 1, 2, 3, 4, 5, 6, 7, 8, 9, 10, 11, 12, 13] [⟨.p (.L (.mov (.t .d0 .d6))), []⟩,
    ⟨.p (.L (.mov (.t .d0 .d7))), []⟩,
    ⟨.p (.L (.bin .leq (.l 1) (.l 0))), []⟩,
    ⟨.p (.L (.mov (.l 0))), []⟩,
    ⟨.g (.l 0) true (.L (.mov (.t .d0 .d0))), []⟩,
    ⟨.g (.l 1) true (.L (.mov (.t .d0 .d6))), []⟩,
    ⟨.g (.l 2) true (.L (.iaddr 1 (.l 1) (.l 0))), []⟩,
    ⟨.g (.l 3) true (.L (.load (.l 0))), []⟩,
    ⟨.g (.l 4) true (.L (.mov (.t .d0 .d0))), []⟩,
    ⟨.g (.l 5) true (.L (.mov (.t .d0 .d1))), []⟩,
    ⟨.g (.l 6) true (.L (.iaddr 1 (.l 1) (.l 0))), []⟩,
    ⟨.g (.l 7) true (.L (.load (.l 0))), []⟩,
    ⟨.g (.l 8) true (.H (.call 269 [(.l 4), (.l 0)])), []⟩,
    ⟨.s .d1 .d0 (.L (.pick (.l 9) (.l 0) (.c (.bool false)))), []⟩])
  (.cond (.t .d1 .d0) .skip (.exit 0)))
  (.block 1 (.reg 2 [.s .d0 .d6 (.L (.bin .add (.t .d0 .d6) (.c (.int .i64 1))))])))))
  (.seq (.block 2 (.loop (.seq (.seq (.draw [0, 1, 2, 3, 4, 5, 6, 7, 8, 9, 10, 11, 12, 13, 14] [⟨.p (.L (.mov (.t .d0 .d6))), []⟩,
    ⟨.p (.L (.mov (.t .d0 .d7))), []⟩,
    ⟨.p (.L (.bin .leq (.l 1) (.l 0))), []⟩,
    ⟨.p (.L (.mov (.l 0))), []⟩,
    ⟨.g (.l 0) true (.L (.mov (.t .d0 .d0))), []⟩,
    ⟨.g (.l 1) true (.L (.mov (.t .d0 .d7))), []⟩,
    ⟨.g (.l 2) true (.L (.iaddr 1 (.l 1) (.l 0))), []⟩,
    ⟨.g (.l 3) true (.L (.load (.l 0))), []⟩,
    ⟨.g (.l 4) true (.L (.mov (.t .d0 .d0))), []⟩,
    ⟨.g (.l 5) true (.L (.mov (.t .d0 .d1))), []⟩,
    ⟨.g (.l 6) true (.L (.iaddr 1 (.l 1) (.l 0))), []⟩,
    ⟨.g (.l 7) true (.L (.load (.l 0))), []⟩,
    ⟨.g (.l 8) true (.H (.call 269 [(.l 4), (.l 0)])), []⟩,
    ⟨.g (.l 9) true (.L (.not (.l 0))), []⟩,
    ⟨.s .d1 .d1 (.L (.pick (.l 10) (.l 0) (.c (.bool false)))), []⟩])
  (.cond (.t .d1 .d1) .skip (.exit 2)))
  (.block 3 (.reg 2 [.s .d0 .d7 (.L (.bin .sub (.t .d0 .d7) (.c (.int .i64 1))))])))))
  (.seq (.seq (.reg 4 [.s .d1 .d2 (.L (.bin .gtr (.t .d0 .d6) (.t .d0 .d7)))])
  (.cond (.t .d1 .d2) (.seq (.draw [0, 1, 2, 3, 4, 5, 6, 7, 8, 9, 10, 11, 12, 13, 14, 15] [⟨.p (.L (.mov (.t .d0 .d0))), []⟩,
    ⟨.p (.L (.mov (.t .d0 .d7))), []⟩,
    ⟨.p (.L (.mov (.t .d0 .d0))), []⟩,
    ⟨.p (.L (.mov (.t .d0 .d1))), []⟩,
    ⟨.p (.L (.mov (.t .d0 .d0))), []⟩,
    ⟨.p (.L (.mov (.t .d0 .d1))), []⟩,
    ⟨.p (.L (.iaddr 1 (.l 1) (.l 0))), []⟩,
    ⟨.p (.L (.load (.l 0))), []⟩,
    ⟨.p (.L (.mov (.t .d0 .d0))), []⟩,
    ⟨.p (.L (.mov (.t .d0 .d7))), []⟩,
    ⟨.p (.L (.iaddr 1 (.l 1) (.l 0))), []⟩,
    ⟨.p (.L (.load (.l 0))), []⟩,
    ⟨.p (.L (.iaddr 1 (.l 11) (.l 10))), []⟩,
    ⟨.p (.H (.store 1 (.l 0) (.l 5))), []⟩,
    ⟨.p (.L (.iaddr 1 (.l 11) (.l 10))), []⟩,
    ⟨.p (.H (.store 1 (.l 0) (.l 3))), []⟩])
  (.seq (.reg 6 [.s .d0 .d4 (.L (.mov (.t .d0 .d7))),
    .s .d0 .d5 (.L (.mov (.c (.bool true))))])
  .ret)) .skip))
  (.seq (.draw [0, 1, 2, 3, 4, 5, 6, 7, 8, 9, 10, 11, 12, 13, 14, 15] [⟨.p (.L (.mov (.t .d0 .d0))), []⟩,
    ⟨.p (.L (.mov (.t .d0 .d6))), []⟩,
    ⟨.p (.L (.mov (.t .d0 .d0))), []⟩,
    ⟨.p (.L (.mov (.t .d0 .d7))), []⟩,
    ⟨.p (.L (.mov (.t .d0 .d0))), []⟩,
    ⟨.p (.L (.mov (.t .d0 .d7))), []⟩,
    ⟨.p (.L (.iaddr 1 (.l 1) (.l 0))), []⟩,
    ⟨.p (.L (.load (.l 0))), []⟩,
    ⟨.p (.L (.mov (.t .d0 .d0))), []⟩,
    ⟨.p (.L (.mov (.t .d0 .d6))), []⟩,
    ⟨.p (.L (.iaddr 1 (.l 1) (.l 0))), []⟩,
    ⟨.p (.L (.load (.l 0))), []⟩,
    ⟨.p (.L (.iaddr 1 (.l 11) (.l 10))), []⟩,
    ⟨.p (.H (.store 1 (.l 0) (.l 5))), []⟩,
    ⟨.p (.L (.iaddr 1 (.l 11) (.l 10))), []⟩,
    ⟨.p (.H (.store 1 (.l 0) (.l 3))), []⟩])
  (.seq (.reg 2 [.s .d0 .d6 (.L (.bin .add (.t .d0 .d6) (.c (.int .i64 1))))])
  (.seq (.reg 2 [.s .d0 .d7 (.L (.bin .sub (.t .d0 .d7) (.c (.int .i64 1))))])
  (.seq (.block 4 (.loop (.block 5 (.seq (.block 6 (.loop (.seq (.seq (.draw [0, 1, 2, 3, 4, 5, 6, 7, 8, 9, 10, 11, 12, 13] [⟨.p (.L (.mov (.t .d0 .d6))), []⟩,
    ⟨.p (.L (.mov (.t .d0 .d7))), []⟩,
    ⟨.p (.L (.bin .leq (.l 1) (.l 0))), []⟩,
    ⟨.p (.L (.mov (.l 0))), []⟩,
    ⟨.g (.l 0) true (.L (.mov (.t .d0 .d0))), []⟩,
    ⟨.g (.l 1) true (.L (.mov (.t .d0 .d6))), []⟩,
    ⟨.g (.l 2) true (.L (.iaddr 1 (.l 1) (.l 0))), []⟩,
    ⟨.g (.l 3) true (.L (.load (.l 0))), []⟩,
    ⟨.g (.l 4) true (.L (.mov (.t .d0 .d0))), []⟩,
    ⟨.g (.l 5) true (.L (.mov (.t .d0 .d1))), []⟩,
    ⟨.g (.l 6) true (.L (.iaddr 1 (.l 1) (.l 0))), []⟩,
    ⟨.g (.l 7) true (.L (.load (.l 0))), []⟩,
    ⟨.g (.l 8) true (.H (.call 269 [(.l 4), (.l 0)])), []⟩,
    ⟨.s .d1 .d3 (.L (.pick (.l 9) (.l 0) (.c (.bool false)))), []⟩])
  (.cond (.t .d1 .d3) .skip (.exit 6)))
  (.block 7 (.reg 2 [.s .d0 .d6 (.L (.bin .add (.t .d0 .d6) (.c (.int .i64 1))))])))))
  (.seq (.block 8 (.loop (.seq (.seq (.draw [0, 1, 2, 3, 4, 5, 6, 7, 8, 9, 10, 11, 12, 13, 14] [⟨.p (.L (.mov (.t .d0 .d6))), []⟩,
    ⟨.p (.L (.mov (.t .d0 .d7))), []⟩,
    ⟨.p (.L (.bin .leq (.l 1) (.l 0))), []⟩,
    ⟨.p (.L (.mov (.l 0))), []⟩,
    ⟨.g (.l 0) true (.L (.mov (.t .d0 .d0))), []⟩,
    ⟨.g (.l 1) true (.L (.mov (.t .d0 .d7))), []⟩,
    ⟨.g (.l 2) true (.L (.iaddr 1 (.l 1) (.l 0))), []⟩,
    ⟨.g (.l 3) true (.L (.load (.l 0))), []⟩,
    ⟨.g (.l 4) true (.L (.mov (.t .d0 .d0))), []⟩,
    ⟨.g (.l 5) true (.L (.mov (.t .d0 .d1))), []⟩,
    ⟨.g (.l 6) true (.L (.iaddr 1 (.l 1) (.l 0))), []⟩,
    ⟨.g (.l 7) true (.L (.load (.l 0))), []⟩,
    ⟨.g (.l 8) true (.H (.call 269 [(.l 4), (.l 0)])), []⟩,
    ⟨.g (.l 9) true (.L (.not (.l 0))), []⟩,
    ⟨.s .d1 .d4 (.L (.pick (.l 10) (.l 0) (.c (.bool false)))), []⟩])
  (.cond (.t .d1 .d4) .skip (.exit 8)))
  (.block 9 (.reg 2 [.s .d0 .d7 (.L (.bin .sub (.t .d0 .d7) (.c (.int .i64 1))))])))))
  (.seq (.seq (.reg 4 [.s .d1 .d5 (.L (.bin .gtr (.t .d0 .d6) (.t .d0 .d7)))])
  (.cond (.t .d1 .d5) (.exit 4) .skip))
  (.seq (.draw [0, 1, 2, 3, 4, 5, 6, 7, 8, 9, 10, 11, 12, 13, 14, 15] [⟨.p (.L (.mov (.t .d0 .d0))), []⟩,
    ⟨.p (.L (.mov (.t .d0 .d6))), []⟩,
    ⟨.p (.L (.mov (.t .d0 .d0))), []⟩,
    ⟨.p (.L (.mov (.t .d0 .d7))), []⟩,
    ⟨.p (.L (.mov (.t .d0 .d0))), []⟩,
    ⟨.p (.L (.mov (.t .d0 .d7))), []⟩,
    ⟨.p (.L (.iaddr 1 (.l 1) (.l 0))), []⟩,
    ⟨.p (.L (.load (.l 0))), []⟩,
    ⟨.p (.L (.mov (.t .d0 .d0))), []⟩,
    ⟨.p (.L (.mov (.t .d0 .d6))), []⟩,
    ⟨.p (.L (.iaddr 1 (.l 1) (.l 0))), []⟩,
    ⟨.p (.L (.load (.l 0))), []⟩,
    ⟨.p (.L (.iaddr 1 (.l 11) (.l 10))), []⟩,
    ⟨.p (.H (.store 1 (.l 0) (.l 5))), []⟩,
    ⟨.p (.L (.iaddr 1 (.l 11) (.l 10))), []⟩,
    ⟨.p (.H (.store 1 (.l 0) (.l 3))), []⟩])
  (.seq (.reg 2 [.s .d0 .d6 (.L (.bin .add (.t .d0 .d6) (.c (.int .i64 1))))])
  (.reg 2 [.s .d0 .d7 (.L (.bin .sub (.t .d0 .d7) (.c (.int .i64 1))))])))))))))
  (.seq (.draw [0, 1, 2, 3, 4, 5, 6, 7, 8, 9, 10, 11, 12, 13, 14, 15] [⟨.p (.L (.mov (.t .d0 .d0))), []⟩,
    ⟨.p (.L (.mov (.t .d0 .d7))), []⟩,
    ⟨.p (.L (.mov (.t .d0 .d0))), []⟩,
    ⟨.p (.L (.mov (.t .d0 .d1))), []⟩,
    ⟨.p (.L (.mov (.t .d0 .d0))), []⟩,
    ⟨.p (.L (.mov (.t .d0 .d1))), []⟩,
    ⟨.p (.L (.iaddr 1 (.l 1) (.l 0))), []⟩,
    ⟨.p (.L (.load (.l 0))), []⟩,
    ⟨.p (.L (.mov (.t .d0 .d0))), []⟩,
    ⟨.p (.L (.mov (.t .d0 .d7))), []⟩,
    ⟨.p (.L (.iaddr 1 (.l 1) (.l 0))), []⟩,
    ⟨.p (.L (.load (.l 0))), []⟩,
    ⟨.p (.L (.iaddr 1 (.l 11) (.l 10))), []⟩,
    ⟨.p (.H (.store 1 (.l 0) (.l 5))), []⟩,
    ⟨.p (.L (.iaddr 1 (.l 11) (.l 10))), []⟩,
    ⟨.p (.H (.store 1 (.l 0) (.l 3))), []⟩])
  (.seq (.reg 6 [.s .d0 .d4 (.L (.mov (.t .d0 .d7))),
    .s .d0 .d5 (.L (.mov (.c (.bool false))))])
  .ret))))))))))))⟩
def i272 : Fun :=
  ⟨1, [0, 2, 8, 7, 9, 6, 5, 3, 14], [.tmp .d0 .d1], (.seq (.reg 1 [.s .d0 .d1 (.L (.mov (.c (.int .i64 0))))])
  (.seq (.reg 1 [.s .d0 .d7 (.L (.mov (.c (.int .i64 0))))])
  (.seq (.seq (.reg 7 [.s .d0 .d5 (.L (.mov (.t .d0 .d0))),
    .s .d0 .d3 (.L (.len false (.l 0))),
    .s .d0 .d2 (.L (.mov (.c (.int .i64 0))))])
  (.block 0 (.loop (.seq (.reg 1 [.s .d0 .d4 (.L (.bin .lss (.t .d0 .d2) (.t .d0 .d3)))])
  (.seq (.cond (.t .d0 .d4) .skip (.exit 0))
  (.seq (.block 1 (.seq (.reg 3 [.p (.L (.iaddr 1 (.t .d0 .d5) (.t .d0 .d2))),
    .s .d0 .d6 (.L (.load (.l 0)))])
  (.seq (.reg 4 [.s .d1 .d0 (.L (.bin .neq (.t .d0 .d6) (.t .d0 .d7)))])
  (.cond (.t .d1 .d0) (.seq (.reg 2 [.s .d0 .d1 (.L (.mov (.t .d0 .d6)))])
  .ret) .skip))))
  (.reg 1 [.s .d0 .d2 (.L (.bin .add (.t .d0 .d2) (.c (.int .i64 1))))])))))))
  (.seq (.reg 2 [.s .d0 .d1 (.L (.mov (.t .d0 .d7)))])
  .ret))))⟩
def i273 : Fun :=
  ⟨2, [0, 1, 4, 5, 11, 6, 12, 13, 16, 19], [.tmp .d0 .d2], (.seq (.reg 1 [.s .d0 .d2 (.L (.mov (.c (.int .i64 0))))])
  (.seq (.reg 2 [.s .d0 .d3 (.H (.call 291 [(.t .d0 .d0)]))])
  (.seq (.reg 2 [.s .d0 .d5 (.H (.call 291 [(.t .d0 .d1)]))])
  (.seq (.seq (.reg 1 [.s .d0 .d4 (.L (.mov (.t .d0 .d3)))])
  (.cond (.t .d0 .d4) (.seq (.seq (.reg 1 [.s .d0 .d6 (.L (.mov (.t .d0 .d5)))])
  (.cond (.t .d0 .d6) (.seq (.reg 1 [.s .d0 .d2 (.L (.mov (.c (.int .i64 0))))])
  .ret) .skip))
  (.seq (.reg 1 [.s .d0 .d2 (.L (.mov (.c (.int .i64 (-1)))))])
  .ret)) .skip))
  (.seq (.seq (.reg 1 [.s .d0 .d7 (.L (.mov (.t .d0 .d5)))])
  (.cond (.t .d0 .d7) (.seq (.reg 1 [.s .d0 .d2 (.L (.mov (.c (.int .i64 1))))])
  .ret) .skip))
  (.seq (.seq (.reg 4 [.s .d1 .d0 (.L (.bin .lss (.t .d0 .d0) (.t .d0 .d1)))])
  (.cond (.t .d1 .d0) (.seq (.reg 1 [.s .d0 .d2 (.L (.mov (.c (.int .i64 (-1)))))])
  .ret) .skip))
  (.seq (.seq (.reg 4 [.s .d1 .d1 (.L (.bin .gtr (.t .d0 .d0) (.t .d0 .d1)))])
  (.cond (.t .d1 .d1) (.seq (.reg 1 [.s .d0 .d2 (.L (.mov (.c (.int .i64 1))))])
  .ret) .skip))
  (.seq (.reg 1 [.s .d0 .d2 (.L (.mov (.c (.int .i64 0))))])
  .ret))))))))⟩
def i277 : Fun :=
  ⟨2, [0, 1, 4], [.tmp .d0 .d2], (.seq (.reg 1 [.s .d0 .d2 (.L (.mov (.c (.bool false))))])
  (.seq (.reg 8154 [.p (.L (.len true (.t .d0 .d0))),
    .p (.L (.len true (.t .d0 .d1))),
    .p (.L (.bin .geq (.l 1) (.l 0))),
    .g (.l 0) true (.L (.mov (.t .d0 .d0))),
    .g (.l 1) true (.L (.mov (.t .d0 .d1))),
    .g (.l 2) true (.L (.len true (.l 0))),
    .g (.l 3) true (.L (.sstr (.l 2) none (some (.l 0)))),
    .g (.l 4) true (.L (.mov (.t .d0 .d1))),
    .g (.l 5) true (.L (.bins .eql (.l 1) (.l 0))),
    .s .d0 .d2 (.L (.pick (.l 6) (.l 0) (.c (.bool false))))])
  .ret))⟩
def i279 : Fun :=
  ⟨1, [0, 2, 3, 5, 12, 4], [.tmp .d0 .d1, .tmp .d0 .d2], (.seq (.reg 3 [.s .d0 .d1 (.L (.mov (.c (.int .i64 0)))),
    .s .d0 .d2 (.L (.mov (.c (.ifcN))))])
  (.seq (.reg 122 [.p (.H (.call 295 [(.t .d0 .d0)])),
    .p (.L (.ext 0 (.l 0))),
    .p (.L (.ext 1 (.l 1))),
    .s .d0 .d5 (.L (.mov (.l 1))),
    .s .d0 .d3 (.L (.mov (.l 1)))])
  (.seq (.seq (.reg 2 [.s .d0 .d4 (.L (.eq true .ifc (.t .d0 .d3) (.c (.ifcN))))])
  (.cond (.t .d0 .d4) (.seq (.reg 56 [.p (.H (.call 296 [(.c (.str 4 1768911937)), (.t .d0 .d0), (.c (.int .i64 0)), (.c (.int .i64 0)), (.t .d0 .d3)])),
    .s .d0 .d1 (.L (.mov (.t .d0 .d5))),
    .s .d0 .d2 (.L (.mov (.l 1)))])
  .ret) .skip))
  (.seq (.reg 6 [.s .d0 .d1 (.L (.mov (.t .d0 .d5))),
    .s .d0 .d2 (.L (.mov (.c (.ifcN))))])
  .ret))))⟩
def i280 : Fun :=
  ⟨1, [0, 6], [], (.seq (.seq (.reg 30 [.p (.L (.nilck (.t .d0 .d0))),
    .p (.L (.faddr 2 (.l 0))),
    .p (.L (.load (.l 0))),
    .s .d0 .d1 (.L (.bin .geq (.l 0) (.c (.int .i64 40))))])
  (.cond (.t .d0 .d1) (.reg 2 [.p (.H (.call 236 [(.t .d0 .d0), (.c (.int .i64 12))]))]) .skip))
  (.reg 254 [.p (.L (.nilck (.t .d0 .d0))),
    .p (.L (.faddr 2 (.l 0))),
    .p (.L (.load (.l 0))),
    .p (.L (.bin .add (.l 0) (.c (.int .i64 1)))),
    .p (.L (.nilck (.t .d0 .d0))),
    .p (.L (.faddr 2 (.l 0))),
    .p (.H (.store 1 (.l 0) (.l 2)))]))⟩
def i281 : Fun :=
  ⟨1, [0, 2, 21, 3, 32, 37, 48, 65, 74, 80, 87], [.cell .d0 .d1 (some 12)], (.seq (.reg 1 [.s .d0 .d1 (.L (.alloc [.int .i64 0, .int .i64 0, .str 0 0, .str 0 0, .str 0 0, .bool false, .str 0 0, .str 0 0, .slN, .slN, .slN, .slN]))])
  (.seq (.reg 62 [.p (.H (.call 171 [(.t .d0 .d0)])),
    .p (.L (.field 2 1 false (.l 0))),
    .p (.L (.build [.int .i64 0, .int .i64 0, .str 0 0, .str 0 0, .str 0 0, .bool false, .str 0 0, .str 0 0, .slN, .slN, .slN, .slN] [(1, 1, (.l 0))])),
    .s .d0 .d3 (.L (.alloc [.int .i64 0, .int .i64 0, .str 0 0, .str 0 0, .str 0 0, .bool false, .str 0 0, .str 0 0, .slN, .slN, .slN, .slN])),
    .p (.H (.store 12 (.l 0) (.l 1)))])
  (.seq (.block 0 (.seq (.reg 2 [.s .d0 .d2 (.H (.call 173 [(.t .d0 .d0), (.c (.str 2 26217))]))])
  (.cond (.t .d0 .d2) (.seq (.reg 62 [.p (.H (.call 297 [(.t .d0 .d0)])),
    .p (.L (.faddr 0 (.t .d0 .d3))),
    .p (.H (.store 1 (.l 0) (.c (.int .i64 5)))),
    .p (.L (.faddr 8 (.t .d0 .d3))),
    .p (.H (.store 1 (.l 0) (.l 3)))])
  (.seq (.reg 14 [.p (.H (.call 243 [(.t .d0 .d0)])),
    .p (.L (.faddr 10 (.t .d0 .d3))),
    .p (.H (.store 1 (.l 0) (.l 1)))])
  (.seq (.seq (.reg 2 [.s .d0 .d4 (.H (.call 173 [(.t .d0 .d0), (.c (.str 4 1702063205))]))])
  (.cond (.t .d0 .d4) (.reg 14 [.p (.H (.call 243 [(.t .d0 .d0)])),
    .p (.L (.faddr 11 (.t .d0 .d3))),
    .p (.H (.store 1 (.l 0) (.l 1)))]) .skip))
  (.seq (.reg 3 [.p (.L (.loadn 12 (.t .d0 .d3))),
    .p (.H (.store 12 (.t .d0 .d1) (.l 0)))])
  .ret)))) (.seq (.reg 2 [.s .d0 .d5 (.H (.call 173 [(.t .d0 .d0), (.c (.str 5 435610544247))]))])
  (.cond (.t .d0 .d5) (.seq (.reg 62 [.p (.H (.call 297 [(.t .d0 .d0)])),
    .p (.L (.faddr 0 (.t .d0 .d3))),
    .p (.H (.store 1 (.l 0) (.c (.int .i64 6)))),
    .p (.L (.faddr 8 (.t .d0 .d3))),
    .p (.H (.store 1 (.l 0) (.l 3)))])
  (.seq (.reg 14 [.p (.H (.call 243 [(.t .d0 .d0)])),
    .p (.L (.faddr 10 (.t .d0 .d3))),
    .p (.H (.store 1 (.l 0) (.l 1)))])
  (.seq (.reg 3 [.p (.L (.loadn 12 (.t .d0 .d3))),
    .p (.H (.store 12 (.t .d0 .d1) (.l 0)))])
  .ret))) (.seq (.reg 2 [.s .d0 .d6 (.H (.call 173 [(.t .d0 .d0), (.c (.str 3 7628140))]))])
  (.cond (.t .d0 .d6) (.seq (.reg 62 [.p (.H (.call 172 [(.t .d0 .d0)])),
    .p (.L (.faddr 0 (.t .d0 .d3))),
    .p (.H (.store 1 (.l 0) (.c (.int .i64 1)))),
    .p (.L (.faddr 3 (.t .d0 .d3))),
    .p (.H (.store 1 (.l 0) (.l 3)))])
  (.seq (.reg 2 [.p (.H (.call 170 [(.t .d0 .d0), (.c (.str 1 58))]))])
  (.seq (.reg 14 [.p (.H (.call 172 [(.t .d0 .d0)])),
    .p (.L (.faddr 4 (.t .d0 .d3))),
    .p (.H (.store 1 (.l 0) (.l 1)))])
  (.seq (.reg 2 [.p (.H (.call 170 [(.t .d0 .d0), (.c (.str 1 61))]))])
  (.reg 14 [.p (.H (.call 297 [(.t .d0 .d0)])),
    .p (.L (.faddr 8 (.t .d0 .d3))),
    .p (.H (.store 1 (.l 0) (.l 1)))]))))) (.seq (.reg 2 [.s .d0 .d7 (.H (.call 173 [(.t .d0 .d0), (.c (.str 6 128009175786866))]))])
  (.cond (.t .d0 .d7) (.seq (.reg 3 [.p (.L (.faddr 0 (.t .d0 .d3))),
    .p (.H (.store 1 (.l 0) (.c (.int .i64 3))))])
  (.seq (.reg 2 [.p (.H (.call 170 [(.t .d0 .d0), (.c (.str 1 61))]))])
  (.reg 14 [.p (.H (.call 297 [(.t .d0 .d0)])),
    .p (.L (.faddr 8 (.t .d0 .d3))),
    .p (.H (.store 1 (.l 0) (.l 1)))]))) (.seq (.reg 2 [.s .d1 .d0 (.H (.call 173 [(.t .d0 .d0), (.c (.str 4 1819042147))]))])
  (.cond (.t .d1 .d0) (.seq (.reg 3 [.p (.L (.faddr 0 (.t .d0 .d3))),
    .p (.H (.store 1 (.l 0) (.c (.int .i64 4))))])
  (.reg 2 [.p (.H (.call 298 [(.t .d0 .d0), (.t .d0 .d3)]))])) (.seq (.reg 2 [.s .d1 .d1 (.H (.call 173 [(.t .d0 .d0), (.c (.str 4 1953066341))]))])
  (.cond (.t .d1 .d1) (.reg 62 [.p (.H (.call 172 [(.t .d0 .d0)])),
    .p (.L (.faddr 0 (.t .d0 .d3))),
    .p (.H (.store 1 (.l 0) (.c (.int .i64 7)))),
    .p (.L (.faddr 3 (.t .d0 .d3))),
    .p (.H (.store 1 (.l 0) (.l 3)))]) (.seq (.reg 2 [.s .d1 .d2 (.H (.call 173 [(.t .d0 .d0), (.c (.str 4 1885956979))]))])
  (.cond (.t .d1 .d2) (.reg 3 [.p (.L (.faddr 0 (.t .d0 .d3))),
    .p (.H (.store 1 (.l 0) (.c (.int .i64 8))))]) (.seq (.reg 3 [.p (.L (.faddr 0 (.t .d0 .d3))),
    .p (.H (.store 1 (.l 0) (.c (.int .i64 2))))])
  (.seq (.reg 506 [.p (.H (.call 299 [(.t .d0 .d0)])),
    .p (.L (.ext 0 (.l 0))),
    .p (.L (.ext 1 (.l 1))),
    .p (.L (.faddr 2 (.t .d0 .d3))),
    .p (.H (.store 1 (.l 0) (.l 2))),
    .p (.L (.faddr 3 (.t .d0 .d3))),
    .p (.H (.store 1 (.l 0) (.l 3)))])
  (.seq (.reg 2 [.p (.H (.call 170 [(.t .d0 .d0), (.c (.str 1 61))]))])
  (.reg 14 [.p (.H (.call 297 [(.t .d0 .d0)])),
    .p (.L (.faddr 8 (.t .d0 .d3))),
    .p (.H (.store 1 (.l 0) (.l 1)))])))))))))))))))))))
  (.seq (.reg 2 [.p (.H (.call 170 [(.t .d0 .d0), (.c (.str 1 59))]))])
  (.seq (.reg 3 [.p (.L (.loadn 12 (.t .d0 .d3))),
    .p (.H (.store 12 (.t .d0 .d1) (.l 0)))])
  .ret)))))⟩
def i289 : Fun :=
  ⟨5, [0, 1, 2, 3, 4, 10], [.tmp .d0 .d5], (.seq (.reg 1 [.s .d0 .d5 (.L (.mov (.c (.int .i64 0))))])
  (.seq (.reg 976 [.p (.H (.call 300 [(.t .d0 .d0), (.t .d0 .d1), (.t .d0 .d2), (.t .d0 .d4)])),
    .p (.L (.ext 0 (.l 0))),
    .p (.L (.ext 1 (.l 1))),
    .s .d0 .d1 (.L (.mov (.l 1))),
    .s .d0 .d2 (.L (.mov (.l 1)))])
  (.seq (.reg 976 [.p (.H (.call 300 [(.t .d0 .d0), (.t .d0 .d2), (.t .d0 .d3), (.t .d0 .d4)])),
    .p (.L (.ext 0 (.l 0))),
    .p (.L (.ext 1 (.l 1))),
    .s .d0 .d2 (.L (.mov (.l 1))),
    .s .d0 .d3 (.L (.mov (.l 1)))])
  (.seq (.reg 976 [.p (.H (.call 300 [(.t .d0 .d0), (.t .d0 .d1), (.t .d0 .d2), (.t .d0 .d4)])),
    .p (.L (.ext 0 (.l 0))),
    .p (.L (.ext 1 (.l 1))),
    .s .d0 .d1 (.L (.mov (.l 1))),
    .s .d0 .d2 (.L (.mov (.l 1)))])
  (.seq (.reg 2 [.s .d0 .d5 (.L (.mov (.t .d0 .d2)))])
  .ret)))))⟩
def i290 : Fun :=
  ⟨1, [0, 2], [.tmp .d0 .d1], (.seq (.reg 1 [.s .d0 .d1 (.L (.mov (.c (.bool false))))])
  (.seq (.reg 4 [.s .d0 .d1 (.L (.bins .neq (.t .d0 .d0) (.t .d0 .d0)))])
  .ret))⟩
def i291 : Fun :=
  ⟨1, [0, 2], [.tmp .d0 .d1], (.seq (.reg 1 [.s .d0 .d1 (.L (.mov (.c (.bool false))))])
  (.seq (.reg 4 [.s .d0 .d1 (.L (.bin .neq (.t .d0 .d0) (.t .d0 .d0)))])
  .ret))⟩
def i295 : Fun :=
  ⟨1, [0, 2, 3, 4, 30, 39, 44, 49, 48, 50, 47, 8, 56, 6, 5, 66, 9, 10], [.tmp .d0 .d1, .tmp .d0 .d2], (.seq (.reg 3 [.s .d0 .d1 (.L (.mov (.c (.int .i64 0)))),
    .s .d0 .d2 (.L (.mov (.c (.ifcN))))])
  (.seq (.reg 2 [.s .d0 .d3 (.L (.len true (.t .d0 .d0)))])
  (.seq (.seq (.reg 261886 [.g (.c (.bool false)) true (.L (.mov (.t .d0 .d3))),
    .g (.c (.bool false)) true (.L (.bin .lss (.c (.int .i64 0)) (.l 0))),
    .g (.c (.bool false)) true (.L (.mov (.l 0))),
    .g (.l 0) true (.L (.mov (.t .d0 .d3))),
    .g (.l 1) true (.L (.bin .lss (.l 0) (.c (.int .i64 10)))),
    .g (.c (.bool false)) true (.L (.pick (.l 2) (.l 0) (.c (.bool false)))),
    .p (.L (.pick (.c (.bool false)) (.l 0) (.c (.bool false)))),
    .g (.l 0) false (.L (.mov (.c (.bool true)))),
    .g (.l 0) true (.L (.mov (.t .d0 .d3))),
    .g (.l 1) true (.L (.bin .lss (.c (.int .i64 0)) (.l 0))),
    .g (.l 2) true (.L (.mov (.l 0))),
    .g (.l 0) true (.L (.mov (.t .d0 .d3))),
    .g (.l 1) true (.L (.bin .lss (.l 0) (.c (.int .i64 19)))),
    .g (.l 5) true (.L (.pick (.l 2) (.l 0) (.c (.bool false)))),
    .g (.l 7) false (.L (.pick (.l 6) (.l 0) (.c (.bool false)))),
    .s .d0 .d4 (.L (.pick (.l 8) (.c (.bool true)) (.l 0)))])
  (.cond (.t .d0 .d4) (.seq (.reg 2 [.s .d1 .d6 (.L (.mov (.t .d0 .d0)))])
  (.seq (.seq (.reg 246 [.p (.L (.istr (.t .d0 .d0) (.c (.int .i64 0)))),
    .p (.L (.bin .eql (.l 0) (.c (.int .u8 45)))),
    .g (.l 0) false (.L (.mov (.t .d0 .d0))),
    .g (.l 1) false (.L (.istr (.l 0) (.c (.int .i64 0)))),
    .g (.l 2) false (.L (.bin .eql (.l 0) (.c (.int .u8 43)))),
    .s .d0 .d5 (.L (.pick (.l 3) (.c (.bool true)) (.l 0)))])
  (.cond (.t .d0 .d5) (.seq (.reg 2 [.s .d0 .d0 (.L (.sstr (.t .d0 .d0) (some (.c (.int .i64 1))) none))])
  (.seq (.reg 6 [.p (.L (.len true (.t .d0 .d0))),
    .s .d0 .d6 (.L (.bin .lss (.l 0) (.c (.int .i64 1))))])
  (.cond (.t .d0 .d6) (.seq (.reg 7 [.p (.L (.ifc 363 (.c (.int .i64 2)))),
    .s .d0 .d1 (.L (.mov (.c (.int .i64 0)))),
    .s .d0 .d2 (.L (.mov (.l 1)))])
  .ret) .skip))) .skip))
  (.seq (.reg 1 [.s .d1 .d5 (.L (.mov (.c (.int .i64 0))))])
  (.seq (.seq (.reg 14 [.s .d1 .d2 (.L (.sbytes (.t .d0 .d0))),
    .s .d1 .d0 (.L (.len false (.l 0))),
    .s .d0 .d7 (.L (.mov (.c (.int .i64 0))))])
  (.block 0 (.loop (.seq (.reg 1 [.s .d1 .d1 (.L (.bin .lss (.t .d0 .d7) (.t .d1 .d0)))])
  (.seq (.cond (.t .d1 .d1) .skip (.exit 0))
  (.seq (.block 1 (.seq (.reg 3 [.p (.L (.iaddr 1 (.t .d1 .d2) (.t .d0 .d7))),
    .s .d1 .d3 (.L (.load (.l 0)))])
  (.seq (.reg 2 [.s .d1 .d3 (.L (.bin .sub (.t .d1 .d3) (.c (.int .u8 48))))])
  (.seq (.seq (.reg 2 [.s .d1 .d4 (.L (.bin .gtr (.t .d1 .d3) (.c (.int .u8 9))))])
  (.cond (.t .d1 .d4) (.seq (.reg 7 [.p (.L (.ifc 363 (.c (.int .i64 2)))),
    .s .d0 .d1 (.L (.mov (.c (.int .i64 0)))),
    .s .d0 .d2 (.L (.mov (.l 1)))])
  .ret) .skip))
  (.reg 26 [.p (.L (.bin .mul (.t .d1 .d5) (.c (.int .i64 10)))),
    .p (.L (.conv .i64 (.t .d1 .d3))),
    .s .d1 .d5 (.L (.bin .add (.l 1) (.l 0)))])))))
  (.reg 1 [.s .d0 .d7 (.L (.bin .add (.t .d0 .d7) (.c (.int .i64 1))))])))))))
  (.seq (.seq (.reg 6 [.p (.L (.istr (.t .d1 .d6) (.c (.int .i64 0)))),
    .s .d1 .d7 (.L (.bin .eql (.l 0) (.c (.int .u8 45))))])
  (.cond (.t .d1 .d7) (.reg 2 [.s .d1 .d5 (.L (.neg (.t .d1 .d5)))]) .skip))
  (.seq (.reg 6 [.s .d0 .d1 (.L (.mov (.t .d1 .d5))),
    .s .d0 .d2 (.L (.mov (.c (.ifcN))))])
  .ret)))))) .skip))
  (.seq (.reg 122 [.p (.H (.call 302 [(.t .d0 .d0), (.c (.int .i64 10)), (.c (.int .i64 0))])),
    .p (.L (.ext 0 (.l 0))),
    .p (.L (.ext 1 (.l 1))),
    .s .d2 .d0 (.L (.mov (.l 1))),
    .s .d2 .d1 (.L (.mov (.l 1)))])
  (.seq (.reg 12 [.s .d0 .d1 (.L (.mov (.t .d2 .d0))),
    .s .d0 .d2 (.L (.mov (.t .d2 .d1)))])
  .ret)))))⟩
def i297 : Fun :=
  ⟨1, [0, 2, 3], [.tmp .d0 .d1], (.seq (.reg 1 [.s .d0 .d1 (.L (.mov (.c (.slN))))])
  (.seq (.reg 6 [.p (.L (.build [.ptrN, .slN] [(0, 1, (.t .d0 .d0))])),
    .s .d0 .d2 (.L (.box 2 (.l 0)))])
  (.seq (.reg 2 [.p (.H (.call 307 [(.t .d0 .d2)]))])
  (.seq (.reg 14 [.p (.L (.nilck (.t .d0 .d2))),
    .p (.L (.faddr 1 (.l 0))),
    .s .d0 .d1 (.L (.load (.l 0)))])
  .ret))))⟩
def i299 : Fun :=
  ⟨1, [0, 2, 3, 7], [.tmp .d0 .d1, .tmp .d0 .d2], (.seq (.reg 3 [.s .d0 .d1 (.L (.mov (.c (.str 0 0)))),
    .s .d0 .d2 (.L (.mov (.c (.str 0 0))))])
  (.seq (.reg 2 [.s .d0 .d2 (.H (.call 172 [(.t .d0 .d0)]))])
  (.seq (.seq (.reg 2 [.s .d0 .d3 (.H (.call 173 [(.t .d0 .d0), (.c (.str 1 46))]))])
  (.cond (.t .d0 .d3) (.reg 28 [.p (.H (.call 172 [(.t .d0 .d0)])),
    .s .d0 .d1 (.L (.mov (.t .d0 .d2))),
    .s .d0 .d2 (.L (.mov (.l 1)))]) .skip))
  (.seq (.reg 0 [])
  .ret))))⟩
def i300 : Fun :=
  ⟨4, [0, 1, 2, 3, 8, 9, 18], [.tmp .d0 .d4, .tmp .d0 .d5], (.seq (.reg 3 [.s .d0 .d4 (.L (.mov (.c (.int .i64 0)))),
    .s .d0 .d5 (.L (.mov (.c (.int .i64 0))))])
  (.seq (.seq (.draw [0, 1, 2, 3, 4, 5, 6, 7, 8] [⟨.p (.L (.mov (.t .d0 .d0))), []⟩,
    ⟨.p (.L (.mov (.t .d0 .d2))), []⟩,
    ⟨.p (.L (.iaddr 1 (.l 1) (.l 0))), []⟩,
    ⟨.p (.L (.load (.l 0))), []⟩,
    ⟨.p (.L (.mov (.t .d0 .d0))), []⟩,
    ⟨.p (.L (.mov (.t .d0 .d1))), []⟩,
    ⟨.p (.L (.iaddr 1 (.l 1) (.l 0))), []⟩,
    ⟨.p (.L (.load (.l 0))), []⟩,
    ⟨.s .d0 .d6 (.H (.call 269 [(.l 4), (.l 0)])), []⟩])
  (.cond (.t .d0 .d6) (.seq (.reg 62 [.p (.L (.nilck (.t .d0 .d3))),
    .p (.L (.load (.l 0))),
    .p (.L (.bin .add (.l 0) (.c (.int .i64 1)))),
    .p (.L (.nilck (.t .d0 .d3))),
    .p (.H (.store 1 (.l 0) (.l 1)))])
  (.seq (.reg 12 [.s .d0 .d4 (.L (.mov (.t .d0 .d2))),
    .s .d0 .d5 (.L (.mov (.t .d0 .d1)))])
  .ret)) .skip))
  (.seq (.reg 12 [.s .d0 .d4 (.L (.mov (.t .d0 .d1))),
    .s .d0 .d5 (.L (.mov (.t .d0 .d2)))])
  .ret)))⟩
def i307 : Fun :=
  ⟨1, [0, 2, 6, 21, 3, 4, 7, 5], [.tmp .d0 .d1], (.seq (.reg 1 [.s .d0 .d1 (.L (.mov (.c (.int .i64 0))))])
  (.seq (.reg 2 [.s .d0 .d4 (.H (.call 312 [(.t .d0 .d0)]))])
  (.seq (.reg 16318 [.p (.L (.build [.str 0 0, .int .i64 0] [(0, 1, (.c (.str 2 15677))), (1, 1, (.c (.int .i64 10)))])),
    .p (.L (.build [.str 0 0, .int .i64 0] [(0, 1, (.c (.str 2 15676))), (1, 1, (.c (.int .i64 12)))])),
    .p (.L (.build [.str 0 0, .int .i64 0] [(0, 1, (.c (.str 1 60))), (1, 1, (.c (.int .i64 11)))])),
    .p (.L (.bsl 2 3 [.str 0 0, .int .i64 0] [(0, 2, (.l 2)), (2, 2, (.l 1)), (4, 2, (.l 0))])),
    .p (.H (.call 313 [(.t .d0 .d0), (.l 0)])),
    .p (.L (.ext 0 (.l 0))),
    .p (.L (.ext 1 (.l 1))),
    .p (.L (.ext 2 (.l 2))),
    .s .d0 .d5 (.L (.alloc [.str 0 0, .int .i64 0])),
    .p (.H (.store 2 (.l 0) (.l 3))),
    .s .d0 .d7 (.L (.mov (.l 3))),
    .s .d0 .d2 (.L (.mov (.l 3)))])
  (.seq (.seq (.reg 2 [.s .d0 .d3 (.L (.not (.t .d0 .d2)))])
  (.cond (.t .d0 .d3) (.seq (.reg 2 [.s .d0 .d1 (.L (.mov (.t .d0 .d4)))])
  .ret) .skip))
  (.seq (.reg 2 [.s .d0 .d6 (.H (.call 312 [(.t .d0 .d0)]))])
  (.seq (.reg 198 [.p (.L (.faddr 1 (.t .d0 .d5))),
    .p (.L (.load (.l 0))),
    .p (.L (.build [.int .i64 0, .int .i64 0, .str 0 0, .str 0 0, .int .i64 0, .int .i64 0, .int .i64 0] [(0, 1, (.l 0)), (4, 1, (.t .d0 .d4)), (5, 1, (.t .d0 .d6)), (6, 1, (.t .d0 .d7))])),
    .s .d0 .d1 (.H (.call 314 [(.t .d0 .d0), (.l 0)]))])
  .ret))))))⟩
def i312 : Fun :=
  ⟨1, [0, 2], [.tmp .d0 .d1], (.seq (.reg 1 [.s .d0 .d1 (.L (.mov (.c (.int .i64 0))))])
  (.seq (.reg 124 [.p (.L (.fn 318 [(.t .d0 .d0)] [])),
    .p (.L (.build [.str 0 0, .int .i64 0] [(0, 1, (.c (.str 1 43))), (1, 1, (.c (.int .i64 5)))])),
    .p (.L (.build [.str 0 0, .int .i64 0] [(0, 1, (.c (.str 1 45))), (1, 1, (.c (.int .i64 6)))])),
    .p (.L (.bsl 2 2 [.str 0 0, .int .i64 0] [(0, 2, (.l 1)), (2, 2, (.l 0))])),
    .s .d0 .d1 (.H (.call 317 [(.t .d0 .d0), (.l 3), (.l 0)]))])
  .ret))⟩
def i313 : Fun :=
  ⟨2, [0, 1, 4, 5, 6, 15, 14, 16, 13, 25], [.cell .d0 .d2 (some 2), .tmp .d0 .d3, .tmp .d0 .d4], (.seq (.reg 7 [.s .d0 .d2 (.L (.alloc [.str 0 0, .int .i64 0])),
    .s .d0 .d3 (.L (.mov (.c (.int .i64 0)))),
    .s .d0 .d4 (.L (.mov (.c (.bool false))))])
  (.seq (.reg 62 [.p (.L (.nilck (.t .d0 .d0))),
    .p (.L (.faddr 0 (.l 0))),
    .p (.L (.load (.l 0))),
    .p (.H (.call 171 [(.l 0)])),
    .s .d0 .d3 (.L (.field 2 1 false (.l 0)))])
  (.seq .skip
  (.seq (.seq (.reg 7 [.s .d1 .d0 (.L (.mov (.t .d0 .d1))),
    .s .d0 .d6 (.L (.len false (.l 0))),
    .s .d0 .d5 (.L (.mov (.c (.int .i64 0))))])
  (.block 0 (.loop (.seq (.reg 1 [.s .d0 .d7 (.L (.bin .lss (.t .d0 .d5) (.t .d0 .d6)))])
  (.seq (.cond (.t .d0 .d7) .skip (.exit 0))
  (.seq (.block 1 (.seq (.reg 7 [.p (.L (.iaddr 2 (.t .d1 .d0) (.t .d0 .d5))),
    .p (.L (.loadn 2 (.l 0))),
    .p (.H (.store 2 (.t .d0 .d2) (.l 0)))])
  (.seq (.draw [0, 1, 2, 3, 4, 5, 6] [⟨.p (.L (.mov (.t .d0 .d0))), []⟩,
    ⟨.p (.L (.nilck (.l 0))), []⟩,
    ⟨.p (.L (.faddr 0 (.l 0))), []⟩,
    ⟨.p (.L (.load (.l 0))), []⟩,
    ⟨.p (.L (.faddr 0 (.t .d0 .d2))), []⟩,
    ⟨.p (.L (.load (.l 0))), []⟩,
    ⟨.s .d1 .d1 (.H (.call 173 [(.l 2), (.l 0)])), []⟩])
  (.cond (.t .d1 .d1) (.seq (.reg 1 [.s .d0 .d4 (.L (.mov (.c (.bool true))))])
  (.exit 0)) .skip))))
  (.reg 1 [.s .d0 .d5 (.L (.bin .add (.t .d0 .d5) (.c (.int .i64 1))))])))))))
  (.seq (.reg 9 [.p (.L (.loadn 2 (.t .d0 .d2))),
    .p (.H (.store 2 (.t .d0 .d2) (.l 0)))])
  .ret)))))⟩
def i314 : Fun :=
  ⟨2, [0, 1, 4, 3], [.tmp .d0 .d2], (.seq (.reg 3 [.s .d0 .d3 (.L (.box 7 (.t .d0 .d1))),
    .s .d0 .d2 (.L (.mov (.c (.int .i64 0))))])
  (.seq (.draw [0, 1, 2, 3, 4, 5, 6, 7, 8, 9, 10] [⟨.p (.L (.mov (.t .d0 .d0))), []⟩,
    ⟨.p (.L (.mov (.t .d0 .d0))), []⟩,
    ⟨.p (.L (.nilck (.l 0))), []⟩,
    ⟨.p (.L (.faddr 1 (.l 0))), []⟩,
    ⟨.p (.L (.load (.l 0))), []⟩,
    ⟨.p (.L (.loadn 7 (.t .d0 .d3))), []⟩,
    ⟨.p (.L (.bsl 7 1 [.int .i64 0, .int .i64 0, .str 0 0, .str 0 0, .int .i64 0, .int .i64 0, .int .i64 0] [(0, 7, (.l 0))])), []⟩,
    ⟨.p (.H (.append 7 72 (.l 2) (.l 0))), []⟩,
    ⟨.p (.L (.nilck (.l 7))), []⟩,
    ⟨.p (.L (.faddr 1 (.l 0))), []⟩,
    ⟨.p (.H (.store 1 (.l 0) (.l 2))), []⟩])
  (.seq (.reg 62 [.p (.L (.nilck (.t .d0 .d0))),
    .p (.L (.faddr 1 (.l 0))),
    .p (.L (.load (.l 0))),
    .p (.L (.len false (.l 0))),
    .s .d0 .d2 (.L (.bin .sub (.l 0) (.c (.int .i64 1))))])
  .ret)))⟩
def i317 : Fun :=
  ⟨3, [0, 1, 2, 6, 10, 22, 7, 8, 11, 9], [.tmp .d0 .d3], (.seq (.reg 1 [.s .d0 .d3 (.L (.mov (.c (.int .i64 0))))])
  (.seq (.reg 2 [.s .d0 .d6 (.H (.callv (.t .d0 .d1) []))])
  (.block 0 (.loop (.block 1 (.seq (.reg 2036 [.p (.H (.call 313 [(.t .d0 .d0), (.t .d0 .d2)])),
    .p (.L (.ext 0 (.l 0))),
    .p (.L (.ext 1 (.l 1))),
    .p (.L (.ext 2 (.l 2))),
    .s .d0 .d7 (.L (.alloc [.str 0 0, .int .i64 0])),
    .p (.H (.store 2 (.l 0) (.l 3))),
    .s .d1 .d1 (.L (.mov (.l 3))),
    .s .d0 .d4 (.L (.mov (.l 3)))])
  (.seq (.seq (.reg 2 [.s .d0 .d5 (.L (.not (.t .d0 .d4)))])
  (.cond (.t .d0 .d5) (.seq (.reg 2 [.s .d0 .d3 (.L (.mov (.t .d0 .d6)))])
  .ret) .skip))
  (.seq (.reg 2 [.s .d1 .d0 (.H (.callv (.t .d0 .d1) []))])
  (.reg 198 [.p (.L (.faddr 1 (.t .d0 .d7))),
    .p (.L (.load (.l 0))),
    .p (.L (.build [.int .i64 0, .int .i64 0, .str 0 0, .str 0 0, .int .i64 0, .int .i64 0, .int .i64 0] [(0, 1, (.l 0)), (4, 1, (.t .d0 .d6)), (5, 1, (.t .d1 .d0)), (6, 1, (.t .d1 .d1))])),
    .s .d0 .d6 (.H (.call 314 [(.t .d0 .d0), (.l 0)]))])))))))))⟩
def i318 : Fun :=
  ⟨1, [0, 2], [.tmp .d0 .d1], (.seq (.reg 1 [.s .d0 .d1 (.L (.mov (.c (.int .i64 0))))])
  (.seq (.reg 252 [.p (.L (.fn 319 [(.t .d0 .d0)] [])),
    .p (.L (.build [.str 0 0, .int .i64 0] [(0, 1, (.c (.str 1 42))), (1, 1, (.c (.int .i64 7)))])),
    .p (.L (.build [.str 0 0, .int .i64 0] [(0, 1, (.c (.str 1 47))), (1, 1, (.c (.int .i64 8)))])),
    .p (.L (.build [.str 0 0, .int .i64 0] [(0, 1, (.c (.str 1 37))), (1, 1, (.c (.int .i64 9)))])),
    .p (.L (.bsl 2 3 [.str 0 0, .int .i64 0] [(0, 2, (.l 2)), (2, 2, (.l 1)), (4, 2, (.l 0))])),
    .s .d0 .d1 (.H (.call 317 [(.t .d0 .d0), (.l 4), (.l 0)]))])
  .ret))⟩
def i319 : Fun :=
  ⟨1, [0, 2, 20, 19, 21, 18, 5, 30, 6, 3, 70, 7, 110, 8, 9], [.tmp .d0 .d1], (.seq (.reg 1 [.s .d0 .d1 (.L (.mov (.c (.int .i64 0))))])
  (.seq (.reg 62 [.p (.L (.nilck (.t .d0 .d0))),
    .p (.L (.faddr 0 (.l 0))),
    .p (.L (.load (.l 0))),
    .p (.H (.call 171 [(.l 0)])),
    .s .d1 .d1 (.L (.field 2 1 false (.l 0)))])
  (.seq (.seq (.reg 31 [.p (.L (.build [.str 0 0, .int .i64 0] [(0, 1, (.c (.str 1 45))), (1, 1, (.c (.int .i64 3)))])),
    .p (.L (.build [.str 0 0, .int .i64 0] [(0, 1, (.c (.str 1 33))), (1, 1, (.c (.int .i64 4)))])),
    .s .d0 .d5 (.L (.bsl 2 2 [.str 0 0, .int .i64 0] [(0, 2, (.l 1)), (2, 2, (.l 0))])),
    .s .d0 .d3 (.L (.len false (.l 0))),
    .s .d0 .d2 (.L (.mov (.c (.int .i64 0))))])
  (.block 0 (.loop (.seq (.reg 1 [.s .d0 .d4 (.L (.bin .lss (.t .d0 .d2) (.t .d0 .d3)))])
  (.seq (.cond (.t .d0 .d4) .skip (.exit 0))
  (.seq (.block 1 (.seq (.reg 15 [.p (.L (.iaddr 2 (.t .d0 .d5) (.t .d0 .d2))),
    .p (.L (.loadn 2 (.l 0))),
    .s .d0 .d6 (.L (.alloc [.str 0 0, .int .i64 0])),
    .p (.H (.store 2 (.l 0) (.l 1)))])
  (.seq (.draw [0, 1, 2, 3, 4, 5, 6] [⟨.p (.L (.mov (.t .d0 .d0))), []⟩,
    ⟨.p (.L (.nilck (.l 0))), []⟩,
    ⟨.p (.L (.faddr 0 (.l 0))), []⟩,
    ⟨.p (.L (.load (.l 0))), []⟩,
    ⟨.p (.L (.faddr 0 (.t .d0 .d6))), []⟩,
    ⟨.p (.L (.load (.l 0))), []⟩,
    ⟨.s .d0 .d7 (.H (.call 238 [(.l 2), (.l 0)])), []⟩])
  (.cond (.t .d0 .d7) (.seq (.reg 30 [.p (.L (.nilck (.t .d0 .d0))),
    .p (.L (.faddr 0 (.l 0))),
    .p (.L (.load (.l 0))),
    .p (.H (.call 280 [(.l 0)]))])
  (.seq (.reg 2046 [.p (.L (.nilck (.t .d0 .d0))),
    .p (.L (.faddr 0 (.l 0))),
    .p (.L (.load (.l 0))),
    .p (.L (.nilck (.l 0))),
    .p (.L (.faddr 1 (.l 0))),
    .p (.L (.load (.l 0))),
    .p (.L (.bin .add (.l 0) (.c (.int .i64 1)))),
    .p (.L (.nilck (.l 4))),
    .p (.L (.faddr 1 (.l 0))),
    .p (.H (.store 1 (.l 0) (.l 2)))])
  (.seq (.reg 2 [.s .d1 .d0 (.H (.call 319 [(.t .d0 .d0)]))])
  (.seq (.reg 2046 [.p (.L (.nilck (.t .d0 .d0))),
    .p (.L (.faddr 0 (.l 0))),
    .p (.L (.load (.l 0))),
    .p (.L (.nilck (.l 0))),
    .p (.L (.faddr 2 (.l 0))),
    .p (.L (.load (.l 0))),
    .p (.L (.bin .sub (.l 0) (.c (.int .i64 1)))),
    .p (.L (.nilck (.l 4))),
    .p (.L (.faddr 2 (.l 0))),
    .p (.H (.store 1 (.l 0) (.l 2)))])
  (.seq (.reg 102 [.p (.L (.faddr 1 (.t .d0 .d6))),
    .p (.L (.load (.l 0))),
    .p (.L (.build [.int .i64 0, .int .i64 0, .str 0 0, .str 0 0, .int .i64 0, .int .i64 0, .int .i64 0] [(0, 1, (.l 0)), (4, 1, (.t .d1 .d0)), (5, 1, (.c (.int .i64 (-1)))), (6, 1, (.t .d1 .d1))])),
    .s .d0 .d1 (.H (.call 314 [(.t .d0 .d0), (.l 0)]))])
  .ret))))) .skip))))
  (.reg 1 [.s .d0 .d2 (.L (.bin .add (.t .d0 .d2) (.c (.int .i64 1))))])))))))
  (.seq (.seq (.reg 30 [.p (.L (.nilck (.t .d0 .d0))),
    .p (.L (.faddr 0 (.l 0))),
    .p (.L (.load (.l 0))),
    .s .d1 .d2 (.H (.call 238 [(.l 0), (.c (.str 1 40))]))])
  (.cond (.t .d1 .d2) (.seq (.reg 30 [.p (.L (.nilck (.t .d0 .d0))),
    .p (.L (.faddr 0 (.l 0))),
    .p (.L (.load (.l 0))),
    .p (.H (.call 280 [(.l 0)]))])
  (.seq (.reg 2046 [.p (.L (.nilck (.t .d0 .d0))),
    .p (.L (.faddr 0 (.l 0))),
    .p (.L (.load (.l 0))),
    .p (.L (.nilck (.l 0))),
    .p (.L (.faddr 1 (.l 0))),
    .p (.L (.load (.l 0))),
    .p (.L (.bin .add (.l 0) (.c (.int .i64 1)))),
    .p (.L (.nilck (.l 4))),
    .p (.L (.faddr 1 (.l 0))),
    .p (.H (.store 1 (.l 0) (.l 2)))])
  (.seq (.reg 2 [.s .d1 .d3 (.H (.call 307 [(.t .d0 .d0)]))])
  (.seq (.reg 30 [.p (.L (.nilck (.t .d0 .d0))),
    .p (.L (.faddr 0 (.l 0))),
    .p (.L (.load (.l 0))),
    .p (.H (.call 170 [(.l 0), (.c (.str 1 41))]))])
  (.seq (.reg 2046 [.p (.L (.nilck (.t .d0 .d0))),
    .p (.L (.faddr 0 (.l 0))),
    .p (.L (.load (.l 0))),
    .p (.L (.nilck (.l 0))),
    .p (.L (.faddr 2 (.l 0))),
    .p (.L (.load (.l 0))),
    .p (.L (.bin .sub (.l 0) (.c (.int .i64 1)))),
    .p (.L (.nilck (.l 4))),
    .p (.L (.faddr 2 (.l 0))),
    .p (.H (.store 1 (.l 0) (.l 2)))])
  (.seq (.reg 2 [.s .d0 .d1 (.L (.mov (.t .d1 .d3)))])
  .ret)))))) .skip))
  (.seq (.seq (.reg 126 [.p (.L (.nilck (.t .d0 .d0))),
    .p (.L (.faddr 0 (.l 0))),
    .p (.L (.load (.l 0))),
    .p (.H (.call 171 [(.l 0)])),
    .p (.L (.field 0 1 false (.l 0))),
    .s .d1 .d4 (.L (.bin .eql (.l 0) (.c (.int .i64 2))))])
  (.cond (.t .d1 .d4) (.seq (.reg 444 [.p (.L (.nilck (.t .d0 .d0))),
    .p (.L (.faddr 0 (.l 0))),
    .p (.L (.load (.l 0))),
    .p (.H (.call 239 [(.l 0)])),
    .p (.L (.build [.int .i64 0, .int .i64 0, .str 0 0, .str 0 0, .int .i64 0, .int .i64 0, .int .i64 0] [(0, 1, (.c (.int .i64 1))), (1, 1, (.l 0)), (4, 1, (.c (.int .i64 (-1)))), (5, 1, (.c (.int .i64 (-1)))), (6, 1, (.t .d1 .d1))])),
    .s .d0 .d1 (.H (.call 314 [(.t .d0 .d0), (.l 0)]))])
  .ret) .skip))
  (.seq (.reg 990 [.p (.L (.nilck (.t .d0 .d0))),
    .p (.L (.faddr 0 (.l 0))),
    .p (.L (.load (.l 0))),
    .p (.H (.call 299 [(.l 0)])),
    .p (.L (.ext 0 (.l 0))),
    .p (.L (.ext 1 (.l 1))),
    .s .d1 .d5 (.L (.mov (.l 1))),
    .s .d1 .d6 (.L (.mov (.l 1)))])
  (.seq (.reg 48 [.p (.L (.build [.int .i64 0, .int .i64 0, .str 0 0, .str 0 0, .int .i64 0, .int .i64 0, .int .i64 0] [(0, 1, (.c (.int .i64 2))), (2, 1, (.t .d1 .d5)), (3, 1, (.t .d1 .d6)), (4, 1, (.c (.int .i64 (-1)))), (5, 1, (.c (.int .i64 (-1)))), (6, 1, (.t .d1 .d1))])),
    .s .d0 .d1 (.H (.call 314 [(.t .d0 .d0), (.l 0)]))])
  .ret)))))))⟩
def d109 : FunD :=
  ⟨2, [0, 1, 4, 5, 6], (.reg 7 [.s .d0 .d2 (.L (.alloc [.str 0 0, .int .i64 0, .slN, .slN, .slN])),
    .s .d0 .d3 (.L (.alloc [.int .i64 0])),
    .s .d0 .d4 (.L (.alloc [.int .i64 0]))]), 169, [(.t .d0 .d2), (.t .d0 .d3), (.t .d0 .d4)], 252, [.p (.L (.build [.slN, .int .i64 0, .int .i64 0] [(0, 1, (.t .d0 .d0))])),
    .p (.L (.box 3 (.l 0))),
    .p (.H (.callv (.t .d0 .d1) [(.l 0)])),
    .p (.H (.store 5 (.t .d0 .d2) (.l 0))),
    .p (.H (.store 1 (.t .d0 .d3) (.c (.int .i64 0)))),
    .p (.H (.store 1 (.t .d0 .d4) (.c (.int .i64 0))))], [], [.cell .d0 .d2 (some 5), .cell .d0 .d3 none, .cell .d0 .d4 none], [0, 1, 2, 7, 9, 11, 12, 5, 4, 6], 3, (.block 0 (.seq (.reg 1 [.s .d0 .d4 (.L (.eq false .ifc (.t .d0 .d3) (.c (.ifcN))))])
  (.cond (.t .d0 .d4) (.reg 0 []) (.seq (.reg 7 [.p (.L (.tassert 264 (.agg [.int .i64 0, .int .i64 0]) true (.t .d0 .d3))),
    .s .d0 .d5 (.L (.ext 1 (.l 0))),
    .s .d0 .d6 (.L (.ext 0 (.l 1)))])
  (.cond (.t .d0 .d5) (.seq (.reg 3 [.s .d1 .d0 (.L (.alloc [.int .i64 0, .int .i64 0])),
    .p (.H (.store 2 (.l 0) (.t .d0 .d6)))])
  (.seq (.reg 1 [.s .d0 .d7 (.L (.alloc [.str 0 0, .int .i64 0, .slN, .slN, .slN]))])
  (.draw [0, 1, 2, 3, 4, 5, 6, 7] [⟨.p (.L (.loadn 5 (.t .d0 .d7))), []⟩,
    ⟨.p (.L (.faddr 0 (.t .d1 .d0))), []⟩,
    ⟨.p (.L (.load (.l 0))), []⟩,
    ⟨.p (.L (.faddr 1 (.t .d1 .d0))), []⟩,
    ⟨.p (.L (.load (.l 0))), []⟩,
    ⟨.p (.H (.store 5 (.t .d0 .d0) (.l 4))), [2, 0]⟩,
    ⟨.p (.H (.store 1 (.t .d0 .d1) (.l 3))), [1]⟩,
    ⟨.p (.H (.store 1 (.t .d0 .d2) (.l 2))), []⟩]))) (.seq (.reg 1 [.s .d1 .d1 (.L (.mov (.t .d0 .d3)))])
  (.reg 2 [.p (.H (.panic (.t .d1 .d1)))])))))))⟩
def d225 : FunD :=
  ⟨2, [0, 1, 4, 5, 6], (.reg 7 [.s .d0 .d2 (.L (.alloc [.slN])),
    .s .d0 .d3 (.L (.alloc [.int .i64 0])),
    .s .d0 .d4 (.L (.alloc [.int .i64 0]))]), 262, [(.t .d0 .d2), (.t .d0 .d3), (.t .d0 .d4)], 252, [.p (.L (.build [.slN, .int .i64 0, .int .i64 0] [(0, 1, (.t .d0 .d0))])),
    .p (.L (.box 3 (.l 0))),
    .p (.H (.callv (.t .d0 .d1) [(.l 0)])),
    .p (.H (.store 1 (.t .d0 .d2) (.l 0))),
    .p (.H (.store 1 (.t .d0 .d3) (.c (.int .i64 0)))),
    .p (.H (.store 1 (.t .d0 .d4) (.c (.int .i64 0))))], [], [.cell .d0 .d2 none, .cell .d0 .d3 none, .cell .d0 .d4 none], [0, 1, 2, 7, 9, 11, 12, 5, 4, 6], 3, (.block 0 (.seq (.reg 1 [.s .d0 .d4 (.L (.eq false .ifc (.t .d0 .d3) (.c (.ifcN))))])
  (.cond (.t .d0 .d4) (.reg 0 []) (.seq (.reg 7 [.p (.L (.tassert 264 (.agg [.int .i64 0, .int .i64 0]) true (.t .d0 .d3))),
    .s .d0 .d5 (.L (.ext 1 (.l 0))),
    .s .d0 .d6 (.L (.ext 0 (.l 1)))])
  (.cond (.t .d0 .d5) (.seq (.reg 3 [.s .d1 .d0 (.L (.alloc [.int .i64 0, .int .i64 0])),
    .p (.H (.store 2 (.l 0) (.t .d0 .d6)))])
  (.seq (.reg 1 [.s .d0 .d7 (.L (.mov (.c (.slN))))])
  (.draw [0, 1, 2, 3, 4, 5, 6, 7] [⟨.p (.L (.mov (.t .d0 .d7))), []⟩,
    ⟨.p (.L (.faddr 0 (.t .d1 .d0))), []⟩,
    ⟨.p (.L (.load (.l 0))), []⟩,
    ⟨.p (.L (.faddr 1 (.t .d1 .d0))), []⟩,
    ⟨.p (.L (.load (.l 0))), []⟩,
    ⟨.p (.H (.store 1 (.t .d0 .d0) (.l 4))), [2, 0]⟩,
    ⟨.p (.H (.store 1 (.t .d0 .d1) (.l 3))), [1]⟩,
    ⟨.p (.H (.store 1 (.t .d0 .d2) (.l 2))), []⟩]))) (.seq (.reg 1 [.s .d1 .d1 (.L (.mov (.t .d0 .d3)))])
  (.reg 2 [.p (.H (.panic (.t .d1 .d1)))])))))))⟩
def n1 {α : Type} : R8 (Option α) := R8.all none
def n2 {α : Type} : R8 (R8 (Option α)) := R8.all n1
def funs : T Fun := ⟨⟨⟨⟨none, none, none, none, none, none, none, (some i7)⟩, ⟨none, (some i9), (some i10), (some i11), none, none, (some i14), none⟩, ⟨none, none, none, (some i19), none, none, (some i22), none⟩, ⟨(some i24), none, (some i26), none, none, none, (some i30), (some i31)⟩, ⟨(some i32), (some i33), none, (some i35), (some i36), (some i37), (some i38), none⟩, n1, ⟨none, none, none, none, none, (some i53), (some i54), (some i55)⟩, ⟨(some i56), (some i57), (some i58), (some i59), none, (some i61), (some i62), none⟩⟩, ⟨⟨(some i64), none, (some i66), none, none, none, none, none⟩, ⟨(some i72), (some i73), (some i74), (some i75), none, none, none, none⟩, ⟨none, (some i81), (some i82), (some i83), (some i84), (some i85), (some i86), none⟩, n1, n1, ⟨none, none, none, none, (some i108), none, (some i110), (some i111)⟩, ⟨(some i112), (some i113), (some i114), (some i115), (some i116), none, (some i118), (some i119)⟩, ⟨(some i120), (some i121), (some i122), (some i123), (some i124), (some i125), (some i126), (some i127)⟩⟩, ⟨⟨(some i128), none, none, none, none, (some i133), (some i134), none⟩, ⟨none, (some i137), (some i138), (some i139), (some i140), (some i141), none, none⟩, ⟨none, (some i145), (some i146), (some i147), (some i148), (some i149), none, (some i151)⟩, ⟨(some i152), (some i153), (some i154), (some i155), (some i156), none, none, none⟩, ⟨none, (some i161), none, (some i163), (some i164), (some i165), (some i166), (some i167)⟩, ⟨(some i168), none, (some i170), (some i171), (some i172), (some i173), (some i174), (some i175)⟩, ⟨(some i176), none, none, none, (some i180), (some i181), (some i182), none⟩, ⟨none, none, none, none, none, none, none, (some i191)⟩⟩, ⟨⟨none, (some i193), none, none, none, none, none, none⟩, ⟨none, (some i201), (some i202), (some i203), (some i204), (some i205), (some i206), (some i207)⟩, ⟨(some i208), (some i209), (some i210), (some i211), none, (some i213), none, none⟩, ⟨(some i216), none, none, (some i219), none, none, none, none⟩, ⟨none, none, (some i226), (some i227), (some i228), (some i229), none, none⟩, ⟨none, (some i233), (some i234), (some i235), none, (some i237), (some i238), (some i239)⟩, ⟨(some i240), none, none, (some i243), none, none, none, none⟩, n1⟩, ⟨⟨(some i256), (some i257), none, none, none, none, none, (some i263)⟩, ⟨none, none, (some i266), none, none, (some i269), none, (some i271)⟩, ⟨(some i272), (some i273), none, none, none, (some i277), none, (some i279)⟩, ⟨(some i280), (some i281), none, none, none, none, none, none⟩, ⟨none, (some i289), (some i290), (some i291), none, none, none, (some i295)⟩, ⟨none, (some i297), none, (some i299), (some i300), none, none, none⟩, ⟨none, none, none, (some i307), none, none, none, none⟩, ⟨(some i312), (some i313), (some i314), none, none, (some i317), (some i318), (some i319)⟩⟩, n2, n2, n2⟩, none, .mt⟩
def dfuns : T FunD := ⟨⟨n2, ⟨n1, n1, n1, n1, n1, ⟨none, none, none, none, none, (some d109), none, none⟩, n1, n1⟩, n2, ⟨n1, n1, n1, n1, ⟨none, (some d225), none, none, none, none, none, none⟩, n1, n1, n1⟩, n2, n2, n2, n2⟩, none, .mt⟩
end
end Go.Eng.YtbokieoaabpjfaaGreatDoor
