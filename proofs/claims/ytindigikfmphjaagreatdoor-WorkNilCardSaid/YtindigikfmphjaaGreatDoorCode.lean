/- Part of a proof of a law, by the evaluator: closed runs and their parts. No condition of its own. -/
import Derived.Test.YtindigikfmphjaaGreatDoorEng3
set_option maxRecDepth 100000
namespace Go.Eng.YtindigikfmphjaaGreatDoor
open Go.Eng
noncomputable section
def i3 : Fun :=
  ⟨1, [0, 2, 3, 4], [.tmp .d0 .d1], (.seq (.reg 1 [.s .d0 .d1 (.L (.mov (.c (.bool false))))])
  (.seq (.reg 1 [.s .d0 .d2 (.L (.mov (.c (.ptrN))))])
  (.seq (.reg 4 [.p (.H (.call 4 [(.t .d0 .d2), (.t .d0 .d0)]))])
  (.seq (.reg 2 [.p (.H (.call 5 [(.t .d0 .d2), (.c (.ptrN))]))])
  (.seq (.reg 14 [.p (.H (.call 6 [(.t .d0 .d2)])),
    .s .d0 .d3 (.L (.alloc [.bool false, .slN, .int .i64 0])),
    .p (.H (.store 3 (.l 0) (.l 1)))])
  (.seq (.reg 239964250040 [.p (.H (.call 8 [(.t .d0 .d2), (.t .d0 .d0), (.t .d0 .d0)])),
    .p (.H (.call 7 [(.l 0)])),
    .p (.L (.bin .eql (.l 0) (.c (.int .i64 3)))),
    .g (.l 0) true (.L (.mov (.t .d0 .d2))),
    .g (.l 1) true (.L (.mov (.t .d0 .d0))),
    .g (.l 2) true (.H (.call 9 [(.l 1), (.l 0)])),
    .g (.l 3) true (.H (.call 7 [(.l 0)])),
    .g (.l 4) true (.L (.bin .eql (.l 0) (.c (.int .i64 3)))),
    .p (.L (.pick (.l 5) (.l 0) (.c (.bool false)))),
    .g (.l 0) true (.L (.faddr 0 (.t .d0 .d3))),
    .g (.l 1) true (.L (.load (.l 0))),
    .g (.l 2) true (.L (.not (.l 0))),
    .p (.L (.pick (.l 3) (.l 0) (.c (.bool false)))),
    .g (.l 0) true (.L (.faddr 1 (.t .d0 .d3))),
    .g (.l 1) true (.L (.load (.l 0))),
    .g (.l 2) true (.L (.len false (.l 0))),
    .g (.l 3) true (.L (.bin .eql (.l 0) (.c (.int .i64 0)))),
    .p (.L (.pick (.l 4) (.l 0) (.c (.bool false)))),
    .g (.l 0) true (.L (.faddr 2 (.t .d0 .d3))),
    .g (.l 1) true (.L (.load (.l 0))),
    .g (.l 2) true (.L (.bin .eql (.l 0) (.c (.int .i64 0)))),
    .p (.L (.pick (.l 3) (.l 0) (.c (.bool false)))),
    .g (.l 0) true (.L (.mov (.t .d0 .d2))),
    .g (.l 1) true (.H (.call 10 [(.l 0)])),
    .g (.l 2) true (.L (.len false (.l 0))),
    .g (.l 3) true (.L (.bin .eql (.l 0) (.c (.int .i64 0)))),
    .p (.L (.pick (.l 4) (.l 0) (.c (.bool false)))),
    .g (.l 0) true (.H (.call 11 [])),
    .s .d0 .d1 (.L (.pick (.l 1) (.l 0) (.c (.bool false))))])
  .ret))))))⟩
def i4 : Fun :=
  ⟨2, [0, 1, 5], [], (.seq (.reg 2 [.s .d0 .d2 (.L (.eq true .ptr (.t .d0 .d0) (.c (.ptrN))))])
  (.cond (.t .d0 .d2) (.reg 28 [.p (.L (.nilck (.t .d0 .d0))),
    .p (.L (.faddr 1 (.l 0))),
    .p (.H (.store 1 (.l 0) (.t .d0 .d1)))]) .skip))⟩
def i5 : Fun :=
  ⟨2, [0, 1, 5], [], (.seq (.reg 2 [.s .d0 .d2 (.L (.eq true .ptr (.t .d0 .d0) (.c (.ptrN))))])
  (.cond (.t .d0 .d2) (.reg 28 [.p (.L (.nilck (.t .d0 .d0))),
    .p (.L (.faddr 0 (.l 0))),
    .p (.H (.store 1 (.l 0) (.t .d0 .d1)))]) .skip))⟩
def i6 : Fun :=
  ⟨1, [0, 2, 1, 9, 4, 20, 3, 5, 6], [.cell .d0 .d1 (some 3)], (.seq (.reg 3 [.s .d0 .d2 (.L (.box 1 (.t .d0 .d0))),
    .s .d0 .d1 (.L (.alloc [.bool false, .slN, .int .i64 0]))])
  (.seq (.seq (.reg 3 [.p (.L (.load (.t .d0 .d2))),
    .s .d0 .d3 (.L (.eq false .ptr (.l 0) (.c (.ptrN))))])
  (.cond (.t .d0 .d3) (.seq (.reg 3 [.p (.L (.build [.bool false, .slN, .int .i64 0] [])),
    .p (.H (.store 3 (.t .d0 .d1) (.l 0)))])
  .ret) .skip))
  (.seq (.reg 2015 [.p (.L (.load (.t .d0 .d2))),
    .p (.L (.nilck (.l 0))),
    .p (.L (.faddr 1 (.l 0))),
    .p (.L (.load (.l 0))),
    .p (.H (.call 12 [(.l 0)])),
    .p (.L (.ext 0 (.l 0))),
    .p (.L (.ext 1 (.l 1))),
    .s .d0 .d6 (.L (.alloc [.slN, .slN, .slN, .slN, .int .i64 0, .int .i64 0])),
    .p (.H (.store 6 (.l 0) (.l 2))),
    .s .d0 .d4 (.L (.mov (.l 2)))])
  (.seq (.seq (.reg 2 [.s .d0 .d5 (.L (.eq true .sl (.t .d0 .d4) (.c (.slN))))])
  (.cond (.t .d0 .d5) (.seq (.reg 31 [.p (.L (.load (.t .d0 .d2))),
    .p (.L (.nilck (.l 0))),
    .p (.L (.faddr 0 (.l 0))),
    .p (.L (.load (.l 0))),
    .p (.H (.call 13 [(.l 0)]))])
  (.seq (.reg 6 [.p (.L (.build [.bool false, .slN, .int .i64 0] [(1, 1, (.t .d0 .d4))])),
    .p (.H (.store 3 (.t .d0 .d1) (.l 0)))])
  .ret)) .skip))
  (.seq (.reg 3 [.s .d0 .d7 (.L (.alloc [.int .i64 0])),
    .p (.H (.store 1 (.l 0) (.c (.int .i64 0))))])
  (.seq (.reg 959 [.p (.L (.load (.t .d0 .d2))),
    .p (.L (.nilck (.l 0))),
    .p (.L (.faddr 2 (.l 0))),
    .p (.L (.load (.l 0))),
    .p (.L (.fn 15 [] [(.t .d0 .d2), (.t .d0 .d6), (.t .d0 .d7)])),
    .p (.H (.call 14 [(.l 1), (.l 0)])),
    .p (.L (.ext 0 (.l 0))),
    .p (.L (.ext 1 (.l 1))),
    .s .d1 .d0 (.L (.mov (.l 1)))])
  (.seq (.reg 31 [.p (.L (.load (.t .d0 .d2))),
    .p (.L (.nilck (.l 0))),
    .p (.L (.faddr 0 (.l 0))),
    .p (.L (.load (.l 0))),
    .p (.H (.call 13 [(.l 0)]))])
  (.seq (.reg 118 [.p (.L (.len false (.t .d1 .d0))),
    .p (.L (.bin .eql (.l 0) (.c (.int .i64 0)))),
    .p (.L (.load (.t .d0 .d7))),
    .p (.L (.build [.bool false, .slN, .int .i64 0] [(0, 1, (.l 1)), (1, 1, (.t .d1 .d0)), (2, 1, (.l 0))])),
    .p (.H (.store 3 (.t .d0 .d1) (.l 0)))])
  .ret))))))))⟩
def i7 : Fun :=
  ⟨1, [0, 2], [.tmp .d0 .d1], (.seq (.reg 1 [.s .d0 .d1 (.L (.mov (.c (.int .i64 0))))])
  (.seq (.reg 2 [.s .d0 .d1 (.L (.mov (.t .d0 .d0)))])
  .ret))⟩
def i8 : Fun :=
  ⟨3, [0, 1, 2, 6, 9, 12, 8, 35, 7, 45], [.tmp .d0 .d3], (.seq (.reg 1 [.s .d0 .d3 (.L (.mov (.c (.int .i64 0))))])
  (.seq (.block 0 (.seq (.reg 2 [.s .d0 .d4 (.L (.eq false .ptr (.t .d0 .d0) (.c (.ptrN))))])
  (.cond (.t .d0 .d4) (.seq (.reg 1 [.s .d0 .d3 (.L (.mov (.c (.int .i64 3))))])
  .ret) (.seq (.reg 6 [.p (.H (.call 17 [(.t .d0 .d1)])),
    .s .d0 .d5 (.L (.not (.l 0)))])
  (.cond (.t .d0 .d5) (.seq (.reg 1 [.s .d0 .d3 (.L (.mov (.c (.int .i64 1))))])
  .ret) .skip)))))
  (.seq (.reg 244 [.p (.H (.call 18 [(.t .d0 .d0), (.t .d0 .d1)])),
    .p (.L (.ext 0 (.l 0))),
    .p (.L (.ext 1 (.l 1))),
    .s .d1 .d0 (.L (.mov (.l 1))),
    .s .d0 .d6 (.L (.mov (.l 1)))])
  (.seq (.block 1 (.seq (.reg 2 [.s .d0 .d7 (.L (.mov (.t .d0 .d6)))])
  (.cond (.t .d0 .d7) (.reg 462 [.p (.L (.nilck (.t .d0 .d0))),
    .p (.L (.faddr 2 (.l 0))),
    .p (.L (.load (.l 0))),
    .p (.L (.iaddr 2 (.l 0) (.t .d1 .d0))),
    .p (.L (.faddr 1 (.l 0))),
    .p (.H (.store 1 (.l 0) (.t .d0 .d2)))]) (.seq (.reg 62 [.p (.L (.nilck (.t .d0 .d0))),
    .p (.L (.faddr 2 (.l 0))),
    .p (.L (.load (.l 0))),
    .p (.L (.len false (.l 0))),
    .s .d1 .d1 (.L (.bin .geq (.l 0) (.c (.int .i64 30))))])
  (.cond (.t .d1 .d1) (.seq (.reg 1 [.s .d0 .d3 (.L (.mov (.c (.int .i64 14))))])
  .ret) (.reg 16156 [.p (.L (.nilck (.t .d0 .d0))),
    .p (.L (.faddr 2 (.l 0))),
    .p (.L (.load (.l 0))),
    .p (.L (.build [.str 0 0, .str 0 0] [(0, 1, (.t .d0 .d1)), (1, 1, (.t .d0 .d2))])),
    .p (.L (.bsl 2 1 [.str 0 0, .str 0 0] [(0, 2, (.l 0))])),
    .p (.H (.call 19 [(.l 2), (.t .d1 .d0), (.l 0)])),
    .p (.L (.nilck (.t .d0 .d0))),
    .p (.L (.faddr 2 (.l 0))),
    .p (.H (.store 1 (.l 0) (.l 2)))]))))))
  (.seq (.reg 1 [.s .d0 .d3 (.L (.mov (.c (.int .i64 0))))])
  .ret)))))⟩
def i9 : Fun :=
  ⟨2, [0, 1, 4, 8, 6, 16, 5], [.tmp .d0 .d2], (.seq (.reg 1 [.s .d0 .d2 (.L (.mov (.c (.int .i64 0))))])
  (.seq (.seq (.reg 2 [.s .d0 .d3 (.L (.eq false .ptr (.t .d0 .d0) (.c (.ptrN))))])
  (.cond (.t .d0 .d3) (.seq (.reg 1 [.s .d0 .d2 (.L (.mov (.c (.int .i64 3))))])
  .ret) .skip))
  (.seq (.reg 244 [.p (.H (.call 18 [(.t .d0 .d0), (.t .d0 .d1)])),
    .p (.L (.ext 0 (.l 0))),
    .p (.L (.ext 1 (.l 1))),
    .s .d0 .d6 (.L (.mov (.l 1))),
    .s .d0 .d4 (.L (.mov (.l 1)))])
  (.seq (.seq (.reg 2 [.s .d0 .d5 (.L (.not (.t .d0 .d4)))])
  (.cond (.t .d0 .d5) (.seq (.reg 1 [.s .d0 .d2 (.L (.mov (.c (.int .i64 3))))])
  .ret) .skip))
  (.seq (.reg 3996 [.p (.L (.nilck (.t .d0 .d0))),
    .p (.L (.faddr 2 (.l 0))),
    .p (.L (.load (.l 0))),
    .p (.L (.bin .add (.t .d0 .d6) (.c (.int .i64 1)))),
    .p (.H (.call 20 [(.l 1), (.t .d0 .d6), (.l 0)])),
    .p (.L (.nilck (.t .d0 .d0))),
    .p (.L (.faddr 2 (.l 0))),
    .p (.H (.store 1 (.l 0) (.l 2)))])
  (.seq (.reg 1 [.s .d0 .d2 (.L (.mov (.c (.int .i64 0))))])
  .ret))))))⟩
def i10 : Fun :=
  ⟨1, [0, 2, 4], [.tmp .d0 .d1], (.seq (.reg 1 [.s .d0 .d1 (.L (.mov (.c (.slN))))])
  (.seq (.seq (.reg 2 [.s .d0 .d2 (.L (.eq false .ptr (.t .d0 .d0) (.c (.ptrN))))])
  (.cond (.t .d0 .d2) (.seq (.reg 1 [.s .d0 .d1 (.L (.mov (.c (.slN))))])
  .ret) .skip))
  (.seq (.reg 30 [.p (.L (.nilck (.t .d0 .d0))),
    .p (.L (.faddr 2 (.l 0))),
    .p (.L (.load (.l 0))),
    .s .d0 .d1 (.H (.call 21 [(.l 0)]))])
  .ret)))⟩
def i11 : Fun :=
  ⟨0, [0, 1, 5, 2], [.tmp .d0 .d0], (.seq (.reg 1 [.s .d0 .d0 (.L (.mov (.c (.bool false))))])
  (.seq (.reg 1 [.s .d0 .d1 (.H (.call 22 [(.c (.ptrN))]))])
  (.seq (.seq (.reg 2 [.s .d0 .d2 (.L (.eq false .ptr (.t .d0 .d1) (.c (.ptrN))))])
  (.cond (.t .d0 .d2) (.seq (.reg 1 [.s .d0 .d0 (.L (.mov (.c (.bool false))))])
  .ret) .skip))
  (.seq (.reg 14 [.p (.H (.call 6 [(.t .d0 .d1)])),
    .s .d0 .d3 (.L (.alloc [.bool false, .slN, .int .i64 0])),
    .p (.H (.store 3 (.l 0) (.l 1)))])
  (.seq (.reg 4062711 [.p (.L (.faddr 0 (.t .d0 .d3))),
    .p (.L (.load (.l 0))),
    .p (.L (.not (.l 0))),
    .g (.l 0) true (.L (.faddr 1 (.t .d0 .d3))),
    .g (.l 1) true (.L (.load (.l 0))),
    .g (.l 2) true (.L (.len false (.l 0))),
    .g (.l 3) true (.L (.bin .eql (.l 0) (.c (.int .i64 1)))),
    .p (.L (.pick (.l 4) (.l 0) (.c (.bool false)))),
    .g (.l 0) true (.L (.faddr 1 (.t .d0 .d3))),
    .g (.l 1) true (.L (.load (.l 0))),
    .g (.l 2) true (.L (.iaddr 4 (.l 0) (.c (.int .i64 0)))),
    .g (.l 3) true (.L (.faddr 2 (.l 0))),
    .g (.l 4) true (.L (.load (.l 0))),
    .g (.l 5) true (.L (.bin .eql (.l 0) (.c (.int .i64 14)))),
    .p (.L (.pick (.l 6) (.l 0) (.c (.bool false)))),
    .g (.l 0) true (.L (.faddr 2 (.t .d0 .d3))),
    .g (.l 1) true (.L (.load (.l 0))),
    .g (.l 2) true (.L (.bin .eql (.l 0) (.c (.int .i64 0)))),
    .s .d0 .d0 (.L (.pick (.l 3) (.l 0) (.c (.bool false))))])
  .ret)))))⟩
def i12 : Fun :=
  ⟨1, [0, 2, 3, 5, 14, 6, 4], [.cell .d0 .d1 (some 6), .tmp .d0 .d2], (.seq (.reg 3 [.s .d0 .d1 (.L (.alloc [.slN, .slN, .slN, .slN, .int .i64 0, .int .i64 0])),
    .s .d0 .d2 (.L (.mov (.c (.slN))))])
  (.seq (.reg 1018 [.p (.H (.call 23 [(.t .d0 .d0)])),
    .p (.L (.ext 0 (.l 0))),
    .p (.L (.ext 1 (.l 1))),
    .p (.L (.ext 2 (.l 2))),
    .s .d0 .d6 (.L (.alloc [.slN, .slN, .slN, .slN, .int .i64 0, .int .i64 0])),
    .p (.H (.store 6 (.l 0) (.l 3))),
    .s .d0 .d3 (.L (.mov (.l 3))),
    .s .d0 .d5 (.L (.mov (.l 3)))])
  (.seq (.seq (.reg 2 [.s .d0 .d4 (.L (.bin .neq (.t .d0 .d3) (.c (.int .i64 0))))])
  (.cond (.t .d0 .d4) (.seq (.reg 249 [.p (.L (.build [.slN, .slN, .slN, .slN, .int .i64 0, .int .i64 0] [])),
    .p (.H (.call 24 [(.t .d0 .d3)])),
    .p (.L (.build [.str 0 0, .int .i64 0, .int .i64 0, .str 0 0] [(1, 1, (.t .d0 .d5)), (2, 1, (.c (.int .i64 14))), (3, 1, (.l 0))])),
    .p (.L (.bsl 4 1 [.str 0 0, .int .i64 0, .int .i64 0, .str 0 0] [(0, 4, (.l 0))])),
    .p (.H (.store 6 (.t .d0 .d1) (.l 3))),
    .s .d0 .d2 (.L (.mov (.l 1)))])
  .ret) .skip))
  (.seq (.reg 7 [.p (.L (.loadn 6 (.t .d0 .d6))),
    .p (.H (.store 6 (.t .d0 .d1) (.l 0))),
    .s .d0 .d2 (.L (.mov (.c (.slN))))])
  .ret))))⟩
def i13 : Fun :=
  ⟨1, [0, 8, 14, 13, 15, 12, 4, 6, 5, 39, 2, 74], [], (.seq (.seq (.reg 2 [.s .d0 .d1 (.L (.eq false .ptr (.t .d0 .d0) (.c (.ptrN))))])
  (.cond (.t .d0 .d1) .ret .skip))
  (.seq (.reg 1 [.s .d1 .d2 (.L (.mov (.c (.slN))))])
  (.seq (.seq (.reg 62 [.p (.L (.nilck (.t .d0 .d0))),
    .p (.L (.faddr 3 (.l 0))),
    .s .d0 .d5 (.L (.load (.l 0))),
    .s .d0 .d3 (.L (.len false (.l 0))),
    .s .d0 .d2 (.L (.mov (.c (.int .i64 0))))])
  (.block 0 (.loop (.seq (.reg 1 [.s .d0 .d4 (.L (.bin .lss (.t .d0 .d2) (.t .d0 .d3)))])
  (.seq (.cond (.t .d0 .d4) .skip (.exit 0))
  (.seq (.block 1 (.seq (.reg 3 [.p (.L (.iaddr 1 (.t .d0 .d5) (.t .d0 .d2))),
    .s .d0 .d6 (.L (.load (.l 0)))])
  (.seq (.draw [0, 1, 2, 3, 4, 5, 6, 7, 8, 9, 10, 11] [⟨.p (.L (.mov (.t .d0 .d0))), []⟩,
    ⟨.p (.L (.nilck (.l 0))), []⟩,
    ⟨.p (.L (.faddr 0 (.l 0))), []⟩,
    ⟨.p (.L (.load (.l 0))), []⟩,
    ⟨.p (.L (.mov (.t .d0 .d6))), []⟩,
    ⟨.p (.H (.call 26 [(.l 0)])), [1]⟩,
    ⟨.p (.H (.call 25 [(.l 2), (.l 0)])), []⟩,
    ⟨.p (.L (.mov (.l 0))), []⟩,
    ⟨.p (.L (.ext 0 (.l 0))), []⟩,
    ⟨.p (.L (.ext 1 (.l 1))), []⟩,
    ⟨.s .d1 .d0 (.L (.mov (.l 1))), []⟩,
    ⟨.s .d0 .d7 (.L (.mov (.l 1))), []⟩])
  (.seq (.reg 4090 [.p (.L (.not (.t .d0 .d7))),
    .g (.l 0) false (.L (.mov (.t .d1 .d0))),
    .g (.l 1) false (.L (.mov (.t .d0 .d0))),
    .g (.l 2) false (.L (.nilck (.l 0))),
    .g (.l 3) false (.L (.faddr 2 (.l 0))),
    .g (.l 4) false (.L (.load (.l 0))),
    .g (.l 5) false (.L (.mov (.t .d0 .d6))),
    .g (.l 6) false (.L (.lookup .str (.str 0 0) false (.l 1) (.l 0))),
    .g (.l 7) false (.L (.bins .neq (.l 6) (.l 0))),
    .s .d1 .d1 (.L (.pick (.l 8) (.c (.bool true)) (.l 0)))])
  (.cond (.t .d1 .d1) (.draw [0, 1, 3, 4, 5, 6, 7, 8, 2, 9, 10, 11, 12] [⟨.p (.L (.mov (.t .d1 .d2))), []⟩,
    ⟨.p (.L (.mov (.t .d0 .d6))), []⟩,
    ⟨.p (.L (.mov (.t .d0 .d0))), []⟩,
    ⟨.p (.L (.nilck (.l 0))), []⟩,
    ⟨.p (.L (.faddr 2 (.l 0))), []⟩,
    ⟨.p (.L (.load (.l 0))), []⟩,
    ⟨.p (.L (.mov (.t .d0 .d6))), []⟩,
    ⟨.p (.L (.lookup .str (.str 0 0) false (.l 1) (.l 0))), []⟩,
    ⟨.p (.H (.call 26 [(.l 6)])), [2, 0]⟩,
    ⟨.p (.L (.build [.bool false, .str 0 0, .str 0 0] [(1, 1, (.l 0)), (2, 1, (.l 1))])), []⟩,
    ⟨.p (.L (.bsl 3 1 [.bool false, .str 0 0, .str 0 0] [(0, 3, (.l 0))])), []⟩,
    ⟨.p (.H (.append 3 40 (.l 10) (.l 0))), []⟩,
    ⟨.s .d1 .d2 (.L (.mov (.l 0))), []⟩]) .skip)))))
  (.reg 1 [.s .d0 .d2 (.L (.bin .add (.t .d0 .d2) (.c (.int .i64 1))))])))))))
  (.seq (.reg 14 [.p (.L (.nilck (.t .d0 .d0))),
    .p (.L (.faddr 3 (.l 0))),
    .p (.H (.store 1 (.l 0) (.c (.slN))))])
  (.seq (.reg 523230 [.p (.L (.nilck (.t .d0 .d0))),
    .p (.L (.faddr 1 (.l 0))),
    .p (.L (.load (.l 0))),
    .p (.L (.not (.l 0))),
    .g (.l 0) true (.L (.mov (.t .d1 .d2))),
    .g (.l 1) true (.L (.len false (.l 0))),
    .g (.l 2) true (.L (.bin .gtr (.l 0) (.c (.int .i64 0)))),
    .p (.L (.pick (.l 3) (.l 0) (.c (.bool false)))),
    .g (.l 0) true (.L (.mov (.t .d0 .d0))),
    .g (.l 1) true (.L (.nilck (.l 0))),
    .g (.l 2) true (.L (.faddr 0 (.l 0))),
    .g (.l 3) true (.L (.load (.l 0))),
    .g (.l 4) true (.L (.mov (.t .d1 .d2))),
    .g (.l 5) true (.H (.call 27 [(.l 1), (.l 0)])),
    .g (.l 6) true (.L (.bin .neq (.l 0) (.c (.int .i64 0)))),
    .s .d1 .d3 (.L (.pick (.l 7) (.l 0) (.c (.bool false))))])
  (.cond (.t .d1 .d3) (.reg 14 [.p (.L (.nilck (.t .d0 .d0))),
    .p (.L (.faddr 1 (.l 0))),
    .p (.H (.store 1 (.l 0) (.c (.bool true))))]) .skip))))))⟩
def i15 : Fun :=
  ⟨5, [0, 1, 2, 3, 4, 7, 8, 9, 5], [.tmp .d0 .d5, .cell .d0 .d6 (some 2), .tmp .d0 .d7], (.seq (.reg 15 [.s .d1 .d0 (.L (.box 2 (.t .d0 .d0))),
    .s .d0 .d5 (.L (.mov (.c (.slN)))),
    .s .d0 .d6 (.L (.alloc [.slN, .slN])),
    .s .d0 .d7 (.L (.mov (.c (.bool false))))])
  (.seq (.reg 2039 [.p (.L (.load (.t .d0 .d2))),
    .p (.L (.loadn 2 (.t .d1 .d0))),
    .p (.L (.loadn 6 (.t .d0 .d3))),
    .p (.H (.call 16 [(.l 2), (.l 1), (.l 0), (.t .d0 .d1), (.t .d0 .d4)])),
    .p (.L (.ext 0 (.l 0))),
    .p (.L (.ext 1 (.l 1))),
    .p (.L (.ext 2 (.l 2))),
    .s .d0 .d5 (.L (.mov (.l 2))),
    .p (.H (.store 2 (.t .d0 .d6) (.l 2))),
    .s .d0 .d7 (.L (.mov (.l 2)))])
  .ret))⟩
def i22 : Fun :=
  ⟨1, [0, 2], [.tmp .d0 .d1], (.seq (.reg 1 [.s .d0 .d1 (.L (.mov (.c (.ptrN))))])
  (.seq (.reg 6 [.p (.L (.build [.ptrN, .str 0 0, .slN] [(0, 1, (.t .d0 .d0))])),
    .s .d0 .d1 (.L (.box 3 (.l 0)))])
  .ret))⟩
def i23 : Fun :=
  ⟨1, [0, 2, 3, 4, 6, 16, 7, 5, 8], [.cell .d0 .d1 (some 6), .tmp .d0 .d2, .tmp .d0 .d3], (.seq (.reg 7 [.s .d0 .d1 (.L (.alloc [.slN, .slN, .slN, .slN, .int .i64 0, .int .i64 0])),
    .s .d0 .d2 (.L (.mov (.c (.int .i64 0)))),
    .s .d0 .d3 (.L (.mov (.c (.int .i64 0))))])
  (.seq (.reg 506 [.p (.H (.call 46 [(.t .d0 .d0)])),
    .p (.L (.ext 0 (.l 0))),
    .p (.L (.ext 1 (.l 1))),
    .p (.L (.ext 2 (.l 2))),
    .s .d0 .d7 (.L (.mov (.l 2))),
    .s .d0 .d4 (.L (.mov (.l 2))),
    .s .d0 .d6 (.L (.mov (.l 2)))])
  (.seq (.seq (.reg 2 [.s .d0 .d5 (.L (.bin .neq (.t .d0 .d4) (.c (.int .i64 0))))])
  (.cond (.t .d0 .d5) (.seq (.reg 57 [.p (.L (.build [.slN, .slN, .slN, .slN, .int .i64 0, .int .i64 0] [])),
    .p (.H (.store 6 (.t .d0 .d1) (.l 0))),
    .s .d0 .d2 (.L (.mov (.t .d0 .d4))),
    .s .d0 .d3 (.L (.mov (.t .d0 .d6)))])
  .ret) .skip))
  (.seq (.reg 250 [.p (.H (.call 47 [(.t .d0 .d7)])),
    .p (.L (.ext 0 (.l 0))),
    .p (.L (.ext 1 (.l 1))),
    .s .d1 .d0 (.L (.alloc [.slN, .slN, .slN, .slN, .int .i64 0, .int .i64 0])),
    .p (.H (.store 6 (.l 0) (.l 2))),
    .s .d0 .d4 (.L (.mov (.l 2)))])
  (.seq (.reg 29 [.p (.L (.loadn 6 (.t .d1 .d0))),
    .p (.H (.store 6 (.t .d0 .d1) (.l 0))),
    .s .d0 .d2 (.L (.mov (.t .d0 .d4))),
    .s .d0 .d3 (.L (.mov (.c (.int .i64 0))))])
  .ret)))))⟩
def i24 : Fun :=
  ⟨1, [0, 2], [.tmp .d0 .d1], (.seq (.reg 1 [.s .d0 .d1 (.L (.mov (.c (.str 0 0))))])
  (.seq (.reg 2 [.s .d0 .d1 (.H (.call 48 [(.t .d0 .d0)]))])
  .ret))⟩
def i26 : Fun :=
  ⟨1, [0, 2], [.tmp .d0 .d1], (.seq (.reg 1 [.s .d0 .d1 (.L (.mov (.c (.str 0 0))))])
  (.seq (.reg 2 [.s .d0 .d1 (.L (.bins .add (.c (.str 2 14957)) (.t .d0 .d0)))])
  .ret))⟩
def i40 : Fun :=
  ⟨1, [0, 2, 3, 4, 7], [.tmp .d0 .d1, .tmp .d0 .d2, .tmp .d0 .d3], (.seq (.reg 7 [.s .d0 .d1 (.L (.mov (.c (.slN)))),
    .s .d0 .d2 (.L (.mov (.c (.int .i64 0)))),
    .s .d0 .d3 (.L (.mov (.c (.int .i64 0))))])
  (.seq (.seq (.reg 6 [.p (.L (.len true (.t .d0 .d0))),
    .s .d0 .d4 (.L (.bin .gtr (.l 0) (.c (.int .i64 8192))))])
  (.cond (.t .d0 .d4) (.seq (.reg 7 [.s .d0 .d1 (.L (.mov (.c (.slN)))),
    .s .d0 .d2 (.L (.mov (.c (.int .i64 9)))),
    .s .d0 .d3 (.L (.mov (.c (.int .i64 8192))))])
  .ret) .skip))
  (.seq (.reg 254 [.p (.H (.call 81 [(.t .d0 .d0)])),
    .p (.L (.ext 0 (.l 0))),
    .p (.L (.ext 1 (.l 1))),
    .p (.L (.ext 2 (.l 2))),
    .s .d0 .d1 (.L (.mov (.l 2))),
    .s .d0 .d2 (.L (.mov (.l 2))),
    .s .d0 .d3 (.L (.mov (.l 2)))])
  .ret)))⟩
def i46 : Fun :=
  ⟨1, [0, 2, 3, 4, 6, 15, 7, 5], [.tmp .d0 .d1, .tmp .d0 .d2, .tmp .d0 .d3], (.seq (.reg 7 [.s .d0 .d1 (.L (.mov (.c (.slN)))),
    .s .d0 .d2 (.L (.mov (.c (.int .i64 0)))),
    .s .d0 .d3 (.L (.mov (.c (.int .i64 0))))])
  (.seq (.reg 506 [.p (.H (.call 40 [(.t .d0 .d0)])),
    .p (.L (.ext 0 (.l 0))),
    .p (.L (.ext 1 (.l 1))),
    .p (.L (.ext 2 (.l 2))),
    .s .d0 .d7 (.L (.mov (.l 2))),
    .s .d0 .d4 (.L (.mov (.l 2))),
    .s .d0 .d6 (.L (.mov (.l 2)))])
  (.seq (.seq (.reg 2 [.s .d0 .d5 (.L (.bin .neq (.t .d0 .d4) (.c (.int .i64 0))))])
  (.cond (.t .d0 .d5) (.seq (.reg 28 [.s .d0 .d1 (.L (.mov (.c (.slN)))),
    .s .d0 .d2 (.L (.mov (.t .d0 .d4))),
    .s .d0 .d3 (.L (.mov (.t .d0 .d6)))])
  .ret) .skip))
  (.seq (.reg 254 [.p (.H (.call 84 [(.t .d0 .d7), (.c (.fn 85 [] []))])),
    .p (.L (.ext 0 (.l 0))),
    .p (.L (.ext 1 (.l 1))),
    .p (.L (.ext 2 (.l 2))),
    .s .d0 .d1 (.L (.mov (.l 2))),
    .s .d0 .d2 (.L (.mov (.l 2))),
    .s .d0 .d3 (.L (.mov (.l 2)))])
  .ret))))⟩
def i48 : Fun :=
  ⟨1, [0, 2], [.tmp .d0 .d1], (.seq (.reg 1 [.s .d0 .d1 (.L (.mov (.c (.str 0 0))))])
  (.seq (.reg 2 [.s .d0 .d1 (.H (.call 90 [(.t .d0 .d0), (.c (.int .i64 10))]))])
  .ret))⟩
def i64 : Fun :=
  ⟨2, [0, 1, 4], [.tmp .d0 .d2], (.seq (.reg 1 [.s .d0 .d2 (.L (.mov (.c (.bool false))))])
  (.seq (.reg 12 [.p (.H (.call 108 [(.t .d0 .d0), (.t .d0 .d1)])),
    .s .d0 .d2 (.L (.bin .geq (.l 0) (.c (.int .i64 0))))])
  .ret))⟩
def i81 : Fun :=
  ⟨1, [0, 2, 3, 4, 5, 1, 17, 9, 32, 49, 6, 54, 11, 64, 31, 12, 78, 8, 10, 7], [.tmp .d0 .d1, .tmp .d0 .d2, .tmp .d0 .d3], (.seq (.reg 15 [.s .d0 .d5 (.L (.box 1 (.t .d0 .d0))),
    .s .d0 .d1 (.L (.mov (.c (.slN)))),
    .s .d0 .d2 (.L (.mov (.c (.int .i64 0)))),
    .s .d0 .d3 (.L (.mov (.c (.int .i64 0))))])
  (.seq (.reg 3 [.s .d0 .d4 (.L (.alloc [.int .i64 0])),
    .p (.H (.store 1 (.l 0) (.c (.int .i64 0))))])
  (.seq (.reg 1 [.s .d1 .d2 (.L (.fn 140 [] [(.t .d0 .d4), (.t .d0 .d5)]))])
  (.seq (.reg 1 [.s .d2 .d3 (.L (.mov (.c (.slN))))])
  (.seq (.block 0 (.loop (.seq (.seq (.reg 15 [.p (.L (.load (.t .d0 .d4))),
    .p (.L (.load (.t .d0 .d5))),
    .p (.L (.len true (.l 0))),
    .s .d0 .d6 (.L (.bin .lss (.l 2) (.l 0)))])
  (.cond (.t .d0 .d6) .skip (.exit 0)))
  (.block 1 (.seq (.draw [0, 1, 2, 3, 4, 5] [⟨.p (.L (.load (.t .d0 .d4))), []⟩,
    ⟨.p (.L (.load (.t .d0 .d5))), []⟩,
    ⟨.p (.L (.load (.t .d0 .d4))), []⟩,
    ⟨.p (.L (.istr (.l 1) (.l 0))), []⟩,
    ⟨.s .d2 .d1 (.L (.mov (.l 3))), []⟩,
    ⟨.s .d0 .d7 (.L (.mov (.l 1))), []⟩])
  (.seq (.reg 7 [.s .d2 .d2 (.L (.mov (.c (.int .i64 0)))),
    .s .d1 .d4 (.L (.mov (.c (.str 0 0)))),
    .s .d1 .d7 (.L (.mov (.c (.int .i64 0))))])
  (.seq (.block 2 (.seq (.reg 15290 [.p (.L (.bin .eql (.t .d0 .d7) (.c (.int .u8 32)))),
    .g (.l 0) false (.L (.mov (.t .d0 .d7))),
    .g (.l 1) false (.L (.bin .eql (.l 0) (.c (.int .u8 9)))),
    .p (.L (.pick (.l 2) (.c (.bool true)) (.l 0))),
    .g (.l 0) false (.L (.mov (.t .d0 .d7))),
    .g (.l 1) false (.L (.bin .eql (.l 0) (.c (.int .u8 10)))),
    .p (.L (.pick (.l 2) (.c (.bool true)) (.l 0))),
    .g (.l 0) false (.L (.mov (.t .d0 .d7))),
    .g (.l 1) false (.L (.bin .eql (.l 0) (.c (.int .u8 13)))),
    .s .d1 .d0 (.L (.pick (.l 2) (.c (.bool true)) (.l 0)))])
  (.cond (.t .d1 .d0) (.seq (.reg 7 [.p (.L (.load (.t .d0 .d4))),
    .p (.L (.bin .add (.l 0) (.c (.int .i64 1)))),
    .p (.H (.store 1 (.t .d0 .d4) (.l 0)))])
  (.exit 1)) (.seq (.reg 2 [.s .d1 .d1 (.L (.bin .eql (.t .d0 .d7) (.c (.int .u8 35))))])
  (.cond (.t .d1 .d1) (.seq (.reg 2 [.p (.H (.callv (.t .d1 .d2) [(.c (.fn 141 [] []))]))])
  (.exit 1)) (.seq (.reg 2 [.s .d1 .d3 (.H (.call 142 [(.t .d0 .d7)]))])
  (.cond (.t .d1 .d3) (.seq (.reg 2 [.s .d1 .d4 (.H (.callv (.t .d1 .d2) [(.c (.fn 143 [] []))]))])
  (.reg 122 [.p (.H (.call 144 [(.t .d1 .d4)])),
    .p (.L (.ext 0 (.l 0))),
    .p (.L (.ext 1 (.l 1))),
    .s .d2 .d2 (.L (.mov (.l 1))),
    .s .d1 .d7 (.L (.mov (.l 1)))])) (.seq (.reg 2 [.s .d1 .d5 (.H (.call 145 [(.t .d0 .d7)]))])
  (.cond (.t .d1 .d5) (.seq (.reg 2 [.s .d1 .d4 (.H (.callv (.t .d1 .d2) [(.c (.fn 145 [] []))]))])
  (.reg 990 [.p (.L (.load (.t .d0 .d5))),
    .p (.L (.load (.t .d0 .d4))),
    .p (.L (.sstr (.l 1) (some (.l 0)) none)),
    .p (.H (.call 146 [(.t .d1 .d4), (.l 0)])),
    .p (.L (.ext 0 (.l 0))),
    .p (.L (.ext 1 (.l 1))),
    .s .d2 .d2 (.L (.mov (.l 1))),
    .s .d1 .d7 (.L (.mov (.l 1)))])) (.seq (.reg 63 [.p (.L (.load (.t .d0 .d5))),
    .p (.L (.load (.t .d0 .d4))),
    .p (.L (.sstr (.l 1) (some (.l 0)) none)),
    .p (.H (.call 147 [(.l 0)])),
    .s .d2 .d2 (.L (.mov (.c (.int .i64 4)))),
    .s .d1 .d4 (.L (.mov (.l 1)))])
  (.seq (.reg 29 [.p (.L (.load (.t .d0 .d4))),
    .p (.L (.len true (.t .d1 .d4))),
    .p (.L (.bin .add (.l 1) (.l 0))),
    .p (.H (.store 1 (.t .d0 .d4) (.l 0)))])
  (.seq (.reg 2 [.s .d1 .d6 (.L (.bins .eql (.t .d1 .d4) (.c (.str 0 0))))])
  (.cond (.t .d1 .d6) (.reg 1 [.s .d1 .d7 (.L (.mov (.c (.int .i64 10))))]) .skip)))))))))))))
  (.seq (.seq (.reg 2 [.s .d2 .d0 (.L (.bin .neq (.t .d1 .d7) (.c (.int .i64 0))))])
  (.cond (.t .d2 .d0) (.seq (.reg 28 [.s .d0 .d1 (.L (.mov (.c (.slN)))),
    .s .d0 .d2 (.L (.mov (.t .d1 .d7))),
    .s .d0 .d3 (.L (.mov (.t .d2 .d1)))])
  .ret) .skip))
  (.reg 112 [.p (.L (.build [.int .i64 0, .str 0 0, .int .i64 0] [(0, 1, (.t .d2 .d2)), (1, 1, (.t .d1 .d4)), (2, 1, (.t .d2 .d1))])),
    .p (.L (.bsl 3 1 [.int .i64 0, .str 0 0, .int .i64 0] [(0, 3, (.l 0))])),
    .s .d2 .d3 (.H (.append 3 32 (.t .d2 .d3) (.l 0)))])))))))))
  (.seq (.reg 446 [.p (.L (.load (.t .d0 .d5))),
    .p (.L (.len true (.l 0))),
    .p (.L (.build [.int .i64 0, .str 0 0, .int .i64 0] [(0, 1, (.c (.int .i64 0))), (2, 1, (.l 0))])),
    .p (.L (.bsl 3 1 [.int .i64 0, .str 0 0, .int .i64 0] [(0, 3, (.l 0))])),
    .s .d0 .d1 (.H (.append 3 32 (.t .d2 .d3) (.l 0))),
    .s .d0 .d2 (.L (.mov (.c (.int .i64 0)))),
    .s .d0 .d3 (.L (.mov (.c (.int .i64 0))))])
  .ret))))))⟩
def i85 : Fun :=
  ⟨1, [0, 2, 13, 20, 5, 7, 3, 6, 34, 4], [.tmp .d0 .d1], (.seq (.reg 1 [.s .d0 .d1 (.L (.mov (.c (.slN))))])
  (.seq (.reg 2 [.p (.H (.call 151 [(.t .d0 .d0), (.c (.str 6 126909394608492))]))])
  (.seq (.reg 1 [.s .d0 .d6 (.L (.mov (.c (.slN))))])
  (.seq (.block 0 (.loop (.seq (.seq (.reg 14 [.p (.H (.call 152 [(.t .d0 .d0)])),
    .p (.L (.field 0 1 false (.l 0))),
    .s .d0 .d2 (.L (.bin .neq (.l 0) (.c (.int .i64 0))))])
  (.cond (.t .d0 .d2) .skip (.exit 0)))
  (.block 1 (.seq (.reg 118 [.p (.H (.call 152 [(.t .d0 .d0)])),
    .p (.L (.field 2 1 false (.l 0))),
    .p (.H (.call 153 [(.t .d0 .d0)])),
    .s .d1 .d1 (.L (.mov (.l 1))),
    .s .d0 .d4 (.L (.mov (.l 1)))])
  (.seq (.reg 1 [.s .d0 .d7 (.L (.mov (.c (.bool true))))])
  (.seq (.block 2 (.loop (.seq (.seq (.reg 2 [.s .d0 .d3 (.H (.call 154 [(.t .d0 .d0), (.c (.str 1 60))]))])
  (.cond (.t .d0 .d3) .skip (.exit 2)))
  (.block 3 (.seq (.reg 492 [.p (.H (.call 152 [(.t .d0 .d0)])),
    .p (.L (.field 2 1 false (.l 0))),
    .p (.H (.call 153 [(.t .d0 .d0)])),
    .p (.L (.build [.str 0 0, .str 0 0, .int .i64 0] [(0, 1, (.t .d0 .d4)), (2, 1, (.l 1)), (1, 1, (.l 0))])),
    .s .d0 .d5 (.L (.alloc [.str 0 0, .str 0 0, .int .i64 0])),
    .p (.H (.store 3 (.l 0) (.l 1)))])
  (.seq (.reg 14 [.p (.L (.loadn 3 (.t .d0 .d5))),
    .p (.L (.bsl 3 1 [.str 0 0, .str 0 0, .int .i64 0] [(0, 3, (.l 0))])),
    .s .d0 .d6 (.H (.append 3 40 (.t .d0 .d6) (.l 0)))])
  (.reg 11 [.p (.L (.faddr 1 (.t .d0 .d5))),
    .s .d0 .d4 (.L (.load (.l 0))),
    .s .d0 .d7 (.L (.mov (.c (.bool false))))])))))))
  (.seq (.seq (.reg 1 [.s .d1 .d0 (.L (.mov (.t .d0 .d7)))])
  (.cond (.t .d1 .d0) (.reg 56 [.p (.L (.build [.str 0 0, .str 0 0, .int .i64 0] [(0, 1, (.t .d0 .d4)), (2, 1, (.t .d1 .d1))])),
    .p (.L (.bsl 3 1 [.str 0 0, .str 0 0, .int .i64 0] [(0, 3, (.l 0))])),
    .s .d0 .d6 (.H (.append 3 40 (.t .d0 .d6) (.l 0)))]) .skip))
  (.reg 2 [.p (.H (.call 151 [(.t .d0 .d0), (.c (.str 1 59))]))])))))))))
  (.seq (.reg 2 [.s .d0 .d1 (.L (.mov (.t .d0 .d6)))])
  .ret)))))⟩
def i90 : Fun :=
  ⟨2, [0, 1, 4, 11, 17, 23, 6, 7, 5, 34, 9], [.tmp .d0 .d2], (.seq (.reg 1 [.s .d0 .d2 (.L (.mov (.c (.str 0 0))))])
  (.seq (.seq (.reg 2 [.s .d0 .d3 (.L (.bin .eql (.t .d0 .d1) (.c (.int .i64 10))))])
  (.cond (.t .d0 .d3) (.seq (.seq (.reg 58 [.p (.L (.bin .leq (.c (.int .i64 0)) (.t .d0 .d0))),
    .g (.l 0) true (.L (.mov (.t .d0 .d0))),
    .g (.l 1) true (.L (.bin .lss (.l 0) (.c (.int .i64 100)))),
    .s .d0 .d4 (.L (.pick (.l 2) (.l 0) (.c (.bool false))))])
  (.cond (.t .d0 .d4) (.seq (.reg 2 [.s .d0 .d2 (.H (.call 162 [(.t .d0 .d0)]))])
  .ret) .skip))
  (.seq (.reg 1 [.s .d1 .d0 (.L (.alloc [.int .u8 0, .int .u8 0, .int .u8 0, .int .u8 0, .int .u8 0, .int .u8 0, .int .u8 0, .int .u8 0, .int .u8 0, .int .u8 0, .int .u8 0, .int .u8 0, .int .u8 0, .int .u8 0, .int .u8 0, .int .u8 0, .int .u8 0, .int .u8 0, .int .u8 0, .int .u8 0, .int .u8 0, .int .u8 0, .int .u8 0, .int .u8 0]))])
  (.seq (.reg 2 [.s .d0 .d6 (.L (.conv .u64 (.t .d0 .d0)))])
  (.seq (.seq (.reg 2 [.s .d0 .d5 (.L (.bin .lss (.t .d0 .d0) (.c (.int .i64 0))))])
  (.cond (.t .d0 .d5) (.reg 2 [.s .d0 .d6 (.L (.neg (.t .d0 .d6)))]) .skip))
  (.seq (.reg 2 [.s .d0 .d7 (.H (.call 163 [(.t .d0 .d6)]))])
  (.seq (.reg 22 [.p (.L (.bin .add (.c (.int .i64 1)) (.t .d0 .d7))),
    .p (.L (.sarr 24 1 (.t .d1 .d0) (some (.c (.int .i64 1))) (some (.l 0)) none)),
    .p (.H (.call 164 [(.l 0), (.t .d0 .d6)]))])
  (.seq (.seq (.reg 2 [.s .d1 .d1 (.L (.bin .lss (.t .d0 .d0) (.c (.int .i64 0))))])
  (.cond (.t .d1 .d1) (.seq (.reg 3 [.p (.L (.iarr 24 1 (.t .d1 .d0) (.c (.int .i64 0)))),
    .p (.H (.store 1 (.l 0) (.c (.int .u8 45))))])
  (.seq (.reg 14 [.p (.L (.bin .add (.c (.int .i64 1)) (.t .d0 .d7))),
    .p (.L (.sarr 24 1 (.t .d1 .d0) none (some (.l 0)) none)),
    .s .d0 .d2 (.L (.bstr (.l 0)))])
  .ret)) .skip))
  (.seq (.reg 14 [.p (.L (.bin .add (.c (.int .i64 1)) (.t .d0 .d7))),
    .p (.L (.sarr 24 1 (.t .d1 .d0) (some (.c (.int .i64 1))) (some (.l 0)) none)),
    .s .d0 .d2 (.L (.bstr (.l 0)))])
  .ret)))))))) .skip))
  (.seq (.reg 1458 [.p (.L (.conv .u64 (.t .d0 .d0))),
    .p (.L (.bin .lss (.t .d0 .d0) (.c (.int .i64 0)))),
    .p (.H (.call 165 [(.c (.slN)), (.l 1), (.t .d0 .d1), (.l 0), (.c (.bool false))])),
    .p (.L (.ext 0 (.l 0))),
    .p (.L (.ext 1 (.l 1))),
    .s .d1 .d2 (.L (.mov (.l 0)))])
  (.seq (.reg 2 [.s .d0 .d2 (.L (.mov (.t .d1 .d2)))])
  .ret))))⟩
def i108 : Fun :=
  ⟨2, [0, 1, 4, 8, 7, 9, 5, 16], [.tmp .d0 .d2], (.seq (.reg 1 [.s .d0 .d2 (.L (.mov (.c (.int .i64 0))))])
  (.seq (.seq (.reg 6 [.s .d0 .d4 (.L (.len false (.t .d0 .d0))),
    .s .d0 .d3 (.L (.mov (.c (.int .i64 0))))])
  (.block 0 (.loop (.seq (.reg 1 [.s .d0 .d5 (.L (.bin .lss (.t .d0 .d3) (.t .d0 .d4)))])
  (.seq (.cond (.t .d0 .d5) .skip (.exit 0))
  (.seq (.block 1 (.seq (.reg 2 [.s .d0 .d6 (.L (.mov (.t .d0 .d3)))])
  (.seq (.reg 56 [.p (.L (.iaddr 1 (.t .d0 .d0) (.t .d0 .d6))),
    .p (.L (.load (.l 0))),
    .s .d0 .d7 (.L (.bins .eql (.t .d0 .d1) (.l 0)))])
  (.cond (.t .d0 .d7) (.seq (.reg 2 [.s .d0 .d2 (.L (.mov (.t .d0 .d6)))])
  .ret) .skip))))
  (.reg 1 [.s .d0 .d3 (.L (.bin .add (.t .d0 .d3) (.c (.int .i64 1))))])))))))
  (.seq (.reg 1 [.s .d0 .d2 (.L (.mov (.c (.int .i64 (-1)))))])
  .ret)))⟩
def i140 : Fun :=
  ⟨3, [0, 1, 2, 4, 17, 5], [.tmp .d0 .d3], (.seq (.reg 1 [.s .d0 .d3 (.L (.mov (.c (.str 0 0))))])
  (.seq (.reg 1 [.s .d0 .d5 (.L (.load (.t .d0 .d1)))])
  (.seq (.block 0 (.loop (.seq (.seq (.reg 2031 [.p (.L (.load (.t .d0 .d1))),
    .p (.L (.load (.t .d0 .d2))),
    .p (.L (.len true (.l 0))),
    .p (.L (.bin .lss (.l 2) (.l 0))),
    .g (.l 0) true (.L (.mov (.t .d0 .d0))),
    .g (.l 1) true (.L (.load (.t .d0 .d2))),
    .g (.l 2) true (.L (.load (.t .d0 .d1))),
    .g (.l 3) true (.L (.istr (.l 1) (.l 0))),
    .g (.l 4) true (.H (.callv (.l 3) [(.l 0)])),
    .s .d0 .d4 (.L (.pick (.l 5) (.l 0) (.c (.bool false))))])
  (.cond (.t .d0 .d4) .skip (.exit 0)))
  (.block 1 (.reg 7 [.p (.L (.load (.t .d0 .d1))),
    .p (.L (.bin .add (.l 0) (.c (.int .i64 1)))),
    .p (.H (.store 1 (.t .d0 .d1) (.l 0)))])))))
  (.seq (.reg 13 [.p (.L (.load (.t .d0 .d2))),
    .p (.L (.load (.t .d0 .d1))),
    .s .d0 .d3 (.L (.sstr (.l 1) (some (.t .d0 .d5)) (some (.l 0))))])
  .ret))))⟩
def i141 : Fun :=
  ⟨1, [0, 2], [.tmp .d0 .d1], (.seq (.reg 1 [.s .d0 .d1 (.L (.mov (.c (.bool false))))])
  (.seq (.reg 2 [.s .d0 .d1 (.L (.bin .neq (.t .d0 .d0) (.c (.int .u8 10))))])
  .ret))⟩
def i142 : Fun :=
  ⟨1, [0, 2], [.tmp .d0 .d1], (.seq (.reg 1 [.s .d0 .d1 (.L (.mov (.c (.bool false))))])
  (.seq (.reg 58 [.p (.L (.bin .geq (.t .d0 .d0) (.c (.int .u8 97)))),
    .g (.l 0) true (.L (.mov (.t .d0 .d0))),
    .g (.l 1) true (.L (.bin .leq (.l 0) (.c (.int .u8 122)))),
    .s .d0 .d1 (.L (.pick (.l 2) (.l 0) (.c (.bool false))))])
  .ret))⟩
def i143 : Fun :=
  ⟨1, [0, 2], [.tmp .d0 .d1], (.seq (.reg 1 [.s .d0 .d1 (.L (.mov (.c (.bool false))))])
  (.seq (.reg 954 [.p (.H (.call 142 [(.t .d0 .d0)])),
    .g (.l 0) false (.L (.mov (.t .d0 .d0))),
    .g (.l 1) false (.H (.call 145 [(.l 0)])),
    .p (.L (.pick (.l 2) (.c (.bool true)) (.l 0))),
    .g (.l 0) false (.L (.mov (.t .d0 .d0))),
    .g (.l 1) false (.L (.bin .eql (.l 0) (.c (.int .u8 95)))),
    .s .d0 .d1 (.L (.pick (.l 2) (.c (.bool true)) (.l 0)))])
  .ret))⟩
def i144 : Fun :=
  ⟨1, [0, 2, 3, 4, 7], [.tmp .d0 .d1, .tmp .d0 .d2], (.seq (.reg 3 [.s .d0 .d1 (.L (.mov (.c (.int .i64 0)))),
    .s .d0 .d2 (.L (.mov (.c (.int .i64 0))))])
  (.seq (.block 0 (.seq (.reg 2 [.s .d0 .d3 (.H (.call 226 [(.t .d0 .d0)]))])
  (.cond (.t .d0 .d3) (.seq (.reg 3 [.s .d0 .d1 (.L (.mov (.c (.int .i64 3)))),
    .s .d0 .d2 (.L (.mov (.c (.int .i64 0))))])
  .ret) (.seq (.reg 6 [.p (.L (.len true (.t .d0 .d0))),
    .s .d0 .d4 (.L (.bin .gtr (.l 0) (.c (.int .i64 20))))])
  (.cond (.t .d0 .d4) (.seq (.reg 3 [.s .d0 .d1 (.L (.mov (.c (.int .i64 0)))),
    .s .d0 .d2 (.L (.mov (.c (.int .i64 9))))])
  .ret) .skip)))))
  (.seq (.reg 3 [.s .d0 .d1 (.L (.mov (.c (.int .i64 1)))),
    .s .d0 .d2 (.L (.mov (.c (.int .i64 0))))])
  .ret)))⟩
def i145 : Fun :=
  ⟨1, [0, 2], [.tmp .d0 .d1], (.seq (.reg 1 [.s .d0 .d1 (.L (.mov (.c (.bool false))))])
  (.seq (.reg 58 [.p (.L (.bin .geq (.t .d0 .d0) (.c (.int .u8 48)))),
    .g (.l 0) true (.L (.mov (.t .d0 .d0))),
    .g (.l 1) true (.L (.bin .leq (.l 0) (.c (.int .u8 57)))),
    .s .d0 .d1 (.L (.pick (.l 2) (.l 0) (.c (.bool false))))])
  .ret))⟩
def i146 : Fun :=
  ⟨2, [0, 1, 4, 5, 6, 10], [.tmp .d0 .d2, .tmp .d0 .d3], (.seq (.reg 3 [.s .d0 .d2 (.L (.mov (.c (.int .i64 0)))),
    .s .d0 .d3 (.L (.mov (.c (.int .i64 0))))])
  (.seq (.block 0 (.seq (.reg 6 [.p (.L (.len true (.t .d0 .d0))),
    .s .d0 .d4 (.L (.bin .gtr (.l 0) (.c (.int .i64 9))))])
  (.cond (.t .d0 .d4) (.seq (.reg 3 [.s .d0 .d2 (.L (.mov (.c (.int .i64 0)))),
    .s .d0 .d3 (.L (.mov (.c (.int .i64 9))))])
  .ret) (.seq (.seq (.reg 246 [.p (.L (.istr (.t .d0 .d0) (.c (.int .i64 0)))),
    .p (.L (.bin .eql (.l 0) (.c (.int .u8 48)))),
    .g (.l 0) true (.L (.mov (.t .d0 .d0))),
    .g (.l 1) true (.L (.len true (.l 0))),
    .g (.l 2) true (.L (.bin .gtr (.l 0) (.c (.int .i64 1)))),
    .s .d0 .d5 (.L (.pick (.l 3) (.l 0) (.c (.bool false))))])
  (.cond (.t .d0 .d5) .skip (.reg 122 [.p (.L (.bins .neq (.t .d0 .d1) (.c (.str 0 0)))),
    .g (.l 0) true (.L (.mov (.t .d0 .d1))),
    .g (.l 1) true (.L (.istr (.l 0) (.c (.int .i64 0)))),
    .g (.l 2) true (.H (.call 143 [(.l 0)])),
    .s .d0 .d5 (.L (.pick (.l 3) (.l 0) (.c (.bool false))))])))
  (.cond (.t .d0 .d5) (.seq (.reg 3 [.s .d0 .d2 (.L (.mov (.c (.int .i64 0)))),
    .s .d0 .d3 (.L (.mov (.c (.int .i64 10))))])
  .ret) .skip)))))
  (.seq (.reg 3 [.s .d0 .d2 (.L (.mov (.c (.int .i64 2)))),
    .s .d0 .d3 (.L (.mov (.c (.int .i64 0))))])
  .ret)))⟩
def i147 : Fun :=
  ⟨1, [0, 2, 7, 6, 8, 5, 4, 13, 23], [.tmp .d0 .d1], (.seq (.reg 1 [.s .d0 .d1 (.L (.mov (.c (.str 0 0))))])
  (.seq (.seq (.reg 7 [.s .d0 .d5 (.L (.bsl 1 3 [.str 0 0] [(0, 1, (.c (.str 2 15677))), (1, 1, (.c (.str 2 15676))), (2, 1, (.c (.str 2 15917)))])),
    .s .d0 .d3 (.L (.len false (.l 0))),
    .s .d0 .d2 (.L (.mov (.c (.int .i64 0))))])
  (.block 0 (.loop (.seq (.reg 1 [.s .d0 .d4 (.L (.bin .lss (.t .d0 .d2) (.t .d0 .d3)))])
  (.seq (.cond (.t .d0 .d4) .skip (.exit 0))
  (.seq (.block 1 (.seq (.reg 3 [.p (.L (.iaddr 1 (.t .d0 .d5) (.t .d0 .d2))),
    .s .d0 .d6 (.L (.load (.l 0)))])
  (.seq (.reg 4 [.s .d0 .d7 (.H (.call 227 [(.t .d0 .d0), (.t .d0 .d6)]))])
  (.cond (.t .d0 .d7) (.seq (.reg 2 [.s .d0 .d1 (.L (.mov (.t .d0 .d6)))])
  .ret) .skip))))
  (.reg 1 [.s .d0 .d2 (.L (.bin .add (.t .d0 .d2) (.c (.int .i64 1))))])))))))
  (.seq (.seq (.reg 250 [.p (.L (.bins .neq (.t .d0 .d0) (.c (.str 0 0)))),
    .g (.l 0) true (.L (.mov (.t .d0 .d0))),
    .g (.l 1) true (.L (.istr (.l 0) (.c (.int .i64 0)))),
    .g (.l 2) true (.H (.call 228 [(.c (.str 16 44057595459481303378468723561875581224)), (.l 0)])),
    .g (.l 3) true (.L (.bin .geq (.l 0) (.c (.int .i64 0)))),
    .s .d1 .d0 (.L (.pick (.l 4) (.l 0) (.c (.bool false))))])
  (.cond (.t .d1 .d0) (.seq (.reg 2 [.s .d0 .d1 (.L (.sstr (.t .d0 .d0) none (some (.c (.int .i64 1)))))])
  .ret) .skip))
  (.seq (.reg 1 [.s .d0 .d1 (.L (.mov (.c (.str 0 0))))])
  .ret))))⟩
def i151 : Fun :=
  ⟨2, [0, 1, 4, 12, 5], [.tmp .d0 .d2], (.seq (.reg 1 [.s .d0 .d2 (.L (.mov (.c (.int .i64 0))))])
  (.seq (.reg 6 [.p (.H (.call 152 [(.t .d0 .d0)])),
    .s .d0 .d4 (.L (.field 2 1 false (.l 0)))])
  (.seq (.seq (.reg 12 [.p (.H (.call 154 [(.t .d0 .d0), (.t .d0 .d1)])),
    .s .d0 .d3 (.L (.not (.l 0)))])
  (.cond (.t .d0 .d3) (.reg 2 [.p (.H (.call 229 [(.t .d0 .d0), (.c (.int .i64 11))]))]) .skip))
  (.seq (.reg 2 [.s .d0 .d2 (.L (.mov (.t .d0 .d4)))])
  .ret))))⟩
def i152 : Fun :=
  ⟨1, [0, 2], [.cell .d0 .d1 (some 3)], (.seq (.reg 1 [.s .d0 .d1 (.L (.alloc [.int .i64 0, .str 0 0, .int .i64 0]))])
  (.seq (.draw [0, 1, 2, 3, 4, 5, 6, 7, 8, 9, 10] [⟨.p (.L (.mov (.t .d0 .d0))), []⟩,
    ⟨.p (.L (.nilck (.l 0))), []⟩,
    ⟨.p (.L (.faddr 0 (.l 0))), []⟩,
    ⟨.p (.L (.load (.l 0))), []⟩,
    ⟨.p (.L (.mov (.t .d0 .d0))), []⟩,
    ⟨.p (.L (.nilck (.l 0))), []⟩,
    ⟨.p (.L (.faddr 1 (.l 0))), []⟩,
    ⟨.p (.L (.load (.l 0))), []⟩,
    ⟨.p (.L (.iaddr 3 (.l 4) (.l 0))), []⟩,
    ⟨.p (.L (.loadn 3 (.l 0))), []⟩,
    ⟨.p (.H (.store 3 (.t .d0 .d1) (.l 0))), []⟩])
  .ret))⟩
def i153 : Fun :=
  ⟨1, [0, 2], [.tmp .d0 .d1], (.seq (.reg 1 [.s .d0 .d1 (.L (.mov (.c (.str 0 0))))])
  (.seq (.reg 6 [.p (.H (.call 230 [(.t .d0 .d0), (.c (.int .i64 1))])),
    .s .d0 .d1 (.L (.field 1 1 false (.l 0)))])
  .ret))⟩
def i154 : Fun :=
  ⟨2, [0, 1, 4, 5, 9], [.tmp .d0 .d2], (.seq (.reg 1 [.s .d0 .d2 (.L (.mov (.c (.bool false))))])
  (.seq (.reg 4 [.s .d0 .d3 (.H (.call 231 [(.t .d0 .d0), (.t .d0 .d1)]))])
  (.seq (.seq (.reg 1 [.s .d0 .d4 (.L (.mov (.t .d0 .d3)))])
  (.cond (.t .d0 .d4) (.reg 254 [.p (.L (.nilck (.t .d0 .d0))),
    .p (.L (.faddr 1 (.l 0))),
    .p (.L (.load (.l 0))),
    .p (.L (.bin .add (.l 0) (.c (.int .i64 1)))),
    .p (.L (.nilck (.t .d0 .d0))),
    .p (.L (.faddr 1 (.l 0))),
    .p (.H (.store 1 (.l 0) (.l 2)))]) .skip))
  (.seq (.reg 2 [.s .d0 .d2 (.L (.mov (.t .d0 .d3)))])
  .ret))))⟩
def i162 : Fun :=
  ⟨1, [0, 2, 4], [.tmp .d0 .d1], (.seq (.reg 1 [.s .d0 .d1 (.L (.mov (.c (.str 0 0))))])
  (.seq (.seq (.reg 2 [.s .d0 .d2 (.L (.bin .lss (.t .d0 .d0) (.c (.int .i64 10))))])
  (.cond (.t .d0 .d2) (.seq (.reg 12 [.p (.L (.bin .add (.t .d0 .d0) (.c (.int .i64 1)))),
    .s .d0 .d1 (.L (.sstr (.c (.str 36 237927390410950444456928663707796224754864904193074819559483181009558347043374296609072)) (some (.t .d0 .d0)) (some (.l 0))))])
  .ret) .skip))
  (.seq (.reg 58 [.p (.L (.bin .mul (.t .d0 .d0) (.c (.int .i64 2)))),
    .p (.L (.bin .mul (.t .d0 .d0) (.c (.int .i64 2)))),
    .p (.L (.bin .add (.l 0) (.c (.int .i64 2)))),
    .s .d0 .d1 (.L (.sstr (.c (.str 200 9938655150514779720929161263213647789093395803754561035662628441001274968862597953692946393464194303251501229616933063375291039650253924995779037586872666250072396106842829501851083234932712366962979930255066872747696324303968523733872590022915936937156789320557469720923390131174387415513794469201054844961267015441141542819553679203788501627738430154234325528792480477051962324423099068299719245009424585859096469223093538032153047611602695245052081125123941502624659711709950000)) (some (.l 2)) (some (.l 0))))])
  .ret)))⟩
def i163 : Fun :=
  ⟨1, [0, 2, 3], [.tmp .d0 .d1], (.seq (.reg 1 [.s .d0 .d1 (.L (.mov (.c (.int .i64 0))))])
  (.seq (.reg 6 [.p (.H (.call 195 [(.t .d0 .d0)])),
    .s .d0 .d2 (.H (.call 232 [(.l 0)]))])
  (.seq (.reg 248 [.p (.L (.iarr 20 1 (.c .bot) (.t .d0 .d2))),
    .p (.L (.load (.l 0))),
    .p (.L (.bin .geq (.t .d0 .d0) (.l 0))),
    .p (.H (.call 233 [(.l 0)])),
    .s .d0 .d1 (.L (.bin .add (.t .d0 .d2) (.l 0)))])
  .ret)))⟩
def i164 : Fun :=
  ⟨2, [0, 1, 4, 20, 5, 7, 6, 9, 8, 11, 10, 99, 12, 13, 15, 14, 139, 16, 161], [], (.seq (.reg 2 [.s .d0 .d2 (.L (.len false (.t .d0 .d0)))])
  (.seq (.block 0 (.loop (.seq (.seq (.reg 2 [.s .d0 .d3 (.L (.bin .geq (.t .d0 .d2) (.c (.int .i64 8))))])
  (.cond (.t .d0 .d3) .skip (.exit 0)))
  (.block 1 (.seq (.reg 6 [.p (.L (.bin .rem (.t .d0 .d1) (.c (.int .u64 100000000)))),
    .s .d0 .d4 (.L (.conv .u32 (.l 0)))])
  (.seq (.reg 2 [.s .d0 .d1 (.L (.bin .quo (.t .d0 .d1) (.c (.int .u64 100000000))))])
  (.seq (.reg 58 [.p (.L (.bin .quo (.t .d0 .d4) (.c (.int .u32 10000)))),
    .p (.L (.bin .rem (.t .d0 .d4) (.c (.int .u32 10000)))),
    .s .d0 .d6 (.L (.mov (.l 1))),
    .s .d0 .d5 (.L (.mov (.l 1)))])
  (.seq (.reg 246 [.p (.L (.bin .quo (.t .d0 .d5) (.c (.int .u32 100)))),
    .p (.L (.bin .mul (.l 0) (.c (.int .u32 2)))),
    .p (.L (.bin .rem (.t .d0 .d5) (.c (.int .u32 100)))),
    .p (.L (.bin .mul (.l 0) (.c (.int .u32 2)))),
    .s .d1 .d0 (.L (.mov (.l 2))),
    .s .d0 .d7 (.L (.mov (.l 1)))])
  (.seq (.reg 246 [.p (.L (.bin .quo (.t .d0 .d6) (.c (.int .u32 100)))),
    .p (.L (.bin .mul (.l 0) (.c (.int .u32 2)))),
    .p (.L (.bin .rem (.t .d0 .d6) (.c (.int .u32 100)))),
    .p (.L (.bin .mul (.l 0) (.c (.int .u32 2)))),
    .s .d1 .d2 (.L (.mov (.l 2))),
    .s .d1 .d1 (.L (.mov (.l 1)))])
  (.seq (.draw [0, 1, 2, 3, 4, 5, 6, 7, 8, 9, 10, 11, 12, 13, 14] [⟨.p (.L (.mov (.t .d0 .d0))), []⟩,
    ⟨.p (.L (.mov (.t .d0 .d2))), []⟩,
    ⟨.p (.L (.bin .sub (.l 0) (.c (.int .i64 1)))), []⟩,
    ⟨.p (.L (.mov (.t .d0 .d0))), []⟩,
    ⟨.p (.L (.mov (.t .d0 .d2))), []⟩,
    ⟨.p (.L (.bin .sub (.l 0) (.c (.int .i64 2)))), []⟩,
    ⟨.p (.L (.mov (.t .d0 .d7))), []⟩,
    ⟨.p (.L (.bin .add (.l 0) (.c (.int .u32 1)))), []⟩,
    ⟨.p (.L (.istr (.c (.str 200 9938655150514779720929161263213647789093395803754561035662628441001274968862597953692946393464194303251501229616933063375291039650253924995779037586872666250072396106842829501851083234932712366962979930255066872747696324303968523733872590022915936937156789320557469720923390131174387415513794469201054844961267015441141542819553679203788501627738430154234325528792480477051962324423099068299719245009424585859096469223093538032153047611602695245052081125123941502624659711709950000)) (.l 0))), []⟩,
    ⟨.p (.L (.mov (.t .d0 .d7))), []⟩,
    ⟨.p (.L (.istr (.c (.str 200 9938655150514779720929161263213647789093395803754561035662628441001274968862597953692946393464194303251501229616933063375291039650253924995779037586872666250072396106842829501851083234932712366962979930255066872747696324303968523733872590022915936937156789320557469720923390131174387415513794469201054844961267015441141542819553679203788501627738430154234325528792480477051962324423099068299719245009424585859096469223093538032153047611602695245052081125123941502624659711709950000)) (.l 0))), []⟩,
    ⟨.p (.L (.iaddr 1 (.l 10) (.l 8))), []⟩,
    ⟨.p (.H (.store 1 (.l 0) (.l 3))), []⟩,
    ⟨.p (.L (.iaddr 1 (.l 9) (.l 7))), []⟩,
    ⟨.p (.H (.store 1 (.l 0) (.l 3))), []⟩])
  (.seq (.draw [0, 1, 2, 3, 4, 5, 6, 7, 8, 9, 10, 11, 12, 13, 14] [⟨.p (.L (.mov (.t .d0 .d0))), []⟩,
    ⟨.p (.L (.mov (.t .d0 .d2))), []⟩,
    ⟨.p (.L (.bin .sub (.l 0) (.c (.int .i64 3)))), []⟩,
    ⟨.p (.L (.mov (.t .d0 .d0))), []⟩,
    ⟨.p (.L (.mov (.t .d0 .d2))), []⟩,
    ⟨.p (.L (.bin .sub (.l 0) (.c (.int .i64 4)))), []⟩,
    ⟨.p (.L (.mov (.t .d1 .d0))), []⟩,
    ⟨.p (.L (.bin .add (.l 0) (.c (.int .u32 1)))), []⟩,
    ⟨.p (.L (.istr (.c (.str 200 9938655150514779720929161263213647789093395803754561035662628441001274968862597953692946393464194303251501229616933063375291039650253924995779037586872666250072396106842829501851083234932712366962979930255066872747696324303968523733872590022915936937156789320557469720923390131174387415513794469201054844961267015441141542819553679203788501627738430154234325528792480477051962324423099068299719245009424585859096469223093538032153047611602695245052081125123941502624659711709950000)) (.l 0))), []⟩,
    ⟨.p (.L (.mov (.t .d1 .d0))), []⟩,
    ⟨.p (.L (.istr (.c (.str 200 9938655150514779720929161263213647789093395803754561035662628441001274968862597953692946393464194303251501229616933063375291039650253924995779037586872666250072396106842829501851083234932712366962979930255066872747696324303968523733872590022915936937156789320557469720923390131174387415513794469201054844961267015441141542819553679203788501627738430154234325528792480477051962324423099068299719245009424585859096469223093538032153047611602695245052081125123941502624659711709950000)) (.l 0))), []⟩,
    ⟨.p (.L (.iaddr 1 (.l 10) (.l 8))), []⟩,
    ⟨.p (.H (.store 1 (.l 0) (.l 3))), []⟩,
    ⟨.p (.L (.iaddr 1 (.l 9) (.l 7))), []⟩,
    ⟨.p (.H (.store 1 (.l 0) (.l 3))), []⟩])
  (.seq (.draw [0, 1, 2, 3, 4, 5, 6, 7, 8, 9, 10, 11, 12, 13, 14] [⟨.p (.L (.mov (.t .d0 .d0))), []⟩,
    ⟨.p (.L (.mov (.t .d0 .d2))), []⟩,
    ⟨.p (.L (.bin .sub (.l 0) (.c (.int .i64 5)))), []⟩,
    ⟨.p (.L (.mov (.t .d0 .d0))), []⟩,
    ⟨.p (.L (.mov (.t .d0 .d2))), []⟩,
    ⟨.p (.L (.bin .sub (.l 0) (.c (.int .i64 6)))), []⟩,
    ⟨.p (.L (.mov (.t .d1 .d1))), []⟩,
    ⟨.p (.L (.bin .add (.l 0) (.c (.int .u32 1)))), []⟩,
    ⟨.p (.L (.istr (.c (.str 200 9938655150514779720929161263213647789093395803754561035662628441001274968862597953692946393464194303251501229616933063375291039650253924995779037586872666250072396106842829501851083234932712366962979930255066872747696324303968523733872590022915936937156789320557469720923390131174387415513794469201054844961267015441141542819553679203788501627738430154234325528792480477051962324423099068299719245009424585859096469223093538032153047611602695245052081125123941502624659711709950000)) (.l 0))), []⟩,
    ⟨.p (.L (.mov (.t .d1 .d1))), []⟩,
    ⟨.p (.L (.istr (.c (.str 200 9938655150514779720929161263213647789093395803754561035662628441001274968862597953692946393464194303251501229616933063375291039650253924995779037586872666250072396106842829501851083234932712366962979930255066872747696324303968523733872590022915936937156789320557469720923390131174387415513794469201054844961267015441141542819553679203788501627738430154234325528792480477051962324423099068299719245009424585859096469223093538032153047611602695245052081125123941502624659711709950000)) (.l 0))), []⟩,
    ⟨.p (.L (.iaddr 1 (.l 10) (.l 8))), []⟩,
    ⟨.p (.H (.store 1 (.l 0) (.l 3))), []⟩,
    ⟨.p (.L (.iaddr 1 (.l 9) (.l 7))), []⟩,
    ⟨.p (.H (.store 1 (.l 0) (.l 3))), []⟩])
  (.seq (.draw [0, 1, 2, 3, 4, 5, 6, 7, 8, 9, 10, 11, 12, 13, 14] [⟨.p (.L (.mov (.t .d0 .d0))), []⟩,
    ⟨.p (.L (.mov (.t .d0 .d2))), []⟩,
    ⟨.p (.L (.bin .sub (.l 0) (.c (.int .i64 7)))), []⟩,
    ⟨.p (.L (.mov (.t .d0 .d0))), []⟩,
    ⟨.p (.L (.mov (.t .d0 .d2))), []⟩,
    ⟨.p (.L (.bin .sub (.l 0) (.c (.int .i64 8)))), []⟩,
    ⟨.p (.L (.mov (.t .d1 .d2))), []⟩,
    ⟨.p (.L (.bin .add (.l 0) (.c (.int .u32 1)))), []⟩,
    ⟨.p (.L (.istr (.c (.str 200 9938655150514779720929161263213647789093395803754561035662628441001274968862597953692946393464194303251501229616933063375291039650253924995779037586872666250072396106842829501851083234932712366962979930255066872747696324303968523733872590022915936937156789320557469720923390131174387415513794469201054844961267015441141542819553679203788501627738430154234325528792480477051962324423099068299719245009424585859096469223093538032153047611602695245052081125123941502624659711709950000)) (.l 0))), []⟩,
    ⟨.p (.L (.mov (.t .d1 .d2))), []⟩,
    ⟨.p (.L (.istr (.c (.str 200 9938655150514779720929161263213647789093395803754561035662628441001274968862597953692946393464194303251501229616933063375291039650253924995779037586872666250072396106842829501851083234932712366962979930255066872747696324303968523733872590022915936937156789320557469720923390131174387415513794469201054844961267015441141542819553679203788501627738430154234325528792480477051962324423099068299719245009424585859096469223093538032153047611602695245052081125123941502624659711709950000)) (.l 0))), []⟩,
    ⟨.p (.L (.iaddr 1 (.l 10) (.l 8))), []⟩,
    ⟨.p (.H (.store 1 (.l 0) (.l 3))), []⟩,
    ⟨.p (.L (.iaddr 1 (.l 9) (.l 7))), []⟩,
    ⟨.p (.H (.store 1 (.l 0) (.l 3))), []⟩])
  (.reg 2 [.s .d0 .d2 (.L (.bin .sub (.t .d0 .d2) (.c (.int .i64 8))))]))))))))))))))
  (.seq (.reg 2 [.s .d1 .d4 (.L (.conv .u32 (.t .d0 .d1)))])
  (.seq (.seq (.reg 2 [.s .d1 .d3 (.L (.bin .geq (.t .d0 .d2) (.c (.int .i64 4))))])
  (.cond (.t .d1 .d3) (.seq (.reg 2 [.s .d1 .d5 (.L (.bin .rem (.t .d1 .d4) (.c (.int .u32 10000))))])
  (.seq (.reg 2 [.s .d1 .d4 (.L (.bin .quo (.t .d1 .d4) (.c (.int .u32 10000))))])
  (.seq (.reg 246 [.p (.L (.bin .quo (.t .d1 .d5) (.c (.int .u32 100)))),
    .p (.L (.bin .mul (.l 0) (.c (.int .u32 2)))),
    .p (.L (.bin .rem (.t .d1 .d5) (.c (.int .u32 100)))),
    .p (.L (.bin .mul (.l 0) (.c (.int .u32 2)))),
    .s .d1 .d7 (.L (.mov (.l 2))),
    .s .d1 .d6 (.L (.mov (.l 1)))])
  (.seq (.draw [0, 1, 2, 3, 4, 5, 6, 7, 8, 9, 10, 11, 12, 13, 14] [⟨.p (.L (.mov (.t .d0 .d0))), []⟩,
    ⟨.p (.L (.mov (.t .d0 .d2))), []⟩,
    ⟨.p (.L (.bin .sub (.l 0) (.c (.int .i64 1)))), []⟩,
    ⟨.p (.L (.mov (.t .d0 .d0))), []⟩,
    ⟨.p (.L (.mov (.t .d0 .d2))), []⟩,
    ⟨.p (.L (.bin .sub (.l 0) (.c (.int .i64 2)))), []⟩,
    ⟨.p (.L (.mov (.t .d1 .d6))), []⟩,
    ⟨.p (.L (.bin .add (.l 0) (.c (.int .u32 1)))), []⟩,
    ⟨.p (.L (.istr (.c (.str 200 9938655150514779720929161263213647789093395803754561035662628441001274968862597953692946393464194303251501229616933063375291039650253924995779037586872666250072396106842829501851083234932712366962979930255066872747696324303968523733872590022915936937156789320557469720923390131174387415513794469201054844961267015441141542819553679203788501627738430154234325528792480477051962324423099068299719245009424585859096469223093538032153047611602695245052081125123941502624659711709950000)) (.l 0))), []⟩,
    ⟨.p (.L (.mov (.t .d1 .d6))), []⟩,
    ⟨.p (.L (.istr (.c (.str 200 9938655150514779720929161263213647789093395803754561035662628441001274968862597953692946393464194303251501229616933063375291039650253924995779037586872666250072396106842829501851083234932712366962979930255066872747696324303968523733872590022915936937156789320557469720923390131174387415513794469201054844961267015441141542819553679203788501627738430154234325528792480477051962324423099068299719245009424585859096469223093538032153047611602695245052081125123941502624659711709950000)) (.l 0))), []⟩,
    ⟨.p (.L (.iaddr 1 (.l 10) (.l 8))), []⟩,
    ⟨.p (.H (.store 1 (.l 0) (.l 3))), []⟩,
    ⟨.p (.L (.iaddr 1 (.l 9) (.l 7))), []⟩,
    ⟨.p (.H (.store 1 (.l 0) (.l 3))), []⟩])
  (.seq (.draw [0, 1, 2, 3, 4, 5, 6, 7, 8, 9, 10, 11, 12, 13, 14] [⟨.p (.L (.mov (.t .d0 .d0))), []⟩,
    ⟨.p (.L (.mov (.t .d0 .d2))), []⟩,
    ⟨.p (.L (.bin .sub (.l 0) (.c (.int .i64 3)))), []⟩,
    ⟨.p (.L (.mov (.t .d0 .d0))), []⟩,
    ⟨.p (.L (.mov (.t .d0 .d2))), []⟩,
    ⟨.p (.L (.bin .sub (.l 0) (.c (.int .i64 4)))), []⟩,
    ⟨.p (.L (.mov (.t .d1 .d7))), []⟩,
    ⟨.p (.L (.bin .add (.l 0) (.c (.int .u32 1)))), []⟩,
    ⟨.p (.L (.istr (.c (.str 200 9938655150514779720929161263213647789093395803754561035662628441001274968862597953692946393464194303251501229616933063375291039650253924995779037586872666250072396106842829501851083234932712366962979930255066872747696324303968523733872590022915936937156789320557469720923390131174387415513794469201054844961267015441141542819553679203788501627738430154234325528792480477051962324423099068299719245009424585859096469223093538032153047611602695245052081125123941502624659711709950000)) (.l 0))), []⟩,
    ⟨.p (.L (.mov (.t .d1 .d7))), []⟩,
    ⟨.p (.L (.istr (.c (.str 200 9938655150514779720929161263213647789093395803754561035662628441001274968862597953692946393464194303251501229616933063375291039650253924995779037586872666250072396106842829501851083234932712366962979930255066872747696324303968523733872590022915936937156789320557469720923390131174387415513794469201054844961267015441141542819553679203788501627738430154234325528792480477051962324423099068299719245009424585859096469223093538032153047611602695245052081125123941502624659711709950000)) (.l 0))), []⟩,
    ⟨.p (.L (.iaddr 1 (.l 10) (.l 8))), []⟩,
    ⟨.p (.H (.store 1 (.l 0) (.l 3))), []⟩,
    ⟨.p (.L (.iaddr 1 (.l 9) (.l 7))), []⟩,
    ⟨.p (.H (.store 1 (.l 0) (.l 3))), []⟩])
  (.reg 2 [.s .d0 .d2 (.L (.bin .sub (.t .d0 .d2) (.c (.int .i64 4))))])))))) .skip))
  (.seq (.seq (.reg 2 [.s .d2 .d0 (.L (.bin .geq (.t .d0 .d2) (.c (.int .i64 2))))])
  (.cond (.t .d2 .d0) (.seq (.reg 6 [.p (.L (.bin .rem (.t .d1 .d4) (.c (.int .u32 100)))),
    .s .d2 .d1 (.L (.bin .mul (.l 0) (.c (.int .u32 2))))])
  (.seq (.reg 2 [.s .d1 .d4 (.L (.bin .quo (.t .d1 .d4) (.c (.int .u32 100))))])
  (.seq (.draw [0, 1, 2, 3, 4, 5, 6, 7, 8, 9, 10, 11, 12, 13, 14] [⟨.p (.L (.mov (.t .d0 .d0))), []⟩,
    ⟨.p (.L (.mov (.t .d0 .d2))), []⟩,
    ⟨.p (.L (.bin .sub (.l 0) (.c (.int .i64 1)))), []⟩,
    ⟨.p (.L (.mov (.t .d0 .d0))), []⟩,
    ⟨.p (.L (.mov (.t .d0 .d2))), []⟩,
    ⟨.p (.L (.bin .sub (.l 0) (.c (.int .i64 2)))), []⟩,
    ⟨.p (.L (.mov (.t .d2 .d1))), []⟩,
    ⟨.p (.L (.bin .add (.l 0) (.c (.int .u32 1)))), []⟩,
    ⟨.p (.L (.istr (.c (.str 200 9938655150514779720929161263213647789093395803754561035662628441001274968862597953692946393464194303251501229616933063375291039650253924995779037586872666250072396106842829501851083234932712366962979930255066872747696324303968523733872590022915936937156789320557469720923390131174387415513794469201054844961267015441141542819553679203788501627738430154234325528792480477051962324423099068299719245009424585859096469223093538032153047611602695245052081125123941502624659711709950000)) (.l 0))), []⟩,
    ⟨.p (.L (.mov (.t .d2 .d1))), []⟩,
    ⟨.p (.L (.istr (.c (.str 200 9938655150514779720929161263213647789093395803754561035662628441001274968862597953692946393464194303251501229616933063375291039650253924995779037586872666250072396106842829501851083234932712366962979930255066872747696324303968523733872590022915936937156789320557469720923390131174387415513794469201054844961267015441141542819553679203788501627738430154234325528792480477051962324423099068299719245009424585859096469223093538032153047611602695245052081125123941502624659711709950000)) (.l 0))), []⟩,
    ⟨.p (.L (.iaddr 1 (.l 10) (.l 8))), []⟩,
    ⟨.p (.H (.store 1 (.l 0) (.l 3))), []⟩,
    ⟨.p (.L (.iaddr 1 (.l 9) (.l 7))), []⟩,
    ⟨.p (.H (.store 1 (.l 0) (.l 3))), []⟩])
  (.reg 2 [.s .d0 .d2 (.L (.bin .sub (.t .d0 .d2) (.c (.int .i64 2))))])))) .skip))
  (.seq (.reg 2 [.s .d2 .d2 (.L (.bin .gtr (.t .d0 .d2) (.c (.int .i64 0))))])
  (.cond (.t .d2 .d2) (.reg 60 [.p (.L (.bin .add (.c (.int .u32 48)) (.t .d1 .d4))),
    .p (.L (.conv .u8 (.l 0))),
    .p (.L (.iaddr 1 (.t .d0 .d0) (.c (.int .i64 0)))),
    .p (.H (.store 1 (.l 0) (.l 1)))]) .skip)))))))⟩
def i165 : Fun :=
  ⟨5, [0, 1, 2, 3, 4, 10, 11, 28, 30, 34, 15, 46, 13, 16, 12, 14, 17, 68, 18, 89, 94], [.tmp .d0 .d5, .tmp .d0 .d6], (.seq (.reg 3 [.s .d0 .d5 (.L (.mov (.c (.slN)))),
    .s .d0 .d6 (.L (.mov (.c (.str 0 0))))])
  (.seq (.seq (.reg 954 [.p (.L (.bin .lss (.t .d0 .d2) (.c (.int .i64 2)))),
    .g (.l 0) false (.L (.mov (.t .d0 .d2))),
    .g (.l 1) false (.L (.bin .eql (.l 0) (.c (.int .i64 10)))),
    .p (.L (.pick (.l 2) (.c (.bool true)) (.l 0))),
    .g (.l 0) false (.L (.mov (.t .d0 .d2))),
    .g (.l 1) false (.L (.bin .gtr (.l 0) (.c (.int .i64 36)))),
    .s .d0 .d7 (.L (.pick (.l 2) (.c (.bool true)) (.l 0)))])
  (.cond (.t .d0 .d7) (.reg 3 [.p (.L (.ifc 9 (.c (.str 41 216697390027125670893655747107225825579143285394002440301576320671928898198549784051036142863283315)))),
    .p (.H (.panic (.l 0)))]) .skip))
  (.seq (.reg 1 [.s .d1 .d6 (.L (.alloc [.int .u8 0, .int .u8 0, .int .u8 0, .int .u8 0, .int .u8 0, .int .u8 0, .int .u8 0, .int .u8 0, .int .u8 0, .int .u8 0, .int .u8 0, .int .u8 0, .int .u8 0, .int .u8 0, .int .u8 0, .int .u8 0, .int .u8 0, .int .u8 0, .int .u8 0, .int .u8 0, .int .u8 0, .int .u8 0, .int .u8 0, .int .u8 0, .int .u8 0, .int .u8 0, .int .u8 0, .int .u8 0, .int .u8 0, .int .u8 0, .int .u8 0, .int .u8 0, .int .u8 0, .int .u8 0, .int .u8 0, .int .u8 0, .int .u8 0, .int .u8 0, .int .u8 0, .int .u8 0, .int .u8 0, .int .u8 0, .int .u8 0, .int .u8 0, .int .u8 0, .int .u8 0, .int .u8 0, .int .u8 0, .int .u8 0, .int .u8 0, .int .u8 0, .int .u8 0, .int .u8 0, .int .u8 0, .int .u8 0, .int .u8 0, .int .u8 0, .int .u8 0, .int .u8 0, .int .u8 0, .int .u8 0, .int .u8 0, .int .u8 0, .int .u8 0, .int .u8 0]))])
  (.seq (.reg 1 [.s .d1 .d4 (.L (.mov (.c (.int .i64 65))))])
  (.seq (.seq (.reg 1 [.s .d1 .d0 (.L (.mov (.t .d0 .d3)))])
  (.cond (.t .d1 .d0) (.reg 2 [.s .d0 .d1 (.L (.neg (.t .d0 .d1)))]) .skip))
  (.seq (.seq (.reg 2 [.s .d1 .d1 (.H (.call 234 [(.t .d0 .d2)]))])
  (.cond (.t .d1 .d1) (.seq (.reg 14 [.p (.L (.conv .u64 (.t .d0 .d2))),
    .p (.H (.call 235 [(.l 0)])),
    .s .d1 .d7 (.L (.conv .u64 (.l 0)))])
  (.seq (.reg 2 [.s .d1 .d2 (.L (.conv .u64 (.t .d0 .d2)))])
  (.seq (.reg 6 [.p (.L (.conv .u64 (.t .d0 .d2))),
    .s .d1 .d5 (.L (.bin .sub (.l 0) (.c (.int .u64 1))))])
  (.seq (.block 0 (.loop (.seq (.seq (.reg 4 [.s .d1 .d3 (.L (.bin .geq (.t .d0 .d1) (.t .d1 .d2)))])
  (.cond (.t .d1 .d3) .skip (.exit 0)))
  (.block 1 (.seq (.reg 2 [.s .d1 .d4 (.L (.bin .sub (.t .d1 .d4) (.c (.int .i64 1))))])
  (.seq (.reg 120 [.p (.L (.bin .and (.t .d0 .d1) (.t .d1 .d5))),
    .p (.L (.istr (.c (.str 36 237927390410950444456928663707796224754864904193074819559483181009558347043374296609072)) (.l 0))),
    .p (.L (.iarr 65 1 (.t .d1 .d6) (.t .d1 .d4))),
    .p (.H (.store 1 (.l 0) (.l 1)))])
  (.reg 4 [.s .d0 .d1 (.L (.shf false (.t .d0 .d1) (.t .d1 .d7)))])))))))
  (.seq (.reg 2 [.s .d1 .d4 (.L (.bin .sub (.t .d1 .d4) (.c (.int .i64 1))))])
  (.reg 28 [.p (.L (.istr (.c (.str 36 237927390410950444456928663707796224754864904193074819559483181009558347043374296609072)) (.t .d0 .d1))),
    .p (.L (.iarr 65 1 (.t .d1 .d6) (.t .d1 .d4))),
    .p (.H (.store 1 (.l 0) (.l 1)))])))))) (.seq (.reg 2 [.s .d2 .d0 (.L (.conv .u64 (.t .d0 .d2)))])
  (.seq (.block 2 (.loop (.seq (.seq (.reg 4 [.s .d2 .d1 (.L (.bin .geq (.t .d0 .d1) (.t .d2 .d0)))])
  (.cond (.t .d2 .d1) .skip (.exit 2)))
  (.block 3 (.seq (.reg 2 [.s .d1 .d4 (.L (.bin .sub (.t .d1 .d4) (.c (.int .i64 1))))])
  (.seq (.reg 4 [.s .d2 .d2 (.L (.bin .quo (.t .d0 .d1) (.t .d2 .d0)))])
  (.seq (.reg 496 [.p (.L (.bin .mul (.t .d2 .d2) (.t .d2 .d0))),
    .p (.L (.bin .sub (.t .d0 .d1) (.l 0))),
    .p (.L (.istr (.c (.str 36 237927390410950444456928663707796224754864904193074819559483181009558347043374296609072)) (.l 0))),
    .p (.L (.iarr 65 1 (.t .d1 .d6) (.t .d1 .d4))),
    .p (.H (.store 1 (.l 0) (.l 1)))])
  (.reg 2 [.s .d0 .d1 (.L (.mov (.t .d2 .d2)))]))))))))
  (.seq (.reg 2 [.s .d1 .d4 (.L (.bin .sub (.t .d1 .d4) (.c (.int .i64 1))))])
  (.reg 28 [.p (.L (.istr (.c (.str 36 237927390410950444456928663707796224754864904193074819559483181009558347043374296609072)) (.t .d0 .d1))),
    .p (.L (.iarr 65 1 (.t .d1 .d6) (.t .d1 .d4))),
    .p (.H (.store 1 (.l 0) (.l 1)))]))))))
  (.seq (.seq (.reg 1 [.s .d2 .d3 (.L (.mov (.t .d0 .d3)))])
  (.cond (.t .d2 .d3) (.seq (.reg 2 [.s .d1 .d4 (.L (.bin .sub (.t .d1 .d4) (.c (.int .i64 1))))])
  (.reg 6 [.p (.L (.iarr 65 1 (.t .d1 .d6) (.t .d1 .d4))),
    .p (.H (.store 1 (.l 0) (.c (.int .u8 45))))])) .skip))
  (.seq (.seq (.reg 1 [.s .d2 .d4 (.L (.mov (.t .d0 .d4)))])
  (.cond (.t .d2 .d4) (.seq (.reg 12 [.p (.L (.sarr 65 1 (.t .d1 .d6) (some (.t .d1 .d4)) none none)),
    .s .d0 .d5 (.H (.append 1 1 (.t .d0 .d0) (.l 0)))])
  .ret) .skip))
  (.seq (.reg 6 [.p (.L (.sarr 65 1 (.t .d1 .d6) (some (.t .d1 .d4)) none none)),
    .s .d0 .d6 (.L (.bstr (.l 0)))])
  .ret)))))))))⟩
def i195 : Fun :=
  ⟨1, [0, 2, 4, 8, 14], [.tmp .d0 .d1], (.seq (.reg 1 [.s .d0 .d1 (.L (.mov (.c (.int .i64 0))))])
  (.seq (.seq (.reg 2 [.s .d0 .d2 (.L (.bin .geq (.t .d0 .d0) (.c (.int .u64 4294967296))))])
  (.cond (.t .d0 .d2) (.seq (.reg 2 [.s .d0 .d0 (.L (.shf false (.t .d0 .d0) (.c (.int .u64 32))))])
  (.reg 1 [.s .d0 .d1 (.L (.mov (.c (.int .i64 32))))])) .skip))
  (.seq (.seq (.reg 2 [.s .d0 .d3 (.L (.bin .geq (.t .d0 .d0) (.c (.int .u64 65536))))])
  (.cond (.t .d0 .d3) (.seq (.reg 2 [.s .d0 .d0 (.L (.shf false (.t .d0 .d0) (.c (.int .u64 16))))])
  (.reg 2 [.s .d0 .d1 (.L (.bin .add (.t .d0 .d1) (.c (.int .i64 16))))])) .skip))
  (.seq (.seq (.reg 2 [.s .d0 .d4 (.L (.bin .geq (.t .d0 .d0) (.c (.int .u64 256))))])
  (.cond (.t .d0 .d4) (.seq (.reg 2 [.s .d0 .d0 (.L (.shf false (.t .d0 .d0) (.c (.int .u64 8))))])
  (.reg 2 [.s .d0 .d1 (.L (.bin .add (.t .d0 .d1) (.c (.int .i64 8))))])) .skip))
  (.seq (.reg 60 [.p (.L (.conv .u8 (.t .d0 .d0))),
    .p (.L (.istr (.c (.str 256 1013866857139168856493015739252390649739422828853819106890363778118420553376247557433637691341895324351018602695588957474325319502760499485336098898398377509666851054660423406800006203933793007272033180812049178612605246075062580585469430410618860250057463399279570354286669047577758927328864388992123306212451509403152394148136105363817402562688186708175358218852349079190158732807302672745370040257219644697201681238697346923541678507645485296520536209706771857694240900605172937619415410180424934769249448772944216470541052485265558808433676546390051204254346932932316488017972311616136051587427851453983453479168)) (.l 0))),
    .p (.L (.conv .i64 (.l 0))),
    .s .d0 .d1 (.L (.bin .add (.t .d0 .d1) (.l 0)))])
  .ret)))))⟩
def i226 : Fun :=
  ⟨1, [0, 2], [.tmp .d0 .d1], (.seq (.reg 1 [.s .d0 .d1 (.L (.mov (.c (.bool false))))])
  (.seq (.reg 5 [.p (.L (.bsl 1 15 [.str 0 0] [(0, 1, (.c (.str 6 111516500389741))), (1, 1, (.c (.str 6 128034844732777))), (2, 1, (.c (.str 3 7496054))), (3, 1, (.c (.str 4 1668248176))), (4, 1, (.c (.str 2 25456))), (5, 1, (.c (.str 4 1936028533))), (6, 1, (.c (.str 3 7628140))), (7, 1, (.c (.str 4 1819042147))), (8, 1, (.c (.str 2 26217))), (9, 1, (.c (.str 4 1702063205))), (10, 1, (.c (.str 5 435610544247))), (11, 1, (.c (.str 4 1953066341))), (12, 1, (.c (.str 6 128009175786866))), (13, 1, (.c (.str 4 1885956979))), (14, 1, (.c (.str 6 126909394608492)))])),
    .s .d0 .d1 (.H (.call 64 [(.l 0), (.t .d0 .d0)]))])
  .ret))⟩
def i227 : Fun :=
  ⟨2, [0, 1, 4], [.tmp .d0 .d2], (.seq (.reg 1 [.s .d0 .d2 (.L (.mov (.c (.bool false))))])
  (.seq (.reg 4 [.s .d0 .d2 (.H (.call 293 [(.t .d0 .d0), (.t .d0 .d1)]))])
  .ret))⟩
def i228 : Fun :=
  ⟨2, [0, 1, 4], [.tmp .d0 .d2], (.seq (.reg 1 [.s .d0 .d2 (.L (.mov (.c (.int .i64 0))))])
  (.seq (.reg 4 [.s .d0 .d2 (.H (.call 294 [(.t .d0 .d0), (.t .d0 .d1)]))])
  .ret))⟩
def i229 : Fun :=
  ⟨2, [0, 1], [], (.reg 124 [.p (.H (.call 152 [(.t .d0 .d0)])),
    .p (.L (.field 2 1 false (.l 0))),
    .p (.L (.build [.int .i64 0, .int .i64 0] [(0, 1, (.t .d0 .d1)), (1, 1, (.l 0))])),
    .p (.L (.ifc 259 (.l 0))),
    .p (.H (.panic (.l 0)))])⟩
def i230 : Fun :=
  ⟨2, [0, 1, 4, 5, 11], [.cell .d0 .d2 (some 3)], (.seq (.reg 1 [.s .d0 .d2 (.L (.alloc [.int .i64 0, .str 0 0, .int .i64 0]))])
  (.seq (.reg 14 [.p (.H (.call 152 [(.t .d0 .d0)])),
    .s .d0 .d3 (.L (.alloc [.int .i64 0, .str 0 0, .int .i64 0])),
    .p (.H (.store 3 (.l 0) (.l 1)))])
  (.seq (.seq (.reg 11 [.p (.L (.faddr 0 (.t .d0 .d3))),
    .p (.L (.load (.l 0))),
    .s .d0 .d4 (.L (.bin .neq (.l 0) (.t .d0 .d1)))])
  (.cond (.t .d0 .d4) (.reg 2 [.p (.H (.call 229 [(.t .d0 .d0), (.c (.int .i64 11))]))]) .skip))
  (.seq (.reg 254 [.p (.L (.nilck (.t .d0 .d0))),
    .p (.L (.faddr 1 (.l 0))),
    .p (.L (.load (.l 0))),
    .p (.L (.bin .add (.l 0) (.c (.int .i64 1)))),
    .p (.L (.nilck (.t .d0 .d0))),
    .p (.L (.faddr 1 (.l 0))),
    .p (.H (.store 1 (.l 0) (.l 2)))])
  (.seq (.reg 3 [.p (.L (.loadn 3 (.t .d0 .d3))),
    .p (.H (.store 3 (.t .d0 .d2) (.l 0)))])
  .ret)))))⟩
def i231 : Fun :=
  ⟨2, [0, 1, 4, 5], [.tmp .d0 .d2], (.seq (.reg 1 [.s .d0 .d2 (.L (.mov (.c (.bool false))))])
  (.seq (.reg 14 [.p (.H (.call 152 [(.t .d0 .d0)])),
    .s .d0 .d3 (.L (.alloc [.int .i64 0, .str 0 0, .int .i64 0])),
    .p (.H (.store 3 (.l 0) (.l 1)))])
  (.seq (.reg 16363 [.p (.L (.faddr 1 (.t .d0 .d3))),
    .p (.L (.load (.l 0))),
    .p (.L (.bins .eql (.l 0) (.t .d0 .d1))),
    .g (.l 0) true (.L (.faddr 0 (.t .d0 .d3))),
    .g (.l 1) true (.L (.load (.l 0))),
    .g (.l 2) true (.L (.bin .eql (.l 0) (.c (.int .i64 4)))),
    .g (.l 3) true (.L (.mov (.l 0))),
    .g (.l 0) false (.L (.faddr 0 (.t .d0 .d3))),
    .g (.l 1) false (.L (.load (.l 0))),
    .g (.l 2) false (.L (.bin .eql (.l 0) (.c (.int .i64 3)))),
    .g (.l 7) true (.L (.pick (.l 3) (.c (.bool true)) (.l 0))),
    .s .d0 .d2 (.L (.pick (.l 8) (.l 0) (.c (.bool false))))])
  .ret)))⟩
def i232 : Fun :=
  ⟨1, [0, 2], [.tmp .d0 .d1], (.seq (.reg 1 [.s .d0 .d1 (.L (.mov (.c (.int .i64 0))))])
  (.seq (.reg 6 [.p (.L (.bin .mul (.t .d0 .d0) (.c (.int .i64 78913)))),
    .s .d0 .d1 (.L (.shf false (.l 0) (.c (.int .u64 18))))])
  .ret))⟩
def i233 : Fun :=
  ⟨1, [0, 2, 3], [.tmp .d0 .d1], (.seq (.reg 1 [.s .d0 .d1 (.L (.mov (.c (.int .i64 0))))])
  (.seq (.seq (.reg 1 [.s .d0 .d2 (.L (.mov (.t .d0 .d0)))])
  (.cond (.t .d0 .d2) (.seq (.reg 1 [.s .d0 .d1 (.L (.mov (.c (.int .i64 1))))])
  .ret) .skip))
  (.seq (.reg 1 [.s .d0 .d1 (.L (.mov (.c (.int .i64 0))))])
  .ret)))⟩
def i234 : Fun :=
  ⟨1, [0, 2], [.tmp .d0 .d1], (.seq (.reg 1 [.s .d0 .d1 (.L (.mov (.c (.bool false))))])
  (.seq (.reg 28 [.p (.L (.bin .sub (.t .d0 .d0) (.c (.int .i64 1)))),
    .p (.L (.bin .and (.t .d0 .d0) (.l 0))),
    .s .d0 .d1 (.L (.bin .eql (.l 0) (.c (.int .i64 0))))])
  .ret))⟩
def i235 : Fun :=
  ⟨1, [0, 2], [.tmp .d0 .d1], (.seq (.reg 1 [.s .d0 .d1 (.L (.mov (.c (.int .i64 0))))])
  (.seq (.cond (.c (.bool false)) (.seq (.reg 6 [.p (.L (.conv .u32 (.t .d0 .d0))),
    .s .d0 .d1 (.H (.call 295 [(.l 0)]))])
  .ret) .skip)
  (.seq (.reg 2 [.s .d0 .d1 (.H (.call 296 [(.t .d0 .d0)]))])
  .ret)))⟩
def i293 : Fun :=
  ⟨2, [0, 1, 4], [.tmp .d0 .d2], (.seq (.reg 1 [.s .d0 .d2 (.L (.mov (.c (.bool false))))])
  (.seq (.reg 8154 [.p (.L (.len true (.t .d0 .d0))),
    .p (.L (.len true (.t .d0 .d1))),
    .p (.L (.bin .geq (.l 1) (.l 0))),
    .g (.l 0) true (.L (.mov (.t .d0 .d0))),
    .g (.l 1) true (.L (.mov (.t .d0 .d1))),
    .g (.l 2) true (.L (.len true (.l 0))),
    .g (.l 3) true (.L (.sstr (.l 2) none (some (.l 0)))),
    .g (.l 4) true (.L (.mov (.t .d0 .d1))),
    .g (.l 5) true (.L (.bins .eql (.l 1) (.l 0))),
    .s .d0 .d2 (.L (.pick (.l 6) (.l 0) (.c (.bool false))))])
  .ret))⟩
def i295 : Fun :=
  ⟨1, [0, 2, 4], [.tmp .d0 .d1], (.seq (.reg 1 [.s .d0 .d1 (.L (.mov (.c (.int .i64 0))))])
  (.seq (.seq (.reg 2 [.s .d0 .d2 (.L (.bin .eql (.t .d0 .d0) (.c (.int .u32 0))))])
  (.cond (.t .d0 .d2) (.seq (.reg 1 [.s .d0 .d1 (.L (.mov (.c (.int .i64 32))))])
  .ret) .skip))
  (.seq (.reg 508 [.p (.L (.neg (.t .d0 .d0))),
    .p (.L (.bin .and (.t .d0 .d0) (.l 0))),
    .p (.L (.bin .mul (.l 0) (.c (.int .u32 125613361)))),
    .p (.L (.shf false (.l 0) (.c (.int .u64 27)))),
    .p (.L (.iarr 32 1 (.c .bot) (.l 0))),
    .p (.L (.load (.l 0))),
    .s .d0 .d1 (.L (.conv .i64 (.l 0)))])
  .ret)))⟩
def i296 : Fun :=
  ⟨1, [0, 2, 4], [.tmp .d0 .d1], (.seq (.reg 1 [.s .d0 .d1 (.L (.mov (.c (.int .i64 0))))])
  (.seq (.seq (.reg 2 [.s .d0 .d2 (.L (.bin .eql (.t .d0 .d0) (.c (.int .u64 0))))])
  (.cond (.t .d0 .d2) (.seq (.reg 1 [.s .d0 .d1 (.L (.mov (.c (.int .i64 64))))])
  .ret) .skip))
  (.seq (.reg 508 [.p (.L (.neg (.t .d0 .d0))),
    .p (.L (.bin .and (.t .d0 .d0) (.l 0))),
    .p (.L (.bin .mul (.l 0) (.c (.int .u64 285870213051353865)))),
    .p (.L (.shf false (.l 0) (.c (.int .u64 58)))),
    .p (.L (.iarr 64 1 (.c .bot) (.l 0))),
    .p (.L (.load (.l 0))),
    .s .d0 .d1 (.L (.conv .i64 (.l 0)))])
  .ret)))⟩
def d84 : FunD :=
  ⟨2, [0, 1, 4, 5, 6], (.reg 7 [.s .d0 .d2 (.L (.alloc [.slN])),
    .s .d0 .d3 (.L (.alloc [.int .i64 0])),
    .s .d0 .d4 (.L (.alloc [.int .i64 0]))]), 150, [(.t .d0 .d2), (.t .d0 .d3), (.t .d0 .d4)], 252, [.p (.L (.build [.slN, .int .i64 0, .int .i64 0] [(0, 1, (.t .d0 .d0))])),
    .p (.L (.box 3 (.l 0))),
    .p (.H (.callv (.t .d0 .d1) [(.l 0)])),
    .p (.H (.store 1 (.t .d0 .d2) (.l 0))),
    .p (.H (.store 1 (.t .d0 .d3) (.c (.int .i64 0)))),
    .p (.H (.store 1 (.t .d0 .d4) (.c (.int .i64 0))))], [], [.cell .d0 .d2 none, .cell .d0 .d3 none, .cell .d0 .d4 none], [0, 1, 2, 7, 9, 11, 12, 5, 4, 6], 3, (.block 0 (.seq (.reg 1 [.s .d0 .d4 (.L (.eq false .ifc (.t .d0 .d3) (.c (.ifcN))))])
  (.cond (.t .d0 .d4) (.reg 0 []) (.seq (.reg 7 [.p (.L (.tassert 259 (.agg [.int .i64 0, .int .i64 0]) true (.t .d0 .d3))),
    .s .d0 .d5 (.L (.ext 1 (.l 0))),
    .s .d0 .d6 (.L (.ext 0 (.l 1)))])
  (.cond (.t .d0 .d5) (.seq (.reg 3 [.s .d1 .d0 (.L (.alloc [.int .i64 0, .int .i64 0])),
    .p (.H (.store 2 (.l 0) (.t .d0 .d6)))])
  (.seq (.reg 1 [.s .d0 .d7 (.L (.mov (.c (.slN))))])
  (.draw [0, 1, 2, 3, 4, 5, 6, 7] [⟨.p (.L (.mov (.t .d0 .d7))), []⟩,
    ⟨.p (.L (.faddr 0 (.t .d1 .d0))), []⟩,
    ⟨.p (.L (.load (.l 0))), []⟩,
    ⟨.p (.L (.faddr 1 (.t .d1 .d0))), []⟩,
    ⟨.p (.L (.load (.l 0))), []⟩,
    ⟨.p (.H (.store 1 (.t .d0 .d0) (.l 4))), [2, 0]⟩,
    ⟨.p (.H (.store 1 (.t .d0 .d1) (.l 3))), [1]⟩,
    ⟨.p (.H (.store 1 (.t .d0 .d2) (.l 2))), []⟩]))) (.seq (.reg 1 [.s .d1 .d1 (.L (.mov (.t .d0 .d3)))])
  (.reg 2 [.p (.H (.panic (.t .d1 .d1)))])))))))⟩
def n1 {α : Type} : R8 (Option α) := R8.all none
def n2 {α : Type} : R8 (R8 (Option α)) := R8.all n1
def funs : T Fun := ⟨⟨⟨⟨none, none, none, (some i3), (some i4), (some i5), (some i6), (some i7)⟩, ⟨(some i8), (some i9), (some i10), (some i11), (some i12), (some i13), none, (some i15)⟩, ⟨none, none, none, none, none, none, (some i22), (some i23)⟩, ⟨(some i24), none, (some i26), none, none, none, none, none⟩, n1, ⟨(some i40), none, none, none, none, none, (some i46), none⟩, ⟨(some i48), none, none, none, none, none, none, none⟩, n1⟩, ⟨⟨(some i64), none, none, none, none, none, none, none⟩, n1, ⟨none, (some i81), none, none, none, (some i85), none, none⟩, ⟨none, none, (some i90), none, none, none, none, none⟩, n1, ⟨none, none, none, none, (some i108), none, none, none⟩, n1, n1⟩, ⟨n1, ⟨none, none, none, none, (some i140), (some i141), (some i142), (some i143)⟩, ⟨(some i144), (some i145), (some i146), (some i147), none, none, none, (some i151)⟩, ⟨(some i152), (some i153), (some i154), none, none, none, none, none⟩, ⟨none, none, (some i162), (some i163), (some i164), (some i165), none, none⟩, n1, n1, n1⟩, ⟨⟨none, none, none, (some i195), none, none, none, none⟩, n1, n1, n1, ⟨none, none, (some i226), (some i227), (some i228), (some i229), (some i230), (some i231)⟩, ⟨(some i232), (some i233), (some i234), (some i235), none, none, none, none⟩, n1, n1⟩, ⟨n1, n1, n1, n1, ⟨none, none, none, none, none, (some i293), none, (some i295)⟩, ⟨(some i296), none, none, none, none, none, none, none⟩, n1, n1⟩, n2, n2, n2⟩, none, .mt⟩
def dfuns : T FunD := ⟨⟨n2, ⟨n1, n1, ⟨none, none, none, none, (some d84), none, none, none⟩, n1, n1, n1, n1, n1⟩, n2, n2, n2, n2, n2, n2⟩, none, .mt⟩
end
end Go.Eng.YtindigikfmphjaaGreatDoor
