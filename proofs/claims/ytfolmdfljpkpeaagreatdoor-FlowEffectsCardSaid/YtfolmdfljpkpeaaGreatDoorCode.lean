/- Part of a proof of a law, by an evaluator that the machine follows: rules, contracts of functions, what they come to. No condition of its own. -/
import Derived.Test.YtfolmdfljpkpeaaGreatDoorEng3
set_option maxRecDepth 100000
namespace Go.Eng.YtfolmdfljpkpeaaGreatDoor
open Go.Eng
noncomputable section
def i6 : Fun :=
  ⟨2, [0, 1, 4, 10, 24, 11, 47, 6, 49, 5, 12, 58, 7, 60, 8, 81, 9, 13, 16, 19, 21, 115, 123, 14, 17, 20], [.tmp .d0 .d2], (.seq (.reg 1 [.s .d0 .d2 (.L (.mov (.c (.bool false))))])
  (.seq (.reg 1 [.s .d1 .d1 (.L (.bsl 1 4 [.str 0 0] [(0, 1, (.c (.str 2 28521))), (1, 1, (.c (.str 3 7628142))), (2, 1, (.c (.str 3 6778732))), (3, 1, (.c (.str 3 6581874)))]))])
  (.seq (.reg 7 [.s .d0 .d7 (.L (.mov (.c (.str 0 0)))),
    .s .d1 .d4 (.L (.mov (.c (.str 0 0)))),
    .s .d1 .d6 (.L (.mov (.c (.str 0 0))))])
  (.seq (.reg 1 [.s .d2 .d0 (.L (.mov (.c (.int .i64 0))))])
  (.seq (.seq (.reg 1 [.s .d0 .d3 (.L (.mov (.c (.int .i64 0))))])
  (.block 0 (.loop (.seq (.seq (.reg 2 [.s .d0 .d4 (.L (.bin .lss (.t .d0 .d3) (.c (.int .i64 4))))])
  (.cond (.t .d0 .d4) .skip (.exit 0)))
  (.seq (.block 1 (.seq (.draw [0, 1, 2, 3, 4, 5, 6, 7, 8, 9, 10, 11, 12, 13, 14, 15, 16, 17, 18, 19, 20, 21] [⟨.p (.L (.mov (.t .d0 .d3))), []⟩,
    ⟨.p (.L (.mov (.t .d0 .d0))), []⟩,
    ⟨.p (.L (.len false (.l 0))), []⟩,
    ⟨.p (.L (.bin .lss (.l 2) (.l 0))), []⟩,
    ⟨.p (.L (.mov (.l 0))), []⟩,
    ⟨.g (.l 0) true (.L (.mov (.t .d0 .d0))), []⟩,
    ⟨.g (.l 1) true (.L (.mov (.t .d0 .d3))), []⟩,
    ⟨.g (.l 2) true (.L (.iaddr 1 (.l 1) (.l 0))), []⟩,
    ⟨.g (.l 3) true (.L (.load (.l 0))), []⟩,
    ⟨.p (.L (.pick (.l 4) (.l 0) (.c (.bool false)))), []⟩,
    ⟨.p (.L (.mov (.t .d0 .d3))), []⟩,
    ⟨.p (.L (.mov (.t .d0 .d1))), []⟩,
    ⟨.p (.L (.len false (.l 0))), []⟩,
    ⟨.p (.L (.bin .lss (.l 2) (.l 0))), []⟩,
    ⟨.p (.L (.mov (.l 0))), []⟩,
    ⟨.g (.l 0) true (.L (.mov (.t .d0 .d1))), []⟩,
    ⟨.g (.l 1) true (.L (.mov (.t .d0 .d3))), []⟩,
    ⟨.g (.l 2) true (.L (.iaddr 1 (.l 1) (.l 0))), []⟩,
    ⟨.g (.l 3) true (.L (.load (.l 0))), []⟩,
    ⟨.p (.L (.pick (.l 4) (.l 0) (.c (.bool false)))), []⟩,
    ⟨.s .d0 .d5 (.L (.mov (.l 10))), []⟩,
    ⟨.s .d1 .d2 (.L (.mov (.l 1))), []⟩])
  (.seq (.seq (.reg 1 [.s .d0 .d6 (.L (.mov (.t .d0 .d5)))])
  (.cond (.t .d0 .d6) (.seq (.seq (.reg 2 [.s .d1 .d0 (.L (.bins .neq (.t .d0 .d7) (.c (.str 0 0))))])
  (.cond (.t .d1 .d0) (.reg 2 [.s .d0 .d7 (.L (.bins .add (.t .d0 .d7) (.c (.str 2 8236))))]) .skip))
  (.reg 56 [.p (.L (.iaddr 1 (.t .d1 .d1) (.t .d0 .d3))),
    .p (.L (.load (.l 0))),
    .s .d0 .d7 (.L (.bins .add (.t .d0 .d7) (.l 0)))])) .skip))
  (.seq (.seq (.reg 1 [.s .d1 .d3 (.L (.mov (.t .d1 .d2)))])
  (.cond (.t .d1 .d3) (.seq (.seq (.reg 2 [.s .d1 .d5 (.L (.bins .neq (.t .d1 .d4) (.c (.str 0 0))))])
  (.cond (.t .d1 .d5) (.reg 2 [.s .d1 .d4 (.L (.bins .add (.t .d1 .d4) (.c (.str 2 8236))))]) .skip))
  (.seq (.reg 56 [.p (.L (.iaddr 1 (.t .d1 .d1) (.t .d0 .d3))),
    .p (.L (.load (.l 0))),
    .s .d1 .d4 (.L (.bins .add (.t .d1 .d4) (.l 0)))])
  (.reg 242 [.p (.L (.bins .add (.t .d1 .d6) (.c (.str 5 139392019813)))),
    .p (.L (.iaddr 1 (.t .d1 .d1) (.t .d0 .d3))),
    .p (.L (.load (.l 0))),
    .p (.L (.bins .add (.l 2) (.l 0))),
    .s .d1 .d6 (.L (.bins .add (.l 0) (.c (.str 2 8251))))]))) .skip))
  (.seq (.reg 28 [.g (.t .d1 .d2) true (.L (.mov (.t .d0 .d5))),
    .g (.t .d1 .d2) true (.L (.not (.l 0))),
    .s .d1 .d7 (.L (.pick (.t .d1 .d2) (.l 0) (.c (.bool false))))])
  (.cond (.t .d1 .d7) (.reg 2 [.s .d2 .d0 (.L (.bin .add (.t .d2 .d0) (.c (.int .i64 1))))]) .skip))))))
  (.reg 2 [.s .d0 .d3 (.L (.bin .add (.t .d0 .d3) (.c (.int .i64 1))))]))))))
  (.seq (.reg 16246 [.p (.L (.bins .add (.c (.str 32 55691815917758265087426024570835774185546941423143292443936938034761142923117)) (.t .d0 .d7))),
    .p (.L (.bins .add (.l 0) (.c (.str 4 544940157)))),
    .p (.L (.bins .add (.l 0) (.t .d1 .d6))),
    .p (.L (.bins .add (.l 0) (.c (.str 1 125)))),
    .p (.H (.call 10 [(.l 0)])),
    .p (.L (.ext 0 (.l 0))),
    .p (.L (.ext 1 (.l 1))),
    .p (.L (.ext 2 (.l 2))),
    .s .d2 .d1 (.L (.alloc [.str 0 0, .int .i64 0, .slN, .slN, .slN])),
    .p (.H (.store 5 (.l 0) (.l 3))),
    .s .d2 .d7 (.L (.mov (.l 3)))])
  (.seq (.reg 16246 [.p (.L (.bins .add (.c (.str 33 14257104874946115838226708123723763859927290519999577531604083018784204078215021)) (.t .d1 .d4))),
    .p (.L (.bins .add (.l 0) (.c (.str 28 12966761346384478986129636077870562250154777761349289781681471561853)))),
    .p (.L (.bins .add (.l 0) (.t .d0 .d7))),
    .p (.L (.bins .add (.l 0) (.c (.str 15 649690831623535309596630517561368701)))),
    .p (.H (.call 10 [(.l 0)])),
    .p (.L (.ext 0 (.l 0))),
    .p (.L (.ext 1 (.l 1))),
    .p (.L (.ext 2 (.l 2))),
    .s .d2 .d2 (.L (.alloc [.str 0 0, .int .i64 0, .slN, .slN, .slN])),
    .p (.H (.store 5 (.l 0) (.l 3))),
    .s .d3 .d0 (.L (.mov (.l 3)))])
  (.seq (.draw [0, 3, 1, 2, 4, 5, 6, 7] [⟨.p (.L (.loadn 5 (.t .d2 .d1))), []⟩,
    ⟨.p (.L (.loadn 5 (.t .d2 .d2))), []⟩,
    ⟨.p (.H (.call 21 [])), [1, 0]⟩,
    ⟨.p (.H (.call 16 [(.l 2), (.l 0), (.c (.slN))])), [1]⟩,
    ⟨.p (.H (.call 21 [])), [2]⟩,
    ⟨.p (.H (.call 16 [(.l 3), (.l 0), (.c (.slN))])), []⟩,
    ⟨.s .d2 .d3 (.L (.mov (.l 2))), []⟩,
    ⟨.s .d3 .d1 (.L (.mov (.l 1))), []⟩])
  (.seq (.seq (.reg 1 [.s .d2 .d4 (.L (.mov (.c (.int .i64 0))))])
  (.block 2 (.loop (.seq (.seq (.reg 12 [.p (.L (.len false (.t .d2 .d3))),
    .s .d2 .d5 (.L (.bin .lss (.t .d2 .d4) (.l 0)))])
  (.cond (.t .d2 .d5) .skip (.exit 2)))
  (.seq (.block 3 (.seq (.reg 60 [.p (.L (.iaddr 4 (.t .d2 .d3) (.t .d2 .d4))),
    .p (.L (.faddr 2 (.l 0))),
    .p (.L (.load (.l 0))),
    .s .d2 .d6 (.L (.bin .neq (.l 0) (.c (.int .i64 13))))])
  (.cond (.t .d2 .d6) (.seq (.reg 1 [.s .d0 .d2 (.L (.mov (.c (.bool false))))])
  .ret) .skip)))
  (.reg 2 [.s .d2 .d4 (.L (.bin .add (.t .d2 .d4) (.c (.int .i64 1))))]))))))
  (.seq (.reg 1830842 [.p (.L (.bin .eql (.t .d2 .d7) (.c (.int .i64 0)))),
    .g (.l 0) true (.L (.mov (.t .d3 .d0))),
    .g (.l 1) true (.L (.bin .eql (.l 0) (.c (.int .i64 0)))),
    .p (.L (.pick (.l 2) (.l 0) (.c (.bool false)))),
    .g (.l 0) true (.L (.mov (.t .d2 .d3))),
    .g (.l 1) true (.L (.len false (.l 0))),
    .g (.l 2) true (.L (.mov (.t .d2 .d0))),
    .g (.l 3) true (.L (.bin .eql (.l 1) (.l 0))),
    .p (.L (.pick (.l 4) (.l 0) (.c (.bool false)))),
    .g (.l 0) true (.L (.mov (.t .d3 .d1))),
    .g (.l 1) true (.L (.len false (.l 0))),
    .g (.l 2) true (.L (.mov (.t .d2 .d0))),
    .g (.l 3) true (.L (.bin .eql (.l 1) (.l 0))),
    .p (.L (.pick (.l 4) (.l 0) (.c (.bool false)))),
    .g (.l 0) true (.H (.call 12 [])),
    .s .d0 .d2 (.L (.pick (.l 1) (.l 0) (.c (.bool false))))])
  .ret))))))))))⟩
def i10 : Fun :=
  ⟨1, [0, 2, 3, 4, 6, 17, 7, 5, 8, 30, 9], [.cell .d0 .d1 (some 5), .tmp .d0 .d2, .tmp .d0 .d3], (.seq (.reg 7 [.s .d0 .d1 (.L (.alloc [.str 0 0, .int .i64 0, .slN, .slN, .slN])),
    .s .d0 .d2 (.L (.mov (.c (.int .i64 0)))),
    .s .d0 .d3 (.L (.mov (.c (.int .i64 0))))])
  (.seq (.reg 506 [.p (.H (.call 25 [(.t .d0 .d0)])),
    .p (.L (.ext 0 (.l 0))),
    .p (.L (.ext 1 (.l 1))),
    .p (.L (.ext 2 (.l 2))),
    .s .d0 .d7 (.L (.mov (.l 2))),
    .s .d0 .d4 (.L (.mov (.l 2))),
    .s .d0 .d6 (.L (.mov (.l 2)))])
  (.seq (.seq (.reg 2 [.s .d0 .d5 (.L (.bin .neq (.t .d0 .d4) (.c (.int .i64 0))))])
  (.cond (.t .d0 .d5) (.seq (.reg 57 [.p (.L (.build [.str 0 0, .int .i64 0, .slN, .slN, .slN] [])),
    .p (.H (.store 5 (.t .d0 .d1) (.l 0))),
    .s .d0 .d2 (.L (.mov (.t .d0 .d4))),
    .s .d0 .d3 (.L (.mov (.t .d0 .d6)))])
  .ret) .skip))
  (.seq (.reg 6 [.p (.L (.build [.slN, .int .i64 0, .int .i64 0, .int .i64 0, .int .i64 0] [(0, 1, (.t .d0 .d7))])),
    .s .d1 .d0 (.L (.box 5 (.l 0)))])
  (.seq (.reg 14 [.p (.H (.call 26 [(.t .d1 .d0)])),
    .s .d1 .d2 (.L (.alloc [.str 0 0, .int .i64 0, .slN, .slN, .slN])),
    .p (.H (.store 5 (.l 0) (.l 1)))])
  (.seq (.seq (.reg 30 [.p (.L (.nilck (.t .d1 .d0))),
    .p (.L (.faddr 3 (.l 0))),
    .p (.L (.load (.l 0))),
    .s .d1 .d1 (.L (.bin .neq (.l 0) (.c (.int .i64 0))))])
  (.cond (.t .d1 .d1) (.seq (.draw [0, 1, 2, 3, 4, 5, 6, 7, 8, 9, 10, 11] [⟨.p (.L (.build [.str 0 0, .int .i64 0, .slN, .slN, .slN] [])), []⟩,
    ⟨.p (.L (.mov (.t .d1 .d0))), []⟩,
    ⟨.p (.L (.nilck (.l 0))), []⟩,
    ⟨.p (.L (.faddr 3 (.l 0))), []⟩,
    ⟨.p (.L (.load (.l 0))), []⟩,
    ⟨.p (.L (.mov (.t .d1 .d0))), []⟩,
    ⟨.p (.L (.nilck (.l 0))), []⟩,
    ⟨.p (.L (.faddr 4 (.l 0))), []⟩,
    ⟨.p (.L (.load (.l 0))), []⟩,
    ⟨.p (.H (.store 5 (.t .d0 .d1) (.l 8))), [4, 0]⟩,
    ⟨.s .d0 .d2 (.L (.mov (.l 5))), []⟩,
    ⟨.s .d0 .d3 (.L (.mov (.l 2))), []⟩])
  .ret) .skip))
  (.seq (.reg 15 [.p (.L (.loadn 5 (.t .d1 .d2))),
    .p (.H (.store 5 (.t .d0 .d1) (.l 0))),
    .s .d0 .d2 (.L (.mov (.c (.int .i64 0)))),
    .s .d0 .d3 (.L (.mov (.c (.int .i64 0))))])
  .ret)))))))⟩
def i12 : Fun :=
  ⟨0, [0, 1, 4], [.tmp .d0 .d0], (.seq (.reg 1 [.s .d0 .d0 (.L (.mov (.c (.bool false))))])
  (.seq (.reg 125 [.p (.H (.call 10 [(.c (.str 86 627688669316054082150816935777438940285104667632873481165085140808148876116169599397492528591871108373873619864116515220959930778299009188623421145235929567128373387827589515175945603537956247568619307036525))])),
    .p (.L (.ext 0 (.l 0))),
    .p (.L (.ext 1 (.l 1))),
    .p (.L (.ext 2 (.l 2))),
    .s .d0 .d1 (.L (.alloc [.str 0 0, .int .i64 0, .slN, .slN, .slN])),
    .p (.H (.store 5 (.l 0) (.l 3)))])
  (.seq (.draw [0, 1, 2, 3] [⟨.p (.L (.loadn 5 (.t .d0 .d1))), []⟩,
    ⟨.p (.H (.call 21 [])), [0]⟩,
    ⟨.p (.H (.call 16 [(.l 1), (.l 0), (.c (.slN))])), []⟩,
    ⟨.s .d0 .d2 (.L (.mov (.l 0))), []⟩])
  (.seq (.reg 130038 [.p (.L (.len false (.t .d0 .d2))),
    .p (.L (.bin .eql (.l 0) (.c (.int .i64 1)))),
    .g (.l 0) true (.L (.mov (.t .d0 .d2))),
    .g (.l 1) true (.L (.iaddr 4 (.l 0) (.c (.int .i64 0)))),
    .g (.l 2) true (.L (.faddr 2 (.l 0))),
    .g (.l 3) true (.L (.load (.l 0))),
    .g (.l 4) true (.L (.bin .eql (.l 0) (.c (.int .i64 10)))),
    .p (.L (.pick (.l 5) (.l 0) (.c (.bool false)))),
    .g (.l 0) true (.L (.mov (.t .d0 .d2))),
    .g (.l 1) true (.L (.iaddr 4 (.l 0) (.c (.int .i64 0)))),
    .g (.l 2) true (.L (.faddr 3 (.l 0))),
    .g (.l 3) true (.L (.load (.l 0))),
    .g (.l 4) true (.L (.bins .eql (.l 0) (.c (.str 1 108)))),
    .s .d0 .d0 (.L (.pick (.l 5) (.l 0) (.c (.bool false))))])
  .ret))))⟩
def i13 : Fun :=
  ⟨1, [0, 2, 4, 18, 3], [.cell .d0 .d1 (some 6)], (.seq (.reg 1 [.s .d0 .d1 (.L (.alloc [.slN, .slN, .slN, .slN, .int .i64 0, .int .i64 0]))])
  (.seq (.reg 506 [.p (.H (.call 27 [(.t .d0 .d0)])),
    .p (.L (.ext 0 (.l 0))),
    .p (.L (.ext 1 (.l 1))),
    .p (.L (.ext 2 (.l 2))),
    .s .d0 .d4 (.L (.alloc [.slN, .slN, .slN, .slN, .int .i64 0, .int .i64 0])),
    .p (.H (.store 6 (.l 0) (.l 3))),
    .s .d0 .d2 (.L (.mov (.l 3)))])
  (.seq (.seq (.reg 122 [.p (.L (.bin .neq (.t .d0 .d2) (.c (.int .i64 0)))),
    .g (.l 0) false (.L (.mov (.t .d0 .d0))),
    .g (.l 1) false (.L (.len true (.l 0))),
    .g (.l 2) false (.L (.bin .gtr (.l 0) (.c (.int .i64 500)))),
    .s .d0 .d3 (.L (.pick (.l 3) (.c (.bool true)) (.l 0)))])
  (.cond (.t .d0 .d3) (.reg 61 [.p (.H (.call 27 [(.c (.str 18 5175151693920292653173273800325353307267436))])),
    .p (.L (.ext 0 (.l 0))),
    .p (.L (.ext 1 (.l 1))),
    .p (.L (.ext 2 (.l 2))),
    .p (.H (.store 6 (.t .d0 .d4) (.l 2)))]) .skip))
  (.seq (.reg 3 [.p (.L (.loadn 6 (.t .d0 .d4))),
    .p (.H (.store 6 (.t .d0 .d1) (.l 0)))])
  .ret))))⟩
def i16 : Fun :=
  ⟨3, [0, 1, 2, 6, 3, 4, 8, 31, 7, 9, 63, 62, 64, 61, 11, 13, 75, 86, 85, 87, 84, 15, 100, 99, 101, 98, 17], [.tmp .d0 .d3], (.seq (.reg 7 [.s .d0 .d4 (.L (.box 5 (.t .d0 .d0))),
    .s .d0 .d5 (.L (.box 6 (.t .d0 .d1))),
    .s .d0 .d3 (.L (.mov (.c (.slN))))])
  (.seq (.reg 503 [.p (.L (.loadn 5 (.t .d0 .d4))),
    .p (.L (.loadn 6 (.t .d0 .d5))),
    .p (.H (.call 28 [(.l 1), (.l 0)])),
    .p (.L (.ext 0 (.l 0))),
    .p (.L (.ext 1 (.l 1))),
    .s .d1 .d0 (.L (.alloc [.slN, .slN])),
    .p (.H (.store 2 (.l 0) (.l 2))),
    .s .d0 .d6 (.L (.mov (.l 2)))])
  (.seq (.seq (.reg 246 [.p (.L (.len false (.t .d0 .d6))),
    .p (.L (.bin .gtr (.l 0) (.c (.int .i64 0)))),
    .g (.l 0) false (.L (.loadn 6 (.t .d0 .d5))),
    .g (.l 1) false (.H (.call 29 [(.l 0)])),
    .g (.l 2) false (.L (.not (.l 0))),
    .s .d0 .d7 (.L (.pick (.l 3) (.c (.bool true)) (.l 0)))])
  (.cond (.t .d0 .d7) (.seq (.reg 2 [.s .d0 .d3 (.L (.mov (.t .d0 .d6)))])
  .ret) .skip))
  (.seq (.reg 55 [.p (.L (.loadn 5 (.t .d0 .d4))),
    .p (.L (.loadn 6 (.t .d0 .d5))),
    .p (.L (.loadn 2 (.t .d1 .d0))),
    .p (.L (.build [.str 0 0, .int .i64 0, .slN, .slN, .slN, .slN, .slN, .slN, .slN, .int .i64 0, .int .i64 0, .slN, .slN, .slN, .str 0 0, .slN, .bool false, .str 0 0, .str 0 0, .slN, .slN, .int .i64 0, .slN, .slN, .mapN] [(0, 5, (.l 2)), (5, 6, (.l 1)), (11, 2, (.l 0)), (13, 1, (.t .d0 .d2))])),
    .s .d1 .d1 (.L (.box 25 (.l 0)))])
  (.seq (.reg 997045978 [.p (.L (.mkmap)),
    .p (.L (.fn 30 [(.t .d1 .d1)] [])),
    .p (.H (.mupd .int (.l 1) (.c (.int .i64 1)) (.l 0))),
    .p (.L (.fn 31 [(.t .d1 .d1)] [])),
    .p (.H (.mupd .int (.l 3) (.c (.int .i64 2)) (.l 0))),
    .p (.L (.fn 32 [(.t .d1 .d1)] [])),
    .p (.H (.mupd .int (.l 5) (.c (.int .i64 3)) (.l 0))),
    .p (.L (.fn 33 [(.t .d1 .d1)] [])),
    .p (.H (.mupd .int (.l 7) (.c (.int .i64 4)) (.l 0))),
    .p (.L (.fn 34 [(.t .d1 .d1)] [])),
    .p (.H (.mupd .int (.l 9) (.c (.int .i64 5)) (.l 0))),
    .p (.L (.fn 34 [(.t .d1 .d1)] [])),
    .p (.H (.mupd .int (.l 11) (.c (.int .i64 6)) (.l 0))),
    .p (.L (.fn 35 [(.t .d1 .d1)] [])),
    .p (.H (.mupd .int (.l 13) (.c (.int .i64 7)) (.l 0))),
    .p (.L (.fn 36 [(.t .d1 .d1)] [])),
    .p (.H (.mupd .int (.l 15) (.c (.int .i64 8)) (.l 0))),
    .p (.L (.nilck (.t .d1 .d1))),
    .p (.L (.faddr 24 (.l 0))),
    .p (.H (.store 1 (.l 0) (.l 18)))])
  (.seq (.seq (.reg 15 [.p (.L (.faddr 2 (.t .d0 .d4))),
    .s .d1 .d5 (.L (.load (.l 0))),
    .s .d1 .d3 (.L (.len false (.l 0))),
    .s .d1 .d2 (.L (.mov (.c (.int .i64 0))))])
  (.block 0 (.loop (.seq (.reg 1 [.s .d1 .d4 (.L (.bin .lss (.t .d1 .d2) (.t .d1 .d3)))])
  (.seq (.cond (.t .d1 .d4) .skip (.exit 0))
  (.seq (.block 1 (.seq (.reg 15 [.p (.L (.iaddr 2 (.t .d1 .d5) (.t .d1 .d2))),
    .p (.L (.loadn 2 (.l 0))),
    .s .d1 .d6 (.L (.alloc [.str 0 0, .int .i64 0])),
    .p (.H (.store 2 (.l 0) (.l 1)))])
  (.seq (.reg 1006 [.p (.L (.faddr 0 (.t .d1 .d6))),
    .p (.L (.load (.l 0))),
    .p (.H (.call 37 [(.t .d1 .d1), (.l 0)])),
    .p (.L (.ext 0 (.l 0))),
    .p (.L (.ext 1 (.l 1))),
    .p (.L (.alloc [.slN, .slN])),
    .p (.H (.store 2 (.l 0) (.l 2))),
    .s .d1 .d7 (.L (.mov (.l 2)))])
  (.seq (.reg 2 [.s .d2 .d0 (.L (.bin .neq (.t .d1 .d7) (.c (.int .i64 0))))])
  (.cond (.t .d2 .d0) (.reg 62 [.p (.L (.faddr 1 (.t .d1 .d6))),
    .p (.L (.load (.l 0))),
    .p (.L (.faddr 0 (.t .d1 .d6))),
    .p (.L (.load (.l 0))),
    .p (.H (.call 38 [(.t .d1 .d1), (.l 2), (.c (.int .i64 5)), (.l 0)]))]) .skip)))))
  (.reg 1 [.s .d1 .d2 (.L (.bin .add (.t .d1 .d2) (.c (.int .i64 1))))])))))))
  (.seq (.seq (.reg 15 [.p (.L (.faddr 4 (.t .d0 .d4))),
    .s .d2 .d4 (.L (.load (.l 0))),
    .s .d2 .d2 (.L (.len false (.l 0))),
    .s .d2 .d1 (.L (.mov (.c (.int .i64 0))))])
  (.block 2 (.loop (.seq (.reg 1 [.s .d2 .d3 (.L (.bin .lss (.t .d2 .d1) (.t .d2 .d2)))])
  (.seq (.cond (.t .d2 .d3) .skip (.exit 2))
  (.seq (.block 3 (.seq (.reg 15 [.p (.L (.iaddr 8 (.t .d2 .d4) (.t .d2 .d1))),
    .p (.L (.loadn 8 (.l 0))),
    .s .d2 .d5 (.L (.alloc [.str 0 0, .slN, .bool false, .str 0 0, .str 0 0, .slN, .slN, .int .i64 0])),
    .p (.H (.store 8 (.l 0) (.l 1)))])
  (.seq (.reg 508 [.p (.L (.loadn 8 (.t .d2 .d5))),
    .p (.L (.nilck (.t .d1 .d1))),
    .p (.L (.faddr 14 (.l 0))),
    .p (.H (.store 8 (.l 0) (.l 2))),
    .p (.L (.nilck (.t .d1 .d1))),
    .p (.L (.faddr 22 (.l 0))),
    .p (.H (.store 1 (.l 0) (.c (.slN))))])
  (.seq (.seq (.reg 15 [.p (.L (.faddr 1 (.t .d2 .d5))),
    .s .d3 .d1 (.L (.load (.l 0))),
    .s .d2 .d7 (.L (.len false (.l 0))),
    .s .d2 .d6 (.L (.mov (.c (.int .i64 0))))])
  (.block 4 (.loop (.seq (.reg 1 [.s .d3 .d0 (.L (.bin .lss (.t .d2 .d6) (.t .d2 .d7)))])
  (.seq (.cond (.t .d3 .d0) .skip (.exit 4))
  (.seq (.block 5 (.seq (.reg 15 [.p (.L (.iaddr 3 (.t .d3 .d1) (.t .d2 .d6))),
    .p (.L (.loadn 3 (.l 0))),
    .s .d3 .d2 (.L (.alloc [.str 0 0, .str 0 0, .int .i64 0])),
    .p (.H (.store 3 (.l 0) (.l 1)))])
  (.draw [0, 1, 2, 3, 4, 5, 6, 7, 8, 9, 10, 11, 12, 13, 14, 15, 16] [⟨.p (.L (.mov (.t .d1 .d1))), []⟩,
    ⟨.p (.L (.mov (.t .d1 .d1))), []⟩,
    ⟨.p (.L (.nilck (.l 0))), []⟩,
    ⟨.p (.L (.faddr 22 (.l 0))), []⟩,
    ⟨.p (.L (.load (.l 0))), []⟩,
    ⟨.p (.L (.faddr 0 (.t .d3 .d2))), []⟩,
    ⟨.p (.L (.load (.l 0))), []⟩,
    ⟨.p (.L (.mov (.t .d1 .d1))), []⟩,
    ⟨.p (.L (.faddr 1 (.t .d3 .d2))), []⟩,
    ⟨.p (.L (.load (.l 0))), []⟩,
    ⟨.p (.H (.call 39 [(.l 2), (.l 0)])), [5, 3]⟩,
    ⟨.p (.L (.build [.str 0 0, .int .i64 0] [(0, 1, (.l 4)), (1, 1, (.l 0))])), []⟩,
    ⟨.p (.L (.bsl 2 1 [.str 0 0, .int .i64 0] [(0, 2, (.l 0))])), []⟩,
    ⟨.p (.H (.append 2 24 (.l 8) (.l 0))), []⟩,
    ⟨.p (.L (.nilck (.l 13))), []⟩,
    ⟨.p (.L (.faddr 22 (.l 0))), []⟩,
    ⟨.p (.H (.store 1 (.l 0) (.l 2))), []⟩])))
  (.reg 1 [.s .d2 .d6 (.L (.bin .add (.t .d2 .d6) (.c (.int .i64 1))))])))))))
  (.draw [0, 1, 2, 3, 4, 5, 6, 7] [⟨.p (.L (.mov (.t .d1 .d1))), []⟩,
    ⟨.p (.L (.faddr 6 (.t .d2 .d5))), []⟩,
    ⟨.p (.L (.load (.l 0))), []⟩,
    ⟨.p (.L (.mov (.t .d1 .d1))), []⟩,
    ⟨.p (.L (.faddr 4 (.t .d2 .d5))), []⟩,
    ⟨.p (.L (.load (.l 0))), []⟩,
    ⟨.p (.H (.call 39 [(.l 2), (.l 0)])), [3]⟩,
    ⟨.p (.H (.call 40 [(.l 6), (.l 4), (.l 0)])), []⟩])))))
  (.reg 1 [.s .d2 .d1 (.L (.bin .add (.t .d2 .d1) (.c (.int .i64 1))))])))))))
  (.seq (.reg 14 [.p (.L (.nilck (.t .d1 .d1))),
    .p (.L (.faddr 23 (.l 0))),
    .s .d0 .d3 (.L (.load (.l 0)))])
  .ret))))))))⟩
def i19 : Fun :=
  ⟨1, [0, 2, 3, 4], [.tmp .d0 .d1], (.seq (.reg 1 [.s .d0 .d1 (.L (.mov (.c (.bool false))))])
  (.seq (.seq (.reg 1 [.s .d0 .d2 (.L (.mov (.t .d0 .d0)))])
  (.block 0 (.seq (.seq (.reg 1 [.s .d0 .d3 (.L (.bins .eql (.t .d0 .d2) (.c (.str 6 111516500389741))))])
  (.cond (.t .d0 .d3) .skip (.seq (.reg 1 [.s .d0 .d3 (.L (.bins .eql (.t .d0 .d2) (.c (.str 6 128034844732777))))])
  (.cond (.t .d0 .d3) .skip (.seq (.reg 1 [.s .d0 .d3 (.L (.bins .eql (.t .d0 .d2) (.c (.str 3 7496054))))])
  (.cond (.t .d0 .d3) .skip (.seq (.reg 1 [.s .d0 .d3 (.L (.bins .eql (.t .d0 .d2) (.c (.str 4 1668248176))))])
  (.cond (.t .d0 .d3) .skip (.seq (.reg 1 [.s .d0 .d3 (.L (.bins .eql (.t .d0 .d2) (.c (.str 2 25456))))])
  (.cond (.t .d0 .d3) .skip (.seq (.reg 1 [.s .d0 .d3 (.L (.bins .eql (.t .d0 .d2) (.c (.str 4 1936028533))))])
  (.cond (.t .d0 .d3) .skip (.seq (.reg 1 [.s .d0 .d3 (.L (.bins .eql (.t .d0 .d2) (.c (.str 3 7628140))))])
  (.cond (.t .d0 .d3) .skip (.seq (.reg 1 [.s .d0 .d3 (.L (.bins .eql (.t .d0 .d2) (.c (.str 4 1819042147))))])
  (.cond (.t .d0 .d3) .skip (.seq (.reg 1 [.s .d0 .d3 (.L (.bins .eql (.t .d0 .d2) (.c (.str 2 26217))))])
  (.cond (.t .d0 .d3) .skip (.seq (.reg 1 [.s .d0 .d3 (.L (.bins .eql (.t .d0 .d2) (.c (.str 4 1702063205))))])
  (.cond (.t .d0 .d3) .skip (.seq (.reg 1 [.s .d0 .d3 (.L (.bins .eql (.t .d0 .d2) (.c (.str 5 435610544247))))])
  (.cond (.t .d0 .d3) .skip (.seq (.reg 1 [.s .d0 .d3 (.L (.bins .eql (.t .d0 .d2) (.c (.str 4 1953066341))))])
  (.cond (.t .d0 .d3) .skip (.seq (.reg 1 [.s .d0 .d3 (.L (.bins .eql (.t .d0 .d2) (.c (.str 6 128009175786866))))])
  (.cond (.t .d0 .d3) .skip (.seq (.reg 1 [.s .d0 .d3 (.L (.bins .eql (.t .d0 .d2) (.c (.str 4 1885956979))))])
  (.cond (.t .d0 .d3) .skip (.reg 1 [.s .d0 .d3 (.L (.bins .eql (.t .d0 .d2) (.c (.str 6 126909394608492))))])))))))))))))))))))))))))))))
  (.cond (.t .d0 .d3) (.seq (.reg 1 [.s .d0 .d1 (.L (.mov (.c (.bool true))))])
  .ret) .skip))))
  (.seq (.reg 1 [.s .d0 .d1 (.L (.mov (.c (.bool false))))])
  .ret)))⟩
def i21 : Fun :=
  ⟨0, [0], [.cell .d0 .d0 (some 6)], (.seq (.reg 1 [.s .d0 .d0 (.L (.alloc [.slN, .slN, .slN, .slN, .int .i64 0, .int .i64 0]))])
  (.seq (.reg 3 [.p (.H (.call 13 [(.c (.str 18 5175151693920292653173273800325353307267436))])),
    .p (.H (.store 6 (.t .d0 .d0) (.l 0)))])
  .ret))⟩
def i25 : Fun :=
  ⟨1, [0, 2, 3, 4, 14, 6, 18, 7, 38, 55, 67, 70, 8, 95, 102, 106, 9, 5, 119, 10, 132, 138, 165, 11, 26], [.tmp .d0 .d1, .tmp .d0 .d2, .tmp .d0 .d3], (.seq (.reg 7 [.s .d0 .d1 (.L (.mov (.c (.slN)))),
    .s .d0 .d2 (.L (.mov (.c (.int .i64 0)))),
    .s .d0 .d3 (.L (.mov (.c (.int .i64 0))))])
  (.seq (.seq (.reg 6 [.p (.L (.len true (.t .d0 .d0))),
    .s .d0 .d4 (.L (.bin .gtr (.l 0) (.c (.int .i64 8192))))])
  (.cond (.t .d0 .d4) (.seq (.reg 7 [.s .d0 .d1 (.L (.mov (.c (.slN)))),
    .s .d0 .d2 (.L (.mov (.c (.int .i64 9)))),
    .s .d0 .d3 (.L (.mov (.c (.int .i64 8192))))])
  .ret) .skip))
  (.seq (.reg 1 [.s .d2 .d1 (.L (.mov (.c (.slN))))])
  (.seq (.seq (.reg 1 [.s .d0 .d5 (.L (.mov (.c (.int .i64 0))))])
  (.block 0 (.loop (.seq (.seq (.reg 12 [.p (.L (.len true (.t .d0 .d0))),
    .s .d0 .d6 (.L (.bin .lss (.t .d0 .d5) (.l 0)))])
  (.cond (.t .d0 .d6) .skip (.exit 0)))
  (.block 1 (.seq (.reg 4 [.s .d0 .d7 (.L (.istr (.t .d0 .d0) (.t .d0 .d5)))])
  (.block 2 (.seq (.reg 15290 [.p (.L (.bin .eql (.t .d0 .d7) (.c (.int .u8 32)))),
    .g (.l 0) false (.L (.mov (.t .d0 .d7))),
    .g (.l 1) false (.L (.bin .eql (.l 0) (.c (.int .u8 9)))),
    .p (.L (.pick (.l 2) (.c (.bool true)) (.l 0))),
    .g (.l 0) false (.L (.mov (.t .d0 .d7))),
    .g (.l 1) false (.L (.bin .eql (.l 0) (.c (.int .u8 10)))),
    .p (.L (.pick (.l 2) (.c (.bool true)) (.l 0))),
    .g (.l 0) false (.L (.mov (.t .d0 .d7))),
    .g (.l 1) false (.L (.bin .eql (.l 0) (.c (.int .u8 13)))),
    .s .d1 .d0 (.L (.pick (.l 2) (.c (.bool true)) (.l 0)))])
  (.cond (.t .d1 .d0) (.reg 2 [.s .d0 .d5 (.L (.bin .add (.t .d0 .d5) (.c (.int .i64 1))))]) (.seq (.reg 2 [.s .d1 .d1 (.L (.bin .eql (.t .d0 .d7) (.c (.int .u8 35))))])
  (.cond (.t .d1 .d1) (.block 3 (.loop (.seq (.seq (.reg 1004 [.p (.L (.len true (.t .d0 .d0))),
    .p (.L (.bin .lss (.t .d0 .d5) (.l 0))),
    .g (.l 0) true (.L (.mov (.t .d0 .d0))),
    .g (.l 1) true (.L (.mov (.t .d0 .d5))),
    .g (.l 2) true (.L (.istr (.l 1) (.l 0))),
    .g (.l 3) true (.L (.bin .neq (.l 0) (.c (.int .u8 10)))),
    .s .d1 .d2 (.L (.pick (.l 4) (.l 0) (.c (.bool false))))])
  (.cond (.t .d1 .d2) .skip (.exit 3)))
  (.block 4 (.reg 2 [.s .d0 .d5 (.L (.bin .add (.t .d0 .d5) (.c (.int .i64 1))))]))))) (.seq (.reg 2 [.s .d1 .d3 (.H (.call 52 [(.t .d0 .d7)]))])
  (.cond (.t .d1 .d3) (.seq (.reg 2 [.s .d1 .d4 (.L (.mov (.t .d0 .d5)))])
  (.seq (.block 5 (.loop (.seq (.seq (.reg 4194284 [.p (.L (.len true (.t .d0 .d0))),
    .p (.L (.bin .lss (.t .d1 .d4) (.l 0))),
    .g (.l 0) true (.L (.mov (.t .d0 .d0))),
    .g (.l 1) true (.L (.mov (.t .d1 .d4))),
    .g (.l 2) true (.L (.istr (.l 1) (.l 0))),
    .g (.l 3) true (.H (.call 52 [(.l 0)])),
    .g (.l 4) true (.L (.mov (.l 0))),
    .g (.l 0) false (.L (.mov (.t .d0 .d0))),
    .g (.l 1) false (.L (.mov (.t .d1 .d4))),
    .g (.l 2) false (.L (.istr (.l 1) (.l 0))),
    .g (.l 3) false (.H (.call 53 [(.l 0)])),
    .g (.l 9) true (.L (.pick (.l 4) (.c (.bool true)) (.l 0))),
    .g (.l 10) true (.L (.mov (.l 0))),
    .g (.l 0) false (.L (.mov (.t .d0 .d0))),
    .g (.l 1) false (.L (.mov (.t .d1 .d4))),
    .g (.l 2) false (.L (.istr (.l 1) (.l 0))),
    .g (.l 3) false (.L (.bin .eql (.l 0) (.c (.int .u8 95)))),
    .g (.l 15) true (.L (.pick (.l 4) (.c (.bool true)) (.l 0))),
    .s .d1 .d5 (.L (.pick (.l 16) (.l 0) (.c (.bool false))))])
  (.cond (.t .d1 .d5) .skip (.exit 5)))
  (.block 6 (.reg 2 [.s .d1 .d4 (.L (.bin .add (.t .d1 .d4) (.c (.int .i64 1))))])))))
  (.seq (.reg 1 [.s .d2 .d0 (.L (.mov (.c (.int .i64 1))))])
  (.seq (.seq (.reg 24 [.p (.L (.sstr (.t .d0 .d0) (some (.t .d0 .d5)) (some (.t .d1 .d4)))),
    .s .d1 .d6 (.H (.call 19 [(.l 0)]))])
  (.cond (.t .d1 .d6) (.reg 1 [.s .d2 .d0 (.L (.mov (.c (.int .i64 3))))]) .skip))
  (.seq (.seq (.reg 12 [.p (.L (.bin .sub (.t .d1 .d4) (.t .d0 .d5))),
    .s .d1 .d7 (.L (.bin .gtr (.l 0) (.c (.int .i64 20))))])
  (.cond (.t .d1 .d7) (.seq (.reg 14 [.s .d0 .d1 (.L (.mov (.c (.slN)))),
    .s .d0 .d2 (.L (.mov (.c (.int .i64 9)))),
    .s .d0 .d3 (.L (.mov (.t .d0 .d5)))])
  .ret) .skip))
  (.seq (.reg 928 [.p (.L (.sstr (.t .d0 .d0) (some (.t .d0 .d5)) (some (.t .d1 .d4)))),
    .p (.L (.build [.int .i64 0, .str 0 0, .int .i64 0] [(0, 1, (.t .d2 .d0)), (1, 1, (.l 0)), (2, 1, (.t .d0 .d5))])),
    .p (.L (.bsl 3 1 [.int .i64 0, .str 0 0, .int .i64 0] [(0, 3, (.l 0))])),
    .s .d2 .d1 (.H (.append 3 32 (.t .d2 .d1) (.l 0)))])
  (.reg 2 [.s .d0 .d5 (.L (.mov (.t .d1 .d4)))]))))))) (.seq (.reg 2 [.s .d2 .d2 (.H (.call 53 [(.t .d0 .d7)]))])
  (.cond (.t .d2 .d2) (.seq (.reg 2 [.s .d2 .d3 (.L (.mov (.t .d0 .d5)))])
  (.seq (.block 7 (.loop (.seq (.seq (.reg 1004 [.p (.L (.len true (.t .d0 .d0))),
    .p (.L (.bin .lss (.t .d2 .d3) (.l 0))),
    .g (.l 0) true (.L (.mov (.t .d0 .d0))),
    .g (.l 1) true (.L (.mov (.t .d2 .d3))),
    .g (.l 2) true (.L (.istr (.l 1) (.l 0))),
    .g (.l 3) true (.H (.call 53 [(.l 0)])),
    .s .d2 .d4 (.L (.pick (.l 4) (.l 0) (.c (.bool false))))])
  (.cond (.t .d2 .d4) .skip (.exit 7)))
  (.block 8 (.reg 2 [.s .d2 .d3 (.L (.bin .add (.t .d2 .d3) (.c (.int .i64 1))))])))))
  (.seq (.seq (.reg 12 [.p (.L (.bin .sub (.t .d2 .d3) (.t .d0 .d5))),
    .s .d2 .d5 (.L (.bin .gtr (.l 0) (.c (.int .i64 9))))])
  (.cond (.t .d2 .d5) (.seq (.reg 14 [.s .d0 .d1 (.L (.mov (.c (.slN)))),
    .s .d0 .d2 (.L (.mov (.c (.int .i64 9)))),
    .s .d0 .d3 (.L (.mov (.t .d0 .d5)))])
  .ret) .skip))
  (.seq (.seq (.reg 67108588 [.p (.L (.bin .sub (.t .d2 .d3) (.t .d0 .d5))),
    .p (.L (.bin .gtr (.l 0) (.c (.int .i64 1)))),
    .g (.l 0) true (.L (.mov (.t .d0 .d7))),
    .g (.l 1) true (.L (.bin .eql (.l 0) (.c (.int .u8 48)))),
    .p (.L (.pick (.l 2) (.l 0) (.c (.bool false)))),
    .g (.l 0) false (.L (.mov (.t .d2 .d3))),
    .g (.l 1) false (.L (.mov (.t .d0 .d0))),
    .g (.l 2) false (.L (.len true (.l 0))),
    .g (.l 3) false (.L (.bin .lss (.l 2) (.l 0))),
    .g (.l 4) false (.L (.mov (.l 0))),
    .g (.l 0) true (.L (.mov (.t .d0 .d0))),
    .g (.l 1) true (.L (.mov (.t .d2 .d3))),
    .g (.l 2) true (.L (.istr (.l 1) (.l 0))),
    .g (.l 3) true (.H (.call 52 [(.l 0)])),
    .g (.l 4) true (.L (.mov (.l 0))),
    .g (.l 0) false (.L (.mov (.t .d0 .d0))),
    .g (.l 1) false (.L (.mov (.t .d2 .d3))),
    .g (.l 2) false (.L (.istr (.l 1) (.l 0))),
    .g (.l 3) false (.L (.bin .eql (.l 0) (.c (.int .u8 95)))),
    .g (.l 9) true (.L (.pick (.l 4) (.c (.bool true)) (.l 0))),
    .g (.l 15) false (.L (.pick (.l 10) (.l 0) (.c (.bool false)))),
    .s .d2 .d6 (.L (.pick (.l 16) (.c (.bool true)) (.l 0)))])
  (.cond (.t .d2 .d6) (.seq (.reg 14 [.s .d0 .d1 (.L (.mov (.c (.slN)))),
    .s .d0 .d2 (.L (.mov (.c (.int .i64 10)))),
    .s .d0 .d3 (.L (.mov (.t .d0 .d5)))])
  .ret) .skip))
  (.seq (.reg 464 [.p (.L (.sstr (.t .d0 .d0) (some (.t .d0 .d5)) (some (.t .d2 .d3)))),
    .p (.L (.build [.int .i64 0, .str 0 0, .int .i64 0] [(0, 1, (.c (.int .i64 2))), (1, 1, (.l 0)), (2, 1, (.t .d0 .d5))])),
    .p (.L (.bsl 3 1 [.int .i64 0, .str 0 0, .int .i64 0] [(0, 3, (.l 0))])),
    .s .d2 .d1 (.H (.append 3 32 (.t .d2 .d1) (.l 0)))])
  (.reg 2 [.s .d0 .d5 (.L (.mov (.t .d2 .d3)))])))))) (.seq (.reg 4 [.s .d2 .d7 (.H (.call 54 [(.t .d0 .d0), (.t .d0 .d5)]))])
  (.seq (.seq (.reg 2 [.s .d3 .d0 (.L (.bins .eql (.t .d2 .d7) (.c (.str 0 0))))])
  (.cond (.t .d3 .d0) (.seq (.reg 14 [.s .d0 .d1 (.L (.mov (.c (.slN)))),
    .s .d0 .d2 (.L (.mov (.c (.int .i64 10)))),
    .s .d0 .d3 (.L (.mov (.t .d0 .d5)))])
  .ret) .skip))
  (.seq (.reg 56 [.p (.L (.build [.int .i64 0, .str 0 0, .int .i64 0] [(0, 1, (.c (.int .i64 4))), (1, 1, (.t .d2 .d7)), (2, 1, (.t .d0 .d5))])),
    .p (.L (.bsl 3 1 [.int .i64 0, .str 0 0, .int .i64 0] [(0, 3, (.l 0))])),
    .s .d2 .d1 (.H (.append 3 32 (.t .d2 .d1) (.l 0)))])
  (.reg 12 [.p (.L (.len true (.t .d2 .d7))),
    .s .d0 .d5 (.L (.bin .add (.t .d0 .d5) (.l 0)))])))))))))))))))))))
  (.seq (.reg 444 [.p (.L (.len true (.t .d0 .d0))),
    .p (.L (.build [.int .i64 0, .str 0 0, .int .i64 0] [(2, 1, (.l 0))])),
    .p (.L (.bsl 3 1 [.int .i64 0, .str 0 0, .int .i64 0] [(0, 3, (.l 0))])),
    .s .d0 .d1 (.H (.append 3 32 (.t .d2 .d1) (.l 0))),
    .s .d0 .d2 (.L (.mov (.c (.int .i64 0)))),
    .s .d0 .d3 (.L (.mov (.c (.int .i64 0))))])
  .ret)))))⟩
def i26 : Fun :=
  ⟨1, [0, 2, 14, 3, 45, 47, 56], [.cell .d0 .d1 (some 5)], (.seq (.reg 1 [.s .d0 .d1 (.L (.alloc [.str 0 0, .int .i64 0, .slN, .slN, .slN]))])
  (.seq (.reg 2 [.p (.H (.call 55 [(.t .d0 .d0), (.c (.str 6 111516500389741))]))])
  (.seq (.reg 122 [.p (.H (.call 56 [(.t .d0 .d0)])),
    .p (.H (.call 57 [(.t .d0 .d0)])),
    .p (.L (.build [.str 0 0, .int .i64 0, .slN, .slN, .slN] [(1, 1, (.l 1)), (0, 1, (.l 0))])),
    .s .d0 .d3 (.L (.alloc [.str 0 0, .int .i64 0, .slN, .slN, .slN])),
    .p (.H (.store 5 (.l 0) (.l 1)))])
  (.seq (.reg 2 [.p (.H (.call 55 [(.t .d0 .d0), (.c (.str 1 59))]))])
  (.seq (.block 0 (.loop (.seq (.seq (.reg 2 [.s .d0 .d2 (.H (.call 58 [(.t .d0 .d0), (.c (.str 6 128034844732777))]))])
  (.cond (.t .d0 .d2) .skip (.exit 0)))
  (.block 1 (.seq (.draw [0, 1, 2, 4, 3, 5, 6, 7, 8, 9, 10] [⟨.p (.L (.faddr 2 (.t .d0 .d3))), []⟩,
    ⟨.p (.L (.load (.l 0))), []⟩,
    ⟨.p (.L (.mov (.t .d0 .d0))), []⟩,
    ⟨.p (.L (.mov (.t .d0 .d0))), []⟩,
    ⟨.p (.H (.call 56 [(.l 1)])), [2]⟩,
    ⟨.p (.H (.call 57 [(.l 1)])), [3]⟩,
    ⟨.p (.L (.build [.str 0 0, .int .i64 0] [(1, 1, (.l 1)), (0, 1, (.l 0))])), []⟩,
    ⟨.p (.L (.bsl 2 1 [.str 0 0, .int .i64 0] [(0, 2, (.l 0))])), []⟩,
    ⟨.p (.H (.append 2 24 (.l 6) (.l 0))), []⟩,
    ⟨.p (.L (.faddr 2 (.t .d0 .d3))), []⟩,
    ⟨.p (.H (.store 1 (.l 0) (.l 1))), []⟩])
  (.reg 2 [.p (.H (.call 55 [(.t .d0 .d0), (.c (.str 1 59))]))]))))))
  (.seq (.block 2 (.loop (.seq (.seq (.draw [0, 1, 2, 3, 4, 5, 6, 7, 8, 9, 10, 11, 12, 13, 14, 15, 16, 17, 18] [⟨.p (.L (.mov (.t .d0 .d0))), []⟩,
    ⟨.p (.L (.nilck (.l 0))), []⟩,
    ⟨.p (.L (.faddr 3 (.l 0))), []⟩,
    ⟨.p (.L (.load (.l 0))), []⟩,
    ⟨.p (.L (.bin .eql (.l 0) (.c (.int .i64 0)))), []⟩,
    ⟨.p (.L (.mov (.l 0))), []⟩,
    ⟨.g (.l 0) true (.L (.mov (.t .d0 .d0))), []⟩,
    ⟨.g (.l 1) true (.L (.nilck (.l 0))), []⟩,
    ⟨.g (.l 2) true (.L (.faddr 0 (.l 0))), []⟩,
    ⟨.g (.l 3) true (.L (.load (.l 0))), []⟩,
    ⟨.g (.l 4) true (.L (.mov (.t .d0 .d0))), []⟩,
    ⟨.g (.l 5) true (.L (.nilck (.l 0))), []⟩,
    ⟨.g (.l 6) true (.L (.faddr 1 (.l 0))), []⟩,
    ⟨.g (.l 7) true (.L (.load (.l 0))), []⟩,
    ⟨.g (.l 8) true (.L (.iaddr 3 (.l 4) (.l 0))), []⟩,
    ⟨.g (.l 9) true (.L (.faddr 0 (.l 0))), []⟩,
    ⟨.g (.l 10) true (.L (.load (.l 0))), []⟩,
    ⟨.g (.l 11) true (.L (.bin .neq (.l 0) (.c (.int .i64 0)))), []⟩,
    ⟨.s .d0 .d4 (.L (.pick (.l 12) (.l 0) (.c (.bool false)))), []⟩])
  (.cond (.t .d0 .d4) .skip (.exit 2)))
  (.block 3 (.seq (.reg 2 [.s .d0 .d5 (.H (.call 58 [(.t .d0 .d0), (.c (.str 3 7496054))]))])
  (.cond (.t .d0 .d5) (.draw [0, 1, 2, 3, 4, 5, 6, 7] [⟨.p (.L (.faddr 3 (.t .d0 .d3))), []⟩,
    ⟨.p (.L (.load (.l 0))), []⟩,
    ⟨.p (.L (.mov (.t .d0 .d0))), []⟩,
    ⟨.p (.H (.call 59 [(.l 0)])), [1]⟩,
    ⟨.p (.L (.bsl 4 1 [.str 0 0, .str 0 0, .int .i64 0, .int .i64 0] [(0, 4, (.l 0))])), []⟩,
    ⟨.p (.H (.append 4 48 (.l 3) (.l 0))), []⟩,
    ⟨.p (.L (.faddr 3 (.t .d0 .d3))), []⟩,
    ⟨.p (.H (.store 1 (.l 0) (.l 1))), []⟩]) (.seq (.reg 2 [.s .d0 .d6 (.H (.call 58 [(.t .d0 .d0), (.c (.str 4 1668248176))]))])
  (.cond (.t .d0 .d6) (.draw [0, 1, 2, 3, 4, 5, 6, 7] [⟨.p (.L (.faddr 4 (.t .d0 .d3))), []⟩,
    ⟨.p (.L (.load (.l 0))), []⟩,
    ⟨.p (.L (.mov (.t .d0 .d0))), []⟩,
    ⟨.p (.H (.call 60 [(.l 0)])), [1]⟩,
    ⟨.p (.L (.bsl 8 1 [.str 0 0, .slN, .bool false, .str 0 0, .str 0 0, .slN, .slN, .int .i64 0] [(0, 8, (.l 0))])), []⟩,
    ⟨.p (.H (.append 8 136 (.l 3) (.l 0))), []⟩,
    ⟨.p (.L (.faddr 4 (.t .d0 .d3))), []⟩,
    ⟨.p (.H (.store 1 (.l 0) (.l 1))), []⟩]) (.reg 2 [.p (.H (.call 61 [(.t .d0 .d0), (.c (.int .i64 11))]))])))))))))
  (.seq (.reg 3 [.p (.L (.loadn 5 (.t .d0 .d3))),
    .p (.H (.store 5 (.t .d0 .d1) (.l 0)))])
  .ret)))))))⟩
def i27 : Fun :=
  ⟨1, [0, 2, 3, 4, 6, 17, 7, 5, 8, 9], [.cell .d0 .d1 (some 6), .tmp .d0 .d2, .tmp .d0 .d3], (.seq (.reg 7 [.s .d0 .d1 (.L (.alloc [.slN, .slN, .slN, .slN, .int .i64 0, .int .i64 0])),
    .s .d0 .d2 (.L (.mov (.c (.int .i64 0)))),
    .s .d0 .d3 (.L (.mov (.c (.int .i64 0))))])
  (.seq (.reg 506 [.p (.H (.call 62 [(.t .d0 .d0)])),
    .p (.L (.ext 0 (.l 0))),
    .p (.L (.ext 1 (.l 1))),
    .p (.L (.ext 2 (.l 2))),
    .s .d0 .d7 (.L (.mov (.l 2))),
    .s .d0 .d4 (.L (.mov (.l 2))),
    .s .d0 .d6 (.L (.mov (.l 2)))])
  (.seq (.seq (.reg 2 [.s .d0 .d5 (.L (.bin .neq (.t .d0 .d4) (.c (.int .i64 0))))])
  (.cond (.t .d0 .d5) (.seq (.reg 57 [.p (.L (.build [.slN, .slN, .slN, .slN, .int .i64 0, .int .i64 0] [])),
    .p (.H (.store 6 (.t .d0 .d1) (.l 0))),
    .s .d0 .d2 (.L (.mov (.t .d0 .d4))),
    .s .d0 .d3 (.L (.mov (.t .d0 .d6)))])
  .ret) .skip))
  (.seq (.reg 250 [.p (.H (.call 63 [(.t .d0 .d7)])),
    .p (.L (.ext 0 (.l 0))),
    .p (.L (.ext 1 (.l 1))),
    .s .d1 .d0 (.L (.alloc [.slN, .slN, .slN, .slN, .int .i64 0, .int .i64 0])),
    .p (.H (.store 6 (.l 0) (.l 2))),
    .s .d1 .d1 (.L (.mov (.l 2)))])
  (.seq (.reg 29 [.p (.L (.loadn 6 (.t .d1 .d0))),
    .p (.H (.store 6 (.t .d0 .d1) (.l 0))),
    .s .d0 .d2 (.L (.mov (.t .d1 .d1))),
    .s .d0 .d3 (.L (.mov (.c (.int .i64 0))))])
  .ret)))))⟩
def i28 : Fun :=
  ⟨2, [0, 1, 4, 5, 2, 3, 6, 28, 37, 36, 38, 35, 7, 9, 55, 54, 56, 53, 11], [.cell .d0 .d2 (some 2), .tmp .d0 .d3], (.seq (.reg 15 [.s .d0 .d4 (.L (.box 5 (.t .d0 .d0))),
    .s .d0 .d5 (.L (.box 6 (.t .d0 .d1))),
    .s .d0 .d2 (.L (.alloc [.slN, .slN])),
    .s .d0 .d3 (.L (.mov (.c (.slN))))])
  (.seq (.reg 31 [.p (.L (.faddr 0 (.t .d0 .d4))),
    .p (.L (.load (.l 0))),
    .p (.L (.loadn 6 (.t .d0 .d5))),
    .p (.L (.build [.str 0 0, .slN, .slN, .slN, .slN, .int .i64 0, .int .i64 0, .slN] [(0, 1, (.l 1)), (1, 6, (.l 0))])),
    .s .d0 .d6 (.L (.box 8 (.l 0)))])
  (.seq (.reg 6 [.p (.L (.loadn 5 (.t .d0 .d4))),
    .p (.H (.call 64 [(.t .d0 .d6), (.l 0)]))])
  (.seq (.reg 6 [.p (.L (.loadn 5 (.t .d0 .d4))),
    .p (.H (.call 65 [(.t .d0 .d6), (.l 0)]))])
  (.seq (.seq (.reg 62 [.p (.L (.nilck (.t .d0 .d6))),
    .p (.L (.faddr 7 (.l 0))),
    .p (.L (.load (.l 0))),
    .p (.L (.len false (.l 0))),
    .s .d0 .d7 (.L (.bin .gtr (.l 0) (.c (.int .i64 0))))])
  (.cond (.t .d0 .d7) (.seq (.draw [0, 1, 2, 3, 4, 5, 6] [⟨.p (.L (.build [.slN, .slN] [])), []⟩,
    ⟨.p (.L (.mov (.t .d0 .d6))), []⟩,
    ⟨.p (.L (.nilck (.l 0))), []⟩,
    ⟨.p (.L (.faddr 7 (.l 0))), []⟩,
    ⟨.p (.L (.load (.l 0))), []⟩,
    ⟨.p (.H (.store 2 (.t .d0 .d2) (.l 4))), [0]⟩,
    ⟨.s .d0 .d3 (.L (.mov (.l 1))), []⟩])
  .ret) .skip))
  (.seq (.reg 1 [.s .d1 .d4 (.L (.alloc [.slN, .slN]))])
  (.seq (.seq (.reg 15 [.p (.L (.faddr 3 (.t .d0 .d4))),
    .s .d1 .d3 (.L (.load (.l 0))),
    .s .d1 .d1 (.L (.len false (.l 0))),
    .s .d1 .d0 (.L (.mov (.c (.int .i64 0))))])
  (.block 0 (.loop (.seq (.reg 1 [.s .d1 .d2 (.L (.bin .lss (.t .d1 .d0) (.t .d1 .d1)))])
  (.seq (.cond (.t .d1 .d2) .skip (.exit 0))
  (.seq (.block 1 (.seq (.reg 15 [.p (.L (.iaddr 4 (.t .d1 .d3) (.t .d1 .d0))),
    .p (.L (.loadn 4 (.l 0))),
    .s .d1 .d5 (.L (.alloc [.str 0 0, .str 0 0, .int .i64 0, .int .i64 0])),
    .p (.H (.store 4 (.l 0) (.l 1)))])
  (.reg 2047 [.p (.L (.faddr 0 (.t .d1 .d4))),
    .p (.L (.load (.l 0))),
    .p (.L (.faddr 0 (.t .d1 .d5))),
    .p (.L (.load (.l 0))),
    .p (.L (.faddr 1 (.t .d1 .d5))),
    .p (.L (.load (.l 0))),
    .p (.L (.build [.str 0 0, .str 0 0, .int .i64 0, .int .i64 0] [(0, 1, (.l 2)), (1, 1, (.l 0))])),
    .p (.L (.bsl 4 1 [.str 0 0, .str 0 0, .int .i64 0, .int .i64 0] [(0, 4, (.l 0))])),
    .p (.H (.append 4 48 (.l 6) (.l 0))),
    .p (.L (.faddr 0 (.t .d1 .d4))),
    .p (.H (.store 1 (.l 0) (.l 1)))])))
  (.reg 1 [.s .d1 .d0 (.L (.bin .add (.t .d1 .d0) (.c (.int .i64 1))))])))))))
  (.seq (.seq (.reg 15 [.p (.L (.faddr 4 (.t .d0 .d4))),
    .s .d2 .d1 (.L (.load (.l 0))),
    .s .d1 .d7 (.L (.len false (.l 0))),
    .s .d1 .d6 (.L (.mov (.c (.int .i64 0))))])
  (.block 2 (.loop (.seq (.reg 1 [.s .d2 .d0 (.L (.bin .lss (.t .d1 .d6) (.t .d1 .d7)))])
  (.seq (.cond (.t .d2 .d0) .skip (.exit 2))
  (.seq (.block 3 (.seq (.reg 15 [.p (.L (.iaddr 8 (.t .d2 .d1) (.t .d1 .d6))),
    .p (.L (.loadn 8 (.l 0))),
    .s .d2 .d2 (.L (.alloc [.str 0 0, .slN, .bool false, .str 0 0, .str 0 0, .slN, .slN, .int .i64 0])),
    .p (.H (.store 8 (.l 0) (.l 1)))])
  (.draw [0, 1, 2, 3, 4, 5, 6, 7] [⟨.p (.L (.faddr 1 (.t .d1 .d4))), []⟩,
    ⟨.p (.L (.load (.l 0))), []⟩,
    ⟨.p (.L (.loadn 8 (.t .d2 .d2))), []⟩,
    ⟨.p (.H (.call 66 [(.l 0)])), [1]⟩,
    ⟨.p (.L (.bsl 6 1 [.str 0 0, .slN, .bool false, .str 0 0, .str 0 0, .slN] [(0, 6, (.l 0))])), []⟩,
    ⟨.p (.H (.append 6 104 (.l 3) (.l 0))), []⟩,
    ⟨.p (.L (.faddr 1 (.t .d1 .d4))), []⟩,
    ⟨.p (.H (.store 1 (.l 0) (.l 1))), []⟩])))
  (.reg 1 [.s .d1 .d6 (.L (.bin .add (.t .d1 .d6) (.c (.int .i64 1))))])))))))
  (.seq (.reg 7 [.p (.L (.faddr 0 (.t .d1 .d4))),
    .p (.L (.load (.l 0))),
    .p (.H (.call 67 [(.l 0), (.c (.fn 68 [] []))]))])
  (.seq (.reg 7 [.p (.L (.faddr 1 (.t .d1 .d4))),
    .p (.L (.load (.l 0))),
    .p (.H (.call 70 [(.l 0), (.c (.fn 71 [] []))]))])
  (.seq (.reg 7 [.p (.L (.loadn 2 (.t .d1 .d4))),
    .p (.H (.store 2 (.t .d0 .d2) (.l 0))),
    .s .d0 .d3 (.L (.mov (.c (.slN))))])
  .ret)))))))))))⟩
def i29 : Fun :=
  ⟨1, [0, 2, 1, 3, 37, 41, 40, 42, 5, 70, 4, 87, 6, 7], [.tmp .d0 .d1], (.seq (.reg 3 [.s .d0 .d2 (.L (.box 6 (.t .d0 .d0))),
    .s .d0 .d1 (.L (.mov (.c (.bool false))))])
  (.seq (.reg 7 [.p (.L (.faddr 0 (.t .d0 .d2))),
    .p (.L (.load (.l 0))),
    .s .d0 .d3 (.L (.len false (.l 0)))])
  (.seq (.seq (.reg 133160890 [.p (.L (.bin .lss (.t .d0 .d3) (.c (.int .i64 1)))),
    .g (.l 0) false (.L (.mov (.t .d0 .d3))),
    .g (.l 1) false (.L (.bin .gtr (.l 0) (.c (.int .i64 12)))),
    .p (.L (.pick (.l 2) (.c (.bool true)) (.l 0))),
    .g (.l 0) false (.L (.faddr 1 (.t .d0 .d2))),
    .g (.l 1) false (.L (.load (.l 0))),
    .g (.l 2) false (.L (.mov (.t .d0 .d3))),
    .g (.l 3) false (.H (.call 72 [(.l 1), (.l 0)])),
    .g (.l 4) false (.L (.not (.l 0))),
    .p (.L (.pick (.l 5) (.c (.bool true)) (.l 0))),
    .g (.l 0) false (.L (.faddr 2 (.t .d0 .d2))),
    .g (.l 1) false (.L (.load (.l 0))),
    .g (.l 2) false (.L (.mov (.t .d0 .d3))),
    .g (.l 3) false (.H (.call 73 [(.l 1), (.l 0)])),
    .g (.l 4) false (.L (.not (.l 0))),
    .p (.L (.pick (.l 5) (.c (.bool true)) (.l 0))),
    .g (.l 0) false (.L (.faddr 3 (.t .d0 .d2))),
    .g (.l 1) false (.L (.load (.l 0))),
    .g (.l 2) false (.L (.mov (.t .d0 .d3))),
    .g (.l 3) false (.H (.call 73 [(.l 1), (.l 0)])),
    .g (.l 4) false (.L (.not (.l 0))),
    .s .d0 .d4 (.L (.pick (.l 5) (.c (.bool true)) (.l 0)))])
  (.cond (.t .d0 .d4) (.seq (.reg 1 [.s .d0 .d1 (.L (.mov (.c (.bool false))))])
  .ret) .skip))
  (.seq (.reg 2 [.s .d1 .d2 (.L (.mksl 1 [.slN] 24 (.t .d0 .d3) (.t .d0 .d3)))])
  (.seq (.seq (.reg 3 [.s .d0 .d6 (.L (.mov (.t .d0 .d3))),
    .s .d0 .d5 (.L (.mov (.c (.int .i64 0))))])
  (.block 0 (.loop (.seq (.reg 1 [.s .d0 .d7 (.L (.bin .lss (.t .d0 .d5) (.t .d0 .d6)))])
  (.seq (.cond (.t .d0 .d7) .skip (.exit 0))
  (.seq (.block 1 (.seq (.reg 2 [.s .d1 .d0 (.L (.mov (.t .d0 .d5)))])
  (.seq (.seq (.draw [0, 1, 2, 3, 4, 5, 6, 7, 8, 9, 10, 11, 12, 13, 14, 15, 16, 17, 18, 19, 20, 21, 22, 23, 24, 25, 26] [⟨.p (.L (.mov (.t .d1 .d0))), []⟩,
    ⟨.p (.L (.bin .gtr (.l 0) (.c (.int .i64 0)))), []⟩,
    ⟨.p (.L (.mov (.l 0))), []⟩,
    ⟨.g (.l 0) true (.L (.faddr 0 (.t .d0 .d2))), []⟩,
    ⟨.g (.l 1) true (.L (.load (.l 0))), []⟩,
    ⟨.g (.l 2) true (.L (.mov (.t .d1 .d0))), []⟩,
    ⟨.g (.l 3) true (.L (.iaddr 1 (.l 1) (.l 0))), []⟩,
    ⟨.g (.l 4) true (.L (.load (.l 0))), []⟩,
    ⟨.g (.l 5) true (.L (.faddr 0 (.t .d0 .d2))), []⟩,
    ⟨.g (.l 6) true (.L (.load (.l 0))), []⟩,
    ⟨.g (.l 7) true (.L (.mov (.t .d1 .d0))), []⟩,
    ⟨.g (.l 8) true (.L (.bin .sub (.l 0) (.c (.int .i64 1)))), []⟩,
    ⟨.g (.l 9) true (.L (.iaddr 1 (.l 2) (.l 0))), []⟩,
    ⟨.g (.l 10) true (.L (.load (.l 0))), []⟩,
    ⟨.g (.l 11) true (.L (.bins .leq (.l 6) (.l 0))), []⟩,
    ⟨.p (.L (.pick (.l 12) (.l 0) (.c (.bool false)))), []⟩,
    ⟨.p (.L (.mov (.l 0))), []⟩,
    ⟨.g (.l 0) false (.L (.faddr 1 (.t .d0 .d2))), []⟩,
    ⟨.g (.l 1) false (.L (.load (.l 0))), []⟩,
    ⟨.g (.l 2) false (.L (.mov (.t .d1 .d0))), []⟩,
    ⟨.g (.l 3) false (.L (.iaddr 1 (.l 1) (.l 0))), []⟩,
    ⟨.g (.l 4) false (.L (.load (.l 0))), []⟩,
    ⟨.g (.l 5) false (.L (.mov (.t .d1 .d0))), []⟩,
    ⟨.g (.l 6) false (.L (.iaddr 1 (.l 1) (.l 0))), []⟩,
    ⟨.g (.l 7) false (.L (.load (.l 0))), []⟩,
    ⟨.g (.l 8) false (.L (.not (.l 0))), []⟩,
    ⟨.s .d1 .d1 (.L (.pick (.l 9) (.c (.bool true)) (.l 0))), []⟩])
  (.cond (.t .d1 .d1) (.seq (.reg 1 [.s .d0 .d1 (.L (.mov (.c (.bool false))))])
  .ret) .skip))
  (.reg 1004 [.p (.L (.faddr 1 (.t .d0 .d2))),
    .p (.L (.load (.l 0))),
    .p (.L (.iaddr 1 (.l 0) (.t .d1 .d0))),
    .p (.L (.load (.l 0))),
    .p (.H (.call 74 [(.l 0)])),
    .p (.L (.iaddr 1 (.t .d1 .d2) (.t .d1 .d0))),
    .p (.H (.store 1 (.l 0) (.l 1)))]))))
  (.reg 1 [.s .d0 .d5 (.L (.bin .add (.t .d0 .d5) (.c (.int .i64 1))))])))))))
  (.seq (.reg 2 [.p (.H (.call 75 [(.t .d1 .d2)]))])
  (.seq (.seq (.reg 30 [.p (.L (.faddr 1 (.t .d0 .d2))),
    .p (.L (.load (.l 0))),
    .p (.H (.call 76 [(.t .d1 .d2), (.l 0), (.c (.fn 77 [] []))])),
    .s .d1 .d3 (.L (.not (.l 0)))])
  (.cond (.t .d1 .d3) (.seq (.reg 1 [.s .d0 .d1 (.L (.mov (.c (.bool false))))])
  .ret) .skip))
  (.seq (.reg 251 [.p (.L (.loadn 6 (.t .d0 .d2))),
    .p (.H (.call 78 [(.l 0)])),
    .p (.L (.ext 0 (.l 0))),
    .p (.L (.ext 1 (.l 1))),
    .s .d1 .d4 (.L (.alloc [.slN, .slN, .slN, .slN, .int .i64 0, .int .i64 0])),
    .p (.H (.store 6 (.l 0) (.l 2))),
    .s .d1 .d5 (.L (.mov (.l 2)))])
  (.seq (.reg 532643580 [.g (.t .d1 .d5) true (.L (.faddr 4 (.t .d1 .d4))),
    .g (.t .d1 .d5) true (.L (.load (.l 0))),
    .g (.t .d1 .d5) true (.L (.faddr 4 (.t .d0 .d2))),
    .g (.t .d1 .d5) true (.L (.load (.l 0))),
    .g (.t .d1 .d5) true (.L (.bin .eql (.l 2) (.l 0))),
    .p (.L (.pick (.t .d1 .d5) (.l 0) (.c (.bool false)))),
    .g (.l 0) true (.L (.faddr 5 (.t .d1 .d4))),
    .g (.l 1) true (.L (.load (.l 0))),
    .g (.l 2) true (.L (.faddr 5 (.t .d0 .d2))),
    .g (.l 3) true (.L (.load (.l 0))),
    .g (.l 4) true (.L (.bin .eql (.l 2) (.l 0))),
    .p (.L (.pick (.l 5) (.l 0) (.c (.bool false)))),
    .g (.l 0) true (.L (.faddr 2 (.t .d1 .d4))),
    .g (.l 1) true (.L (.load (.l 0))),
    .g (.l 2) true (.L (.faddr 2 (.t .d0 .d2))),
    .g (.l 3) true (.L (.load (.l 0))),
    .g (.l 4) true (.H (.call 79 [(.l 2), (.l 0), (.c (.fn 80 [] []))])),
    .p (.L (.pick (.l 5) (.l 0) (.c (.bool false)))),
    .g (.l 0) true (.L (.faddr 3 (.t .d1 .d4))),
    .g (.l 1) true (.L (.load (.l 0))),
    .g (.l 2) true (.L (.faddr 3 (.t .d0 .d2))),
    .g (.l 3) true (.L (.load (.l 0))),
    .g (.l 4) true (.H (.call 79 [(.l 2), (.l 0), (.c (.fn 80 [] []))])),
    .s .d0 .d1 (.L (.pick (.l 5) (.l 0) (.c (.bool false))))])
  .ret)))))))))⟩
def i31 : Fun :=
  ⟨3, [0, 1, 2, 4], [], (.seq (.reg 1 [.s .d0 .d3 (.L (.box 12 (.t .d0 .d1)))])
  (.draw [0, 1, 2, 3, 4, 5, 6, 7, 8, 9, 10, 11, 12, 13, 14, 18, 15, 16, 17, 19, 20, 21] [⟨.p (.L (.mov (.t .d0 .d0))), []⟩,
    ⟨.p (.L (.faddr 1 (.t .d0 .d3))), []⟩,
    ⟨.p (.L (.load (.l 0))), []⟩,
    ⟨.p (.L (.faddr 2 (.t .d0 .d3))), []⟩,
    ⟨.p (.L (.load (.l 0))), []⟩,
    ⟨.p (.L (.faddr 3 (.t .d0 .d3))), []⟩,
    ⟨.p (.L (.load (.l 0))), []⟩,
    ⟨.p (.L (.mov (.t .d0 .d0))), []⟩,
    ⟨.p (.L (.nilck (.l 0))), []⟩,
    ⟨.p (.L (.faddr 5 (.l 0))), []⟩,
    ⟨.p (.L (.faddr 2 (.l 0))), []⟩,
    ⟨.p (.L (.load (.l 0))), []⟩,
    ⟨.p (.L (.mov (.t .d0 .d0))), []⟩,
    ⟨.p (.L (.faddr 8 (.t .d0 .d3))), []⟩,
    ⟨.p (.L (.load (.l 0))), []⟩,
    ⟨.p (.L (.mov (.t .d0 .d2))), []⟩,
    ⟨.p (.H (.call 81 [(.l 3), (.l 1)])), [13, 11, 9, 4]⟩,
    ⟨.p (.L (.iaddr 1 (.l 5) (.l 0))), []⟩,
    ⟨.p (.L (.load (.l 0))), []⟩,
    ⟨.p (.L (.iaddr 1 (.l 0) (.l 3))), []⟩,
    ⟨.p (.L (.load (.l 0))), []⟩,
    ⟨.p (.H (.call 87 [(.l 20), (.l 18), (.l 16), (.l 14), (.l 0)])), []⟩]))⟩
def i33 : Fun :=
  ⟨3, [0, 1, 2, 4, 19, 18, 20, 17, 8, 6, 10, 45, 47, 11, 9, 12, 69, 89, 13, 101, 124, 134, 133, 135, 132, 15, 145, 156], [], (.seq (.reg 1 [.s .d0 .d3 (.L (.box 12 (.t .d0 .d1)))])
  (.seq (.reg 1 [.s .d1 .d1 (.L (.mov (.c (.slN))))])
  (.seq (.seq (.reg 15 [.p (.L (.faddr 9 (.t .d0 .d3))),
    .s .d0 .d7 (.L (.load (.l 0))),
    .s .d0 .d5 (.L (.len false (.l 0))),
    .s .d0 .d4 (.L (.mov (.c (.int .i64 0))))])
  (.block 0 (.loop (.seq (.reg 1 [.s .d0 .d6 (.L (.bin .lss (.t .d0 .d4) (.t .d0 .d5)))])
  (.seq (.cond (.t .d0 .d6) .skip (.exit 0))
  (.seq (.block 1 (.seq (.reg 3 [.p (.L (.iaddr 1 (.t .d0 .d7) (.t .d0 .d4))),
    .s .d1 .d0 (.L (.load (.l 0)))])
  (.reg 56 [.p (.H (.call 81 [(.t .d0 .d0), (.t .d1 .d0)])),
    .p (.L (.bsl 1 1 [.int .i64 0] [(0, 1, (.l 0))])),
    .s .d1 .d1 (.H (.append 1 8 (.t .d1 .d1) (.l 0)))])))
  (.reg 1 [.s .d0 .d4 (.L (.bin .add (.t .d0 .d4) (.c (.int .i64 1))))])))))))
  (.seq (.reg 4030 [.p (.L (.faddr 6 (.t .d0 .d3))),
    .p (.L (.load (.l 0))),
    .p (.L (.faddr 7 (.t .d0 .d3))),
    .p (.L (.load (.l 0))),
    .p (.H (.call 88 [(.t .d0 .d0), (.l 2), (.l 0)])),
    .p (.L (.ext 0 (.l 0))),
    .p (.L (.ext 1 (.l 1))),
    .s .d1 .d6 (.L (.alloc [.str 0 0, .slN, .bool false, .str 0 0, .str 0 0, .slN])),
    .p (.H (.store 6 (.l 0) (.l 2))),
    .s .d1 .d2 (.L (.mov (.l 2)))])
  (.seq (.reg 31 [.p (.L (.faddr 6 (.t .d0 .d3))),
    .p (.L (.load (.l 0))),
    .p (.L (.faddr 7 (.t .d0 .d3))),
    .p (.L (.load (.l 0))),
    .s .d1 .d5 (.H (.call 89 [(.l 2), (.l 0)]))])
  (.seq (.seq (.reg 2 [.s .d1 .d3 (.L (.bin .neq (.t .d1 .d2) (.c (.int .i64 0))))])
  (.cond (.t .d1 .d3) (.seq (.seq (.reg 2 [.s .d1 .d4 (.L (.bin .eql (.t .d1 .d2) (.c (.int .i64 1))))])
  (.cond (.t .d1 .d4) (.reg 22 [.p (.L (.faddr 1 (.t .d0 .d3))),
    .p (.L (.load (.l 0))),
    .p (.H (.call 38 [(.t .d0 .d0), (.l 0), (.c (.int .i64 8)), (.t .d1 .d5)]))]) .skip))
  .ret) .skip))
  (.seq (.reg 32702 [.p (.L (.len false (.t .d1 .d1))),
    .p (.L (.faddr 1 (.t .d1 .d6))),
    .p (.L (.load (.l 0))),
    .p (.L (.len false (.l 0))),
    .p (.L (.bin .eql (.l 3) (.l 0))),
    .g (.l 0) true (.L (.faddr 2 (.t .d1 .d6))),
    .g (.l 1) true (.L (.load (.l 0))),
    .g (.l 2) true (.L (.mov (.l 0))),
    .g (.l 0) false (.L (.faddr 5 (.t .d0 .d3))),
    .g (.l 1) false (.L (.load (.l 0))),
    .g (.l 2) false (.L (.not (.l 0))),
    .g (.l 6) true (.L (.pick (.l 3) (.c (.bool true)) (.l 0))),
    .s .d1 .d7 (.L (.pick (.l 7) (.l 0) (.c (.bool false))))])
  (.seq (.seq (.reg 2 [.s .d2 .d0 (.L (.not (.t .d1 .d7)))])
  (.cond (.t .d2 .d0) (.reg 22 [.p (.L (.faddr 1 (.t .d0 .d3))),
    .p (.L (.load (.l 0))),
    .p (.H (.call 38 [(.t .d0 .d0), (.l 0), (.c (.int .i64 9)), (.t .d1 .d5)]))]) .skip))
  (.seq (.seq (.draw [0, 1, 2, 3, 4, 5, 6, 7, 8, 9, 10, 11, 12, 13, 14] [⟨.p (.L (.mov (.t .d0 .d0))), []⟩,
    ⟨.p (.L (.nilck (.l 0))), []⟩,
    ⟨.p (.L (.faddr 5 (.l 0))), []⟩,
    ⟨.p (.L (.faddr 1 (.l 0))), []⟩,
    ⟨.p (.L (.load (.l 0))), []⟩,
    ⟨.p (.L (.mov (.t .d0 .d2))), []⟩,
    ⟨.p (.L (.iaddr 1 (.l 1) (.l 0))), []⟩,
    ⟨.p (.L (.load (.l 0))), []⟩,
    ⟨.p (.L (.mov (.t .d0 .d0))), []⟩,
    ⟨.p (.L (.faddr 4 (.t .d1 .d6))), []⟩,
    ⟨.p (.L (.load (.l 0))), []⟩,
    ⟨.p (.H (.call 39 [(.l 2), (.l 0)])), [6, 3]⟩,
    ⟨.p (.L (.iaddr 1 (.l 4) (.l 0))), []⟩,
    ⟨.p (.L (.load (.l 0))), []⟩,
    ⟨.s .d2 .d1 (.L (.not (.l 0))), []⟩])
  (.cond (.t .d2 .d1) (.reg 22 [.p (.L (.faddr 1 (.t .d0 .d3))),
    .p (.L (.load (.l 0))),
    .p (.H (.call 38 [(.t .d0 .d0), (.l 0), (.c (.int .i64 11)), (.t .d1 .d5)]))]) .skip))
  (.seq (.seq (.reg 1 [.s .d2 .d2 (.L (.mov (.c (.int .i64 0))))])
  (.block 2 (.loop (.seq (.seq (.reg 124 [.g (.t .d1 .d7) true (.L (.mov (.t .d2 .d2))),
    .g (.t .d1 .d7) true (.L (.mov (.t .d1 .d1))),
    .g (.t .d1 .d7) true (.L (.len false (.l 0))),
    .g (.t .d1 .d7) true (.L (.bin .lss (.l 2) (.l 0))),
    .s .d2 .d3 (.L (.pick (.t .d1 .d7) (.l 0) (.c (.bool false))))])
  (.cond (.t .d2 .d3) .skip (.exit 2)))
  (.seq (.block 3 (.seq (.draw [0, 1, 2, 3, 4, 5, 6, 7, 8, 9, 10, 11, 12, 13, 14, 15, 16, 17, 18, 19, 20] [⟨.p (.L (.mov (.t .d0 .d0))), []⟩,
    ⟨.p (.L (.nilck (.l 0))), []⟩,
    ⟨.p (.L (.faddr 5 (.l 0))), []⟩,
    ⟨.p (.L (.faddr 1 (.l 0))), []⟩,
    ⟨.p (.L (.load (.l 0))), []⟩,
    ⟨.p (.L (.mov (.t .d1 .d1))), []⟩,
    ⟨.p (.L (.mov (.t .d2 .d2))), []⟩,
    ⟨.p (.L (.iaddr 1 (.l 1) (.l 0))), []⟩,
    ⟨.p (.L (.load (.l 0))), []⟩,
    ⟨.p (.L (.iaddr 1 (.l 4) (.l 0))), []⟩,
    ⟨.p (.L (.load (.l 0))), []⟩,
    ⟨.p (.L (.mov (.t .d0 .d0))), []⟩,
    ⟨.p (.L (.faddr 1 (.t .d1 .d6))), []⟩,
    ⟨.p (.L (.load (.l 0))), []⟩,
    ⟨.p (.L (.mov (.t .d2 .d2))), []⟩,
    ⟨.p (.L (.iaddr 1 (.l 1) (.l 0))), []⟩,
    ⟨.p (.L (.load (.l 0))), []⟩,
    ⟨.p (.H (.call 39 [(.l 5), (.l 0)])), [12, 8, 6]⟩,
    ⟨.p (.L (.iaddr 1 (.l 7) (.l 0))), []⟩,
    ⟨.p (.L (.load (.l 0))), []⟩,
    ⟨.s .d2 .d4 (.L (.not (.l 0))), []⟩])
  (.cond (.t .d2 .d4) (.draw [0, 1, 2, 3, 4, 5] [⟨.p (.L (.mov (.t .d0 .d0))), []⟩,
    ⟨.p (.L (.faddr 1 (.t .d0 .d3))), []⟩,
    ⟨.p (.L (.load (.l 0))), []⟩,
    ⟨.p (.L (.mov (.t .d2 .d2))), []⟩,
    ⟨.p (.H (.call 90 [(.l 0)])), [1]⟩,
    ⟨.p (.H (.call 38 [(.l 4), (.l 2), (.c (.int .i64 12)), (.l 0)])), []⟩]) .skip)))
  (.reg 2 [.s .d2 .d2 (.L (.bin .add (.t .d2 .d2) (.c (.int .i64 1))))]))))))
  (.seq (.seq (.reg 15 [.p (.L (.faddr 5 (.t .d1 .d6))),
    .s .d3 .d0 (.L (.load (.l 0))),
    .s .d2 .d6 (.L (.len false (.l 0))),
    .s .d2 .d5 (.L (.mov (.c (.int .i64 0))))])
  (.block 4 (.loop (.seq (.reg 1 [.s .d2 .d7 (.L (.bin .lss (.t .d2 .d5) (.t .d2 .d6)))])
  (.seq (.cond (.t .d2 .d7) .skip (.exit 4))
  (.seq (.block 5 (.seq (.reg 3 [.p (.L (.iaddr 1 (.t .d3 .d0) (.t .d2 .d5))),
    .s .d3 .d1 (.L (.load (.l 0)))])
  (.seq (.reg 222 [.p (.L (.nilck (.t .d0 .d0))),
    .p (.L (.faddr 14 (.l 0))),
    .p (.L (.faddr 5 (.l 0))),
    .p (.L (.load (.l 0))),
    .p (.H (.call 91 [(.l 0), (.t .d3 .d1)])),
    .s .d3 .d2 (.L (.not (.l 0)))])
  (.cond (.t .d3 .d2) (.reg 22 [.p (.L (.faddr 1 (.t .d0 .d3))),
    .p (.L (.load (.l 0))),
    .p (.H (.call 38 [(.t .d0 .d0), (.l 0), (.c (.int .i64 13)), (.t .d3 .d1)]))]) .skip))))
  (.reg 1 [.s .d2 .d5 (.L (.bin .add (.t .d2 .d5) (.c (.int .i64 1))))])))))))
  (.seq (.reg 28 [.g (.t .d1 .d7) true (.L (.faddr 5 (.t .d0 .d3))),
    .g (.t .d1 .d7) true (.L (.load (.l 0))),
    .s .d3 .d3 (.L (.pick (.t .d1 .d7) (.l 0) (.c (.bool false))))])
  (.cond (.t .d3 .d3) (.draw [0, 1, 2, 3, 4, 5, 6, 7, 8, 9, 10, 11, 12, 13, 14, 18, 15, 16, 17, 19, 20, 21] [⟨.p (.L (.mov (.t .d0 .d0))), []⟩,
    ⟨.p (.L (.faddr 1 (.t .d0 .d3))), []⟩,
    ⟨.p (.L (.load (.l 0))), []⟩,
    ⟨.p (.L (.faddr 2 (.t .d0 .d3))), []⟩,
    ⟨.p (.L (.load (.l 0))), []⟩,
    ⟨.p (.L (.faddr 3 (.t .d0 .d3))), []⟩,
    ⟨.p (.L (.load (.l 0))), []⟩,
    ⟨.p (.L (.mov (.t .d0 .d0))), []⟩,
    ⟨.p (.L (.nilck (.l 0))), []⟩,
    ⟨.p (.L (.faddr 5 (.l 0))), []⟩,
    ⟨.p (.L (.faddr 2 (.l 0))), []⟩,
    ⟨.p (.L (.load (.l 0))), []⟩,
    ⟨.p (.L (.mov (.t .d0 .d0))), []⟩,
    ⟨.p (.L (.faddr 3 (.t .d1 .d6))), []⟩,
    ⟨.p (.L (.load (.l 0))), []⟩,
    ⟨.p (.L (.mov (.t .d0 .d2))), []⟩,
    ⟨.p (.H (.call 39 [(.l 3), (.l 1)])), [13, 11, 9, 4]⟩,
    ⟨.p (.L (.iaddr 1 (.l 5) (.l 0))), []⟩,
    ⟨.p (.L (.load (.l 0))), []⟩,
    ⟨.p (.L (.iaddr 1 (.l 0) (.l 3))), []⟩,
    ⟨.p (.L (.load (.l 0))), []⟩,
    ⟨.p (.H (.call 87 [(.l 20), (.l 18), (.l 16), (.l 14), (.l 0)])), []⟩]) .skip)))))))))))))⟩
def i35 : Fun :=
  ⟨3, [0, 1, 2, 4, 14], [], (.seq (.reg 1 [.s .d0 .d3 (.L (.box 12 (.t .d0 .d1)))])
  (.seq (.draw [0, 1, 2, 3, 4, 5, 6, 7, 8] [⟨.p (.L (.mov (.t .d0 .d0))), []⟩,
    ⟨.p (.L (.nilck (.l 0))), []⟩,
    ⟨.p (.L (.faddr 14 (.l 0))), []⟩,
    ⟨.p (.L (.faddr 5 (.l 0))), []⟩,
    ⟨.p (.L (.load (.l 0))), []⟩,
    ⟨.p (.L (.faddr 3 (.t .d0 .d3))), []⟩,
    ⟨.p (.L (.load (.l 0))), []⟩,
    ⟨.p (.H (.call 91 [(.l 2), (.l 0)])), []⟩,
    ⟨.s .d0 .d4 (.L (.not (.l 0))), []⟩])
  (.cond (.t .d0 .d4) (.reg 62 [.p (.L (.faddr 1 (.t .d0 .d3))),
    .p (.L (.load (.l 0))),
    .p (.L (.faddr 3 (.t .d0 .d3))),
    .p (.L (.load (.l 0))),
    .p (.H (.call 38 [(.t .d0 .d0), (.l 2), (.c (.int .i64 13)), (.l 0)]))]) .skip)))⟩
def i38 : Fun :=
  ⟨4, [0, 1, 2, 3], [], (.draw [0, 1, 2, 3, 4, 5, 6, 7, 8, 9, 10, 11, 12, 13, 14, 15, 16, 17, 18] [⟨.p (.L (.mov (.t .d0 .d0))), []⟩,
    ⟨.p (.L (.mov (.t .d0 .d0))), []⟩,
    ⟨.p (.L (.nilck (.l 0))), []⟩,
    ⟨.p (.L (.faddr 23 (.l 0))), []⟩,
    ⟨.p (.L (.load (.l 0))), []⟩,
    ⟨.p (.L (.mov (.t .d0 .d0))), []⟩,
    ⟨.p (.L (.nilck (.l 0))), []⟩,
    ⟨.p (.L (.faddr 0 (.l 0))), []⟩,
    ⟨.p (.L (.faddr 0 (.l 0))), []⟩,
    ⟨.p (.L (.load (.l 0))), []⟩,
    ⟨.p (.L (.mov (.t .d0 .d1))), []⟩,
    ⟨.p (.L (.mov (.t .d0 .d2))), []⟩,
    ⟨.p (.L (.mov (.t .d0 .d3))), []⟩,
    ⟨.p (.L (.build [.str 0 0, .int .i64 0, .int .i64 0, .str 0 0] [(0, 1, (.l 3)), (1, 1, (.l 2)), (2, 1, (.l 1)), (3, 1, (.l 0))])), []⟩,
    ⟨.p (.L (.bsl 4 1 [.str 0 0, .int .i64 0, .int .i64 0, .str 0 0] [(0, 4, (.l 0))])), []⟩,
    ⟨.p (.H (.append 4 48 (.l 10) (.l 0))), []⟩,
    ⟨.p (.L (.nilck (.l 15))), []⟩,
    ⟨.p (.L (.faddr 23 (.l 0))), []⟩,
    ⟨.p (.H (.store 1 (.l 0) (.l 2))), []⟩])⟩
def i39 : Fun :=
  ⟨2, [0, 1, 4, 5, 13], [.tmp .d0 .d2], (.seq (.reg 1 [.s .d0 .d2 (.L (.mov (.c (.int .i64 0))))])
  (.seq (.seq (.reg 46 [.p (.L (.nilck (.t .d0 .d0))),
    .p (.L (.faddr 5 (.l 0))),
    .p (.L (.loadn 6 (.l 0))),
    .s .d0 .d3 (.H (.call 86 [(.l 0), (.t .d0 .d1)]))])
  (.seq (.reg 2 [.s .d0 .d4 (.L (.bin .geq (.t .d0 .d3) (.c (.int .i64 0))))])
  (.cond (.t .d0 .d4) (.seq (.reg 2 [.s .d0 .d2 (.L (.mov (.t .d0 .d3)))])
  .ret) .skip)))
  (.seq (.reg 30 [.p (.L (.nilck (.t .d0 .d0))),
    .p (.L (.faddr 5 (.l 0))),
    .p (.L (.faddr 5 (.l 0))),
    .s .d0 .d2 (.L (.load (.l 0)))])
  .ret)))⟩
def i40 : Fun :=
  ⟨3, [0, 1, 2, 17, 16, 18, 15, 8, 9, 29, 6], [], (.seq (.reg 30 [.p (.L (.nilck (.t .d0 .d0))),
    .p (.L (.faddr 22 (.l 0))),
    .p (.L (.load (.l 0))),
    .s .d1 .d2 (.L (.len false (.l 0)))])
  (.seq .skip
  (.seq (.seq (.reg 7 [.s .d0 .d6 (.L (.mov (.t .d0 .d1))),
    .s .d0 .d4 (.L (.len false (.l 0))),
    .s .d0 .d3 (.L (.mov (.c (.int .i64 0))))])
  (.block 0 (.loop (.seq (.reg 1 [.s .d0 .d5 (.L (.bin .lss (.t .d0 .d3) (.t .d0 .d4)))])
  (.seq (.cond (.t .d0 .d5) .skip (.exit 0))
  (.seq (.block 1 (.seq (.reg 15 [.p (.L (.iaddr 12 (.t .d0 .d6) (.t .d0 .d3))),
    .p (.L (.loadn 12 (.l 0))),
    .s .d0 .d7 (.L (.alloc [.int .i64 0, .int .i64 0, .str 0 0, .str 0 0, .str 0 0, .bool false, .str 0 0, .str 0 0, .slN, .slN, .slN, .slN])),
    .p (.H (.store 12 (.l 0) (.l 1)))])
  (.seq (.draw [0, 1, 2, 3, 4, 5, 6, 7] [⟨.p (.L (.mov (.t .d0 .d0))), []⟩,
    ⟨.p (.L (.nilck (.l 0))), []⟩,
    ⟨.p (.L (.faddr 24 (.l 0))), []⟩,
    ⟨.p (.L (.load (.l 0))), []⟩,
    ⟨.p (.L (.faddr 0 (.t .d0 .d7))), []⟩,
    ⟨.p (.L (.load (.l 0))), []⟩,
    ⟨.p (.L (.lookup .int (.fnN) false (.l 2) (.l 0))), []⟩,
    ⟨.s .d1 .d0 (.L (.mov (.l 0))), []⟩])
  (.seq (.seq (.reg 2 [.s .d1 .d1 (.L (.eq false .fn (.t .d1 .d0) (.c (.fnN))))])
  (.cond (.t .d1 .d1) (.exit 1) .skip))
  (.reg 10 [.p (.L (.loadn 12 (.t .d0 .d7))),
    .p (.H (.callv (.t .d1 .d0) [(.l 0), (.t .d0 .d2)]))])))))
  (.reg 1 [.s .d0 .d3 (.L (.bin .add (.t .d0 .d3) (.c (.int .i64 1))))])))))))
  (.reg 988 [.p (.L (.nilck (.t .d0 .d0))),
    .p (.L (.faddr 22 (.l 0))),
    .p (.L (.load (.l 0))),
    .p (.L (.ssl 2 (.l 0) none (some (.t .d1 .d2)) none)),
    .p (.L (.nilck (.t .d0 .d0))),
    .p (.L (.faddr 22 (.l 0))),
    .p (.H (.store 1 (.l 0) (.l 2)))]))))⟩
def i50 : Fun :=
  ⟨2, [0, 1, 4, 5, 9, 17], [.tmp .d0 .d2], (.seq (.reg 1 [.s .d0 .d2 (.L (.mov (.c (.int .i64 0))))])
  (.seq (.seq (.reg 1 [.s .d0 .d3 (.L (.mov (.c (.int .i64 0))))])
  (.block 0 (.loop (.seq (.seq (.reg 12 [.p (.L (.len false (.t .d0 .d0))),
    .s .d0 .d4 (.L (.bin .lss (.t .d0 .d3) (.l 0)))])
  (.cond (.t .d0 .d4) .skip (.exit 0)))
  (.seq (.block 1 (.seq (.reg 44 [.p (.L (.iaddr 1 (.t .d0 .d0) (.t .d0 .d3))),
    .p (.L (.load (.l 0))),
    .s .d0 .d5 (.L (.bins .eql (.l 0) (.t .d0 .d1)))])
  (.cond (.t .d0 .d5) (.seq (.reg 2 [.s .d0 .d2 (.L (.mov (.t .d0 .d3)))])
  .ret) .skip)))
  (.reg 2 [.s .d0 .d3 (.L (.bin .add (.t .d0 .d3) (.c (.int .i64 1))))]))))))
  (.seq (.reg 1 [.s .d0 .d2 (.L (.mov (.c (.int .i64 (-1)))))])
  .ret)))⟩
def i52 : Fun :=
  ⟨1, [0, 2], [.tmp .d0 .d1], (.seq (.reg 1 [.s .d0 .d1 (.L (.mov (.c (.bool false))))])
  (.seq (.reg 58 [.p (.L (.bin .geq (.t .d0 .d0) (.c (.int .u8 97)))),
    .g (.l 0) true (.L (.mov (.t .d0 .d0))),
    .g (.l 1) true (.L (.bin .leq (.l 0) (.c (.int .u8 122)))),
    .s .d0 .d1 (.L (.pick (.l 2) (.l 0) (.c (.bool false))))])
  .ret))⟩
def i53 : Fun :=
  ⟨1, [0, 2], [.tmp .d0 .d1], (.seq (.reg 1 [.s .d0 .d1 (.L (.mov (.c (.bool false))))])
  (.seq (.reg 58 [.p (.L (.bin .geq (.t .d0 .d0) (.c (.int .u8 48)))),
    .g (.l 0) true (.L (.mov (.t .d0 .d0))),
    .g (.l 1) true (.L (.bin .leq (.l 0) (.c (.int .u8 57)))),
    .s .d0 .d1 (.L (.pick (.l 2) (.l 0) (.c (.bool false))))])
  .ret))⟩
def i54 : Fun :=
  ⟨2, [0, 1, 4, 9, 14, 15, 26, 27], [.tmp .d0 .d2], (.seq (.reg 1 [.s .d0 .d2 (.L (.mov (.c (.str 0 0))))])
  (.seq (.seq (.reg 26 [.p (.L (.bin .add (.t .d0 .d1) (.c (.int .i64 1)))),
    .p (.L (.len true (.t .d0 .d0))),
    .s .d0 .d3 (.L (.bin .lss (.l 1) (.l 0)))])
  (.cond (.t .d0 .d3) (.seq (.reg 24 [.p (.L (.bin .add (.t .d0 .d1) (.c (.int .i64 2)))),
    .s .d0 .d4 (.L (.sstr (.t .d0 .d0) (some (.t .d0 .d1)) (some (.l 0))))])
  (.block 0 (.seq (.seq (.reg 1 [.s .d0 .d5 (.L (.bins .eql (.t .d0 .d4) (.c (.str 2 15677))))])
  (.cond (.t .d0 .d5) .skip (.seq (.reg 1 [.s .d0 .d5 (.L (.bins .eql (.t .d0 .d4) (.c (.str 2 15676))))])
  (.cond (.t .d0 .d5) .skip (.reg 1 [.s .d0 .d5 (.L (.bins .eql (.t .d0 .d4) (.c (.str 2 15917))))])))))
  (.cond (.t .d0 .d5) (.seq (.reg 24 [.p (.L (.bin .add (.t .d0 .d1) (.c (.int .i64 2)))),
    .s .d0 .d2 (.L (.sstr (.t .d0 .d0) (some (.t .d0 .d1)) (some (.l 0))))])
  .ret) .skip)))) .skip))
  (.seq (.seq (.reg 4 [.s .d0 .d6 (.L (.istr (.t .d0 .d0) (.t .d0 .d1)))])
  (.block 1 (.seq (.seq (.reg 1 [.s .d0 .d7 (.L (.bin .eql (.t .d0 .d6) (.c (.int .u8 40))))])
  (.cond (.t .d0 .d7) .skip (.seq (.reg 1 [.s .d0 .d7 (.L (.bin .eql (.t .d0 .d6) (.c (.int .u8 41))))])
  (.cond (.t .d0 .d7) .skip (.seq (.reg 1 [.s .d0 .d7 (.L (.bin .eql (.t .d0 .d6) (.c (.int .u8 123))))])
  (.cond (.t .d0 .d7) .skip (.seq (.reg 1 [.s .d0 .d7 (.L (.bin .eql (.t .d0 .d6) (.c (.int .u8 125))))])
  (.cond (.t .d0 .d7) .skip (.seq (.reg 1 [.s .d0 .d7 (.L (.bin .eql (.t .d0 .d6) (.c (.int .u8 44))))])
  (.cond (.t .d0 .d7) .skip (.seq (.reg 1 [.s .d0 .d7 (.L (.bin .eql (.t .d0 .d6) (.c (.int .u8 59))))])
  (.cond (.t .d0 .d7) .skip (.seq (.reg 1 [.s .d0 .d7 (.L (.bin .eql (.t .d0 .d6) (.c (.int .u8 58))))])
  (.cond (.t .d0 .d7) .skip (.seq (.reg 1 [.s .d0 .d7 (.L (.bin .eql (.t .d0 .d6) (.c (.int .u8 46))))])
  (.cond (.t .d0 .d7) .skip (.seq (.reg 1 [.s .d0 .d7 (.L (.bin .eql (.t .d0 .d6) (.c (.int .u8 61))))])
  (.cond (.t .d0 .d7) .skip (.seq (.reg 1 [.s .d0 .d7 (.L (.bin .eql (.t .d0 .d6) (.c (.int .u8 60))))])
  (.cond (.t .d0 .d7) .skip (.seq (.reg 1 [.s .d0 .d7 (.L (.bin .eql (.t .d0 .d6) (.c (.int .u8 43))))])
  (.cond (.t .d0 .d7) .skip (.seq (.reg 1 [.s .d0 .d7 (.L (.bin .eql (.t .d0 .d6) (.c (.int .u8 45))))])
  (.cond (.t .d0 .d7) .skip (.seq (.reg 1 [.s .d0 .d7 (.L (.bin .eql (.t .d0 .d6) (.c (.int .u8 42))))])
  (.cond (.t .d0 .d7) .skip (.seq (.reg 1 [.s .d0 .d7 (.L (.bin .eql (.t .d0 .d6) (.c (.int .u8 47))))])
  (.cond (.t .d0 .d7) .skip (.seq (.reg 1 [.s .d0 .d7 (.L (.bin .eql (.t .d0 .d6) (.c (.int .u8 37))))])
  (.cond (.t .d0 .d7) .skip (.reg 1 [.s .d0 .d7 (.L (.bin .eql (.t .d0 .d6) (.c (.int .u8 33))))])))))))))))))))))))))))))))))))
  (.cond (.t .d0 .d7) (.seq (.reg 24 [.p (.L (.bin .add (.t .d0 .d1) (.c (.int .i64 1)))),
    .s .d0 .d2 (.L (.sstr (.t .d0 .d0) (some (.t .d0 .d1)) (some (.l 0))))])
  .ret) .skip))))
  (.seq (.reg 1 [.s .d0 .d2 (.L (.mov (.c (.str 0 0))))])
  .ret))))⟩
def i55 : Fun :=
  ⟨2, [0, 1, 7], [], (.seq (.reg 12 [.p (.H (.call 58 [(.t .d0 .d0), (.t .d0 .d1)])),
    .s .d0 .d2 (.L (.not (.l 0)))])
  (.cond (.t .d0 .d2) (.reg 2 [.p (.H (.call 61 [(.t .d0 .d0), (.c (.int .i64 11))]))]) .skip))⟩
def i56 : Fun :=
  ⟨1, [0, 2], [.tmp .d0 .d1], (.seq (.reg 1 [.s .d0 .d1 (.L (.mov (.c (.int .i64 0))))])
  (.seq (.draw [0, 1, 2, 3, 4, 5, 6, 7, 8, 9, 10, 11] [⟨.p (.L (.mov (.t .d0 .d0))), []⟩,
    ⟨.p (.L (.nilck (.l 0))), []⟩,
    ⟨.p (.L (.faddr 0 (.l 0))), []⟩,
    ⟨.p (.L (.load (.l 0))), []⟩,
    ⟨.p (.L (.mov (.t .d0 .d0))), []⟩,
    ⟨.p (.L (.nilck (.l 0))), []⟩,
    ⟨.p (.L (.faddr 1 (.l 0))), []⟩,
    ⟨.p (.L (.load (.l 0))), []⟩,
    ⟨.p (.L (.iaddr 3 (.l 4) (.l 0))), []⟩,
    ⟨.p (.L (.faddr 2 (.l 0))), []⟩,
    ⟨.p (.L (.load (.l 0))), []⟩,
    ⟨.s .d0 .d1 (.L (.mov (.l 0))), []⟩])
  .ret))⟩
def i57 : Fun :=
  ⟨1, [0, 2, 3, 23], [.tmp .d0 .d1], (.seq (.reg 1 [.s .d0 .d1 (.L (.mov (.c (.str 0 0))))])
  (.seq (.draw [0, 1, 2, 3, 4, 5, 6, 7, 8, 9, 10, 11] [⟨.p (.L (.mov (.t .d0 .d0))), []⟩,
    ⟨.p (.L (.nilck (.l 0))), []⟩,
    ⟨.p (.L (.faddr 0 (.l 0))), []⟩,
    ⟨.p (.L (.load (.l 0))), []⟩,
    ⟨.p (.L (.mov (.t .d0 .d0))), []⟩,
    ⟨.p (.L (.nilck (.l 0))), []⟩,
    ⟨.p (.L (.faddr 1 (.l 0))), []⟩,
    ⟨.p (.L (.load (.l 0))), []⟩,
    ⟨.p (.L (.iaddr 3 (.l 4) (.l 0))), []⟩,
    ⟨.p (.L (.loadn 3 (.l 0))), []⟩,
    ⟨.s .d0 .d2 (.L (.alloc [.int .i64 0, .str 0 0, .int .i64 0])), []⟩,
    ⟨.p (.H (.store 3 (.l 0) (.l 1))), []⟩])
  (.seq (.seq (.reg 990 [.p (.L (.nilck (.t .d0 .d0))),
    .p (.L (.faddr 3 (.l 0))),
    .p (.L (.load (.l 0))),
    .p (.L (.bin .neq (.l 0) (.c (.int .i64 0)))),
    .g (.l 0) false (.L (.faddr 0 (.t .d0 .d2))),
    .g (.l 1) false (.L (.load (.l 0))),
    .g (.l 2) false (.L (.bin .neq (.l 0) (.c (.int .i64 1)))),
    .s .d0 .d3 (.L (.pick (.l 3) (.c (.bool true)) (.l 0)))])
  (.cond (.t .d0 .d3) (.seq (.reg 2 [.p (.H (.call 61 [(.t .d0 .d0), (.c (.int .i64 11))]))])
  (.seq (.reg 1 [.s .d0 .d1 (.L (.mov (.c (.str 0 0))))])
  .ret)) .skip))
  (.seq (.reg 254 [.p (.L (.nilck (.t .d0 .d0))),
    .p (.L (.faddr 1 (.l 0))),
    .p (.L (.load (.l 0))),
    .p (.L (.bin .add (.l 0) (.c (.int .i64 1)))),
    .p (.L (.nilck (.t .d0 .d0))),
    .p (.L (.faddr 1 (.l 0))),
    .p (.H (.store 1 (.l 0) (.l 2)))])
  (.seq (.reg 3 [.p (.L (.faddr 1 (.t .d0 .d2))),
    .s .d0 .d1 (.L (.load (.l 0)))])
  .ret)))))⟩
def i58 : Fun :=
  ⟨2, [0, 1, 4, 8], [.tmp .d0 .d2], (.seq (.reg 1 [.s .d0 .d2 (.L (.mov (.c (.bool false))))])
  (.seq (.seq (.reg 12 [.p (.H (.call 102 [(.t .d0 .d0), (.t .d0 .d1)])),
    .s .d0 .d3 (.L (.not (.l 0)))])
  (.cond (.t .d0 .d3) (.seq (.reg 1 [.s .d0 .d2 (.L (.mov (.c (.bool false))))])
  .ret) .skip))
  (.seq (.reg 254 [.p (.L (.nilck (.t .d0 .d0))),
    .p (.L (.faddr 1 (.l 0))),
    .p (.L (.load (.l 0))),
    .p (.L (.bin .add (.l 0) (.c (.int .i64 1)))),
    .p (.L (.nilck (.t .d0 .d0))),
    .p (.L (.faddr 1 (.l 0))),
    .p (.H (.store 1 (.l 0) (.l 2)))])
  (.seq (.reg 1 [.s .d0 .d2 (.L (.mov (.c (.bool true))))])
  .ret))))⟩
def i59 : Fun :=
  ⟨1, [0, 2, 3, 5, 39, 4, 54], [.cell .d0 .d1 (some 4)], (.seq (.reg 1 [.s .d0 .d1 (.L (.alloc [.str 0 0, .str 0 0, .int .i64 0, .int .i64 0]))])
  (.seq (.reg 122 [.p (.H (.call 56 [(.t .d0 .d0)])),
    .p (.H (.call 57 [(.t .d0 .d0)])),
    .p (.L (.build [.str 0 0, .str 0 0, .int .i64 0, .int .i64 0] [(3, 1, (.l 1)), (0, 1, (.l 0))])),
    .s .d0 .d2 (.L (.alloc [.str 0 0, .str 0 0, .int .i64 0, .int .i64 0])),
    .p (.H (.store 4 (.l 0) (.l 1)))])
  (.seq (.reg 2 [.p (.H (.call 55 [(.t .d0 .d0), (.c (.str 1 58))]))])
  (.seq (.reg 14 [.p (.H (.call 57 [(.t .d0 .d0)])),
    .p (.L (.faddr 1 (.t .d0 .d2))),
    .p (.H (.store 1 (.l 0) (.l 1)))])
  (.seq (.reg 2 [.p (.H (.call 55 [(.t .d0 .d0), (.c (.str 1 61))]))])
  (.seq (.reg 2 [.s .d0 .d5 (.H (.call 58 [(.t .d0 .d0), (.c (.str 1 45))]))])
  (.seq (.draw [0, 1, 2, 3, 4, 5, 6, 7, 8, 9, 10, 11] [⟨.p (.L (.mov (.t .d0 .d0))), []⟩,
    ⟨.p (.L (.nilck (.l 0))), []⟩,
    ⟨.p (.L (.faddr 0 (.l 0))), []⟩,
    ⟨.p (.L (.load (.l 0))), []⟩,
    ⟨.p (.L (.mov (.t .d0 .d0))), []⟩,
    ⟨.p (.L (.nilck (.l 0))), []⟩,
    ⟨.p (.L (.faddr 1 (.l 0))), []⟩,
    ⟨.p (.L (.load (.l 0))), []⟩,
    ⟨.p (.L (.iaddr 3 (.l 4) (.l 0))), []⟩,
    ⟨.p (.L (.loadn 3 (.l 0))), []⟩,
    ⟨.s .d0 .d3 (.L (.alloc [.int .i64 0, .str 0 0, .int .i64 0])), []⟩,
    ⟨.p (.H (.store 3 (.l 0) (.l 1))), []⟩])
  (.seq (.seq (.reg 990 [.p (.L (.nilck (.t .d0 .d0))),
    .p (.L (.faddr 3 (.l 0))),
    .p (.L (.load (.l 0))),
    .p (.L (.bin .neq (.l 0) (.c (.int .i64 0)))),
    .g (.l 0) false (.L (.faddr 0 (.t .d0 .d3))),
    .g (.l 1) false (.L (.load (.l 0))),
    .g (.l 2) false (.L (.bin .neq (.l 0) (.c (.int .i64 2)))),
    .s .d0 .d4 (.L (.pick (.l 3) (.c (.bool true)) (.l 0)))])
  (.cond (.t .d0 .d4) (.seq (.reg 2 [.p (.H (.call 61 [(.t .d0 .d0), (.c (.int .i64 11))]))])
  (.seq (.reg 3 [.p (.L (.loadn 4 (.t .d0 .d2))),
    .p (.H (.store 4 (.t .d0 .d1) (.l 0)))])
  .ret)) .skip))
  (.seq (.reg 254 [.p (.L (.nilck (.t .d0 .d0))),
    .p (.L (.faddr 1 (.l 0))),
    .p (.L (.load (.l 0))),
    .p (.L (.bin .add (.l 0) (.c (.int .i64 1)))),
    .p (.L (.nilck (.t .d0 .d0))),
    .p (.L (.faddr 1 (.l 0))),
    .p (.H (.store 1 (.l 0) (.l 2)))])
  (.seq (.reg 31 [.p (.L (.faddr 1 (.t .d0 .d3))),
    .p (.L (.load (.l 0))),
    .p (.H (.call 103 [(.l 0)])),
    .p (.L (.faddr 2 (.t .d0 .d2))),
    .p (.H (.store 1 (.l 0) (.l 1)))])
  (.seq (.seq (.reg 1 [.s .d0 .d6 (.L (.mov (.t .d0 .d5)))])
  (.cond (.t .d0 .d6) (.reg 31 [.p (.L (.faddr 2 (.t .d0 .d2))),
    .p (.L (.load (.l 0))),
    .p (.L (.neg (.l 0))),
    .p (.L (.faddr 2 (.t .d0 .d2))),
    .p (.H (.store 1 (.l 0) (.l 1)))]) .skip))
  (.seq (.reg 2 [.p (.H (.call 55 [(.t .d0 .d0), (.c (.str 1 59))]))])
  (.seq (.reg 3 [.p (.L (.loadn 4 (.t .d0 .d2))),
    .p (.H (.store 4 (.t .d0 .d1) (.l 0)))])
  .ret)))))))))))))⟩
def i60 : Fun :=
  ⟨1, [0, 2, 14, 19, 4, 3, 38, 42, 58, 63, 73], [.cell .d0 .d1 (some 8)], (.seq (.reg 1 [.s .d0 .d1 (.L (.alloc [.str 0 0, .slN, .bool false, .str 0 0, .str 0 0, .slN, .slN, .int .i64 0]))])
  (.seq (.reg 122 [.p (.H (.call 56 [(.t .d0 .d0)])),
    .p (.H (.call 57 [(.t .d0 .d0)])),
    .p (.L (.build [.str 0 0, .slN, .bool false, .str 0 0, .str 0 0, .slN, .slN, .int .i64 0] [(7, 1, (.l 1)), (0, 1, (.l 0))])),
    .s .d0 .d5 (.L (.alloc [.str 0 0, .slN, .bool false, .str 0 0, .str 0 0, .slN, .slN, .int .i64 0])),
    .p (.H (.store 8 (.l 0) (.l 1)))])
  (.seq (.reg 2 [.p (.H (.call 55 [(.t .d0 .d0), (.c (.str 1 40))]))])
  (.seq (.seq (.reg 6 [.p (.H (.call 102 [(.t .d0 .d0), (.c (.str 1 41))])),
    .s .d0 .d2 (.L (.not (.l 0)))])
  (.cond (.t .d0 .d2) (.block 0 (.loop (.seq (.seq (.reg 30 [.p (.L (.nilck (.t .d0 .d0))),
    .p (.L (.faddr 3 (.l 0))),
    .p (.L (.load (.l 0))),
    .s .d0 .d3 (.L (.bin .eql (.l 0) (.c (.int .i64 0))))])
  (.cond (.t .d0 .d3) .skip (.exit 0)))
  (.block 1 (.seq (.reg 122 [.p (.H (.call 56 [(.t .d0 .d0)])),
    .p (.H (.call 57 [(.t .d0 .d0)])),
    .p (.L (.build [.str 0 0, .str 0 0, .int .i64 0] [(2, 1, (.l 1)), (0, 1, (.l 0))])),
    .s .d0 .d4 (.L (.alloc [.str 0 0, .str 0 0, .int .i64 0])),
    .p (.H (.store 3 (.l 0) (.l 1)))])
  (.seq (.reg 2 [.p (.H (.call 55 [(.t .d0 .d0), (.c (.str 1 58))]))])
  (.seq (.reg 14 [.p (.H (.call 57 [(.t .d0 .d0)])),
    .p (.L (.faddr 1 (.t .d0 .d4))),
    .p (.H (.store 1 (.l 0) (.l 1)))])
  (.seq (.reg 127 [.p (.L (.faddr 1 (.t .d0 .d5))),
    .p (.L (.load (.l 0))),
    .p (.L (.loadn 3 (.t .d0 .d4))),
    .p (.L (.bsl 3 1 [.str 0 0, .str 0 0, .int .i64 0] [(0, 3, (.l 0))])),
    .p (.H (.append 3 40 (.l 2) (.l 0))),
    .p (.L (.faddr 1 (.t .d0 .d5))),
    .p (.H (.store 1 (.l 0) (.l 1)))])
  (.seq (.reg 6 [.p (.H (.call 58 [(.t .d0 .d0), (.c (.str 1 44))])),
    .s .d0 .d6 (.L (.not (.l 0)))])
  (.cond (.t .d0 .d6) (.exit 0) .skip)))))))))) .skip))
  (.seq (.reg 2 [.p (.H (.call 55 [(.t .d0 .d0), (.c (.str 1 41))]))])
  (.seq (.seq (.reg 2 [.s .d0 .d7 (.H (.call 58 [(.t .d0 .d0), (.c (.str 2 15917))]))])
  (.cond (.t .d0 .d7) (.seq (.reg 3 [.p (.L (.faddr 2 (.t .d0 .d5))),
    .p (.H (.store 1 (.l 0) (.c (.bool true))))])
  (.reg 14 [.p (.H (.call 57 [(.t .d0 .d0)])),
    .p (.L (.faddr 3 (.t .d0 .d5))),
    .p (.H (.store 1 (.l 0) (.l 1)))])) .skip))
  (.seq (.reg 2 [.p (.H (.call 55 [(.t .d0 .d0), (.c (.str 2 25456))]))])
  (.seq (.reg 14 [.p (.H (.call 57 [(.t .d0 .d0)])),
    .p (.L (.faddr 4 (.t .d0 .d5))),
    .p (.H (.store 1 (.l 0) (.l 1)))])
  (.seq (.reg 2 [.p (.H (.call 55 [(.t .d0 .d0), (.c (.str 4 1936028533))]))])
  (.seq (.reg 2 [.p (.H (.call 55 [(.t .d0 .d0), (.c (.str 1 123))]))])
  (.seq (.seq (.reg 6 [.p (.H (.call 102 [(.t .d0 .d0), (.c (.str 1 125))])),
    .s .d1 .d0 (.L (.not (.l 0)))])
  (.cond (.t .d1 .d0) (.block 2 (.loop (.seq (.seq (.reg 30 [.p (.L (.nilck (.t .d0 .d0))),
    .p (.L (.faddr 3 (.l 0))),
    .p (.L (.load (.l 0))),
    .s .d1 .d1 (.L (.bin .eql (.l 0) (.c (.int .i64 0))))])
  (.cond (.t .d1 .d1) .skip (.exit 2)))
  (.block 3 (.seq (.draw [0, 1, 2, 3, 4, 5, 6, 7] [⟨.p (.L (.faddr 5 (.t .d0 .d5))), []⟩,
    ⟨.p (.L (.load (.l 0))), []⟩,
    ⟨.p (.L (.mov (.t .d0 .d0))), []⟩,
    ⟨.p (.H (.call 57 [(.l 0)])), [1]⟩,
    ⟨.p (.L (.bsl 1 1 [.str 0 0] [(0, 1, (.l 0))])), []⟩,
    ⟨.p (.H (.append 1 16 (.l 3) (.l 0))), []⟩,
    ⟨.p (.L (.faddr 5 (.t .d0 .d5))), []⟩,
    ⟨.p (.H (.store 1 (.l 0) (.l 1))), []⟩])
  (.seq (.reg 6 [.p (.H (.call 58 [(.t .d0 .d0), (.c (.str 1 44))])),
    .s .d1 .d2 (.L (.not (.l 0)))])
  (.cond (.t .d1 .d2) (.exit 2) .skip))))))) .skip))
  (.seq (.reg 2 [.p (.H (.call 55 [(.t .d0 .d0), (.c (.str 1 125))]))])
  (.seq (.reg 14 [.p (.H (.call 104 [(.t .d0 .d0)])),
    .p (.L (.faddr 6 (.t .d0 .d5))),
    .p (.H (.store 1 (.l 0) (.l 1)))])
  (.seq (.reg 3 [.p (.L (.loadn 8 (.t .d0 .d5))),
    .p (.H (.store 8 (.t .d0 .d1) (.l 0)))])
  .ret))))))))))))))⟩
def i62 : Fun :=
  ⟨1, [0, 2, 3, 4, 6, 20, 7, 5, 8, 46, 53, 11, 10, 9, 61, 12, 80], [.tmp .d0 .d1, .tmp .d0 .d2, .tmp .d0 .d3], (.seq (.reg 7 [.s .d0 .d1 (.L (.mov (.c (.slN)))),
    .s .d0 .d2 (.L (.mov (.c (.int .i64 0)))),
    .s .d0 .d3 (.L (.mov (.c (.int .i64 0))))])
  (.seq (.reg 506 [.p (.H (.call 25 [(.t .d0 .d0)])),
    .p (.L (.ext 0 (.l 0))),
    .p (.L (.ext 1 (.l 1))),
    .p (.L (.ext 2 (.l 2))),
    .s .d0 .d7 (.L (.mov (.l 2))),
    .s .d0 .d4 (.L (.mov (.l 2))),
    .s .d0 .d6 (.L (.mov (.l 2)))])
  (.seq (.seq (.reg 2 [.s .d0 .d5 (.L (.bin .neq (.t .d0 .d4) (.c (.int .i64 0))))])
  (.cond (.t .d0 .d5) (.seq (.reg 28 [.s .d0 .d1 (.L (.mov (.c (.slN)))),
    .s .d0 .d2 (.L (.mov (.t .d0 .d4))),
    .s .d0 .d3 (.L (.mov (.t .d0 .d6)))])
  .ret) .skip))
  (.seq (.reg 6 [.p (.L (.build [.slN, .int .i64 0, .int .i64 0, .int .i64 0, .int .i64 0] [(0, 1, (.t .d0 .d7))])),
    .s .d1 .d0 (.L (.box 5 (.l 0)))])
  (.seq (.reg 1 [.s .d1 .d5 (.L (.mov (.c (.slN))))])
  (.seq (.reg 2 [.p (.H (.call 55 [(.t .d1 .d0), (.c (.str 6 126909394608492))]))])
  (.seq (.block 0 (.loop (.seq (.seq (.draw [0, 1, 2, 3, 4, 5, 6, 7, 8, 9, 10, 11, 12, 13, 14, 15, 16, 17, 18] [⟨.p (.L (.mov (.t .d1 .d0))), []⟩,
    ⟨.p (.L (.nilck (.l 0))), []⟩,
    ⟨.p (.L (.faddr 3 (.l 0))), []⟩,
    ⟨.p (.L (.load (.l 0))), []⟩,
    ⟨.p (.L (.bin .eql (.l 0) (.c (.int .i64 0)))), []⟩,
    ⟨.p (.L (.mov (.l 0))), []⟩,
    ⟨.g (.l 0) true (.L (.mov (.t .d1 .d0))), []⟩,
    ⟨.g (.l 1) true (.L (.nilck (.l 0))), []⟩,
    ⟨.g (.l 2) true (.L (.faddr 0 (.l 0))), []⟩,
    ⟨.g (.l 3) true (.L (.load (.l 0))), []⟩,
    ⟨.g (.l 4) true (.L (.mov (.t .d1 .d0))), []⟩,
    ⟨.g (.l 5) true (.L (.nilck (.l 0))), []⟩,
    ⟨.g (.l 6) true (.L (.faddr 1 (.l 0))), []⟩,
    ⟨.g (.l 7) true (.L (.load (.l 0))), []⟩,
    ⟨.g (.l 8) true (.L (.iaddr 3 (.l 4) (.l 0))), []⟩,
    ⟨.g (.l 9) true (.L (.faddr 0 (.l 0))), []⟩,
    ⟨.g (.l 10) true (.L (.load (.l 0))), []⟩,
    ⟨.g (.l 11) true (.L (.bin .neq (.l 0) (.c (.int .i64 0)))), []⟩,
    ⟨.s .d1 .d1 (.L (.pick (.l 12) (.l 0) (.c (.bool false)))), []⟩])
  (.cond (.t .d1 .d1) .skip (.exit 0)))
  (.block 1 (.seq (.reg 2 [.s .d1 .d4 (.H (.call 56 [(.t .d1 .d0)]))])
  (.seq (.reg 2 [.s .d1 .d3 (.H (.call 57 [(.t .d1 .d0)]))])
  (.seq (.seq (.reg 6 [.p (.H (.call 102 [(.t .d1 .d0), (.c (.str 1 60))])),
    .s .d1 .d2 (.L (.not (.l 0)))])
  (.cond (.t .d1 .d2) (.reg 56 [.p (.L (.build [.str 0 0, .str 0 0, .int .i64 0] [(0, 1, (.t .d1 .d3)), (2, 1, (.t .d1 .d4))])),
    .p (.L (.bsl 3 1 [.str 0 0, .str 0 0, .int .i64 0] [(0, 3, (.l 0))])),
    .s .d1 .d5 (.H (.append 3 40 (.t .d1 .d5) (.l 0)))]) .skip))
  (.seq (.block 2 (.loop (.seq (.seq (.reg 2 [.s .d1 .d6 (.H (.call 58 [(.t .d1 .d0), (.c (.str 1 60))]))])
  (.cond (.t .d1 .d6) .skip (.exit 2)))
  (.block 3 (.seq (.reg 2 [.s .d1 .d4 (.H (.call 56 [(.t .d1 .d0)]))])
  (.seq (.reg 2 [.s .d1 .d7 (.H (.call 57 [(.t .d1 .d0)]))])
  (.seq (.reg 112 [.p (.L (.build [.str 0 0, .str 0 0, .int .i64 0] [(0, 1, (.t .d1 .d3)), (1, 1, (.t .d1 .d7)), (2, 1, (.t .d1 .d4))])),
    .p (.L (.bsl 3 1 [.str 0 0, .str 0 0, .int .i64 0] [(0, 3, (.l 0))])),
    .s .d1 .d5 (.H (.append 3 40 (.t .d1 .d5) (.l 0)))])
  (.reg 2 [.s .d1 .d3 (.L (.mov (.t .d1 .d7)))]))))))))
  (.reg 2 [.p (.H (.call 55 [(.t .d1 .d0), (.c (.str 1 59))]))])))))))))
  (.seq (.seq (.reg 30 [.p (.L (.nilck (.t .d1 .d0))),
    .p (.L (.faddr 3 (.l 0))),
    .p (.L (.load (.l 0))),
    .s .d2 .d0 (.L (.bin .neq (.l 0) (.c (.int .i64 0))))])
  (.cond (.t .d2 .d0) (.seq (.draw [0, 1, 2, 3, 4, 5, 6, 7, 8, 9, 10] [⟨.p (.L (.mov (.t .d1 .d0))), []⟩,
    ⟨.p (.L (.nilck (.l 0))), []⟩,
    ⟨.p (.L (.faddr 3 (.l 0))), []⟩,
    ⟨.p (.L (.load (.l 0))), []⟩,
    ⟨.p (.L (.mov (.t .d1 .d0))), []⟩,
    ⟨.p (.L (.nilck (.l 0))), []⟩,
    ⟨.p (.L (.faddr 4 (.l 0))), []⟩,
    ⟨.p (.L (.load (.l 0))), []⟩,
    ⟨.s .d0 .d1 (.L (.mov (.c (.slN)))), []⟩,
    ⟨.s .d0 .d2 (.L (.mov (.l 5))), []⟩,
    ⟨.s .d0 .d3 (.L (.mov (.l 2))), []⟩])
  .ret) .skip))
  (.seq (.reg 14 [.s .d0 .d1 (.L (.mov (.t .d1 .d5))),
    .s .d0 .d2 (.L (.mov (.c (.int .i64 0)))),
    .s .d0 .d3 (.L (.mov (.c (.int .i64 0))))])
  .ret)))))))))⟩
def i63 : Fun :=
  ⟨1, [0, 2, 3, 5, 19, 4, 34, 44, 6, 48, 51, 8, 55, 9, 7, 10, 70, 78, 11, 99, 12, 104, 13, 109, 15, 150, 14], [.cell .d0 .d1 (some 6), .tmp .d0 .d2], (.seq (.reg 3 [.s .d0 .d1 (.L (.alloc [.slN, .slN, .slN, .slN, .int .i64 0, .int .i64 0])),
    .s .d0 .d2 (.L (.mov (.c (.int .i64 0))))])
  (.seq (.reg 1 [.s .d0 .d5 (.L (.mov (.c (.slN))))])
  (.seq (.seq (.reg 1 [.s .d0 .d3 (.L (.mov (.c (.int .i64 0))))])
  (.block 0 (.loop (.seq (.seq (.reg 12 [.p (.L (.len false (.t .d0 .d0))),
    .s .d0 .d4 (.L (.bin .lss (.t .d0 .d3) (.l 0)))])
  (.cond (.t .d0 .d4) .skip (.exit 0)))
  (.seq (.block 1 (.seq (.reg 120 [.p (.L (.iaddr 3 (.t .d0 .d0) (.t .d0 .d3))),
    .p (.L (.faddr 0 (.l 0))),
    .p (.L (.load (.l 0))),
    .s .d0 .d5 (.H (.call 100 [(.t .d0 .d5), (.l 0)]))])
  (.seq (.seq (.reg 60 [.p (.L (.iaddr 3 (.t .d0 .d0) (.t .d0 .d3))),
    .p (.L (.faddr 1 (.l 0))),
    .p (.L (.load (.l 0))),
    .s .d0 .d6 (.L (.bins .neq (.l 0) (.c (.str 0 0))))])
  (.cond (.t .d0 .d6) (.reg 120 [.p (.L (.iaddr 3 (.t .d0 .d0) (.t .d0 .d3))),
    .p (.L (.faddr 1 (.l 0))),
    .p (.L (.load (.l 0))),
    .s .d0 .d5 (.H (.call 100 [(.t .d0 .d5), (.l 0)]))]) .skip))
  (.seq (.reg 6 [.p (.L (.len false (.t .d0 .d5))),
    .s .d0 .d7 (.L (.bin .gtr (.l 0) (.c (.int .i64 13))))])
  (.cond (.t .d0 .d7) (.exit 0) .skip)))))
  (.reg 2 [.s .d0 .d3 (.L (.bin .add (.t .d0 .d3) (.c (.int .i64 1))))]))))))
  (.seq (.reg 2 [.s .d1 .d0 (.L (.len false (.t .d0 .d5)))])
  (.seq (.seq (.reg 2 [.s .d1 .d1 (.L (.bin .eql (.t .d1 .d0) (.c (.int .i64 0))))])
  (.cond (.t .d1 .d1) (.seq (.reg 7 [.p (.L (.build [.slN, .slN, .slN, .slN, .int .i64 0, .int .i64 0] [])),
    .p (.H (.store 6 (.t .d0 .d1) (.l 0))),
    .s .d0 .d2 (.L (.mov (.c (.int .i64 13))))])
  .ret) .skip))
  (.seq (.seq (.reg 2 [.s .d1 .d2 (.L (.bin .gtr (.t .d1 .d0) (.c (.int .i64 12))))])
  (.cond (.t .d1 .d2) (.seq (.reg 7 [.p (.L (.build [.slN, .slN, .slN, .slN, .int .i64 0, .int .i64 0] [])),
    .p (.H (.store 6 (.t .d0 .d1) (.l 0))),
    .s .d0 .d2 (.L (.mov (.c (.int .i64 14))))])
  .ret) .skip))
  (.seq (.reg 1 [.s .d1 .d6 (.L (.mov (.c (.slN))))])
  (.seq (.seq (.reg 1 [.s .d1 .d3 (.L (.mov (.c (.int .i64 0))))])
  (.block 2 (.loop (.seq (.seq (.reg 4 [.s .d1 .d4 (.L (.bin .lss (.t .d1 .d3) (.t .d1 .d0)))])
  (.cond (.t .d1 .d4) .skip (.exit 2)))
  (.seq (.block 3 (.seq (.reg 2 [.s .d1 .d5 (.L (.mksl 1 [.bool false] 1 (.t .d1 .d0) (.t .d1 .d0)))])
  (.seq (.reg 12 [.p (.L (.iaddr 1 (.t .d1 .d5) (.t .d1 .d3))),
    .p (.H (.store 1 (.l 0) (.c (.bool true))))])
  (.reg 12 [.p (.L (.bsl 1 1 [.slN] [(0, 1, (.t .d1 .d5))])),
    .s .d1 .d6 (.H (.append 1 24 (.t .d1 .d6) (.l 0)))]))))
  (.reg 2 [.s .d1 .d3 (.L (.bin .add (.t .d1 .d3) (.c (.int .i64 1))))]))))))
  (.seq (.seq (.reg 1 [.s .d1 .d7 (.L (.mov (.c (.int .i64 0))))])
  (.block 4 (.loop (.seq (.seq (.reg 12 [.p (.L (.len false (.t .d0 .d0))),
    .s .d2 .d0 (.L (.bin .lss (.t .d1 .d7) (.l 0)))])
  (.cond (.t .d2 .d0) .skip (.exit 4)))
  (.seq (.block 5 (.seq (.reg 60 [.p (.L (.iaddr 3 (.t .d0 .d0) (.t .d1 .d7))),
    .p (.L (.faddr 1 (.l 0))),
    .p (.L (.load (.l 0))),
    .s .d2 .d1 (.L (.bins .neq (.l 0) (.c (.str 0 0))))])
  (.cond (.t .d2 .d1) (.draw [0, 1, 2, 3, 4, 5, 6, 10, 11, 12, 13, 14, 15, 7, 8, 9, 16, 17, 18] [⟨.p (.L (.mov (.t .d1 .d6))), []⟩,
    ⟨.p (.L (.mov (.t .d0 .d5))), []⟩,
    ⟨.p (.L (.mov (.t .d0 .d0))), []⟩,
    ⟨.p (.L (.mov (.t .d1 .d7))), []⟩,
    ⟨.p (.L (.iaddr 3 (.l 1) (.l 0))), []⟩,
    ⟨.p (.L (.faddr 0 (.l 0))), []⟩,
    ⟨.p (.L (.load (.l 0))), []⟩,
    ⟨.p (.L (.mov (.t .d0 .d5))), []⟩,
    ⟨.p (.L (.mov (.t .d0 .d0))), []⟩,
    ⟨.p (.L (.mov (.t .d1 .d7))), []⟩,
    ⟨.p (.L (.iaddr 3 (.l 1) (.l 0))), []⟩,
    ⟨.p (.L (.faddr 1 (.l 0))), []⟩,
    ⟨.p (.L (.load (.l 0))), []⟩,
    ⟨.p (.H (.call 50 [(.l 11), (.l 6)])), [0]⟩,
    ⟨.p (.L (.iaddr 1 (.l 13) (.l 0))), []⟩,
    ⟨.p (.L (.load (.l 0))), []⟩,
    ⟨.p (.H (.call 50 [(.l 8), (.l 3)])), [0]⟩,
    ⟨.p (.L (.iaddr 1 (.l 1) (.l 0))), []⟩,
    ⟨.p (.H (.store 1 (.l 0) (.c (.bool true)))), []⟩]) .skip)))
  (.reg 2 [.s .d1 .d7 (.L (.bin .add (.t .d1 .d7) (.c (.int .i64 1))))]))))))
  (.seq (.seq (.reg 1 [.s .d2 .d2 (.L (.mov (.c (.int .i64 0))))])
  (.block 6 (.loop (.seq (.seq (.reg 4 [.s .d2 .d3 (.L (.bin .lss (.t .d2 .d2) (.t .d1 .d0)))])
  (.cond (.t .d2 .d3) .skip (.exit 6)))
  (.seq (.block 7 (.seq (.reg 1 [.s .d2 .d4 (.L (.mov (.c (.int .i64 0))))])
  (.block 8 (.loop (.seq (.seq (.reg 4 [.s .d2 .d5 (.L (.bin .lss (.t .d2 .d4) (.t .d1 .d0)))])
  (.cond (.t .d2 .d5) .skip (.exit 8)))
  (.seq (.block 9 (.seq (.reg 1 [.s .d2 .d6 (.L (.mov (.c (.int .i64 0))))])
  (.block 10 (.loop (.seq (.seq (.reg 4 [.s .d2 .d7 (.L (.bin .lss (.t .d2 .d6) (.t .d1 .d0)))])
  (.cond (.t .d2 .d7) .skip (.exit 10)))
  (.seq (.block 11 (.draw [0, 1, 2, 3, 4, 5, 6, 7, 8, 9, 10, 11, 12, 13, 14, 15, 16, 17, 18, 19, 20, 21, 22, 23, 24, 25, 26, 27, 28, 29, 30, 31] [⟨.p (.L (.mov (.t .d1 .d6))), []⟩,
    ⟨.p (.L (.mov (.t .d2 .d4))), []⟩,
    ⟨.p (.L (.iaddr 1 (.l 1) (.l 0))), []⟩,
    ⟨.p (.L (.load (.l 0))), []⟩,
    ⟨.p (.L (.mov (.t .d2 .d6))), []⟩,
    ⟨.p (.L (.mov (.t .d1 .d6))), []⟩,
    ⟨.p (.L (.mov (.t .d2 .d4))), []⟩,
    ⟨.p (.L (.iaddr 1 (.l 1) (.l 0))), []⟩,
    ⟨.p (.L (.load (.l 0))), []⟩,
    ⟨.p (.L (.mov (.t .d2 .d6))), []⟩,
    ⟨.p (.L (.iaddr 1 (.l 1) (.l 0))), []⟩,
    ⟨.p (.L (.load (.l 0))), []⟩,
    ⟨.p (.L (.mov (.l 0))), []⟩,
    ⟨.g (.l 0) false (.L (.mov (.t .d1 .d6))), []⟩,
    ⟨.g (.l 1) false (.L (.mov (.t .d2 .d4))), []⟩,
    ⟨.g (.l 2) false (.L (.iaddr 1 (.l 1) (.l 0))), []⟩,
    ⟨.g (.l 3) false (.L (.load (.l 0))), []⟩,
    ⟨.g (.l 4) false (.L (.mov (.t .d2 .d2))), []⟩,
    ⟨.g (.l 5) false (.L (.iaddr 1 (.l 1) (.l 0))), []⟩,
    ⟨.g (.l 6) false (.L (.load (.l 0))), []⟩,
    ⟨.g (.l 7) false (.L (.mov (.l 0))), []⟩,
    ⟨.g (.l 0) true (.L (.mov (.t .d1 .d6))), []⟩,
    ⟨.g (.l 1) true (.L (.mov (.t .d2 .d2))), []⟩,
    ⟨.g (.l 2) true (.L (.iaddr 1 (.l 1) (.l 0))), []⟩,
    ⟨.g (.l 3) true (.L (.load (.l 0))), []⟩,
    ⟨.g (.l 4) true (.L (.mov (.t .d2 .d6))), []⟩,
    ⟨.g (.l 5) true (.L (.iaddr 1 (.l 1) (.l 0))), []⟩,
    ⟨.g (.l 6) true (.L (.load (.l 0))), []⟩,
    ⟨.g (.l 15) false (.L (.pick (.l 7) (.l 0) (.c (.bool false)))), []⟩,
    ⟨.p (.L (.pick (.l 16) (.c (.bool true)) (.l 0))), []⟩,
    ⟨.p (.L (.iaddr 1 (.l 26) (.l 25))), []⟩,
    ⟨.p (.H (.store 1 (.l 0) (.l 1))), []⟩]))
  (.reg 2 [.s .d2 .d6 (.L (.bin .add (.t .d2 .d6) (.c (.int .i64 1))))])))))))
  (.reg 2 [.s .d2 .d4 (.L (.bin .add (.t .d2 .d4) (.c (.int .i64 1))))])))))))
  (.reg 2 [.s .d2 .d2 (.L (.bin .add (.t .d2 .d2) (.c (.int .i64 1))))]))))))
  (.seq (.reg 500 [.p (.H (.call 97 [(.t .d0 .d5), (.t .d1 .d6)])),
    .p (.L (.ext 0 (.l 0))),
    .p (.L (.ext 1 (.l 1))),
    .s .d3 .d2 (.L (.alloc [.slN, .slN, .slN, .slN, .int .i64 0, .int .i64 0])),
    .p (.H (.store 6 (.l 0) (.l 2))),
    .s .d3 .d0 (.L (.mov (.l 2)))])
  (.seq (.seq (.reg 2 [.s .d3 .d1 (.L (.not (.t .d3 .d0)))])
  (.cond (.t .d3 .d1) (.seq (.reg 7 [.p (.L (.build [.slN, .slN, .slN, .slN, .int .i64 0, .int .i64 0] [])),
    .p (.H (.store 6 (.t .d0 .d1) (.l 0))),
    .s .d0 .d2 (.L (.mov (.c (.int .i64 13))))])
  .ret) .skip))
  (.seq (.reg 7 [.p (.L (.loadn 6 (.t .d3 .d2))),
    .p (.H (.store 6 (.t .d0 .d1) (.l 0))),
    .s .d0 .d2 (.L (.mov (.c (.int .i64 0))))])
  .ret)))))))))))))⟩
def i64 : Fun :=
  ⟨2, [0, 1, 3, 21, 20, 22, 19, 6, 4, 36, 35, 37, 34, 8, 51, 50, 52, 49, 10, 66, 65, 67, 64, 12, 73, 72, 74, 71, 14], [], (.seq (.reg 1 [.s .d0 .d2 (.L (.box 5 (.t .d0 .d1)))])
  (.seq (.reg 7 [.p (.L (.faddr 0 (.t .d0 .d2))),
    .p (.L (.load (.l 0))),
    .s .d1 .d0 (.L (.bsl 1 1 [.str 0 0] [(0, 1, (.l 0))]))])
  (.seq (.seq (.reg 15 [.p (.L (.faddr 2 (.t .d0 .d2))),
    .s .d0 .d6 (.L (.load (.l 0))),
    .s .d0 .d4 (.L (.len false (.l 0))),
    .s .d0 .d3 (.L (.mov (.c (.int .i64 0))))])
  (.block 0 (.loop (.seq (.reg 1 [.s .d0 .d5 (.L (.bin .lss (.t .d0 .d3) (.t .d0 .d4)))])
  (.seq (.cond (.t .d0 .d5) .skip (.exit 0))
  (.seq (.block 1 (.seq (.reg 15 [.p (.L (.iaddr 2 (.t .d0 .d6) (.t .d0 .d3))),
    .p (.L (.loadn 2 (.l 0))),
    .s .d0 .d7 (.L (.alloc [.str 0 0, .int .i64 0])),
    .p (.H (.store 2 (.l 0) (.l 1)))])
  (.reg 124 [.p (.L (.faddr 0 (.t .d0 .d7))),
    .p (.L (.load (.l 0))),
    .p (.L (.faddr 1 (.t .d0 .d7))),
    .p (.L (.load (.l 0))),
    .s .d1 .d0 (.H (.call 105 [(.t .d0 .d0), (.t .d1 .d0), (.l 2), (.l 0)]))])))
  (.reg 1 [.s .d0 .d3 (.L (.bin .add (.t .d0 .d3) (.c (.int .i64 1))))])))))))
  (.seq (.reg 1 [.s .d1 .d0 (.L (.mov (.c (.slN))))])
  (.seq (.seq (.reg 15 [.p (.L (.faddr 3 (.t .d0 .d2))),
    .s .d1 .d4 (.L (.load (.l 0))),
    .s .d1 .d2 (.L (.len false (.l 0))),
    .s .d1 .d1 (.L (.mov (.c (.int .i64 0))))])
  (.block 2 (.loop (.seq (.reg 1 [.s .d1 .d3 (.L (.bin .lss (.t .d1 .d1) (.t .d1 .d2)))])
  (.seq (.cond (.t .d1 .d3) .skip (.exit 2))
  (.seq (.block 3 (.seq (.reg 15 [.p (.L (.iaddr 4 (.t .d1 .d4) (.t .d1 .d1))),
    .p (.L (.loadn 4 (.l 0))),
    .s .d1 .d5 (.L (.alloc [.str 0 0, .str 0 0, .int .i64 0, .int .i64 0])),
    .p (.H (.store 4 (.l 0) (.l 1)))])
  (.reg 124 [.p (.L (.faddr 0 (.t .d1 .d5))),
    .p (.L (.load (.l 0))),
    .p (.L (.faddr 3 (.t .d1 .d5))),
    .p (.L (.load (.l 0))),
    .s .d1 .d0 (.H (.call 105 [(.t .d0 .d0), (.t .d1 .d0), (.l 2), (.l 0)]))])))
  (.reg 1 [.s .d1 .d1 (.L (.bin .add (.t .d1 .d1) (.c (.int .i64 1))))])))))))
  (.seq (.seq (.reg 15 [.p (.L (.faddr 4 (.t .d0 .d2))),
    .s .d2 .d1 (.L (.load (.l 0))),
    .s .d1 .d7 (.L (.len false (.l 0))),
    .s .d1 .d6 (.L (.mov (.c (.int .i64 0))))])
  (.block 4 (.loop (.seq (.reg 1 [.s .d2 .d0 (.L (.bin .lss (.t .d1 .d6) (.t .d1 .d7)))])
  (.seq (.cond (.t .d2 .d0) .skip (.exit 4))
  (.seq (.block 5 (.seq (.reg 15 [.p (.L (.iaddr 8 (.t .d2 .d1) (.t .d1 .d6))),
    .p (.L (.loadn 8 (.l 0))),
    .s .d2 .d2 (.L (.alloc [.str 0 0, .slN, .bool false, .str 0 0, .str 0 0, .slN, .slN, .int .i64 0])),
    .p (.H (.store 8 (.l 0) (.l 1)))])
  (.reg 124 [.p (.L (.faddr 0 (.t .d2 .d2))),
    .p (.L (.load (.l 0))),
    .p (.L (.faddr 7 (.t .d2 .d2))),
    .p (.L (.load (.l 0))),
    .s .d1 .d0 (.H (.call 105 [(.t .d0 .d0), (.t .d1 .d0), (.l 2), (.l 0)]))])))
  (.reg 1 [.s .d1 .d6 (.L (.bin .add (.t .d1 .d6) (.c (.int .i64 1))))])))))))
  (.seq (.reg 15 [.p (.L (.faddr 4 (.t .d0 .d2))),
    .s .d2 .d6 (.L (.load (.l 0))),
    .s .d2 .d4 (.L (.len false (.l 0))),
    .s .d2 .d3 (.L (.mov (.c (.int .i64 0))))])
  (.block 6 (.loop (.seq (.reg 1 [.s .d2 .d5 (.L (.bin .lss (.t .d2 .d3) (.t .d2 .d4)))])
  (.seq (.cond (.t .d2 .d5) .skip (.exit 6))
  (.seq (.block 7 (.seq (.reg 15 [.p (.L (.iaddr 8 (.t .d2 .d6) (.t .d2 .d3))),
    .p (.L (.loadn 8 (.l 0))),
    .s .d2 .d7 (.L (.alloc [.str 0 0, .slN, .bool false, .str 0 0, .str 0 0, .slN, .slN, .int .i64 0])),
    .p (.H (.store 8 (.l 0) (.l 1)))])
  (.seq (.reg 1 [.s .d1 .d0 (.L (.mov (.c (.slN))))])
  (.seq (.reg 15 [.p (.L (.faddr 1 (.t .d2 .d7))),
    .s .d3 .d3 (.L (.load (.l 0))),
    .s .d3 .d1 (.L (.len false (.l 0))),
    .s .d3 .d0 (.L (.mov (.c (.int .i64 0))))])
  (.block 8 (.loop (.seq (.reg 1 [.s .d3 .d2 (.L (.bin .lss (.t .d3 .d0) (.t .d3 .d1)))])
  (.seq (.cond (.t .d3 .d2) .skip (.exit 8))
  (.seq (.block 9 (.seq (.reg 15 [.p (.L (.iaddr 3 (.t .d3 .d3) (.t .d3 .d0))),
    .p (.L (.loadn 3 (.l 0))),
    .s .d3 .d4 (.L (.alloc [.str 0 0, .str 0 0, .int .i64 0])),
    .p (.H (.store 3 (.l 0) (.l 1)))])
  (.reg 124 [.p (.L (.faddr 0 (.t .d3 .d4))),
    .p (.L (.load (.l 0))),
    .p (.L (.faddr 2 (.t .d3 .d4))),
    .p (.L (.load (.l 0))),
    .s .d1 .d0 (.H (.call 105 [(.t .d0 .d0), (.t .d1 .d0), (.l 2), (.l 0)]))])))
  (.reg 1 [.s .d3 .d0 (.L (.bin .add (.t .d3 .d0) (.c (.int .i64 1))))]))))))))))
  (.reg 1 [.s .d2 .d3 (.L (.bin .add (.t .d2 .d3) (.c (.int .i64 1))))])))))))))))))⟩
def i65 : Fun :=
  ⟨2, [0, 1, 3, 13, 12, 14, 11, 5, 27, 26, 28, 25, 7, 34, 33, 35, 32, 9, 46], [], (.seq (.reg 1 [.s .d0 .d2 (.L (.box 5 (.t .d0 .d1)))])
  (.seq (.seq (.reg 15 [.p (.L (.faddr 3 (.t .d0 .d2))),
    .s .d0 .d6 (.L (.load (.l 0))),
    .s .d0 .d4 (.L (.len false (.l 0))),
    .s .d0 .d3 (.L (.mov (.c (.int .i64 0))))])
  (.block 0 (.loop (.seq (.reg 1 [.s .d0 .d5 (.L (.bin .lss (.t .d0 .d3) (.t .d0 .d4)))])
  (.seq (.cond (.t .d0 .d5) .skip (.exit 0))
  (.seq (.block 1 (.seq (.reg 15 [.p (.L (.iaddr 4 (.t .d0 .d6) (.t .d0 .d3))),
    .p (.L (.loadn 4 (.l 0))),
    .s .d0 .d7 (.L (.alloc [.str 0 0, .str 0 0, .int .i64 0, .int .i64 0])),
    .p (.H (.store 4 (.l 0) (.l 1)))])
  (.reg 62 [.p (.L (.faddr 1 (.t .d0 .d7))),
    .p (.L (.load (.l 0))),
    .p (.L (.faddr 3 (.t .d0 .d7))),
    .p (.L (.load (.l 0))),
    .p (.H (.call 106 [(.t .d0 .d0), (.l 2), (.l 0)]))])))
  (.reg 1 [.s .d0 .d3 (.L (.bin .add (.t .d0 .d3) (.c (.int .i64 1))))])))))))
  (.seq (.reg 15 [.p (.L (.faddr 4 (.t .d0 .d2))),
    .s .d1 .d3 (.L (.load (.l 0))),
    .s .d1 .d1 (.L (.len false (.l 0))),
    .s .d1 .d0 (.L (.mov (.c (.int .i64 0))))])
  (.block 2 (.loop (.seq (.reg 1 [.s .d1 .d2 (.L (.bin .lss (.t .d1 .d0) (.t .d1 .d1)))])
  (.seq (.cond (.t .d1 .d2) .skip (.exit 2))
  (.seq (.block 3 (.seq (.reg 15 [.p (.L (.iaddr 8 (.t .d1 .d3) (.t .d1 .d0))),
    .p (.L (.loadn 8 (.l 0))),
    .s .d1 .d4 (.L (.alloc [.str 0 0, .slN, .bool false, .str 0 0, .str 0 0, .slN, .slN, .int .i64 0])),
    .p (.H (.store 8 (.l 0) (.l 1)))])
  (.seq (.seq (.reg 15 [.p (.L (.faddr 1 (.t .d1 .d4))),
    .s .d2 .d0 (.L (.load (.l 0))),
    .s .d1 .d6 (.L (.len false (.l 0))),
    .s .d1 .d5 (.L (.mov (.c (.int .i64 0))))])
  (.block 4 (.loop (.seq (.reg 1 [.s .d1 .d7 (.L (.bin .lss (.t .d1 .d5) (.t .d1 .d6)))])
  (.seq (.cond (.t .d1 .d7) .skip (.exit 4))
  (.seq (.block 5 (.seq (.reg 15 [.p (.L (.iaddr 3 (.t .d2 .d0) (.t .d1 .d5))),
    .p (.L (.loadn 3 (.l 0))),
    .s .d2 .d1 (.L (.alloc [.str 0 0, .str 0 0, .int .i64 0])),
    .p (.H (.store 3 (.l 0) (.l 1)))])
  (.reg 62 [.p (.L (.faddr 1 (.t .d2 .d1))),
    .p (.L (.load (.l 0))),
    .p (.L (.faddr 2 (.t .d2 .d1))),
    .p (.L (.load (.l 0))),
    .p (.H (.call 106 [(.t .d0 .d0), (.l 2), (.l 0)]))])))
  (.reg 1 [.s .d1 .d5 (.L (.bin .add (.t .d1 .d5) (.c (.int .i64 1))))])))))))
  (.seq (.seq (.reg 3 [.p (.L (.faddr 2 (.t .d1 .d4))),
    .s .d2 .d2 (.L (.load (.l 0)))])
  (.cond (.t .d2 .d2) (.reg 62 [.p (.L (.faddr 3 (.t .d1 .d4))),
    .p (.L (.load (.l 0))),
    .p (.L (.faddr 7 (.t .d1 .d4))),
    .p (.L (.load (.l 0))),
    .p (.H (.call 106 [(.t .d0 .d0), (.l 2), (.l 0)]))]) .skip))
  (.reg 62 [.p (.L (.faddr 4 (.t .d1 .d4))),
    .p (.L (.load (.l 0))),
    .p (.L (.faddr 7 (.t .d1 .d4))),
    .p (.L (.load (.l 0))),
    .p (.H (.call 106 [(.t .d0 .d0), (.l 2), (.l 0)]))])))))
  (.reg 1 [.s .d1 .d0 (.L (.bin .add (.t .d1 .d0) (.c (.int .i64 1))))])))))))))⟩
def i66 : Fun :=
  ⟨1, [0, 2, 1, 21, 20, 22, 19, 3, 5], [.cell .d0 .d1 (some 6)], (.seq (.reg 3 [.s .d0 .d2 (.L (.box 8 (.t .d0 .d0))),
    .s .d0 .d1 (.L (.alloc [.str 0 0, .slN, .bool false, .str 0 0, .str 0 0, .slN]))])
  (.seq (.draw [0, 1, 2, 3, 4, 5, 6, 7, 8, 9, 12, 10, 11, 13] [⟨.p (.L (.faddr 0 (.t .d0 .d2))), []⟩,
    ⟨.p (.L (.load (.l 0))), []⟩,
    ⟨.p (.L (.faddr 2 (.t .d0 .d2))), []⟩,
    ⟨.p (.L (.load (.l 0))), []⟩,
    ⟨.p (.L (.faddr 3 (.t .d0 .d2))), []⟩,
    ⟨.p (.L (.load (.l 0))), []⟩,
    ⟨.p (.L (.faddr 4 (.t .d0 .d2))), []⟩,
    ⟨.p (.L (.load (.l 0))), []⟩,
    ⟨.p (.L (.faddr 5 (.t .d0 .d2))), []⟩,
    ⟨.p (.L (.load (.l 0))), []⟩,
    ⟨.s .d0 .d7 (.L (.alloc [.str 0 0, .slN, .bool false, .str 0 0, .str 0 0, .slN])), []⟩,
    ⟨.p (.H (.call 107 [(.l 1)])), [9, 7, 5, 3, 0]⟩,
    ⟨.p (.L (.build [.str 0 0, .slN, .bool false, .str 0 0, .str 0 0, .slN] [(0, 1, (.l 10)), (2, 1, (.l 8)), (3, 1, (.l 6)), (4, 1, (.l 4)), (5, 1, (.l 0))])), []⟩,
    ⟨.p (.H (.store 6 (.l 2) (.l 0))), []⟩])
  (.seq (.seq (.reg 15 [.p (.L (.faddr 1 (.t .d0 .d2))),
    .s .d0 .d6 (.L (.load (.l 0))),
    .s .d0 .d4 (.L (.len false (.l 0))),
    .s .d0 .d3 (.L (.mov (.c (.int .i64 0))))])
  (.block 0 (.loop (.seq (.reg 1 [.s .d0 .d5 (.L (.bin .lss (.t .d0 .d3) (.t .d0 .d4)))])
  (.seq (.cond (.t .d0 .d5) .skip (.exit 0))
  (.seq (.block 1 (.seq (.reg 15 [.p (.L (.iaddr 3 (.t .d0 .d6) (.t .d0 .d3))),
    .p (.L (.loadn 3 (.l 0))),
    .s .d1 .d0 (.L (.alloc [.str 0 0, .str 0 0, .int .i64 0])),
    .p (.H (.store 3 (.l 0) (.l 1)))])
  (.reg 255 [.p (.L (.faddr 1 (.t .d0 .d7))),
    .p (.L (.load (.l 0))),
    .p (.L (.faddr 1 (.t .d1 .d0))),
    .p (.L (.load (.l 0))),
    .p (.L (.bsl 1 1 [.str 0 0] [(0, 1, (.l 0))])),
    .p (.H (.append 1 16 (.l 3) (.l 0))),
    .p (.L (.faddr 1 (.t .d0 .d7))),
    .p (.H (.store 1 (.l 0) (.l 1)))])))
  (.reg 1 [.s .d0 .d3 (.L (.bin .add (.t .d0 .d3) (.c (.int .i64 1))))])))))))
  (.seq (.reg 3 [.p (.L (.loadn 6 (.t .d0 .d7))),
    .p (.H (.store 6 (.t .d0 .d1) (.l 0)))])
  .ret))))⟩
def i67 : Fun :=
  ⟨2, [0, 1, 4], [], (.seq (.reg 2 [.s .d0 .d2 (.L (.len false (.t .d0 .d0)))])
  (.reg 88 [.p (.L (.conv .u64 (.t .d0 .d2))),
    .p (.H (.call 109 [(.l 0)])),
    .p (.H (.call 108 [(.t .d0 .d0), (.c (.int .i64 0)), (.t .d0 .d2), (.l 0), (.t .d0 .d1)]))]))⟩
def i68 : Fun :=
  ⟨2, [0, 1, 4, 2, 3], [.tmp .d0 .d2], (.seq (.reg 7 [.s .d0 .d3 (.L (.box 4 (.t .d0 .d0))),
    .s .d0 .d4 (.L (.box 4 (.t .d0 .d1))),
    .s .d0 .d2 (.L (.mov (.c (.int .i64 0))))])
  (.seq (.reg 31 [.p (.L (.faddr 0 (.t .d0 .d3))),
    .p (.L (.load (.l 0))),
    .p (.L (.faddr 0 (.t .d0 .d4))),
    .p (.L (.load (.l 0))),
    .s .d0 .d2 (.H (.call 69 [(.l 2), (.l 0)]))])
  .ret))⟩
def i69 : Fun :=
  ⟨2, [0, 1, 4], [.tmp .d0 .d2], (.seq (.reg 1 [.s .d0 .d2 (.L (.mov (.c (.int .i64 0))))])
  (.seq (.reg 4 [.s .d0 .d2 (.H (.call 110 [(.t .d0 .d0), (.t .d0 .d1)]))])
  .ret))⟩
def i70 : Fun :=
  ⟨2, [0, 1, 4], [], (.seq (.reg 2 [.s .d0 .d2 (.L (.len false (.t .d0 .d0)))])
  (.reg 88 [.p (.L (.conv .u64 (.t .d0 .d2))),
    .p (.H (.call 109 [(.l 0)])),
    .p (.H (.call 111 [(.t .d0 .d0), (.c (.int .i64 0)), (.t .d0 .d2), (.l 0), (.t .d0 .d1)]))]))⟩
def i71 : Fun :=
  ⟨2, [0, 1, 4, 2, 3], [.tmp .d0 .d2], (.seq (.reg 7 [.s .d0 .d3 (.L (.box 6 (.t .d0 .d0))),
    .s .d0 .d4 (.L (.box 6 (.t .d0 .d1))),
    .s .d0 .d2 (.L (.mov (.c (.int .i64 0))))])
  (.seq (.reg 31 [.p (.L (.faddr 0 (.t .d0 .d3))),
    .p (.L (.load (.l 0))),
    .p (.L (.faddr 0 (.t .d0 .d4))),
    .p (.L (.load (.l 0))),
    .s .d0 .d2 (.H (.call 69 [(.l 2), (.l 0)]))])
  .ret))⟩
def i72 : Fun :=
  ⟨2, [0, 1, 4, 3], [.tmp .d0 .d2], (.seq (.reg 3 [.s .d0 .d3 (.L (.box 1 (.t .d0 .d1))),
    .s .d0 .d2 (.L (.mov (.c (.bool false))))])
  (.seq (.reg 1006 [.p (.L (.len false (.t .d0 .d0))),
    .p (.L (.load (.t .d0 .d3))),
    .p (.L (.bin .eql (.l 1) (.l 0))),
    .g (.l 0) true (.L (.mov (.t .d0 .d0))),
    .g (.l 1) true (.L (.fn 113 [] [(.t .d0 .d3)])),
    .g (.l 2) true (.H (.call 112 [(.l 1), (.l 0)])),
    .g (.l 3) true (.L (.not (.l 0))),
    .s .d0 .d2 (.L (.pick (.l 4) (.l 0) (.c (.bool false))))])
  .ret))⟩
def i73 : Fun :=
  ⟨2, [0, 1, 4, 3], [.tmp .d0 .d2], (.seq (.reg 3 [.s .d0 .d3 (.L (.box 1 (.t .d0 .d1))),
    .s .d0 .d2 (.L (.mov (.c (.bool false))))])
  (.seq (.reg 1006 [.p (.L (.len false (.t .d0 .d0))),
    .p (.L (.load (.t .d0 .d3))),
    .p (.L (.bin .eql (.l 1) (.l 0))),
    .g (.l 0) true (.L (.mov (.t .d0 .d0))),
    .g (.l 1) true (.L (.fn 115 [] [(.t .d0 .d3)])),
    .g (.l 2) true (.H (.call 114 [(.l 1), (.l 0)])),
    .g (.l 3) true (.L (.not (.l 0))),
    .s .d0 .d2 (.L (.pick (.l 4) (.l 0) (.c (.bool false))))])
  .ret))⟩
def i74 : Fun :=
  ⟨1, [0, 2, 4], [.tmp .d0 .d1], (.seq (.reg 1 [.s .d0 .d1 (.L (.mov (.c (.slN))))])
  (.seq (.seq (.reg 2 [.s .d0 .d2 (.L (.eq false .sl (.t .d0 .d0) (.c (.slN))))])
  (.cond (.t .d0 .d2) (.seq (.reg 1 [.s .d0 .d1 (.L (.mov (.c (.slN))))])
  .ret) .skip))
  (.seq (.reg 5 [.p (.L (.bsl 1 0 [.bool false] [])),
    .s .d0 .d1 (.H (.append 1 1 (.l 0) (.t .d0 .d0)))])
  .ret)))⟩
def i75 : Fun :=
  ⟨1, [0, 7, 6, 8, 12, 11, 13, 3, 2, 22, 25, 24, 26, 4], [], (.seq (.reg 6 [.s .d0 .d2 (.L (.len false (.t .d0 .d0))),
    .s .d0 .d1 (.L (.mov (.c (.int .i64 0))))])
  (.block 0 (.loop (.seq (.reg 1 [.s .d0 .d3 (.L (.bin .lss (.t .d0 .d1) (.t .d0 .d2)))])
  (.seq (.cond (.t .d0 .d3) .skip (.exit 0))
  (.seq (.block 1 (.seq (.reg 2 [.s .d1 .d0 (.L (.mov (.t .d0 .d1)))])
  (.seq .skip
  (.seq (.reg 6 [.s .d0 .d5 (.L (.len false (.t .d0 .d0))),
    .s .d0 .d4 (.L (.mov (.c (.int .i64 0))))])
  (.block 2 (.loop (.seq (.reg 1 [.s .d0 .d6 (.L (.bin .lss (.t .d0 .d4) (.t .d0 .d5)))])
  (.seq (.cond (.t .d0 .d6) .skip (.exit 2))
  (.seq (.block 3 (.seq (.reg 2 [.s .d0 .d7 (.L (.mov (.t .d0 .d4)))])
  (.seq (.seq (.reg 236 [.p (.L (.iaddr 1 (.t .d0 .d0) (.t .d0 .d7))),
    .p (.L (.load (.l 0))),
    .p (.L (.iaddr 1 (.l 0) (.t .d1 .d0))),
    .p (.L (.load (.l 0))),
    .s .d1 .d1 (.L (.not (.l 0)))])
  (.cond (.t .d1 .d1) (.exit 3) .skip))
  (.seq (.reg 6 [.s .d1 .d3 (.L (.len false (.t .d0 .d0))),
    .s .d1 .d2 (.L (.mov (.c (.int .i64 0))))])
  (.block 4 (.loop (.seq (.reg 1 [.s .d1 .d4 (.L (.bin .lss (.t .d1 .d2) (.t .d1 .d3)))])
  (.seq (.cond (.t .d1 .d4) .skip (.exit 4))
  (.seq (.block 5 (.seq (.reg 2 [.s .d1 .d5 (.L (.mov (.t .d1 .d2)))])
  (.draw [0, 1, 2, 3, 4, 5, 6, 7, 8, 9, 10, 11, 12, 13, 14, 15, 16, 17, 18, 19, 20, 21, 22] [⟨.p (.L (.mov (.t .d0 .d0))), []⟩,
    ⟨.p (.L (.mov (.t .d0 .d7))), []⟩,
    ⟨.p (.L (.iaddr 1 (.l 1) (.l 0))), []⟩,
    ⟨.p (.L (.load (.l 0))), []⟩,
    ⟨.p (.L (.mov (.t .d1 .d5))), []⟩,
    ⟨.p (.L (.mov (.t .d0 .d0))), []⟩,
    ⟨.p (.L (.mov (.t .d0 .d7))), []⟩,
    ⟨.p (.L (.iaddr 1 (.l 1) (.l 0))), []⟩,
    ⟨.p (.L (.load (.l 0))), []⟩,
    ⟨.p (.L (.mov (.t .d1 .d5))), []⟩,
    ⟨.p (.L (.iaddr 1 (.l 1) (.l 0))), []⟩,
    ⟨.p (.L (.load (.l 0))), []⟩,
    ⟨.p (.L (.mov (.l 0))), []⟩,
    ⟨.g (.l 0) false (.L (.mov (.t .d0 .d0))), []⟩,
    ⟨.g (.l 1) false (.L (.mov (.t .d1 .d0))), []⟩,
    ⟨.g (.l 2) false (.L (.iaddr 1 (.l 1) (.l 0))), []⟩,
    ⟨.g (.l 3) false (.L (.load (.l 0))), []⟩,
    ⟨.g (.l 4) false (.L (.mov (.t .d1 .d5))), []⟩,
    ⟨.g (.l 5) false (.L (.iaddr 1 (.l 1) (.l 0))), []⟩,
    ⟨.g (.l 6) false (.L (.load (.l 0))), []⟩,
    ⟨.p (.L (.pick (.l 7) (.c (.bool true)) (.l 0))), []⟩,
    ⟨.p (.L (.iaddr 1 (.l 17) (.l 16))), []⟩,
    ⟨.p (.H (.store 1 (.l 0) (.l 1))), []⟩])))
  (.reg 1 [.s .d1 .d2 (.L (.bin .add (.t .d1 .d2) (.c (.int .i64 1))))]))))))))))
  (.reg 1 [.s .d0 .d4 (.L (.bin .add (.t .d0 .d4) (.c (.int .i64 1))))]))))))))))
  (.reg 1 [.s .d0 .d1 (.L (.bin .add (.t .d0 .d1) (.c (.int .i64 1))))])))))))⟩
def i76 : Fun :=
  ⟨3, [0, 1, 2, 6, 14, 17, 16, 18, 15, 7, 8, 9, 30], [.tmp .d0 .d3], (.seq (.reg 1 [.s .d0 .d3 (.L (.mov (.c (.bool false))))])
  (.seq (.seq (.reg 26 [.p (.L (.len false (.t .d0 .d0))),
    .p (.L (.len false (.t .d0 .d1))),
    .s .d0 .d4 (.L (.bin .neq (.l 1) (.l 0)))])
  (.cond (.t .d0 .d4) (.seq (.reg 1 [.s .d0 .d3 (.L (.mov (.c (.bool false))))])
  .ret) .skip))
  (.seq (.seq (.reg 7 [.s .d1 .d0 (.L (.mov (.t .d0 .d0))),
    .s .d0 .d6 (.L (.len false (.l 0))),
    .s .d0 .d5 (.L (.mov (.c (.int .i64 0))))])
  (.block 0 (.loop (.seq (.reg 1 [.s .d0 .d7 (.L (.bin .lss (.t .d0 .d5) (.t .d0 .d6)))])
  (.seq (.cond (.t .d0 .d7) .skip (.exit 0))
  (.seq (.block 1 (.seq (.reg 30 [.p (.L (.iaddr 1 (.t .d1 .d0) (.t .d0 .d5))),
    .p (.L (.load (.l 0))),
    .s .d1 .d1 (.L (.mov (.t .d0 .d5))),
    .s .d1 .d2 (.L (.mov (.l 1)))])
  (.seq (.reg 12 [.p (.L (.iaddr 1 (.t .d0 .d1) (.t .d1 .d1))),
    .s .d1 .d3 (.L (.load (.l 0)))])
  (.seq (.reg 24 [.p (.H (.callv (.t .d0 .d2) [(.t .d1 .d2), (.t .d1 .d3)])),
    .s .d1 .d4 (.L (.not (.l 0)))])
  (.cond (.t .d1 .d4) (.seq (.reg 1 [.s .d0 .d3 (.L (.mov (.c (.bool false))))])
  .ret) .skip)))))
  (.reg 1 [.s .d0 .d5 (.L (.bin .add (.t .d0 .d5) (.c (.int .i64 1))))])))))))
  (.seq (.reg 1 [.s .d0 .d3 (.L (.mov (.c (.bool true))))])
  .ret))))⟩
def i77 : Fun :=
  ⟨2, [0, 1, 4, 10, 13, 12, 14, 5, 24], [.tmp .d0 .d2], (.seq (.reg 1 [.s .d0 .d2 (.L (.mov (.c (.bool false))))])
  (.seq (.seq (.reg 26 [.p (.L (.len false (.t .d0 .d0))),
    .p (.L (.len false (.t .d0 .d1))),
    .s .d0 .d3 (.L (.bin .neq (.l 1) (.l 0)))])
  (.cond (.t .d0 .d3) (.seq (.reg 1 [.s .d0 .d2 (.L (.mov (.c (.bool false))))])
  .ret) .skip))
  (.seq (.seq (.reg 6 [.s .d0 .d5 (.L (.len false (.t .d0 .d0))),
    .s .d0 .d4 (.L (.mov (.c (.int .i64 0))))])
  (.block 0 (.loop (.seq (.reg 1 [.s .d0 .d6 (.L (.bin .lss (.t .d0 .d4) (.t .d0 .d5)))])
  (.seq (.cond (.t .d0 .d6) .skip (.exit 0))
  (.seq (.block 1 (.seq (.reg 2 [.s .d0 .d7 (.L (.mov (.t .d0 .d4)))])
  (.seq (.draw [0, 1, 2, 3, 4, 5, 6, 7, 8] [⟨.p (.L (.mov (.t .d0 .d0))), []⟩,
    ⟨.p (.L (.mov (.t .d0 .d7))), []⟩,
    ⟨.p (.L (.iaddr 1 (.l 1) (.l 0))), []⟩,
    ⟨.p (.L (.load (.l 0))), []⟩,
    ⟨.p (.L (.mov (.t .d0 .d1))), []⟩,
    ⟨.p (.L (.mov (.t .d0 .d7))), []⟩,
    ⟨.p (.L (.iaddr 1 (.l 1) (.l 0))), []⟩,
    ⟨.p (.L (.load (.l 0))), []⟩,
    ⟨.s .d1 .d0 (.L (.eq true .bool (.l 4) (.l 0))), []⟩])
  (.cond (.t .d1 .d0) (.seq (.reg 1 [.s .d0 .d2 (.L (.mov (.c (.bool false))))])
  .ret) .skip))))
  (.reg 1 [.s .d0 .d4 (.L (.bin .add (.t .d0 .d4) (.c (.int .i64 1))))])))))))
  (.seq (.reg 1 [.s .d0 .d2 (.L (.mov (.c (.bool true))))])
  .ret))))⟩
def i78 : Fun :=
  ⟨1, [0, 2, 3, 1, 4, 27, 26, 28, 31, 30, 32, 7, 10, 5, 48, 6, 12, 14, 69, 11, 8, 13, 9, 15, 17, 18, 16], [.cell .d0 .d1 (some 6), .tmp .d0 .d2], (.seq (.reg 7 [.s .d0 .d3 (.L (.box 6 (.t .d0 .d0))),
    .s .d0 .d1 (.L (.alloc [.slN, .slN, .slN, .slN, .int .i64 0, .int .i64 0])),
    .s .d0 .d2 (.L (.mov (.c (.bool false))))])
  (.seq (.reg 7 [.p (.L (.faddr 0 (.t .d0 .d3))),
    .p (.L (.load (.l 0))),
    .s .d0 .d4 (.L (.len false (.l 0)))])
  (.seq (.reg 7 [.p (.L (.fn 116 [] [(.t .d0 .d3)])),
    .s .d1 .d5 (.L (.alloc [.fnN])),
    .p (.H (.store 1 (.l 0) (.l 1)))])
  (.seq (.reg 1 [.s .d1 .d7 (.L (.fn 117 [] [(.t .d0 .d3)]))])
  (.seq (.reg 15 [.p (.L (.faddr 2 (.t .d0 .d3))),
    .p (.H (.store 1 (.l 0) (.c (.slN)))),
    .p (.L (.faddr 3 (.t .d0 .d3))),
    .p (.H (.store 1 (.l 0) (.c (.slN))))])
  (.seq (.seq (.reg 3 [.s .d0 .d6 (.L (.mov (.t .d0 .d4))),
    .s .d0 .d5 (.L (.mov (.c (.int .i64 0))))])
  (.block 0 (.loop (.seq (.reg 1 [.s .d0 .d7 (.L (.bin .lss (.t .d0 .d5) (.t .d0 .d6)))])
  (.seq (.cond (.t .d0 .d7) .skip (.exit 0))
  (.seq (.block 1 (.seq (.reg 6 [.s .d1 .d3 (.L (.alloc [.int .i64 0])),
    .p (.H (.store 1 (.l 0) (.t .d0 .d5)))])
  (.seq (.reg 3 [.s .d2 .d4 (.L (.mov (.c (.slN)))),
    .s .d2 .d6 (.L (.mov (.c (.slN))))])
  (.seq (.seq (.reg 3 [.s .d1 .d1 (.L (.mov (.t .d0 .d4))),
    .s .d1 .d0 (.L (.mov (.c (.int .i64 0))))])
  (.block 2 (.loop (.seq (.reg 1 [.s .d1 .d2 (.L (.bin .lss (.t .d1 .d0) (.t .d1 .d1)))])
  (.seq (.cond (.t .d1 .d2) .skip (.exit 2))
  (.seq (.block 3 (.seq (.reg 6 [.s .d1 .d4 (.L (.alloc [.int .i64 0])),
    .p (.H (.store 1 (.l 0) (.t .d1 .d0)))])
  (.seq (.seq (.reg 32247 [.p (.L (.load (.t .d1 .d3))),
    .p (.L (.load (.t .d1 .d4))),
    .p (.L (.bin .neq (.l 1) (.l 0))),
    .g (.l 0) true (.L (.load (.t .d1 .d5))),
    .g (.l 1) true (.L (.load (.t .d1 .d3))),
    .g (.l 2) true (.L (.load (.t .d1 .d4))),
    .g (.l 3) true (.H (.callv (.l 2) [(.l 1), (.l 0)])),
    .p (.L (.pick (.l 4) (.l 0) (.c (.bool false)))),
    .g (.l 0) true (.L (.load (.t .d1 .d5))),
    .g (.l 1) true (.L (.load (.t .d1 .d4))),
    .g (.l 2) true (.L (.load (.t .d1 .d3))),
    .g (.l 3) true (.H (.callv (.l 2) [(.l 1), (.l 0)])),
    .s .d1 .d6 (.L (.pick (.l 4) (.l 0) (.c (.bool false))))])
  (.cond (.t .d1 .d6) (.seq (.reg 7 [.p (.L (.build [.slN, .slN, .slN, .slN, .int .i64 0, .int .i64 0] [])),
    .p (.H (.store 6 (.t .d0 .d1) (.l 0))),
    .s .d0 .d2 (.L (.mov (.c (.bool false))))])
  .ret) .skip))
  (.seq (.reg 494 [.p (.L (.load (.t .d1 .d5))),
    .p (.L (.fn 119 [] [(.t .d1 .d5), (.t .d1 .d3), (.t .d1 .d4)])),
    .p (.H (.call 118 [(.t .d0 .d4), (.l 1), (.l 0)])),
    .p (.L (.ext 0 (.l 0))),
    .p (.L (.ext 1 (.l 1))),
    .s .d2 .d3 (.L (.mov (.l 1))),
    .s .d2 .d0 (.L (.mov (.l 1)))])
  (.seq (.reg 492 [.p (.L (.fn 120 [] [(.t .d1 .d5), (.t .d1 .d3), (.t .d1 .d4)])),
    .p (.H (.call 118 [(.t .d0 .d4), (.t .d1 .d7), (.l 0)])),
    .p (.L (.ext 0 (.l 0))),
    .p (.L (.ext 1 (.l 1))),
    .s .d2 .d5 (.L (.mov (.l 1))),
    .s .d2 .d1 (.L (.mov (.l 1)))])
  (.seq (.seq (.reg 58 [.p (.L (.not (.t .d2 .d0))),
    .g (.l 0) false (.L (.mov (.t .d2 .d1))),
    .g (.l 1) false (.L (.not (.l 0))),
    .s .d2 .d2 (.L (.pick (.l 2) (.c (.bool true)) (.l 0)))])
  (.cond (.t .d2 .d2) (.seq (.reg 7 [.p (.L (.build [.slN, .slN, .slN, .slN, .int .i64 0, .int .i64 0] [])),
    .p (.H (.store 6 (.t .d0 .d1) (.l 0))),
    .s .d0 .d2 (.L (.mov (.c (.bool false))))])
  .ret) .skip))
  (.reg 972 [.p (.L (.bsl 1 1 [.int .i64 0] [(0, 1, (.t .d2 .d3))])),
    .p (.H (.append 1 8 (.t .d2 .d4) (.l 0))),
    .p (.L (.bsl 1 1 [.int .i64 0] [(0, 1, (.t .d2 .d5))])),
    .p (.H (.append 1 8 (.t .d2 .d6) (.l 0))),
    .s .d2 .d4 (.L (.mov (.l 2))),
    .s .d2 .d6 (.L (.mov (.l 1)))])))))))
  (.reg 1 [.s .d1 .d0 (.L (.bin .add (.t .d1 .d0) (.c (.int .i64 1))))])))))))
  (.draw [0, 1, 2, 3, 5, 6, 7, 8, 4, 10, 9, 11, 12, 13] [⟨.p (.L (.faddr 2 (.t .d0 .d3))), []⟩,
    ⟨.p (.L (.load (.l 0))), []⟩,
    ⟨.p (.L (.mov (.t .d2 .d4))), []⟩,
    ⟨.p (.L (.bsl 1 1 [.slN] [(0, 1, (.l 0))])), []⟩,
    ⟨.p (.L (.faddr 3 (.t .d0 .d3))), []⟩,
    ⟨.p (.L (.load (.l 0))), []⟩,
    ⟨.p (.L (.mov (.t .d2 .d6))), []⟩,
    ⟨.p (.L (.bsl 1 1 [.slN] [(0, 1, (.l 0))])), []⟩,
    ⟨.p (.H (.append 1 24 (.l 6) (.l 4))), [2, 0]⟩,
    ⟨.p (.L (.faddr 2 (.t .d0 .d3))), []⟩,
    ⟨.p (.H (.append 1 24 (.l 4) (.l 2))), []⟩,
    ⟨.p (.H (.store 1 (.l 1) (.l 2))), []⟩,
    ⟨.p (.L (.faddr 3 (.t .d0 .d3))), []⟩,
    ⟨.p (.H (.store 1 (.l 0) (.l 2))), []⟩])))))
  (.reg 1 [.s .d0 .d5 (.L (.bin .add (.t .d0 .d5) (.c (.int .i64 1))))])))))))
  (.seq (.reg 246 [.p (.L (.load (.t .d1 .d5))),
    .p (.H (.call 118 [(.t .d0 .d4), (.l 0), (.c (.fn 121 [] []))])),
    .p (.L (.ext 0 (.l 0))),
    .p (.L (.ext 1 (.l 1))),
    .s .d2 .d7 (.L (.mov (.l 1))),
    .s .d3 .d2 (.L (.mov (.l 1)))])
  (.seq (.reg 244 [.p (.H (.call 118 [(.t .d0 .d4), (.t .d1 .d7), (.c (.fn 122 [] []))])),
    .p (.L (.ext 0 (.l 0))),
    .p (.L (.ext 1 (.l 1))),
    .s .d3 .d0 (.L (.mov (.l 1))),
    .s .d3 .d1 (.L (.mov (.l 1)))])
  (.seq (.reg 60 [.p (.L (.faddr 4 (.t .d0 .d3))),
    .p (.H (.store 1 (.l 0) (.t .d2 .d7))),
    .p (.L (.faddr 5 (.t .d0 .d3))),
    .p (.H (.store 1 (.l 0) (.t .d3 .d0)))])
  (.seq (.reg 121 [.p (.L (.loadn 6 (.t .d0 .d3))),
    .g (.t .d3 .d2) true (.L (.mov (.t .d3 .d1))),
    .p (.L (.pick (.t .d3 .d2) (.l 0) (.c (.bool false)))),
    .p (.H (.store 6 (.t .d0 .d1) (.l 2))),
    .s .d0 .d2 (.L (.mov (.l 1)))])
  .ret))))))))))⟩
def i79 : Fun :=
  ⟨3, [0, 1, 2, 6, 14, 17, 16, 18, 15, 7, 8, 9, 30], [.tmp .d0 .d3], (.seq (.reg 1 [.s .d0 .d3 (.L (.mov (.c (.bool false))))])
  (.seq (.seq (.reg 26 [.p (.L (.len false (.t .d0 .d0))),
    .p (.L (.len false (.t .d0 .d1))),
    .s .d0 .d4 (.L (.bin .neq (.l 1) (.l 0)))])
  (.cond (.t .d0 .d4) (.seq (.reg 1 [.s .d0 .d3 (.L (.mov (.c (.bool false))))])
  .ret) .skip))
  (.seq (.seq (.reg 7 [.s .d1 .d0 (.L (.mov (.t .d0 .d0))),
    .s .d0 .d6 (.L (.len false (.l 0))),
    .s .d0 .d5 (.L (.mov (.c (.int .i64 0))))])
  (.block 0 (.loop (.seq (.reg 1 [.s .d0 .d7 (.L (.bin .lss (.t .d0 .d5) (.t .d0 .d6)))])
  (.seq (.cond (.t .d0 .d7) .skip (.exit 0))
  (.seq (.block 1 (.seq (.reg 30 [.p (.L (.iaddr 1 (.t .d1 .d0) (.t .d0 .d5))),
    .p (.L (.load (.l 0))),
    .s .d1 .d1 (.L (.mov (.t .d0 .d5))),
    .s .d1 .d2 (.L (.mov (.l 1)))])
  (.seq (.reg 12 [.p (.L (.iaddr 1 (.t .d0 .d1) (.t .d1 .d1))),
    .s .d1 .d3 (.L (.load (.l 0)))])
  (.seq (.reg 24 [.p (.H (.callv (.t .d0 .d2) [(.t .d1 .d2), (.t .d1 .d3)])),
    .s .d1 .d4 (.L (.not (.l 0)))])
  (.cond (.t .d1 .d4) (.seq (.reg 1 [.s .d0 .d3 (.L (.mov (.c (.bool false))))])
  .ret) .skip)))))
  (.reg 1 [.s .d0 .d5 (.L (.bin .add (.t .d0 .d5) (.c (.int .i64 1))))])))))))
  (.seq (.reg 1 [.s .d0 .d3 (.L (.mov (.c (.bool true))))])
  .ret))))⟩
def i80 : Fun :=
  ⟨2, [0, 1, 4, 10, 13, 12, 14, 5, 24], [.tmp .d0 .d2], (.seq (.reg 1 [.s .d0 .d2 (.L (.mov (.c (.bool false))))])
  (.seq (.seq (.reg 26 [.p (.L (.len false (.t .d0 .d0))),
    .p (.L (.len false (.t .d0 .d1))),
    .s .d0 .d3 (.L (.bin .neq (.l 1) (.l 0)))])
  (.cond (.t .d0 .d3) (.seq (.reg 1 [.s .d0 .d2 (.L (.mov (.c (.bool false))))])
  .ret) .skip))
  (.seq (.seq (.reg 6 [.s .d0 .d5 (.L (.len false (.t .d0 .d0))),
    .s .d0 .d4 (.L (.mov (.c (.int .i64 0))))])
  (.block 0 (.loop (.seq (.reg 1 [.s .d0 .d6 (.L (.bin .lss (.t .d0 .d4) (.t .d0 .d5)))])
  (.seq (.cond (.t .d0 .d6) .skip (.exit 0))
  (.seq (.block 1 (.seq (.reg 2 [.s .d0 .d7 (.L (.mov (.t .d0 .d4)))])
  (.seq (.draw [0, 1, 2, 3, 4, 5, 6, 7, 8] [⟨.p (.L (.mov (.t .d0 .d0))), []⟩,
    ⟨.p (.L (.mov (.t .d0 .d7))), []⟩,
    ⟨.p (.L (.iaddr 1 (.l 1) (.l 0))), []⟩,
    ⟨.p (.L (.load (.l 0))), []⟩,
    ⟨.p (.L (.mov (.t .d0 .d1))), []⟩,
    ⟨.p (.L (.mov (.t .d0 .d7))), []⟩,
    ⟨.p (.L (.iaddr 1 (.l 1) (.l 0))), []⟩,
    ⟨.p (.L (.load (.l 0))), []⟩,
    ⟨.s .d1 .d0 (.L (.bin .neq (.l 4) (.l 0))), []⟩])
  (.cond (.t .d1 .d0) (.seq (.reg 1 [.s .d0 .d2 (.L (.mov (.c (.bool false))))])
  .ret) .skip))))
  (.reg 1 [.s .d0 .d4 (.L (.bin .add (.t .d0 .d4) (.c (.int .i64 1))))])))))))
  (.seq (.reg 1 [.s .d0 .d2 (.L (.mov (.c (.bool true))))])
  .ret))))⟩
def i81 : Fun :=
  ⟨2, [0, 1, 4, 2, 5, 17, 16, 18, 15, 7, 8, 31, 54, 56, 10, 68, 9, 6, 85], [.tmp .d0 .d2], (.seq (.reg 3 [.s .d0 .d3 (.L (.box 1 (.t .d0 .d0))),
    .s .d0 .d2 (.L (.mov (.c (.int .i64 0))))])
  (.seq (.reg 30 [.p (.L (.len false (.t .d0 .d1))),
    .p (.L (.mksl 1 [.int .i64 0] 8 (.l 0) (.l 0))),
    .s .d0 .d4 (.L (.alloc [.slN])),
    .p (.H (.store 1 (.l 0) (.l 1)))])
  (.seq (.reg 1 [.s .d2 .d1 (.L (.fn 123 [] [(.t .d0 .d3), (.t .d0 .d4)]))])
  (.seq (.seq (.reg 7 [.s .d1 .d0 (.L (.mov (.t .d0 .d1))),
    .s .d0 .d6 (.L (.len false (.l 0))),
    .s .d0 .d5 (.L (.mov (.c (.int .i64 0))))])
  (.block 0 (.loop (.seq (.reg 1 [.s .d0 .d7 (.L (.bin .lss (.t .d0 .d5) (.t .d0 .d6)))])
  (.seq (.cond (.t .d0 .d7) .skip (.exit 0))
  (.seq (.block 1 (.seq (.reg 62 [.p (.L (.iaddr 7 (.t .d1 .d0) (.t .d0 .d5))),
    .p (.L (.loadn 7 (.l 0))),
    .s .d1 .d2 (.L (.alloc [.int .i64 0, .int .i64 0, .str 0 0, .str 0 0, .int .i64 0, .int .i64 0, .int .i64 0])),
    .s .d1 .d1 (.L (.mov (.t .d0 .d5))),
    .p (.H (.store 7 (.l 1) (.l 2)))])
  (.seq (.draw [0, 1, 2, 3, 4, 5, 6, 7, 8] [⟨.p (.L (.load (.t .d0 .d4))), []⟩,
    ⟨.p (.L (.mov (.t .d1 .d1))), []⟩,
    ⟨.p (.L (.load (.t .d0 .d3))), []⟩,
    ⟨.p (.L (.nilck (.l 0))), []⟩,
    ⟨.p (.L (.faddr 5 (.l 0))), []⟩,
    ⟨.p (.L (.faddr 4 (.l 0))), []⟩,
    ⟨.p (.L (.load (.l 0))), []⟩,
    ⟨.p (.L (.iaddr 1 (.l 6) (.l 5))), []⟩,
    ⟨.p (.H (.store 1 (.l 0) (.l 1))), []⟩])
  (.seq (.reg 3 [.p (.L (.faddr 0 (.t .d1 .d2))),
    .s .d1 .d3 (.L (.load (.l 0)))])
  (.block 2 (.seq (.reg 1 [.s .d1 .d4 (.L (.bin .eql (.t .d1 .d3) (.c (.int .i64 1))))])
  (.cond (.t .d1 .d4) .skip (.seq (.reg 1 [.s .d1 .d5 (.L (.bin .eql (.t .d1 .d3) (.c (.int .i64 2))))])
  (.cond (.t .d1 .d5) (.seq (.reg 1983 [.p (.L (.load (.t .d0 .d3))),
    .p (.L (.faddr 2 (.t .d1 .d2))),
    .p (.L (.load (.l 0))),
    .p (.L (.faddr 3 (.t .d1 .d2))),
    .p (.L (.load (.l 0))),
    .p (.H (.call 124 [(.l 4), (.l 2), (.l 0)])),
    .p (.L (.ext 0 (.l 0))),
    .p (.L (.ext 1 (.l 1))),
    .s .d2 .d0 (.L (.mov (.l 1))),
    .s .d1 .d6 (.L (.mov (.l 1)))])
  (.seq (.seq (.reg 2 [.s .d1 .d7 (.L (.bin .eql (.t .d1 .d6) (.c (.int .i64 1))))])
  (.cond (.t .d1 .d7) (.draw [0, 1, 2, 3, 4, 5, 6, 7, 8] [⟨.p (.L (.load (.t .d0 .d3))), []⟩,
    ⟨.p (.L (.faddr 6 (.t .d1 .d2))), []⟩,
    ⟨.p (.L (.load (.l 0))), []⟩,
    ⟨.p (.L (.faddr 2 (.t .d1 .d2))), []⟩,
    ⟨.p (.L (.load (.l 0))), []⟩,
    ⟨.p (.L (.faddr 3 (.t .d1 .d2))), []⟩,
    ⟨.p (.L (.load (.l 0))), []⟩,
    ⟨.p (.H (.call 89 [(.l 2), (.l 0)])), [6, 4]⟩,
    ⟨.p (.H (.call 38 [(.l 7), (.l 5), (.c (.int .i64 8)), (.l 0)])), []⟩]) .skip))
  (.reg 25 [.p (.L (.load (.t .d0 .d4))),
    .p (.L (.iaddr 1 (.l 0) (.t .d1 .d1))),
    .p (.H (.store 1 (.l 0) (.t .d2 .d0)))]))) (.draw [0, 1, 2, 3, 4, 5, 6, 7, 8, 9, 10, 14, 15, 16, 17, 11, 12, 13, 18, 19, 20, 21, 22] [⟨.p (.L (.load (.t .d0 .d4))), []⟩,
    ⟨.p (.L (.mov (.t .d1 .d1))), []⟩,
    ⟨.p (.L (.load (.t .d0 .d3))), []⟩,
    ⟨.p (.L (.nilck (.l 0))), []⟩,
    ⟨.p (.L (.faddr 5 (.l 0))), []⟩,
    ⟨.p (.L (.faddr 2 (.l 0))), []⟩,
    ⟨.p (.L (.load (.l 0))), []⟩,
    ⟨.p (.L (.mov (.t .d2 .d1))), []⟩,
    ⟨.p (.L (.mov (.t .d1 .d1))), []⟩,
    ⟨.p (.L (.faddr 4 (.t .d1 .d2))), []⟩,
    ⟨.p (.L (.load (.l 0))), []⟩,
    ⟨.p (.L (.mov (.t .d2 .d1))), []⟩,
    ⟨.p (.L (.mov (.t .d1 .d1))), []⟩,
    ⟨.p (.L (.faddr 5 (.t .d1 .d2))), []⟩,
    ⟨.p (.L (.load (.l 0))), []⟩,
    ⟨.p (.H (.callv (.l 7) [(.l 6), (.l 4)])), [14, 12, 8, 0]⟩,
    ⟨.p (.L (.iaddr 1 (.l 9) (.l 0))), []⟩,
    ⟨.p (.L (.load (.l 0))), []⟩,
    ⟨.p (.H (.callv (.l 6) [(.l 5), (.l 3)])), [17, 15, 11, 0]⟩,
    ⟨.p (.L (.iaddr 1 (.l 1) (.l 0))), []⟩,
    ⟨.p (.L (.load (.l 0))), []⟩,
    ⟨.p (.L (.iaddr 1 (.l 20) (.l 19))), []⟩,
    ⟨.p (.H (.store 1 (.l 0) (.l 1))), []⟩]))))))))))
  (.reg 1 [.s .d0 .d5 (.L (.bin .add (.t .d0 .d5) (.c (.int .i64 1))))])))))))
  (.seq (.seq (.reg 6 [.p (.L (.len false (.t .d0 .d1))),
    .s .d2 .d2 (.L (.bin .eql (.l 0) (.c (.int .i64 0))))])
  (.cond (.t .d2 .d2) (.seq (.reg 31 [.p (.L (.load (.t .d0 .d3))),
    .p (.L (.nilck (.l 0))),
    .p (.L (.faddr 5 (.l 0))),
    .p (.L (.faddr 4 (.l 0))),
    .s .d0 .d2 (.L (.load (.l 0)))])
  .ret) .skip))
  (.seq (.reg 61 [.p (.L (.load (.t .d0 .d4))),
    .p (.L (.len false (.t .d0 .d1))),
    .p (.L (.bin .sub (.l 0) (.c (.int .i64 1)))),
    .p (.L (.iaddr 1 (.l 2) (.l 0))),
    .s .d0 .d2 (.L (.load (.l 0)))])
  .ret))))))⟩
def i86 : Fun :=
  ⟨2, [0, 1, 4, 2], [.tmp .d0 .d2], (.seq (.reg 3 [.s .d0 .d3 (.L (.box 6 (.t .d0 .d0))),
    .s .d0 .d2 (.L (.mov (.c (.int .i64 0))))])
  (.seq (.reg 11 [.p (.L (.faddr 0 (.t .d0 .d3))),
    .p (.L (.load (.l 0))),
    .s .d0 .d2 (.H (.call 127 [(.l 0), (.t .d0 .d1)]))])
  .ret))⟩
def i87 : Fun :=
  ⟨5, [0, 1, 2, 3, 4, 11, 19, 10, 28], [], (.seq (.reg 488 [.p (.H (.call 124 [(.t .d0 .d0), (.t .d0 .d2), (.t .d0 .d3)])),
    .p (.L (.ext 0 (.l 0))),
    .p (.L (.ext 1 (.l 1))),
    .s .d0 .d7 (.L (.mov (.l 1))),
    .s .d0 .d5 (.L (.mov (.l 1)))])
  (.block 0 (.seq (.reg 2 [.s .d0 .d6 (.L (.bin .eql (.t .d0 .d5) (.c (.int .i64 1))))])
  (.cond (.t .d0 .d6) (.reg 48 [.p (.H (.call 89 [(.t .d0 .d2), (.t .d0 .d3)])),
    .p (.H (.call 38 [(.t .d0 .d0), (.t .d0 .d1), (.c (.int .i64 8)), (.l 0)]))]) (.seq (.reg 65530 [.p (.L (.bin .eql (.t .d0 .d5) (.c (.int .i64 0)))),
    .g (.l 0) true (.L (.mov (.t .d0 .d0))),
    .g (.l 1) true (.L (.nilck (.l 0))),
    .g (.l 2) true (.L (.faddr 5 (.l 0))),
    .g (.l 3) true (.L (.faddr 1 (.l 0))),
    .g (.l 4) true (.L (.load (.l 0))),
    .g (.l 5) true (.L (.mov (.t .d0 .d4))),
    .g (.l 6) true (.L (.iaddr 1 (.l 1) (.l 0))),
    .g (.l 7) true (.L (.load (.l 0))),
    .g (.l 8) true (.L (.mov (.t .d0 .d7))),
    .g (.l 9) true (.L (.iaddr 1 (.l 1) (.l 0))),
    .g (.l 10) true (.L (.load (.l 0))),
    .g (.l 11) true (.L (.not (.l 0))),
    .s .d1 .d0 (.L (.pick (.l 12) (.l 0) (.c (.bool false))))])
  (.cond (.t .d1 .d0) (.reg 48 [.p (.H (.call 89 [(.t .d0 .d2), (.t .d0 .d3)])),
    .p (.H (.call 38 [(.t .d0 .d0), (.t .d0 .d1), (.c (.int .i64 10)), (.l 0)]))]) .skip))))))⟩
def i88 : Fun :=
  ⟨3, [0, 1, 2, 6, 7, 16, 8, 9, 24, 5, 10, 32], [.cell .d0 .d3 (some 6), .tmp .d0 .d4], (.seq (.reg 7 [.s .d1 .d1 (.L (.box 1 (.t .d0 .d2))),
    .s .d0 .d3 (.L (.alloc [.str 0 0, .slN, .bool false, .str 0 0, .str 0 0, .slN])),
    .s .d0 .d4 (.L (.mov (.c (.int .i64 0))))])
  (.seq (.reg 126 [.p (.L (.nilck (.t .d0 .d0))),
    .p (.L (.faddr 11 (.l 0))),
    .p (.L (.loadn 2 (.l 0))),
    .s .d0 .d6 (.L (.alloc [.slN, .slN])),
    .p (.H (.store 2 (.l 0) (.l 1))),
    .s .d0 .d7 (.L (.mov (.c (.int .i64 0))))])
  (.seq (.seq (.reg 2 [.s .d0 .d5 (.L (.bins .neq (.t .d0 .d1) (.c (.str 0 0))))])
  (.cond (.t .d0 .d5) (.reg 244 [.p (.H (.call 37 [(.t .d0 .d0), (.t .d0 .d1)])),
    .p (.L (.ext 0 (.l 0))),
    .p (.L (.ext 1 (.l 1))),
    .p (.H (.store 2 (.t .d0 .d6) (.l 1))),
    .s .d0 .d7 (.L (.mov (.l 1)))]) .skip))
  (.seq (.seq (.reg 2 [.s .d1 .d0 (.L (.bin .neq (.t .d0 .d7) (.c (.int .i64 0))))])
  (.cond (.t .d1 .d0) (.seq (.reg 13 [.p (.L (.build [.str 0 0, .slN, .bool false, .str 0 0, .str 0 0, .slN] [])),
    .p (.H (.store 6 (.t .d0 .d3) (.l 0))),
    .s .d0 .d4 (.L (.mov (.t .d0 .d7)))])
  .ret) .skip))
  (.seq (.reg 15 [.p (.L (.faddr 1 (.t .d0 .d6))),
    .p (.L (.load (.l 0))),
    .p (.L (.fn 129 [] [(.t .d1 .d1)])),
    .s .d1 .d2 (.H (.call 128 [(.l 1), (.l 0)]))])
  (.seq (.seq (.reg 2 [.s .d1 .d3 (.L (.bin .lss (.t .d1 .d2) (.c (.int .i64 0))))])
  (.cond (.t .d1 .d3) (.seq (.reg 7 [.p (.L (.build [.str 0 0, .slN, .bool false, .str 0 0, .str 0 0, .slN] [])),
    .p (.H (.store 6 (.t .d0 .d3) (.l 0))),
    .s .d0 .d4 (.L (.mov (.c (.int .i64 1))))])
  .ret) .skip))
  (.seq (.reg 123 [.p (.L (.faddr 1 (.t .d0 .d6))),
    .p (.L (.load (.l 0))),
    .p (.L (.iaddr 6 (.l 0) (.t .d1 .d2))),
    .p (.L (.loadn 6 (.l 0))),
    .p (.H (.store 6 (.t .d0 .d3) (.l 0))),
    .s .d0 .d4 (.L (.mov (.c (.int .i64 0))))])
  .ret)))))))⟩
def i89 : Fun :=
  ⟨2, [0, 1, 4, 6], [.tmp .d0 .d2], (.seq (.reg 1 [.s .d0 .d2 (.L (.mov (.c (.str 0 0))))])
  (.seq (.seq (.reg 2 [.s .d0 .d3 (.L (.bins .eql (.t .d0 .d0) (.c (.str 0 0))))])
  (.cond (.t .d0 .d3) (.seq (.reg 2 [.s .d0 .d2 (.L (.mov (.t .d0 .d1)))])
  .ret) .skip))
  (.seq (.reg 10 [.p (.L (.bins .add (.t .d0 .d0) (.c (.str 1 46)))),
    .s .d0 .d2 (.L (.bins .add (.l 0) (.t .d0 .d1)))])
  .ret)))⟩
def i91 : Fun :=
  ⟨2, [0, 1, 4], [.tmp .d0 .d2], (.seq (.reg 1 [.s .d0 .d2 (.L (.mov (.c (.bool false))))])
  (.seq (.reg 12 [.p (.H (.call 127 [(.t .d0 .d0), (.t .d0 .d1)])),
    .s .d0 .d2 (.L (.bin .geq (.l 0) (.c (.int .i64 0))))])
  .ret))⟩
def i97 : Fun :=
  ⟨2, [0, 1, 4, 5, 7, 6, 19, 8, 24, 47, 10, 12, 65, 9, 11, 14, 74, 13], [.cell .d0 .d2 (some 6), .tmp .d0 .d3], (.seq (.reg 3 [.s .d0 .d2 (.L (.alloc [.slN, .slN, .slN, .slN, .int .i64 0, .int .i64 0])),
    .s .d0 .d3 (.L (.mov (.c (.bool false))))])
  (.seq (.reg 2 [.s .d0 .d5 (.L (.len false (.t .d0 .d0)))])
  (.seq (.seq (.reg 1 [.s .d0 .d4 (.L (.mov (.c (.int .i64 0))))])
  (.block 0 (.loop (.seq (.seq (.reg 4 [.s .d0 .d6 (.L (.bin .lss (.t .d0 .d4) (.t .d0 .d5)))])
  (.cond (.t .d0 .d6) .skip (.exit 0)))
  (.seq (.block 1 (.seq (.reg 1 [.s .d0 .d7 (.L (.mov (.c (.int .i64 0))))])
  (.block 2 (.loop (.seq (.seq (.reg 4 [.s .d1 .d0 (.L (.bin .lss (.t .d0 .d7) (.t .d0 .d5)))])
  (.cond (.t .d1 .d0) .skip (.exit 2)))
  (.seq (.block 3 (.seq (.reg 2093044 [.p (.L (.bin .neq (.t .d0 .d4) (.t .d0 .d7))),
    .g (.l 0) true (.L (.mov (.t .d0 .d1))),
    .g (.l 1) true (.L (.mov (.t .d0 .d4))),
    .g (.l 2) true (.L (.iaddr 1 (.l 1) (.l 0))),
    .g (.l 3) true (.L (.load (.l 0))),
    .g (.l 4) true (.L (.mov (.t .d0 .d7))),
    .g (.l 5) true (.L (.iaddr 1 (.l 1) (.l 0))),
    .g (.l 6) true (.L (.load (.l 0))),
    .p (.L (.pick (.l 7) (.l 0) (.c (.bool false)))),
    .g (.l 0) true (.L (.mov (.t .d0 .d1))),
    .g (.l 1) true (.L (.mov (.t .d0 .d7))),
    .g (.l 2) true (.L (.iaddr 1 (.l 1) (.l 0))),
    .g (.l 3) true (.L (.load (.l 0))),
    .g (.l 4) true (.L (.mov (.t .d0 .d4))),
    .g (.l 5) true (.L (.iaddr 1 (.l 1) (.l 0))),
    .g (.l 6) true (.L (.load (.l 0))),
    .s .d1 .d1 (.L (.pick (.l 7) (.l 0) (.c (.bool false))))])
  (.cond (.t .d1 .d1) (.seq (.reg 7 [.p (.L (.build [.slN, .slN, .slN, .slN, .int .i64 0, .int .i64 0] [])),
    .p (.H (.store 6 (.t .d0 .d2) (.l 0))),
    .s .d0 .d3 (.L (.mov (.c (.bool false))))])
  .ret) .skip)))
  (.reg 2 [.s .d0 .d7 (.L (.bin .add (.t .d0 .d7) (.c (.int .i64 1))))])))))))
  (.reg 2 [.s .d0 .d4 (.L (.bin .add (.t .d0 .d4) (.c (.int .i64 1))))]))))))
  (.seq (.reg 122 [.p (.H (.call 132 [(.t .d0 .d1)])),
    .p (.L (.ext 0 (.l 0))),
    .p (.L (.ext 1 (.l 1))),
    .s .d1 .d5 (.L (.mov (.l 1))),
    .s .d1 .d2 (.L (.mov (.l 1)))])
  (.seq (.reg 246 [.p (.H (.call 133 [(.t .d0 .d1)])),
    .p (.H (.call 132 [(.l 0)])),
    .p (.L (.ext 0 (.l 0))),
    .p (.L (.ext 1 (.l 1))),
    .s .d1 .d6 (.L (.mov (.l 1))),
    .s .d1 .d3 (.L (.mov (.l 1)))])
  (.seq (.seq (.reg 58 [.p (.L (.not (.t .d1 .d2))),
    .g (.l 0) false (.L (.mov (.t .d1 .d3))),
    .g (.l 1) false (.L (.not (.l 0))),
    .s .d1 .d4 (.L (.pick (.l 2) (.c (.bool true)) (.l 0)))])
  (.cond (.t .d1 .d4) (.seq (.reg 7 [.p (.L (.build [.slN, .slN, .slN, .slN, .int .i64 0, .int .i64 0] [])),
    .p (.H (.store 6 (.t .d0 .d2) (.l 0))),
    .s .d0 .d3 (.L (.mov (.c (.bool false))))])
  .ret) .skip))
  (.seq (.reg 112 [.p (.L (.build [.slN, .slN, .slN, .slN, .int .i64 0, .int .i64 0] [(0, 1, (.t .d0 .d0)), (1, 1, (.t .d0 .d1)), (2, 1, (.t .d1 .d5)), (3, 1, (.t .d1 .d6))])),
    .s .d2 .d1 (.L (.alloc [.slN, .slN, .slN, .slN, .int .i64 0, .int .i64 0])),
    .p (.H (.store 6 (.l 0) (.l 1)))])
  (.seq (.seq (.reg 1 [.s .d1 .d7 (.L (.mov (.c (.int .i64 0))))])
  (.block 4 (.loop (.seq (.seq (.reg 4 [.s .d2 .d0 (.L (.bin .lss (.t .d1 .d7) (.t .d0 .d5)))])
  (.cond (.t .d2 .d0) .skip (.exit 4)))
  (.seq (.block 5 (.seq (.reg 990 [.p (.L (.faddr 5 (.t .d2 .d1))),
    .p (.L (.load (.l 0))),
    .p (.L (.iaddr 1 (.t .d1 .d5) (.l 0))),
    .p (.L (.load (.l 0))),
    .p (.L (.iaddr 1 (.l 0) (.t .d1 .d7))),
    .p (.L (.load (.l 0))),
    .p (.L (.faddr 5 (.t .d2 .d1))),
    .p (.H (.store 1 (.l 0) (.l 1)))])
  (.reg 990 [.p (.L (.faddr 4 (.t .d2 .d1))),
    .p (.L (.load (.l 0))),
    .p (.L (.iaddr 1 (.t .d1 .d6) (.l 0))),
    .p (.L (.load (.l 0))),
    .p (.L (.iaddr 1 (.l 0) (.t .d1 .d7))),
    .p (.L (.load (.l 0))),
    .p (.L (.faddr 4 (.t .d2 .d1))),
    .p (.H (.store 1 (.l 0) (.l 1)))])))
  (.reg 2 [.s .d1 .d7 (.L (.bin .add (.t .d1 .d7) (.c (.int .i64 1))))]))))))
  (.seq (.reg 7 [.p (.L (.loadn 6 (.t .d2 .d1))),
    .p (.H (.store 6 (.t .d0 .d2) (.l 0))),
    .s .d0 .d3 (.L (.mov (.c (.bool true))))])
  .ret)))))))))⟩
def i100 : Fun :=
  ⟨2, [0, 1, 4, 5, 18, 32, 6, 42], [.tmp .d0 .d2], (.seq (.reg 1 [.s .d0 .d2 (.L (.mov (.c (.slN))))])
  (.seq (.reg 1 [.s .d0 .d3 (.L (.mov (.c (.int .i64 0))))])
  (.seq (.block 0 (.loop (.seq (.seq (.reg 4076 [.p (.L (.len false (.t .d0 .d0))),
    .p (.L (.bin .lss (.t .d0 .d3) (.l 0))),
    .g (.l 0) true (.L (.mov (.t .d0 .d0))),
    .g (.l 1) true (.L (.mov (.t .d0 .d3))),
    .g (.l 2) true (.L (.iaddr 1 (.l 1) (.l 0))),
    .g (.l 3) true (.L (.load (.l 0))),
    .g (.l 4) true (.L (.mov (.t .d0 .d1))),
    .g (.l 5) true (.L (.bins .lss (.l 1) (.l 0))),
    .s .d0 .d4 (.L (.pick (.l 6) (.l 0) (.c (.bool false))))])
  (.cond (.t .d0 .d4) .skip (.exit 0)))
  (.block 1 (.reg 2 [.s .d0 .d3 (.L (.bin .add (.t .d0 .d3) (.c (.int .i64 1))))])))))
  (.seq (.seq (.reg 4076 [.p (.L (.len false (.t .d0 .d0))),
    .p (.L (.bin .lss (.t .d0 .d3) (.l 0))),
    .g (.l 0) true (.L (.mov (.t .d0 .d0))),
    .g (.l 1) true (.L (.mov (.t .d0 .d3))),
    .g (.l 2) true (.L (.iaddr 1 (.l 1) (.l 0))),
    .g (.l 3) true (.L (.load (.l 0))),
    .g (.l 4) true (.L (.mov (.t .d0 .d1))),
    .g (.l 5) true (.L (.bins .eql (.l 1) (.l 0))),
    .s .d0 .d5 (.L (.pick (.l 6) (.l 0) (.c (.bool false))))])
  (.cond (.t .d0 .d5) (.seq (.reg 2 [.s .d0 .d2 (.L (.mov (.t .d0 .d0)))])
  .ret) .skip))
  (.seq (.reg 6 [.p (.L (.bsl 1 1 [.str 0 0] [(0, 1, (.c (.str 0 0)))])),
    .s .d0 .d0 (.H (.append 1 16 (.t .d0 .d0) (.l 0)))])
  (.seq (.seq (.reg 6 [.p (.L (.len false (.t .d0 .d0))),
    .s .d0 .d6 (.L (.bin .sub (.l 0) (.c (.int .i64 1))))])
  (.block 2 (.loop (.seq (.seq (.reg 4 [.s .d0 .d7 (.L (.bin .gtr (.t .d0 .d6) (.t .d0 .d3)))])
  (.cond (.t .d0 .d7) .skip (.exit 2)))
  (.seq (.block 3 (.reg 496 [.p (.L (.bin .sub (.t .d0 .d6) (.c (.int .i64 1)))),
    .p (.L (.iaddr 1 (.t .d0 .d0) (.l 0))),
    .p (.L (.load (.l 0))),
    .p (.L (.iaddr 1 (.t .d0 .d0) (.t .d0 .d6))),
    .p (.H (.store 1 (.l 0) (.l 1)))]))
  (.reg 2 [.s .d0 .d6 (.L (.bin .sub (.t .d0 .d6) (.c (.int .i64 1))))]))))))
  (.seq (.reg 24 [.p (.L (.iaddr 1 (.t .d0 .d0) (.t .d0 .d3))),
    .p (.H (.store 1 (.l 0) (.t .d0 .d1)))])
  (.seq (.reg 2 [.s .d0 .d2 (.L (.mov (.t .d0 .d0)))])
  .ret))))))))⟩
def i102 : Fun :=
  ⟨2, [0, 1, 4, 5], [.tmp .d0 .d2], (.seq (.reg 1 [.s .d0 .d2 (.L (.mov (.c (.bool false))))])
  (.seq (.draw [0, 1, 2, 3, 4, 5, 6, 7, 8, 9, 10, 11] [⟨.p (.L (.mov (.t .d0 .d0))), []⟩,
    ⟨.p (.L (.nilck (.l 0))), []⟩,
    ⟨.p (.L (.faddr 0 (.l 0))), []⟩,
    ⟨.p (.L (.load (.l 0))), []⟩,
    ⟨.p (.L (.mov (.t .d0 .d0))), []⟩,
    ⟨.p (.L (.nilck (.l 0))), []⟩,
    ⟨.p (.L (.faddr 1 (.l 0))), []⟩,
    ⟨.p (.L (.load (.l 0))), []⟩,
    ⟨.p (.L (.iaddr 3 (.l 4) (.l 0))), []⟩,
    ⟨.p (.L (.loadn 3 (.l 0))), []⟩,
    ⟨.s .d0 .d3 (.L (.alloc [.int .i64 0, .str 0 0, .int .i64 0])), []⟩,
    ⟨.p (.H (.store 3 (.l 0) (.l 1))), []⟩])
  (.seq (.reg 2064350 [.p (.L (.nilck (.t .d0 .d0))),
    .p (.L (.faddr 3 (.l 0))),
    .p (.L (.load (.l 0))),
    .p (.L (.bin .eql (.l 0) (.c (.int .i64 0)))),
    .g (.l 0) true (.L (.faddr 0 (.t .d0 .d3))),
    .g (.l 1) true (.L (.load (.l 0))),
    .g (.l 2) true (.L (.bin .eql (.l 0) (.c (.int .i64 4)))),
    .g (.l 3) true (.L (.mov (.l 0))),
    .g (.l 0) false (.L (.faddr 0 (.t .d0 .d3))),
    .g (.l 1) false (.L (.load (.l 0))),
    .g (.l 2) false (.L (.bin .eql (.l 0) (.c (.int .i64 3)))),
    .g (.l 7) true (.L (.pick (.l 3) (.c (.bool true)) (.l 0))),
    .p (.L (.pick (.l 8) (.l 0) (.c (.bool false)))),
    .g (.l 0) true (.L (.faddr 1 (.t .d0 .d3))),
    .g (.l 1) true (.L (.load (.l 0))),
    .g (.l 2) true (.L (.mov (.t .d0 .d1))),
    .g (.l 3) true (.L (.bins .eql (.l 1) (.l 0))),
    .s .d0 .d2 (.L (.pick (.l 4) (.l 0) (.c (.bool false))))])
  .ret)))⟩
def i103 : Fun :=
  ⟨1, [0, 2, 4, 8, 3], [.tmp .d0 .d1], (.seq (.reg 1 [.s .d0 .d1 (.L (.mov (.c (.int .i64 0))))])
  (.seq (.reg 1 [.s .d0 .d4 (.L (.mov (.c (.int .i64 0))))])
  (.seq (.seq (.reg 1 [.s .d0 .d2 (.L (.mov (.c (.int .i64 0))))])
  (.block 0 (.loop (.seq (.seq (.reg 12 [.p (.L (.len true (.t .d0 .d0))),
    .s .d0 .d3 (.L (.bin .lss (.t .d0 .d2) (.l 0)))])
  (.cond (.t .d0 .d3) .skip (.exit 0)))
  (.seq (.block 1 (.reg 242 [.p (.L (.bin .mul (.c (.int .i64 10)) (.t .d0 .d4))),
    .p (.L (.istr (.t .d0 .d0) (.t .d0 .d2))),
    .p (.L (.bin .sub (.l 0) (.c (.int .u8 48)))),
    .p (.L (.conv .i64 (.l 0))),
    .s .d0 .d4 (.L (.bin .add (.l 3) (.l 0)))]))
  (.reg 2 [.s .d0 .d2 (.L (.bin .add (.t .d0 .d2) (.c (.int .i64 1))))]))))))
  (.seq (.reg 2 [.s .d0 .d1 (.L (.mov (.t .d0 .d4)))])
  .ret))))⟩
def i104 : Fun :=
  ⟨1, [0, 2, 15, 3], [.tmp .d0 .d1], (.seq (.reg 1 [.s .d0 .d1 (.L (.mov (.c (.slN))))])
  (.seq (.reg 1 [.s .d0 .d3 (.L (.mov (.c (.slN))))])
  (.seq (.reg 2 [.p (.H (.call 140 [(.t .d0 .d0), (.c (.str 1 123))]))])
  (.seq (.block 0 (.loop (.seq (.seq (.reg 990 [.p (.L (.nilck (.t .d0 .d0))),
    .p (.L (.faddr 3 (.l 0))),
    .p (.L (.load (.l 0))),
    .p (.L (.bin .eql (.l 0) (.c (.int .i64 0)))),
    .g (.l 0) true (.L (.mov (.t .d0 .d0))),
    .g (.l 1) true (.H (.call 102 [(.l 0), (.c (.str 1 125))])),
    .g (.l 2) true (.L (.not (.l 0))),
    .s .d0 .d2 (.L (.pick (.l 3) (.l 0) (.c (.bool false))))])
  (.cond (.t .d0 .d2) .skip (.exit 0)))
  (.block 1 (.reg 28 [.p (.H (.call 141 [(.t .d0 .d0)])),
    .p (.L (.bsl 12 1 [.int .i64 0, .int .i64 0, .str 0 0, .str 0 0, .str 0 0, .bool false, .str 0 0, .str 0 0, .slN, .slN, .slN, .slN] [(0, 12, (.l 0))])),
    .s .d0 .d3 (.H (.append 12 200 (.t .d0 .d3) (.l 0)))])))))
  (.seq (.reg 2 [.p (.H (.call 55 [(.t .d0 .d0), (.c (.str 1 125))]))])
  (.seq (.reg 254 [.p (.L (.nilck (.t .d0 .d0))),
    .p (.L (.faddr 2 (.l 0))),
    .p (.L (.load (.l 0))),
    .p (.L (.bin .sub (.l 0) (.c (.int .i64 1)))),
    .p (.L (.nilck (.t .d0 .d0))),
    .p (.L (.faddr 2 (.l 0))),
    .p (.H (.store 1 (.l 0) (.l 2)))])
  (.seq (.reg 2 [.s .d0 .d1 (.L (.mov (.t .d0 .d3)))])
  .ret)))))))⟩
def i105 : Fun :=
  ⟨4, [0, 1, 2, 3, 8, 11], [.tmp .d0 .d4], (.seq (.reg 1 [.s .d0 .d4 (.L (.mov (.c (.slN))))])
  (.seq (.seq (.reg 4 [.s .d0 .d5 (.H (.call 91 [(.t .d0 .d1), (.t .d0 .d2)]))])
  (.cond (.t .d0 .d5) (.draw [0, 1, 2, 3, 4, 5, 6, 7, 8, 9, 10, 11, 12, 13, 14, 15, 16] [⟨.p (.L (.mov (.t .d0 .d0))), []⟩,
    ⟨.p (.L (.mov (.t .d0 .d0))), []⟩,
    ⟨.p (.L (.nilck (.l 0))), []⟩,
    ⟨.p (.L (.faddr 7 (.l 0))), []⟩,
    ⟨.p (.L (.load (.l 0))), []⟩,
    ⟨.p (.L (.mov (.t .d0 .d0))), []⟩,
    ⟨.p (.L (.nilck (.l 0))), []⟩,
    ⟨.p (.L (.faddr 0 (.l 0))), []⟩,
    ⟨.p (.L (.load (.l 0))), []⟩,
    ⟨.p (.L (.mov (.t .d0 .d3))), []⟩,
    ⟨.p (.L (.mov (.t .d0 .d2))), []⟩,
    ⟨.p (.L (.build [.str 0 0, .int .i64 0, .int .i64 0, .str 0 0] [(0, 1, (.l 2)), (1, 1, (.l 1)), (2, 1, (.c (.int .i64 6))), (3, 1, (.l 0))])), []⟩,
    ⟨.p (.L (.bsl 4 1 [.str 0 0, .int .i64 0, .int .i64 0, .str 0 0] [(0, 4, (.l 0))])), []⟩,
    ⟨.p (.H (.append 4 48 (.l 8) (.l 0))), []⟩,
    ⟨.p (.L (.nilck (.l 13))), []⟩,
    ⟨.p (.L (.faddr 7 (.l 0))), []⟩,
    ⟨.p (.H (.store 1 (.l 0) (.l 2))), []⟩]) .skip))
  (.seq (.reg 12 [.p (.L (.bsl 1 1 [.str 0 0] [(0, 1, (.t .d0 .d2))])),
    .s .d0 .d4 (.H (.append 1 16 (.t .d0 .d1) (.l 0)))])
  .ret)))⟩
def i106 : Fun :=
  ⟨3, [0, 1, 2, 12], [], (.seq (.reg 110 [.p (.L (.nilck (.t .d0 .d0))),
    .p (.L (.faddr 1 (.l 0))),
    .p (.L (.loadn 6 (.l 0))),
    .p (.H (.call 86 [(.l 0), (.t .d0 .d1)])),
    .s .d0 .d3 (.L (.bin .lss (.l 0) (.c (.int .i64 0))))])
  (.cond (.t .d0 .d3) (.draw [0, 1, 2, 3, 4, 5, 6, 7, 8, 9, 10, 11, 12, 13, 14, 15, 16] [⟨.p (.L (.mov (.t .d0 .d0))), []⟩,
    ⟨.p (.L (.mov (.t .d0 .d0))), []⟩,
    ⟨.p (.L (.nilck (.l 0))), []⟩,
    ⟨.p (.L (.faddr 7 (.l 0))), []⟩,
    ⟨.p (.L (.load (.l 0))), []⟩,
    ⟨.p (.L (.mov (.t .d0 .d0))), []⟩,
    ⟨.p (.L (.nilck (.l 0))), []⟩,
    ⟨.p (.L (.faddr 0 (.l 0))), []⟩,
    ⟨.p (.L (.load (.l 0))), []⟩,
    ⟨.p (.L (.mov (.t .d0 .d2))), []⟩,
    ⟨.p (.L (.mov (.t .d0 .d1))), []⟩,
    ⟨.p (.L (.build [.str 0 0, .int .i64 0, .int .i64 0, .str 0 0] [(0, 1, (.l 2)), (1, 1, (.l 1)), (2, 1, (.c (.int .i64 7))), (3, 1, (.l 0))])), []⟩,
    ⟨.p (.L (.bsl 4 1 [.str 0 0, .int .i64 0, .int .i64 0, .str 0 0] [(0, 4, (.l 0))])), []⟩,
    ⟨.p (.H (.append 4 48 (.l 8) (.l 0))), []⟩,
    ⟨.p (.L (.nilck (.l 13))), []⟩,
    ⟨.p (.L (.faddr 7 (.l 0))), []⟩,
    ⟨.p (.H (.store 1 (.l 0) (.l 2))), []⟩]) .skip))⟩
def i107 : Fun :=
  ⟨1, [0, 2, 3], [.tmp .d0 .d1], (.seq (.reg 1 [.s .d0 .d1 (.L (.mov (.c (.slN))))])
  (.seq (.reg 2 [.s .d0 .d2 (.H (.call 142 [(.t .d0 .d0)]))])
  (.seq (.reg 2 [.p (.H (.call 143 [(.t .d0 .d2)]))])
  (.seq (.reg 2 [.s .d0 .d2 (.H (.call 144 [(.t .d0 .d2)]))])
  (.seq (.reg 52 [.p (.L (.len false (.t .d0 .d2))),
    .p (.L (.len false (.t .d0 .d2))),
    .s .d0 .d1 (.L (.ssl 1 (.t .d0 .d2) none (some (.l 1)) (some (.l 0))))])
  .ret)))))⟩
def i108 : Fun :=
  ⟨5, [0, 1, 2, 3, 4, 12, 25, 32, 10, 39, 14, 56, 13, 11, 75, 80, 97, 15, 17, 16, 18, 19, 125, 20], [], (.seq (.reg 1 [.s .d1 .d0 (.L (.mov (.c (.bool true))))])
  (.seq (.reg 1 [.s .d1 .d5 (.L (.mov (.c (.bool true))))])
  (.block 0 (.loop (.block 1 (.seq (.reg 4 [.s .d0 .d5 (.L (.bin .sub (.t .d0 .d2) (.t .d0 .d1)))])
  (.seq (.seq (.reg 2 [.s .d0 .d6 (.L (.bin .leq (.t .d0 .d5) (.c (.int .i64 12))))])
  (.cond (.t .d0 .d6) (.seq (.reg 16 [.p (.H (.call 145 [(.t .d0 .d0), (.t .d0 .d1), (.t .d0 .d2), (.t .d0 .d4)]))])
  .ret) .skip))
  (.seq (.seq (.reg 2 [.s .d0 .d7 (.L (.bin .eql (.t .d0 .d3) (.c (.int .i64 0))))])
  (.cond (.t .d0 .d7) (.seq (.reg 16 [.p (.H (.call 146 [(.t .d0 .d0), (.t .d0 .d1), (.t .d0 .d2), (.t .d0 .d4)]))])
  .ret) .skip))
  (.seq (.seq (.reg 2 [.s .d1 .d1 (.L (.not (.t .d1 .d0)))])
  (.cond (.t .d1 .d1) (.seq (.reg 16 [.p (.H (.call 147 [(.t .d0 .d0), (.t .d0 .d1), (.t .d0 .d2), (.t .d0 .d4)]))])
  (.reg 2 [.s .d0 .d3 (.L (.bin .sub (.t .d0 .d3) (.c (.int .i64 1))))])) .skip))
  (.seq (.reg 976 [.p (.H (.call 148 [(.t .d0 .d0), (.t .d0 .d1), (.t .d0 .d2), (.t .d0 .d4)])),
    .p (.L (.ext 0 (.l 0))),
    .p (.L (.ext 1 (.l 1))),
    .s .d1 .d4 (.L (.mov (.l 1))),
    .s .d1 .d2 (.L (.mov (.l 1)))])
  (.seq (.seq (.reg 2 [.s .d1 .d3 (.L (.bin .eql (.t .d1 .d2) (.c (.int .i64 2))))])
  (.cond (.t .d1 .d3) (.seq (.reg 16 [.p (.H (.call 149 [(.t .d0 .d0), (.t .d0 .d1), (.t .d0 .d2), (.t .d0 .d4)]))])
  (.seq (.reg 50 [.p (.L (.bin .sub (.t .d0 .d2) (.c (.int .i64 1)))),
    .p (.L (.bin .sub (.t .d1 .d4) (.t .d0 .d1))),
    .s .d1 .d4 (.L (.bin .sub (.l 1) (.l 0)))])
  (.reg 1 [.s .d1 .d2 (.L (.mov (.c (.int .i64 1))))]))) .skip))
  (.seq (.seq (.reg 236 [.g (.t .d1 .d0) true (.L (.mov (.t .d1 .d5))),
    .p (.L (.pick (.t .d1 .d0) (.l 0) (.c (.bool false)))),
    .g (.l 0) true (.L (.mov (.t .d1 .d2))),
    .g (.l 1) true (.L (.bin .eql (.l 0) (.c (.int .i64 1)))),
    .s .d1 .d6 (.L (.pick (.l 2) (.l 0) (.c (.bool false))))])
  (.cond (.t .d1 .d6) (.seq (.reg 16 [.s .d1 .d7 (.H (.call 150 [(.t .d0 .d0), (.t .d0 .d1), (.t .d0 .d2), (.t .d0 .d4)]))])
  (.cond (.t .d1 .d7) .ret .skip)) .skip))
  (.seq (.seq (.draw [0, 1, 2, 3, 4, 5, 6, 7, 8, 9, 10, 11, 12, 13, 14, 15, 16] [⟨.p (.L (.mov (.t .d0 .d1))), []⟩,
    ⟨.p (.L (.bin .gtr (.l 0) (.c (.int .i64 0)))), []⟩,
    ⟨.p (.L (.mov (.l 0))), []⟩,
    ⟨.g (.l 0) true (.L (.mov (.t .d0 .d4))), []⟩,
    ⟨.g (.l 1) true (.L (.mov (.t .d0 .d0))), []⟩,
    ⟨.g (.l 2) true (.L (.mov (.t .d0 .d1))), []⟩,
    ⟨.g (.l 3) true (.L (.bin .sub (.l 0) (.c (.int .i64 1)))), []⟩,
    ⟨.g (.l 4) true (.L (.iaddr 4 (.l 2) (.l 0))), []⟩,
    ⟨.g (.l 5) true (.L (.loadn 4 (.l 0))), []⟩,
    ⟨.g (.l 6) true (.L (.mov (.t .d0 .d0))), []⟩,
    ⟨.g (.l 7) true (.L (.mov (.t .d1 .d4))), []⟩,
    ⟨.g (.l 8) true (.L (.iaddr 4 (.l 1) (.l 0))), []⟩,
    ⟨.g (.l 9) true (.L (.loadn 4 (.l 0))), []⟩,
    ⟨.g (.l 10) true (.H (.callv (.l 9) [(.l 4), (.l 0)])), []⟩,
    ⟨.g (.l 11) true (.L (.bin .lss (.l 0) (.c (.int .i64 0)))), []⟩,
    ⟨.g (.l 12) true (.L (.not (.l 0))), []⟩,
    ⟨.s .d2 .d0 (.L (.pick (.l 13) (.l 0) (.c (.bool false)))), []⟩])
  (.cond (.t .d2 .d0) (.seq (.reg 32 [.s .d2 .d1 (.H (.call 151 [(.t .d0 .d0), (.t .d0 .d1), (.t .d0 .d2), (.t .d1 .d4), (.t .d0 .d4)]))])
  (.seq (.reg 2 [.s .d0 .d1 (.L (.mov (.t .d2 .d1)))])
  (.exit 1))) .skip))
  (.seq (.reg 1952 [.p (.H (.call 152 [(.t .d0 .d0), (.t .d0 .d1), (.t .d0 .d2), (.t .d1 .d4), (.t .d0 .d4)])),
    .p (.L (.ext 0 (.l 0))),
    .p (.L (.ext 1 (.l 1))),
    .s .d2 .d3 (.L (.mov (.l 1))),
    .s .d2 .d2 (.L (.mov (.l 1)))])
  (.seq (.reg 2 [.s .d1 .d5 (.L (.mov (.t .d2 .d2)))])
  (.seq (.reg 228 [.p (.L (.bin .sub (.t .d2 .d3) (.t .d0 .d1))),
    .p (.L (.bin .sub (.t .d0 .d2) (.t .d2 .d3))),
    .s .d2 .d4 (.L (.mov (.l 1))),
    .s .d2 .d5 (.L (.mov (.l 1)))])
  (.seq (.reg 2 [.s .d2 .d7 (.L (.bin .quo (.t .d0 .d5) (.c (.int .i64 8))))])
  (.seq (.reg 4 [.s .d2 .d6 (.L (.bin .lss (.t .d2 .d4) (.t .d2 .d5)))])
  (.cond (.t .d2 .d6) (.seq (.reg 4 [.s .d1 .d0 (.L (.bin .geq (.t .d2 .d4) (.t .d2 .d7)))])
  (.seq (.reg 32 [.p (.H (.call 108 [(.t .d0 .d0), (.t .d0 .d1), (.t .d2 .d3), (.t .d0 .d3), (.t .d0 .d4)]))])
  (.reg 2 [.s .d0 .d1 (.L (.bin .add (.t .d2 .d3) (.c (.int .i64 1))))]))) (.seq (.reg 4 [.s .d1 .d0 (.L (.bin .geq (.t .d2 .d5) (.t .d2 .d7)))])
  (.seq (.reg 68 [.p (.L (.bin .add (.t .d2 .d3) (.c (.int .i64 1)))),
    .p (.H (.call 108 [(.t .d0 .d0), (.l 0), (.t .d0 .d2), (.t .d0 .d3), (.t .d0 .d4)]))])
  (.reg 2 [.s .d0 .d2 (.L (.mov (.t .d2 .d3)))]))))))))))))))))))))))⟩
def i109 : Fun :=
  ⟨1, [0, 2], [.tmp .d0 .d1], (.seq (.reg 1 [.s .d0 .d1 (.L (.mov (.c (.int .i64 0))))])
  (.seq (.cond (.c (.bool false)) (.seq (.reg 6 [.p (.L (.conv .u32 (.t .d0 .d0))),
    .s .d0 .d1 (.H (.call 153 [(.l 0)]))])
  .ret) .skip)
  (.seq (.reg 2 [.s .d0 .d1 (.H (.call 154 [(.t .d0 .d0)]))])
  .ret)))⟩
def i111 : Fun :=
  ⟨5, [0, 1, 2, 3, 4, 12, 25, 32, 10, 39, 14, 56, 13, 11, 75, 80, 97, 15, 17, 16, 18, 19, 125, 20], [], (.seq (.reg 1 [.s .d1 .d0 (.L (.mov (.c (.bool true))))])
  (.seq (.reg 1 [.s .d1 .d5 (.L (.mov (.c (.bool true))))])
  (.block 0 (.loop (.block 1 (.seq (.reg 4 [.s .d0 .d5 (.L (.bin .sub (.t .d0 .d2) (.t .d0 .d1)))])
  (.seq (.seq (.reg 2 [.s .d0 .d6 (.L (.bin .leq (.t .d0 .d5) (.c (.int .i64 12))))])
  (.cond (.t .d0 .d6) (.seq (.reg 16 [.p (.H (.call 156 [(.t .d0 .d0), (.t .d0 .d1), (.t .d0 .d2), (.t .d0 .d4)]))])
  .ret) .skip))
  (.seq (.seq (.reg 2 [.s .d0 .d7 (.L (.bin .eql (.t .d0 .d3) (.c (.int .i64 0))))])
  (.cond (.t .d0 .d7) (.seq (.reg 16 [.p (.H (.call 157 [(.t .d0 .d0), (.t .d0 .d1), (.t .d0 .d2), (.t .d0 .d4)]))])
  .ret) .skip))
  (.seq (.seq (.reg 2 [.s .d1 .d1 (.L (.not (.t .d1 .d0)))])
  (.cond (.t .d1 .d1) (.seq (.reg 16 [.p (.H (.call 158 [(.t .d0 .d0), (.t .d0 .d1), (.t .d0 .d2), (.t .d0 .d4)]))])
  (.reg 2 [.s .d0 .d3 (.L (.bin .sub (.t .d0 .d3) (.c (.int .i64 1))))])) .skip))
  (.seq (.reg 976 [.p (.H (.call 159 [(.t .d0 .d0), (.t .d0 .d1), (.t .d0 .d2), (.t .d0 .d4)])),
    .p (.L (.ext 0 (.l 0))),
    .p (.L (.ext 1 (.l 1))),
    .s .d1 .d4 (.L (.mov (.l 1))),
    .s .d1 .d2 (.L (.mov (.l 1)))])
  (.seq (.seq (.reg 2 [.s .d1 .d3 (.L (.bin .eql (.t .d1 .d2) (.c (.int .i64 2))))])
  (.cond (.t .d1 .d3) (.seq (.reg 16 [.p (.H (.call 160 [(.t .d0 .d0), (.t .d0 .d1), (.t .d0 .d2), (.t .d0 .d4)]))])
  (.seq (.reg 50 [.p (.L (.bin .sub (.t .d0 .d2) (.c (.int .i64 1)))),
    .p (.L (.bin .sub (.t .d1 .d4) (.t .d0 .d1))),
    .s .d1 .d4 (.L (.bin .sub (.l 1) (.l 0)))])
  (.reg 1 [.s .d1 .d2 (.L (.mov (.c (.int .i64 1))))]))) .skip))
  (.seq (.seq (.reg 236 [.g (.t .d1 .d0) true (.L (.mov (.t .d1 .d5))),
    .p (.L (.pick (.t .d1 .d0) (.l 0) (.c (.bool false)))),
    .g (.l 0) true (.L (.mov (.t .d1 .d2))),
    .g (.l 1) true (.L (.bin .eql (.l 0) (.c (.int .i64 1)))),
    .s .d1 .d6 (.L (.pick (.l 2) (.l 0) (.c (.bool false))))])
  (.cond (.t .d1 .d6) (.seq (.reg 16 [.s .d1 .d7 (.H (.call 161 [(.t .d0 .d0), (.t .d0 .d1), (.t .d0 .d2), (.t .d0 .d4)]))])
  (.cond (.t .d1 .d7) .ret .skip)) .skip))
  (.seq (.seq (.draw [0, 1, 2, 3, 4, 5, 6, 7, 8, 9, 10, 11, 12, 13, 14, 15, 16] [⟨.p (.L (.mov (.t .d0 .d1))), []⟩,
    ⟨.p (.L (.bin .gtr (.l 0) (.c (.int .i64 0)))), []⟩,
    ⟨.p (.L (.mov (.l 0))), []⟩,
    ⟨.g (.l 0) true (.L (.mov (.t .d0 .d4))), []⟩,
    ⟨.g (.l 1) true (.L (.mov (.t .d0 .d0))), []⟩,
    ⟨.g (.l 2) true (.L (.mov (.t .d0 .d1))), []⟩,
    ⟨.g (.l 3) true (.L (.bin .sub (.l 0) (.c (.int .i64 1)))), []⟩,
    ⟨.g (.l 4) true (.L (.iaddr 6 (.l 2) (.l 0))), []⟩,
    ⟨.g (.l 5) true (.L (.loadn 6 (.l 0))), []⟩,
    ⟨.g (.l 6) true (.L (.mov (.t .d0 .d0))), []⟩,
    ⟨.g (.l 7) true (.L (.mov (.t .d1 .d4))), []⟩,
    ⟨.g (.l 8) true (.L (.iaddr 6 (.l 1) (.l 0))), []⟩,
    ⟨.g (.l 9) true (.L (.loadn 6 (.l 0))), []⟩,
    ⟨.g (.l 10) true (.H (.callv (.l 9) [(.l 4), (.l 0)])), []⟩,
    ⟨.g (.l 11) true (.L (.bin .lss (.l 0) (.c (.int .i64 0)))), []⟩,
    ⟨.g (.l 12) true (.L (.not (.l 0))), []⟩,
    ⟨.s .d2 .d0 (.L (.pick (.l 13) (.l 0) (.c (.bool false)))), []⟩])
  (.cond (.t .d2 .d0) (.seq (.reg 32 [.s .d2 .d1 (.H (.call 162 [(.t .d0 .d0), (.t .d0 .d1), (.t .d0 .d2), (.t .d1 .d4), (.t .d0 .d4)]))])
  (.seq (.reg 2 [.s .d0 .d1 (.L (.mov (.t .d2 .d1)))])
  (.exit 1))) .skip))
  (.seq (.reg 1952 [.p (.H (.call 163 [(.t .d0 .d0), (.t .d0 .d1), (.t .d0 .d2), (.t .d1 .d4), (.t .d0 .d4)])),
    .p (.L (.ext 0 (.l 0))),
    .p (.L (.ext 1 (.l 1))),
    .s .d2 .d3 (.L (.mov (.l 1))),
    .s .d2 .d2 (.L (.mov (.l 1)))])
  (.seq (.reg 2 [.s .d1 .d5 (.L (.mov (.t .d2 .d2)))])
  (.seq (.reg 228 [.p (.L (.bin .sub (.t .d2 .d3) (.t .d0 .d1))),
    .p (.L (.bin .sub (.t .d0 .d2) (.t .d2 .d3))),
    .s .d2 .d4 (.L (.mov (.l 1))),
    .s .d2 .d5 (.L (.mov (.l 1)))])
  (.seq (.reg 2 [.s .d2 .d7 (.L (.bin .quo (.t .d0 .d5) (.c (.int .i64 8))))])
  (.seq (.reg 4 [.s .d2 .d6 (.L (.bin .lss (.t .d2 .d4) (.t .d2 .d5)))])
  (.cond (.t .d2 .d6) (.seq (.reg 4 [.s .d1 .d0 (.L (.bin .geq (.t .d2 .d4) (.t .d2 .d7)))])
  (.seq (.reg 32 [.p (.H (.call 111 [(.t .d0 .d0), (.t .d0 .d1), (.t .d2 .d3), (.t .d0 .d3), (.t .d0 .d4)]))])
  (.reg 2 [.s .d0 .d1 (.L (.bin .add (.t .d2 .d3) (.c (.int .i64 1))))]))) (.seq (.reg 4 [.s .d1 .d0 (.L (.bin .geq (.t .d2 .d5) (.t .d2 .d7)))])
  (.seq (.reg 68 [.p (.L (.bin .add (.t .d2 .d3) (.c (.int .i64 1)))),
    .p (.H (.call 111 [(.t .d0 .d0), (.l 0), (.t .d0 .d2), (.t .d0 .d3), (.t .d0 .d4)]))])
  (.reg 2 [.s .d0 .d2 (.L (.mov (.t .d2 .d3)))]))))))))))))))))))))))⟩
def i112 : Fun :=
  ⟨2, [0, 1, 4], [.tmp .d0 .d2], (.seq (.reg 1 [.s .d0 .d2 (.L (.mov (.c (.bool false))))])
  (.seq (.reg 12 [.p (.H (.call 164 [(.t .d0 .d0), (.t .d0 .d1)])),
    .s .d0 .d2 (.L (.bin .geq (.l 0) (.c (.int .i64 0))))])
  .ret))⟩
def i113 : Fun :=
  ⟨2, [0, 1, 3], [.tmp .d0 .d2], (.seq (.reg 1 [.s .d0 .d2 (.L (.mov (.c (.bool false))))])
  (.seq (.reg 14 [.p (.L (.len false (.t .d0 .d0))),
    .p (.L (.load (.t .d0 .d1))),
    .s .d0 .d2 (.L (.bin .neq (.l 1) (.l 0)))])
  .ret))⟩
def i114 : Fun :=
  ⟨2, [0, 1, 4], [.tmp .d0 .d2], (.seq (.reg 1 [.s .d0 .d2 (.L (.mov (.c (.bool false))))])
  (.seq (.reg 12 [.p (.H (.call 165 [(.t .d0 .d0), (.t .d0 .d1)])),
    .s .d0 .d2 (.L (.bin .geq (.l 0) (.c (.int .i64 0))))])
  .ret))⟩
def i115 : Fun :=
  ⟨2, [0, 1, 3], [.tmp .d0 .d2], (.seq (.reg 1 [.s .d0 .d2 (.L (.mov (.c (.bool false))))])
  (.seq (.reg 14 [.p (.L (.len false (.t .d0 .d0))),
    .p (.L (.load (.t .d0 .d1))),
    .s .d0 .d2 (.L (.bin .neq (.l 1) (.l 0)))])
  .ret))⟩
def i116 : Fun :=
  ⟨3, [0, 1, 2, 5], [.tmp .d0 .d3], (.seq (.reg 1 [.s .d0 .d3 (.L (.mov (.c (.bool false))))])
  (.seq (.reg 219 [.p (.L (.faddr 1 (.t .d0 .d2))),
    .p (.L (.load (.l 0))),
    .p (.L (.iaddr 1 (.l 0) (.t .d0 .d0))),
    .p (.L (.load (.l 0))),
    .p (.L (.iaddr 1 (.l 0) (.t .d0 .d1))),
    .s .d0 .d3 (.L (.load (.l 0)))])
  .ret))⟩
def i117 : Fun :=
  ⟨3, [0, 1, 2, 5], [.tmp .d0 .d3], (.seq (.reg 1 [.s .d0 .d3 (.L (.mov (.c (.bool false))))])
  (.seq (.reg 219 [.p (.L (.faddr 1 (.t .d0 .d2))),
    .p (.L (.load (.l 0))),
    .p (.L (.iaddr 1 (.l 0) (.t .d0 .d1))),
    .p (.L (.load (.l 0))),
    .p (.L (.iaddr 1 (.l 0) (.t .d0 .d0))),
    .s .d0 .d3 (.L (.load (.l 0)))])
  .ret))⟩
def i118 : Fun :=
  ⟨3, [0, 1, 2, 6, 7, 11, 10, 12, 8, 17, 19, 18, 20, 9, 31], [.tmp .d0 .d3, .tmp .d0 .d4], (.seq (.reg 3 [.s .d0 .d3 (.L (.mov (.c (.int .i64 0)))),
    .s .d0 .d4 (.L (.mov (.c (.bool false))))])
  (.seq .skip
  (.seq (.seq (.reg 3 [.s .d0 .d6 (.L (.mov (.t .d0 .d0))),
    .s .d0 .d5 (.L (.mov (.c (.int .i64 0))))])
  (.block 0 (.loop (.seq (.reg 1 [.s .d0 .d7 (.L (.bin .lss (.t .d0 .d5) (.t .d0 .d6)))])
  (.seq (.cond (.t .d0 .d7) .skip (.exit 0))
  (.seq (.block 1 (.seq (.reg 2 [.s .d1 .d0 (.L (.mov (.t .d0 .d5)))])
  (.seq (.seq (.reg 12 [.p (.H (.callv (.t .d0 .d2) [(.t .d1 .d0)])),
    .s .d1 .d1 (.L (.not (.l 0)))])
  (.cond (.t .d1 .d1) (.exit 1) .skip))
  (.seq (.seq (.reg 3 [.s .d1 .d3 (.L (.mov (.t .d0 .d0))),
    .s .d1 .d2 (.L (.mov (.c (.int .i64 0))))])
  (.block 2 (.loop (.seq (.reg 1 [.s .d1 .d4 (.L (.bin .lss (.t .d1 .d2) (.t .d1 .d3)))])
  (.seq (.cond (.t .d1 .d4) .skip (.exit 2))
  (.seq (.block 3 (.seq (.reg 2 [.s .d1 .d5 (.L (.mov (.t .d1 .d2)))])
  (.seq (.reg 1012 [.p (.H (.callv (.t .d0 .d2) [(.t .d1 .d5)])),
    .g (.l 0) true (.L (.mov (.t .d0 .d1))),
    .g (.l 1) true (.L (.mov (.t .d1 .d0))),
    .g (.l 2) true (.L (.mov (.t .d1 .d5))),
    .g (.l 3) true (.H (.callv (.l 2) [(.l 1), (.l 0)])),
    .g (.l 4) true (.L (.not (.l 0))),
    .s .d1 .d6 (.L (.pick (.l 5) (.l 0) (.c (.bool false))))])
  (.cond (.t .d1 .d6) (.exit 1) .skip))))
  (.reg 1 [.s .d1 .d2 (.L (.bin .add (.t .d1 .d2) (.c (.int .i64 1))))])))))))
  (.seq (.reg 6 [.s .d0 .d3 (.L (.mov (.t .d1 .d0))),
    .s .d0 .d4 (.L (.mov (.c (.bool true))))])
  .ret)))))
  (.reg 1 [.s .d0 .d5 (.L (.bin .add (.t .d0 .d5) (.c (.int .i64 1))))])))))))
  (.seq (.reg 3 [.s .d0 .d3 (.L (.mov (.c (.int .i64 0)))),
    .s .d0 .d4 (.L (.mov (.c (.bool false))))])
  .ret))))⟩
def i119 : Fun :=
  ⟨4, [0, 1, 2, 3, 5], [.tmp .d0 .d4], (.seq (.reg 1 [.s .d0 .d4 (.L (.mov (.c (.bool false))))])
  (.seq (.reg 1003 [.p (.L (.load (.t .d0 .d1))),
    .p (.L (.load (.t .d0 .d2))),
    .p (.H (.callv (.l 1) [(.l 0), (.t .d0 .d0)])),
    .g (.l 0) true (.L (.load (.t .d0 .d1))),
    .g (.l 1) true (.L (.load (.t .d0 .d3))),
    .g (.l 2) true (.L (.mov (.t .d0 .d0))),
    .g (.l 3) true (.H (.callv (.l 2) [(.l 1), (.l 0)])),
    .s .d0 .d4 (.L (.pick (.l 4) (.l 0) (.c (.bool false))))])
  .ret))⟩
def i120 : Fun :=
  ⟨4, [0, 1, 2, 3, 5], [.tmp .d0 .d4], (.seq (.reg 1 [.s .d0 .d4 (.L (.mov (.c (.bool false))))])
  (.seq (.reg 1005 [.p (.L (.load (.t .d0 .d1))),
    .p (.L (.load (.t .d0 .d2))),
    .p (.H (.callv (.l 1) [(.t .d0 .d0), (.l 0)])),
    .g (.l 0) true (.L (.load (.t .d0 .d1))),
    .g (.l 1) true (.L (.mov (.t .d0 .d0))),
    .g (.l 2) true (.L (.load (.t .d0 .d3))),
    .g (.l 3) true (.H (.callv (.l 2) [(.l 1), (.l 0)])),
    .s .d0 .d4 (.L (.pick (.l 4) (.l 0) (.c (.bool false))))])
  .ret))⟩
def i121 : Fun :=
  ⟨1, [0, 2], [.tmp .d0 .d1], (.seq (.reg 1 [.s .d0 .d1 (.L (.mov (.c (.bool false))))])
  (.seq (.reg 1 [.s .d0 .d1 (.L (.mov (.c (.bool true))))])
  .ret))⟩
def i122 : Fun :=
  ⟨1, [0, 2], [.tmp .d0 .d1], (.seq (.reg 1 [.s .d0 .d1 (.L (.mov (.c (.bool false))))])
  (.seq (.reg 1 [.s .d0 .d1 (.L (.mov (.c (.bool true))))])
  .ret))⟩
def i126 : Fun :=
  ⟨2, [0, 1, 4, 8, 7, 9, 5, 16], [.tmp .d0 .d2], (.seq (.reg 1 [.s .d0 .d2 (.L (.mov (.c (.int .i64 0))))])
  (.seq (.seq (.reg 6 [.s .d0 .d4 (.L (.len false (.t .d0 .d0))),
    .s .d0 .d3 (.L (.mov (.c (.int .i64 0))))])
  (.block 0 (.loop (.seq (.reg 1 [.s .d0 .d5 (.L (.bin .lss (.t .d0 .d3) (.t .d0 .d4)))])
  (.seq (.cond (.t .d0 .d5) .skip (.exit 0))
  (.seq (.block 1 (.seq (.reg 2 [.s .d0 .d6 (.L (.mov (.t .d0 .d3)))])
  (.seq (.reg 56 [.p (.L (.iaddr 4 (.t .d0 .d0) (.t .d0 .d6))),
    .p (.L (.loadn 4 (.l 0))),
    .s .d0 .d7 (.H (.callv (.t .d0 .d1) [(.l 0)]))])
  (.cond (.t .d0 .d7) (.seq (.reg 2 [.s .d0 .d2 (.L (.mov (.t .d0 .d6)))])
  .ret) .skip))))
  (.reg 1 [.s .d0 .d3 (.L (.bin .add (.t .d0 .d3) (.c (.int .i64 1))))])))))))
  (.seq (.reg 1 [.s .d0 .d2 (.L (.mov (.c (.int .i64 (-1)))))])
  .ret)))⟩
def i127 : Fun :=
  ⟨2, [0, 1, 4, 8, 7, 9, 5, 16], [.tmp .d0 .d2], (.seq (.reg 1 [.s .d0 .d2 (.L (.mov (.c (.int .i64 0))))])
  (.seq (.seq (.reg 6 [.s .d0 .d4 (.L (.len false (.t .d0 .d0))),
    .s .d0 .d3 (.L (.mov (.c (.int .i64 0))))])
  (.block 0 (.loop (.seq (.reg 1 [.s .d0 .d5 (.L (.bin .lss (.t .d0 .d3) (.t .d0 .d4)))])
  (.seq (.cond (.t .d0 .d5) .skip (.exit 0))
  (.seq (.block 1 (.seq (.reg 2 [.s .d0 .d6 (.L (.mov (.t .d0 .d3)))])
  (.seq (.reg 56 [.p (.L (.iaddr 1 (.t .d0 .d0) (.t .d0 .d6))),
    .p (.L (.load (.l 0))),
    .s .d0 .d7 (.L (.bins .eql (.t .d0 .d1) (.l 0)))])
  (.cond (.t .d0 .d7) (.seq (.reg 2 [.s .d0 .d2 (.L (.mov (.t .d0 .d6)))])
  .ret) .skip))))
  (.reg 1 [.s .d0 .d3 (.L (.bin .add (.t .d0 .d3) (.c (.int .i64 1))))])))))))
  (.seq (.reg 1 [.s .d0 .d2 (.L (.mov (.c (.int .i64 (-1)))))])
  .ret)))⟩
def i128 : Fun :=
  ⟨2, [0, 1, 4, 8, 7, 9, 5, 16], [.tmp .d0 .d2], (.seq (.reg 1 [.s .d0 .d2 (.L (.mov (.c (.int .i64 0))))])
  (.seq (.seq (.reg 6 [.s .d0 .d4 (.L (.len false (.t .d0 .d0))),
    .s .d0 .d3 (.L (.mov (.c (.int .i64 0))))])
  (.block 0 (.loop (.seq (.reg 1 [.s .d0 .d5 (.L (.bin .lss (.t .d0 .d3) (.t .d0 .d4)))])
  (.seq (.cond (.t .d0 .d5) .skip (.exit 0))
  (.seq (.block 1 (.seq (.reg 2 [.s .d0 .d6 (.L (.mov (.t .d0 .d3)))])
  (.seq (.reg 56 [.p (.L (.iaddr 6 (.t .d0 .d0) (.t .d0 .d6))),
    .p (.L (.loadn 6 (.l 0))),
    .s .d0 .d7 (.H (.callv (.t .d0 .d1) [(.l 0)]))])
  (.cond (.t .d0 .d7) (.seq (.reg 2 [.s .d0 .d2 (.L (.mov (.t .d0 .d6)))])
  .ret) .skip))))
  (.reg 1 [.s .d0 .d3 (.L (.bin .add (.t .d0 .d3) (.c (.int .i64 1))))])))))))
  (.seq (.reg 1 [.s .d0 .d2 (.L (.mov (.c (.int .i64 (-1)))))])
  .ret)))⟩
def i129 : Fun :=
  ⟨2, [0, 1, 3, 2], [.tmp .d0 .d2], (.seq (.reg 3 [.s .d0 .d3 (.L (.box 6 (.t .d0 .d0))),
    .s .d0 .d2 (.L (.mov (.c (.bool false))))])
  (.seq (.reg 15 [.p (.L (.faddr 0 (.t .d0 .d3))),
    .p (.L (.load (.l 0))),
    .p (.L (.load (.t .d0 .d1))),
    .s .d0 .d2 (.L (.bins .eql (.l 1) (.l 0)))])
  .ret))⟩
def i132 : Fun :=
  ⟨1, [0, 2, 3, 5, 14, 7, 20, 9, 29, 8, 10, 55, 6, 4], [.tmp .d0 .d1, .tmp .d0 .d2], (.seq (.reg 3 [.s .d0 .d1 (.L (.mov (.c (.slN)))),
    .s .d0 .d2 (.L (.mov (.c (.bool false))))])
  (.seq (.reg 1 [.s .d1 .d5 (.L (.mov (.c (.slN))))])
  (.seq (.seq (.reg 1 [.s .d0 .d3 (.L (.mov (.c (.int .i64 0))))])
  (.block 0 (.loop (.seq (.seq (.reg 12 [.p (.L (.len false (.t .d0 .d0))),
    .s .d0 .d4 (.L (.bin .lss (.t .d0 .d3) (.l 0)))])
  (.cond (.t .d0 .d4) .skip (.exit 0)))
  (.seq (.block 1 (.seq (.reg 1 [.s .d1 .d4 (.L (.mov (.c (.slN))))])
  (.seq (.seq (.reg 1 [.s .d0 .d5 (.L (.mov (.c (.int .i64 0))))])
  (.block 2 (.loop (.seq (.seq (.reg 12 [.p (.L (.len false (.t .d0 .d0))),
    .s .d0 .d6 (.L (.bin .lss (.t .d0 .d5) (.l 0)))])
  (.cond (.t .d0 .d6) .skip (.exit 2)))
  (.seq (.block 3 (.seq (.reg 6 [.p (.L (.len false (.t .d0 .d0))),
    .s .d1 .d1 (.L (.mksl 1 [.bool false] 1 (.l 0) (.l 0)))])
  (.seq (.seq (.reg 1 [.s .d0 .d7 (.L (.mov (.c (.int .i64 0))))])
  (.block 4 (.loop (.seq (.seq (.reg 12 [.p (.L (.len false (.t .d0 .d0))),
    .s .d1 .d0 (.L (.bin .lss (.t .d0 .d7) (.l 0)))])
  (.cond (.t .d1 .d0) .skip (.exit 4)))
  (.seq (.block 5 (.reg 1047984 [.p (.L (.iaddr 1 (.t .d0 .d0) (.t .d0 .d3))),
    .p (.L (.load (.l 0))),
    .p (.L (.iaddr 1 (.l 0) (.t .d0 .d7))),
    .p (.L (.load (.l 0))),
    .g (.l 0) true (.L (.mov (.t .d0 .d0))),
    .g (.l 1) true (.L (.mov (.t .d0 .d5))),
    .g (.l 2) true (.L (.iaddr 1 (.l 1) (.l 0))),
    .g (.l 3) true (.L (.load (.l 0))),
    .g (.l 4) true (.L (.mov (.t .d0 .d7))),
    .g (.l 5) true (.L (.iaddr 1 (.l 1) (.l 0))),
    .g (.l 6) true (.L (.load (.l 0))),
    .p (.L (.pick (.l 7) (.l 0) (.c (.bool false)))),
    .p (.L (.iaddr 1 (.t .d1 .d1) (.t .d0 .d7))),
    .p (.H (.store 1 (.l 0) (.l 1)))]))
  (.reg 2 [.s .d0 .d7 (.L (.bin .add (.t .d0 .d7) (.c (.int .i64 1))))]))))))
  (.seq (.reg 4 [.s .d1 .d2 (.H (.call 169 [(.t .d0 .d0), (.t .d1 .d1)]))])
  (.seq (.seq (.reg 2 [.s .d1 .d3 (.L (.bin .lss (.t .d1 .d2) (.c (.int .i64 0))))])
  (.cond (.t .d1 .d3) (.seq (.reg 3 [.s .d0 .d1 (.L (.mov (.c (.slN)))),
    .s .d0 .d2 (.L (.mov (.c (.bool false))))])
  .ret) .skip))
  (.reg 12 [.p (.L (.bsl 1 1 [.int .i64 0] [(0, 1, (.t .d1 .d2))])),
    .s .d1 .d4 (.H (.append 1 8 (.t .d1 .d4) (.l 0)))]))))))
  (.reg 2 [.s .d0 .d5 (.L (.bin .add (.t .d0 .d5) (.c (.int .i64 1))))]))))))
  (.reg 12 [.p (.L (.bsl 1 1 [.slN] [(0, 1, (.t .d1 .d4))])),
    .s .d1 .d5 (.H (.append 1 24 (.t .d1 .d5) (.l 0)))]))))
  (.reg 2 [.s .d0 .d3 (.L (.bin .add (.t .d0 .d3) (.c (.int .i64 1))))]))))))
  (.seq (.reg 6 [.s .d0 .d1 (.L (.mov (.t .d1 .d5))),
    .s .d0 .d2 (.L (.mov (.c (.bool true))))])
  .ret))))⟩
def i133 : Fun :=
  ⟨1, [0, 2, 4, 10, 6, 19, 5, 3], [.tmp .d0 .d1], (.seq (.reg 1 [.s .d0 .d1 (.L (.mov (.c (.slN))))])
  (.seq (.reg 1 [.s .d0 .d7 (.L (.mov (.c (.slN))))])
  (.seq (.seq (.reg 1 [.s .d0 .d2 (.L (.mov (.c (.int .i64 0))))])
  (.block 0 (.loop (.seq (.seq (.reg 12 [.p (.L (.len false (.t .d0 .d0))),
    .s .d0 .d3 (.L (.bin .lss (.t .d0 .d2) (.l 0)))])
  (.cond (.t .d0 .d3) .skip (.exit 0)))
  (.seq (.block 1 (.seq (.reg 6 [.p (.L (.len false (.t .d0 .d0))),
    .s .d0 .d6 (.L (.mksl 1 [.bool false] 1 (.l 0) (.l 0)))])
  (.seq (.seq (.reg 1 [.s .d0 .d4 (.L (.mov (.c (.int .i64 0))))])
  (.block 2 (.loop (.seq (.seq (.reg 12 [.p (.L (.len false (.t .d0 .d0))),
    .s .d0 .d5 (.L (.bin .lss (.t .d0 .d4) (.l 0)))])
  (.cond (.t .d0 .d5) .skip (.exit 2)))
  (.seq (.block 3 (.reg 1968 [.p (.L (.iaddr 1 (.t .d0 .d0) (.t .d0 .d4))),
    .p (.L (.load (.l 0))),
    .p (.L (.iaddr 1 (.l 0) (.t .d0 .d2))),
    .p (.L (.load (.l 0))),
    .p (.L (.iaddr 1 (.t .d0 .d6) (.t .d0 .d4))),
    .p (.H (.store 1 (.l 0) (.l 1)))]))
  (.reg 2 [.s .d0 .d4 (.L (.bin .add (.t .d0 .d4) (.c (.int .i64 1))))]))))))
  (.reg 12 [.p (.L (.bsl 1 1 [.slN] [(0, 1, (.t .d0 .d6))])),
    .s .d0 .d7 (.H (.append 1 24 (.t .d0 .d7) (.l 0)))]))))
  (.reg 2 [.s .d0 .d2 (.L (.bin .add (.t .d0 .d2) (.c (.int .i64 1))))]))))))
  (.seq (.reg 2 [.s .d0 .d1 (.L (.mov (.t .d0 .d7)))])
  .ret))))⟩
def i140 : Fun :=
  ⟨2, [0, 1, 13], [], (.seq (.seq (.reg 1012 [.p (.H (.call 102 [(.t .d0 .d0), (.t .d0 .d1)])),
    .g (.l 0) true (.L (.mov (.t .d0 .d0))),
    .g (.l 1) true (.L (.nilck (.l 0))),
    .g (.l 2) true (.L (.faddr 2 (.l 0))),
    .g (.l 3) true (.L (.load (.l 0))),
    .g (.l 4) true (.L (.bin .geq (.l 0) (.c (.int .i64 40)))),
    .s .d0 .d2 (.L (.pick (.l 5) (.l 0) (.c (.bool false))))])
  (.cond (.t .d0 .d2) (.reg 2 [.p (.H (.call 61 [(.t .d0 .d0), (.c (.int .i64 12))]))]) .skip))
  (.seq (.reg 4 [.p (.H (.call 55 [(.t .d0 .d0), (.t .d0 .d1)]))])
  (.reg 254 [.p (.L (.nilck (.t .d0 .d0))),
    .p (.L (.faddr 2 (.l 0))),
    .p (.L (.load (.l 0))),
    .p (.L (.bin .add (.l 0) (.c (.int .i64 1)))),
    .p (.L (.nilck (.t .d0 .d0))),
    .p (.L (.faddr 2 (.l 0))),
    .p (.H (.store 1 (.l 0) (.l 2)))])))⟩
def i141 : Fun :=
  ⟨1, [0, 2, 12, 3, 4, 5, 47, 64, 73, 79, 86, 90, 101, 106], [.cell .d0 .d1 (some 12)], (.seq (.reg 1 [.s .d0 .d1 (.L (.alloc [.int .i64 0, .int .i64 0, .str 0 0, .str 0 0, .str 0 0, .bool false, .str 0 0, .str 0 0, .slN, .slN, .slN, .slN]))])
  (.seq (.reg 30 [.p (.H (.call 56 [(.t .d0 .d0)])),
    .p (.L (.build [.int .i64 0, .int .i64 0, .str 0 0, .str 0 0, .str 0 0, .bool false, .str 0 0, .str 0 0, .slN, .slN, .slN, .slN] [(1, 1, (.l 0))])),
    .s .d0 .d3 (.L (.alloc [.int .i64 0, .int .i64 0, .str 0 0, .str 0 0, .str 0 0, .bool false, .str 0 0, .str 0 0, .slN, .slN, .slN, .slN])),
    .p (.H (.store 12 (.l 0) (.l 1)))])
  (.seq (.block 0 (.seq (.draw [0, 1, 2, 3, 4, 5, 6, 7, 8, 9, 10, 11, 12, 13, 14, 15, 16, 17, 18, 19] [⟨.p (.L (.mov (.t .d0 .d0))), []⟩,
    ⟨.p (.L (.nilck (.l 0))), []⟩,
    ⟨.p (.L (.faddr 3 (.l 0))), []⟩,
    ⟨.p (.L (.load (.l 0))), []⟩,
    ⟨.p (.L (.bin .eql (.l 0) (.c (.int .i64 0)))), []⟩,
    ⟨.p (.L (.mov (.l 0))), []⟩,
    ⟨.g (.l 0) true (.L (.mov (.t .d0 .d0))), []⟩,
    ⟨.g (.l 1) true (.L (.nilck (.l 0))), []⟩,
    ⟨.g (.l 2) true (.L (.faddr 0 (.l 0))), []⟩,
    ⟨.g (.l 3) true (.L (.load (.l 0))), []⟩,
    ⟨.g (.l 4) true (.L (.mov (.t .d0 .d0))), []⟩,
    ⟨.g (.l 5) true (.L (.nilck (.l 0))), []⟩,
    ⟨.g (.l 6) true (.L (.faddr 1 (.l 0))), []⟩,
    ⟨.g (.l 7) true (.L (.load (.l 0))), []⟩,
    ⟨.g (.l 8) true (.L (.iaddr 3 (.l 4) (.l 0))), []⟩,
    ⟨.g (.l 9) true (.L (.faddr 0 (.l 0))), []⟩,
    ⟨.g (.l 10) true (.L (.load (.l 0))), []⟩,
    ⟨.g (.l 11) true (.L (.bin .eql (.l 0) (.c (.int .i64 1)))), []⟩,
    ⟨.p (.L (.pick (.l 12) (.l 0) (.c (.bool false)))), []⟩,
    ⟨.s .d0 .d2 (.L (.mov (.l 0))), []⟩])
  (.cond (.t .d0 .d2) (.seq (.reg 122 [.p (.H (.call 173 [(.t .d0 .d0)])),
    .p (.L (.ext 0 (.l 0))),
    .p (.L (.ext 1 (.l 1))),
    .s .d0 .d4 (.L (.mov (.l 1))),
    .s .d0 .d5 (.L (.mov (.l 1)))])
  (.seq (.reg 3 [.p (.L (.faddr 0 (.t .d0 .d3))),
    .p (.H (.store 1 (.l 0) (.c (.int .i64 2))))])
  (.seq (.reg 6 [.p (.L (.faddr 2 (.t .d0 .d3))),
    .p (.H (.store 1 (.l 0) (.t .d0 .d4)))])
  (.seq (.reg 6 [.p (.L (.faddr 3 (.t .d0 .d3))),
    .p (.H (.store 1 (.l 0) (.t .d0 .d5)))])
  (.seq (.reg 2 [.p (.H (.call 55 [(.t .d0 .d0), (.c (.str 1 61))]))])
  (.reg 14 [.p (.H (.call 174 [(.t .d0 .d0), (.c (.slN))])),
    .p (.L (.faddr 8 (.t .d0 .d3))),
    .p (.H (.store 1 (.l 0) (.l 1)))])))))) (.seq (.reg 2 [.s .d0 .d6 (.H (.call 58 [(.t .d0 .d0), (.c (.str 3 7628140))]))])
  (.cond (.t .d0 .d6) (.seq (.reg 3 [.p (.L (.faddr 0 (.t .d0 .d3))),
    .p (.H (.store 1 (.l 0) (.c (.int .i64 1))))])
  (.seq (.reg 14 [.p (.H (.call 57 [(.t .d0 .d0)])),
    .p (.L (.faddr 3 (.t .d0 .d3))),
    .p (.H (.store 1 (.l 0) (.l 1)))])
  (.seq (.reg 2 [.p (.H (.call 55 [(.t .d0 .d0), (.c (.str 1 58))]))])
  (.seq (.reg 14 [.p (.H (.call 57 [(.t .d0 .d0)])),
    .p (.L (.faddr 4 (.t .d0 .d3))),
    .p (.H (.store 1 (.l 0) (.l 1)))])
  (.seq (.reg 2 [.p (.H (.call 55 [(.t .d0 .d0), (.c (.str 1 61))]))])
  (.reg 14 [.p (.H (.call 174 [(.t .d0 .d0), (.c (.slN))])),
    .p (.L (.faddr 8 (.t .d0 .d3))),
    .p (.H (.store 1 (.l 0) (.l 1)))])))))) (.seq (.reg 2 [.s .d0 .d7 (.H (.call 58 [(.t .d0 .d0), (.c (.str 6 128009175786866))]))])
  (.cond (.t .d0 .d7) (.seq (.reg 3 [.p (.L (.faddr 0 (.t .d0 .d3))),
    .p (.H (.store 1 (.l 0) (.c (.int .i64 3))))])
  (.seq (.reg 2 [.p (.H (.call 55 [(.t .d0 .d0), (.c (.str 1 61))]))])
  (.reg 14 [.p (.H (.call 174 [(.t .d0 .d0), (.c (.slN))])),
    .p (.L (.faddr 8 (.t .d0 .d3))),
    .p (.H (.store 1 (.l 0) (.l 1)))]))) (.seq (.reg 2 [.s .d1 .d0 (.H (.call 58 [(.t .d0 .d0), (.c (.str 4 1819042147))]))])
  (.cond (.t .d1 .d0) (.reg 14 [.p (.L (.loadn 12 (.t .d0 .d3))),
    .p (.H (.call 175 [(.t .d0 .d0), (.l 0)])),
    .p (.H (.store 12 (.t .d0 .d3) (.l 0)))]) (.seq (.reg 2 [.s .d1 .d1 (.H (.call 58 [(.t .d0 .d0), (.c (.str 4 1953066341))]))])
  (.cond (.t .d1 .d1) (.seq (.reg 3 [.p (.L (.faddr 0 (.t .d0 .d3))),
    .p (.H (.store 1 (.l 0) (.c (.int .i64 7))))])
  (.reg 14 [.p (.H (.call 57 [(.t .d0 .d0)])),
    .p (.L (.faddr 3 (.t .d0 .d3))),
    .p (.H (.store 1 (.l 0) (.l 1)))])) (.seq (.reg 2 [.s .d1 .d2 (.H (.call 58 [(.t .d0 .d0), (.c (.str 4 1885956979))]))])
  (.cond (.t .d1 .d2) (.reg 3 [.p (.L (.faddr 0 (.t .d0 .d3))),
    .p (.H (.store 1 (.l 0) (.c (.int .i64 8))))]) (.seq (.reg 2 [.s .d1 .d3 (.H (.call 58 [(.t .d0 .d0), (.c (.str 2 26217))]))])
  (.cond (.t .d1 .d3) (.seq (.reg 3 [.p (.L (.faddr 0 (.t .d0 .d3))),
    .p (.H (.store 1 (.l 0) (.c (.int .i64 5))))])
  (.seq (.reg 14 [.p (.H (.call 174 [(.t .d0 .d0), (.c (.slN))])),
    .p (.L (.faddr 8 (.t .d0 .d3))),
    .p (.H (.store 1 (.l 0) (.l 1)))])
  (.seq (.reg 14 [.p (.H (.call 104 [(.t .d0 .d0)])),
    .p (.L (.faddr 10 (.t .d0 .d3))),
    .p (.H (.store 1 (.l 0) (.l 1)))])
  (.seq (.seq (.reg 2 [.s .d1 .d4 (.H (.call 58 [(.t .d0 .d0), (.c (.str 4 1702063205))]))])
  (.cond (.t .d1 .d4) (.reg 14 [.p (.H (.call 104 [(.t .d0 .d0)])),
    .p (.L (.faddr 11 (.t .d0 .d3))),
    .p (.H (.store 1 (.l 0) (.l 1)))]) .skip))
  (.seq (.reg 3 [.p (.L (.loadn 12 (.t .d0 .d3))),
    .p (.H (.store 12 (.t .d0 .d1) (.l 0)))])
  .ret))))) (.seq (.reg 2 [.s .d1 .d5 (.H (.call 58 [(.t .d0 .d0), (.c (.str 5 435610544247))]))])
  (.cond (.t .d1 .d5) (.seq (.reg 3 [.p (.L (.faddr 0 (.t .d0 .d3))),
    .p (.H (.store 1 (.l 0) (.c (.int .i64 6))))])
  (.seq (.reg 14 [.p (.H (.call 174 [(.t .d0 .d0), (.c (.slN))])),
    .p (.L (.faddr 8 (.t .d0 .d3))),
    .p (.H (.store 1 (.l 0) (.l 1)))])
  (.seq (.reg 14 [.p (.H (.call 104 [(.t .d0 .d0)])),
    .p (.L (.faddr 10 (.t .d0 .d3))),
    .p (.H (.store 1 (.l 0) (.l 1)))])
  (.seq (.reg 3 [.p (.L (.loadn 12 (.t .d0 .d3))),
    .p (.H (.store 12 (.t .d0 .d1) (.l 0)))])
  .ret)))) (.seq (.reg 2 [.p (.H (.call 61 [(.t .d0 .d0), (.c (.int .i64 11))]))])
  (.seq (.reg 3 [.p (.L (.loadn 12 (.t .d0 .d3))),
    .p (.H (.store 12 (.t .d0 .d1) (.l 0)))])
  .ret)))))))))))))))))))
  (.seq (.reg 2 [.p (.H (.call 55 [(.t .d0 .d0), (.c (.str 1 59))]))])
  (.seq (.reg 3 [.p (.L (.loadn 12 (.t .d0 .d3))),
    .p (.H (.store 12 (.t .d0 .d1) (.l 0)))])
  .ret)))))⟩
def i142 : Fun :=
  ⟨1, [0, 2, 4], [.tmp .d0 .d1], (.seq (.reg 1 [.s .d0 .d1 (.L (.mov (.c (.slN))))])
  (.seq (.seq (.reg 2 [.s .d0 .d2 (.L (.eq false .sl (.t .d0 .d0) (.c (.slN))))])
  (.cond (.t .d0 .d2) (.seq (.reg 1 [.s .d0 .d1 (.L (.mov (.c (.slN))))])
  .ret) .skip))
  (.seq (.reg 5 [.p (.L (.bsl 1 0 [.str 0 0] [])),
    .s .d0 .d1 (.H (.append 1 16 (.l 0) (.t .d0 .d0)))])
  .ret)))⟩
def i143 : Fun :=
  ⟨1, [0, 2], [], (.seq (.reg 2 [.s .d0 .d1 (.L (.len false (.t .d0 .d0)))])
  (.reg 56 [.p (.L (.conv .u64 (.t .d0 .d1))),
    .p (.H (.call 109 [(.l 0)])),
    .p (.H (.call 176 [(.t .d0 .d0), (.c (.int .i64 0)), (.t .d0 .d1), (.l 0)]))]))⟩
def i144 : Fun :=
  ⟨1, [0, 2, 8, 3, 13, 25, 4, 5, 32, 44], [.tmp .d0 .d1], (.seq (.reg 1 [.s .d0 .d1 (.L (.mov (.c (.slN))))])
  (.seq (.seq (.reg 6 [.p (.L (.len false (.t .d0 .d0))),
    .s .d0 .d2 (.L (.bin .lss (.l 0) (.c (.int .i64 2))))])
  (.cond (.t .d0 .d2) (.seq (.reg 2 [.s .d0 .d1 (.L (.mov (.t .d0 .d0)))])
  .ret) .skip))
  (.seq (.seq (.reg 1 [.s .d0 .d3 (.L (.mov (.c (.int .i64 1))))])
  (.block 0 (.loop (.seq (.seq (.reg 12 [.p (.L (.len false (.t .d0 .d0))),
    .s .d0 .d4 (.L (.bin .lss (.t .d0 .d3) (.l 0)))])
  (.cond (.t .d0 .d4) .skip (.exit 0)))
  (.seq (.block 1 (.seq (.draw [0, 1, 2, 3, 4, 5, 6, 7, 8, 9] [⟨.p (.L (.mov (.t .d0 .d0))), []⟩,
    ⟨.p (.L (.mov (.t .d0 .d3))), []⟩,
    ⟨.p (.L (.iaddr 1 (.l 1) (.l 0))), []⟩,
    ⟨.p (.L (.load (.l 0))), []⟩,
    ⟨.p (.L (.mov (.t .d0 .d0))), []⟩,
    ⟨.p (.L (.mov (.t .d0 .d3))), []⟩,
    ⟨.p (.L (.bin .sub (.l 0) (.c (.int .i64 1)))), []⟩,
    ⟨.p (.L (.iaddr 1 (.l 2) (.l 0))), []⟩,
    ⟨.p (.L (.load (.l 0))), []⟩,
    ⟨.s .d0 .d5 (.L (.bins .eql (.l 5) (.l 0))), []⟩])
  (.cond (.t .d0 .d5) (.seq (.reg 4 [.s .d0 .d6 (.L (.ssl 1 (.t .d0 .d0) (some (.t .d0 .d3)) none none))])
  (.seq (.seq (.reg 1 [.s .d0 .d7 (.L (.mov (.c (.int .i64 1))))])
  (.block 2 (.loop (.seq (.seq (.reg 12 [.p (.L (.len false (.t .d0 .d6))),
    .s .d1 .d0 (.L (.bin .lss (.t .d0 .d7) (.l 0)))])
  (.cond (.t .d1 .d0) .skip (.exit 2)))
  (.seq (.block 3 (.seq (.draw [0, 1, 2, 3, 4, 5, 6, 7, 8, 9] [⟨.p (.L (.mov (.t .d0 .d6))), []⟩,
    ⟨.p (.L (.mov (.t .d0 .d7))), []⟩,
    ⟨.p (.L (.iaddr 1 (.l 1) (.l 0))), []⟩,
    ⟨.p (.L (.load (.l 0))), []⟩,
    ⟨.p (.L (.mov (.t .d0 .d6))), []⟩,
    ⟨.p (.L (.mov (.t .d0 .d7))), []⟩,
    ⟨.p (.L (.bin .sub (.l 0) (.c (.int .i64 1)))), []⟩,
    ⟨.p (.L (.iaddr 1 (.l 2) (.l 0))), []⟩,
    ⟨.p (.L (.load (.l 0))), []⟩,
    ⟨.s .d1 .d1 (.L (.bins .neq (.l 5) (.l 0))), []⟩])
  (.cond (.t .d1 .d1) (.seq (.reg 240 [.p (.L (.iaddr 1 (.t .d0 .d6) (.t .d0 .d7))),
    .p (.L (.load (.l 0))),
    .p (.L (.iaddr 1 (.t .d0 .d0) (.t .d0 .d3))),
    .p (.H (.store 1 (.l 0) (.l 1)))])
  (.reg 2 [.s .d0 .d3 (.L (.bin .add (.t .d0 .d3) (.c (.int .i64 1))))])) .skip)))
  (.reg 2 [.s .d0 .d7 (.L (.bin .add (.t .d0 .d7) (.c (.int .i64 1))))]))))))
  (.seq (.reg 12 [.p (.L (.ssl 1 (.t .d0 .d0) (some (.t .d0 .d3)) none none)),
    .p (.H (.clear [.str 0 0] (.l 0)))])
  (.seq (.reg 4 [.s .d0 .d1 (.L (.ssl 1 (.t .d0 .d0) none (some (.t .d0 .d3)) none))])
  .ret)))) .skip)))
  (.reg 2 [.s .d0 .d3 (.L (.bin .add (.t .d0 .d3) (.c (.int .i64 1))))]))))))
  (.seq (.reg 2 [.s .d0 .d1 (.L (.mov (.t .d0 .d0)))])
  .ret))))⟩
def i145 : Fun :=
  ⟨4, [0, 1, 2, 3, 8, 14, 9, 34], [], (.seq (.reg 2 [.s .d0 .d4 (.L (.bin .add (.t .d0 .d1) (.c (.int .i64 1))))])
  (.block 0 (.loop (.seq (.seq (.reg 4 [.s .d0 .d5 (.L (.bin .lss (.t .d0 .d4) (.t .d0 .d2)))])
  (.cond (.t .d0 .d5) .skip (.exit 0)))
  (.seq (.block 1 (.seq (.reg 2 [.s .d0 .d6 (.L (.mov (.t .d0 .d4)))])
  (.block 2 (.loop (.seq (.seq (.draw [0, 1, 2, 3, 4, 5, 6, 7, 8, 9, 10, 11, 12, 13, 14, 15, 16] [⟨.p (.L (.mov (.t .d0 .d6))), []⟩,
    ⟨.p (.L (.mov (.t .d0 .d1))), []⟩,
    ⟨.p (.L (.bin .gtr (.l 1) (.l 0))), []⟩,
    ⟨.p (.L (.mov (.l 0))), []⟩,
    ⟨.g (.l 0) true (.L (.mov (.t .d0 .d3))), []⟩,
    ⟨.g (.l 1) true (.L (.mov (.t .d0 .d0))), []⟩,
    ⟨.g (.l 2) true (.L (.mov (.t .d0 .d6))), []⟩,
    ⟨.g (.l 3) true (.L (.iaddr 4 (.l 1) (.l 0))), []⟩,
    ⟨.g (.l 4) true (.L (.loadn 4 (.l 0))), []⟩,
    ⟨.g (.l 5) true (.L (.mov (.t .d0 .d0))), []⟩,
    ⟨.g (.l 6) true (.L (.mov (.t .d0 .d6))), []⟩,
    ⟨.g (.l 7) true (.L (.bin .sub (.l 0) (.c (.int .i64 1)))), []⟩,
    ⟨.g (.l 8) true (.L (.iaddr 4 (.l 2) (.l 0))), []⟩,
    ⟨.g (.l 9) true (.L (.loadn 4 (.l 0))), []⟩,
    ⟨.g (.l 10) true (.H (.callv (.l 9) [(.l 5), (.l 0)])), []⟩,
    ⟨.g (.l 11) true (.L (.bin .lss (.l 0) (.c (.int .i64 0)))), []⟩,
    ⟨.s .d0 .d7 (.L (.pick (.l 12) (.l 0) (.c (.bool false)))), []⟩])
  (.cond (.t .d0 .d7) .skip (.exit 2)))
  (.seq (.block 3 (.draw [0, 1, 2, 3, 4, 5, 6, 7, 8, 9, 10, 11, 12, 13, 14, 15, 16, 17] [⟨.p (.L (.mov (.t .d0 .d0))), []⟩,
    ⟨.p (.L (.mov (.t .d0 .d6))), []⟩,
    ⟨.p (.L (.mov (.t .d0 .d0))), []⟩,
    ⟨.p (.L (.mov (.t .d0 .d6))), []⟩,
    ⟨.p (.L (.bin .sub (.l 0) (.c (.int .i64 1)))), []⟩,
    ⟨.p (.L (.mov (.t .d0 .d0))), []⟩,
    ⟨.p (.L (.mov (.t .d0 .d6))), []⟩,
    ⟨.p (.L (.bin .sub (.l 0) (.c (.int .i64 1)))), []⟩,
    ⟨.p (.L (.iaddr 4 (.l 2) (.l 0))), []⟩,
    ⟨.p (.L (.loadn 4 (.l 0))), []⟩,
    ⟨.p (.L (.mov (.t .d0 .d0))), []⟩,
    ⟨.p (.L (.mov (.t .d0 .d6))), []⟩,
    ⟨.p (.L (.iaddr 4 (.l 1) (.l 0))), []⟩,
    ⟨.p (.L (.loadn 4 (.l 0))), []⟩,
    ⟨.p (.L (.iaddr 4 (.l 13) (.l 12))), []⟩,
    ⟨.p (.H (.store 4 (.l 0) (.l 5))), []⟩,
    ⟨.p (.L (.iaddr 4 (.l 13) (.l 11))), []⟩,
    ⟨.p (.H (.store 4 (.l 0) (.l 3))), []⟩]))
  (.reg 2 [.s .d0 .d6 (.L (.bin .sub (.t .d0 .d6) (.c (.int .i64 1))))])))))))
  (.reg 2 [.s .d0 .d4 (.L (.bin .add (.t .d0 .d4) (.c (.int .i64 1))))]))))))⟩
def i154 : Fun :=
  ⟨1, [0, 2, 4, 8, 14], [.tmp .d0 .d1], (.seq (.reg 1 [.s .d0 .d1 (.L (.mov (.c (.int .i64 0))))])
  (.seq (.seq (.reg 2 [.s .d0 .d2 (.L (.bin .geq (.t .d0 .d0) (.c (.int .u64 4294967296))))])
  (.cond (.t .d0 .d2) (.seq (.reg 2 [.s .d0 .d0 (.L (.shf false (.t .d0 .d0) (.c (.int .u64 32))))])
  (.reg 1 [.s .d0 .d1 (.L (.mov (.c (.int .i64 32))))])) .skip))
  (.seq (.seq (.reg 2 [.s .d0 .d3 (.L (.bin .geq (.t .d0 .d0) (.c (.int .u64 65536))))])
  (.cond (.t .d0 .d3) (.seq (.reg 2 [.s .d0 .d0 (.L (.shf false (.t .d0 .d0) (.c (.int .u64 16))))])
  (.reg 2 [.s .d0 .d1 (.L (.bin .add (.t .d0 .d1) (.c (.int .i64 16))))])) .skip))
  (.seq (.seq (.reg 2 [.s .d0 .d4 (.L (.bin .geq (.t .d0 .d0) (.c (.int .u64 256))))])
  (.cond (.t .d0 .d4) (.seq (.reg 2 [.s .d0 .d0 (.L (.shf false (.t .d0 .d0) (.c (.int .u64 8))))])
  (.reg 2 [.s .d0 .d1 (.L (.bin .add (.t .d0 .d1) (.c (.int .i64 8))))])) .skip))
  (.seq (.reg 60 [.p (.L (.conv .u8 (.t .d0 .d0))),
    .p (.L (.istr (.c (.str 256 1013866857139168856493015739252390649739422828853819106890363778118420553376247557433637691341895324351018602695588957474325319502760499485336098898398377509666851054660423406800006203933793007272033180812049178612605246075062580585469430410618860250057463399279570354286669047577758927328864388992123306212451509403152394148136105363817402562688186708175358218852349079190158732807302672745370040257219644697201681238697346923541678507645485296520536209706771857694240900605172937619415410180424934769249448772944216470541052485265558808433676546390051204254346932932316488017972311616136051587427851453983453479168)) (.l 0))),
    .p (.L (.conv .i64 (.l 0))),
    .s .d0 .d1 (.L (.bin .add (.t .d0 .d1) (.l 0)))])
  .ret)))))⟩
def i156 : Fun :=
  ⟨4, [0, 1, 2, 3, 8, 14, 9, 34], [], (.seq (.reg 2 [.s .d0 .d4 (.L (.bin .add (.t .d0 .d1) (.c (.int .i64 1))))])
  (.block 0 (.loop (.seq (.seq (.reg 4 [.s .d0 .d5 (.L (.bin .lss (.t .d0 .d4) (.t .d0 .d2)))])
  (.cond (.t .d0 .d5) .skip (.exit 0)))
  (.seq (.block 1 (.seq (.reg 2 [.s .d0 .d6 (.L (.mov (.t .d0 .d4)))])
  (.block 2 (.loop (.seq (.seq (.draw [0, 1, 2, 3, 4, 5, 6, 7, 8, 9, 10, 11, 12, 13, 14, 15, 16] [⟨.p (.L (.mov (.t .d0 .d6))), []⟩,
    ⟨.p (.L (.mov (.t .d0 .d1))), []⟩,
    ⟨.p (.L (.bin .gtr (.l 1) (.l 0))), []⟩,
    ⟨.p (.L (.mov (.l 0))), []⟩,
    ⟨.g (.l 0) true (.L (.mov (.t .d0 .d3))), []⟩,
    ⟨.g (.l 1) true (.L (.mov (.t .d0 .d0))), []⟩,
    ⟨.g (.l 2) true (.L (.mov (.t .d0 .d6))), []⟩,
    ⟨.g (.l 3) true (.L (.iaddr 6 (.l 1) (.l 0))), []⟩,
    ⟨.g (.l 4) true (.L (.loadn 6 (.l 0))), []⟩,
    ⟨.g (.l 5) true (.L (.mov (.t .d0 .d0))), []⟩,
    ⟨.g (.l 6) true (.L (.mov (.t .d0 .d6))), []⟩,
    ⟨.g (.l 7) true (.L (.bin .sub (.l 0) (.c (.int .i64 1)))), []⟩,
    ⟨.g (.l 8) true (.L (.iaddr 6 (.l 2) (.l 0))), []⟩,
    ⟨.g (.l 9) true (.L (.loadn 6 (.l 0))), []⟩,
    ⟨.g (.l 10) true (.H (.callv (.l 9) [(.l 5), (.l 0)])), []⟩,
    ⟨.g (.l 11) true (.L (.bin .lss (.l 0) (.c (.int .i64 0)))), []⟩,
    ⟨.s .d0 .d7 (.L (.pick (.l 12) (.l 0) (.c (.bool false)))), []⟩])
  (.cond (.t .d0 .d7) .skip (.exit 2)))
  (.seq (.block 3 (.draw [0, 1, 2, 3, 4, 5, 6, 7, 8, 9, 10, 11, 12, 13, 14, 15, 16, 17] [⟨.p (.L (.mov (.t .d0 .d0))), []⟩,
    ⟨.p (.L (.mov (.t .d0 .d6))), []⟩,
    ⟨.p (.L (.mov (.t .d0 .d0))), []⟩,
    ⟨.p (.L (.mov (.t .d0 .d6))), []⟩,
    ⟨.p (.L (.bin .sub (.l 0) (.c (.int .i64 1)))), []⟩,
    ⟨.p (.L (.mov (.t .d0 .d0))), []⟩,
    ⟨.p (.L (.mov (.t .d0 .d6))), []⟩,
    ⟨.p (.L (.bin .sub (.l 0) (.c (.int .i64 1)))), []⟩,
    ⟨.p (.L (.iaddr 6 (.l 2) (.l 0))), []⟩,
    ⟨.p (.L (.loadn 6 (.l 0))), []⟩,
    ⟨.p (.L (.mov (.t .d0 .d0))), []⟩,
    ⟨.p (.L (.mov (.t .d0 .d6))), []⟩,
    ⟨.p (.L (.iaddr 6 (.l 1) (.l 0))), []⟩,
    ⟨.p (.L (.loadn 6 (.l 0))), []⟩,
    ⟨.p (.L (.iaddr 6 (.l 13) (.l 12))), []⟩,
    ⟨.p (.H (.store 6 (.l 0) (.l 5))), []⟩,
    ⟨.p (.L (.iaddr 6 (.l 13) (.l 11))), []⟩,
    ⟨.p (.H (.store 6 (.l 0) (.l 3))), []⟩]))
  (.reg 2 [.s .d0 .d6 (.L (.bin .sub (.t .d0 .d6) (.c (.int .i64 1))))])))))))
  (.reg 2 [.s .d0 .d4 (.L (.bin .add (.t .d0 .d4) (.c (.int .i64 1))))]))))))⟩
def i164 : Fun :=
  ⟨2, [0, 1, 4, 8, 7, 9, 5, 16], [.tmp .d0 .d2], (.seq (.reg 1 [.s .d0 .d2 (.L (.mov (.c (.int .i64 0))))])
  (.seq (.seq (.reg 6 [.s .d0 .d4 (.L (.len false (.t .d0 .d0))),
    .s .d0 .d3 (.L (.mov (.c (.int .i64 0))))])
  (.block 0 (.loop (.seq (.reg 1 [.s .d0 .d5 (.L (.bin .lss (.t .d0 .d3) (.t .d0 .d4)))])
  (.seq (.cond (.t .d0 .d5) .skip (.exit 0))
  (.seq (.block 1 (.seq (.reg 2 [.s .d0 .d6 (.L (.mov (.t .d0 .d3)))])
  (.seq (.reg 56 [.p (.L (.iaddr 1 (.t .d0 .d0) (.t .d0 .d6))),
    .p (.L (.load (.l 0))),
    .s .d0 .d7 (.H (.callv (.t .d0 .d1) [(.l 0)]))])
  (.cond (.t .d0 .d7) (.seq (.reg 2 [.s .d0 .d2 (.L (.mov (.t .d0 .d6)))])
  .ret) .skip))))
  (.reg 1 [.s .d0 .d3 (.L (.bin .add (.t .d0 .d3) (.c (.int .i64 1))))])))))))
  (.seq (.reg 1 [.s .d0 .d2 (.L (.mov (.c (.int .i64 (-1)))))])
  .ret)))⟩
def i165 : Fun :=
  ⟨2, [0, 1, 4, 8, 7, 9, 5, 16], [.tmp .d0 .d2], (.seq (.reg 1 [.s .d0 .d2 (.L (.mov (.c (.int .i64 0))))])
  (.seq (.seq (.reg 6 [.s .d0 .d4 (.L (.len false (.t .d0 .d0))),
    .s .d0 .d3 (.L (.mov (.c (.int .i64 0))))])
  (.block 0 (.loop (.seq (.reg 1 [.s .d0 .d5 (.L (.bin .lss (.t .d0 .d3) (.t .d0 .d4)))])
  (.seq (.cond (.t .d0 .d5) .skip (.exit 0))
  (.seq (.block 1 (.seq (.reg 2 [.s .d0 .d6 (.L (.mov (.t .d0 .d3)))])
  (.seq (.reg 56 [.p (.L (.iaddr 1 (.t .d0 .d0) (.t .d0 .d6))),
    .p (.L (.load (.l 0))),
    .s .d0 .d7 (.H (.callv (.t .d0 .d1) [(.l 0)]))])
  (.cond (.t .d0 .d7) (.seq (.reg 2 [.s .d0 .d2 (.L (.mov (.t .d0 .d6)))])
  .ret) .skip))))
  (.reg 1 [.s .d0 .d3 (.L (.bin .add (.t .d0 .d3) (.c (.int .i64 1))))])))))))
  (.seq (.reg 1 [.s .d0 .d2 (.L (.mov (.c (.int .i64 (-1)))))])
  .ret)))⟩
def i166 : Fun :=
  ⟨1, [0, 2, 1], [.tmp .d0 .d1], (.seq (.reg 3 [.s .d0 .d2 (.L (.box 1 (.t .d0 .d0))),
    .s .d0 .d1 (.L (.mov (.c (.fnN))))])
  (.seq (.reg 1 [.s .d0 .d1 (.L (.fn 185 [] [(.t .d0 .d2)]))])
  .ret))⟩
def i167 : Fun :=
  ⟨2, [0, 1, 3, 2], [.tmp .d0 .d2], (.seq (.reg 3 [.s .d0 .d3 (.L (.box 4 (.t .d0 .d0))),
    .s .d0 .d2 (.L (.mov (.c (.bool false))))])
  (.seq (.reg 15 [.p (.L (.faddr 0 (.t .d0 .d3))),
    .p (.L (.load (.l 0))),
    .p (.L (.load (.t .d0 .d1))),
    .s .d0 .d2 (.L (.bins .eql (.l 1) (.l 0)))])
  .ret))⟩
def i169 : Fun :=
  ⟨2, [0, 1, 4, 5, 11, 7, 21, 6, 41], [.tmp .d0 .d2], (.seq (.reg 1 [.s .d0 .d2 (.L (.mov (.c (.int .i64 0))))])
  (.seq (.seq (.reg 1 [.s .d0 .d3 (.L (.mov (.c (.int .i64 0))))])
  (.block 0 (.loop (.seq (.seq (.reg 12 [.p (.L (.len false (.t .d0 .d1))),
    .s .d0 .d4 (.L (.bin .lss (.t .d0 .d3) (.l 0)))])
  (.cond (.t .d0 .d4) .skip (.exit 0)))
  (.seq (.block 1 (.seq (.reg 12 [.p (.L (.iaddr 1 (.t .d0 .d1) (.t .d0 .d3))),
    .s .d0 .d7 (.L (.load (.l 0)))])
  (.seq (.seq (.reg 1 [.s .d0 .d5 (.L (.mov (.c (.int .i64 0))))])
  (.block 2 (.loop (.seq (.seq (.reg 12 [.p (.L (.len false (.t .d0 .d1))),
    .s .d0 .d6 (.L (.bin .lss (.t .d0 .d5) (.l 0)))])
  (.cond (.t .d0 .d6) .skip (.exit 2)))
  (.seq (.block 3 (.reg 131068 [.g (.t .d0 .d7) true (.L (.mov (.t .d0 .d1))),
    .g (.t .d0 .d7) true (.L (.mov (.t .d0 .d5))),
    .g (.t .d0 .d7) true (.L (.iaddr 1 (.l 1) (.l 0))),
    .g (.t .d0 .d7) true (.L (.load (.l 0))),
    .g (.t .d0 .d7) true (.L (.not (.l 0))),
    .g (.t .d0 .d7) true (.L (.mov (.l 0))),
    .g (.l 0) false (.L (.mov (.t .d0 .d0))),
    .g (.l 1) false (.L (.mov (.t .d0 .d3))),
    .g (.l 2) false (.L (.iaddr 1 (.l 1) (.l 0))),
    .g (.l 3) false (.L (.load (.l 0))),
    .g (.l 4) false (.L (.mov (.t .d0 .d5))),
    .g (.l 5) false (.L (.iaddr 1 (.l 1) (.l 0))),
    .g (.l 6) false (.L (.load (.l 0))),
    .g (.t .d0 .d7) true (.L (.pick (.l 7) (.c (.bool true)) (.l 0))),
    .s .d0 .d7 (.L (.pick (.t .d0 .d7) (.l 0) (.c (.bool false))))]))
  (.reg 2 [.s .d0 .d5 (.L (.bin .add (.t .d0 .d5) (.c (.int .i64 1))))]))))))
  (.seq (.reg 1 [.s .d1 .d0 (.L (.mov (.t .d0 .d7)))])
  (.cond (.t .d1 .d0) (.seq (.reg 2 [.s .d0 .d2 (.L (.mov (.t .d0 .d3)))])
  .ret) .skip)))))
  (.reg 2 [.s .d0 .d3 (.L (.bin .add (.t .d0 .d3) (.c (.int .i64 1))))]))))))
  (.seq (.reg 1 [.s .d0 .d2 (.L (.mov (.c (.int .i64 (-1)))))])
  .ret)))⟩
def i173 : Fun :=
  ⟨1, [0, 2, 3, 8, 4], [.tmp .d0 .d1, .tmp .d0 .d2], (.seq (.reg 3 [.s .d0 .d1 (.L (.mov (.c (.str 0 0)))),
    .s .d0 .d2 (.L (.mov (.c (.str 0 0))))])
  (.seq (.reg 2 [.s .d0 .d4 (.H (.call 57 [(.t .d0 .d0)]))])
  (.seq (.seq (.reg 2 [.s .d0 .d3 (.H (.call 58 [(.t .d0 .d0), (.c (.str 1 46))]))])
  (.cond (.t .d0 .d3) (.seq (.reg 28 [.p (.H (.call 57 [(.t .d0 .d0)])),
    .s .d0 .d1 (.L (.mov (.t .d0 .d4))),
    .s .d0 .d2 (.L (.mov (.l 1)))])
  .ret) .skip))
  (.seq (.reg 6 [.s .d0 .d1 (.L (.mov (.c (.str 0 0)))),
    .s .d0 .d2 (.L (.mov (.t .d0 .d4)))])
  .ret))))⟩
def i174 : Fun :=
  ⟨2, [0, 1, 4, 5, 6, 16, 29, 7, 8], [.tmp .d0 .d2], (.seq (.reg 1 [.s .d0 .d2 (.L (.mov (.c (.slN))))])
  (.seq (.reg 4 [.s .d0 .d1 (.H (.call 190 [(.t .d0 .d0), (.t .d0 .d1)]))])
  (.seq (.reg 1 [.s .d0 .d3 (.L (.bsl 1 3 [.str 0 0] [(0, 1, (.c (.str 2 15677))), (1, 1, (.c (.str 1 60))), (2, 1, (.c (.str 2 15676)))]))])
  (.seq (.seq (.reg 1 [.s .d0 .d4 (.L (.mov (.c (.int .i64 0))))])
  (.block 0 (.loop (.seq (.seq (.reg 12 [.p (.L (.len false (.t .d0 .d3))),
    .s .d0 .d5 (.L (.bin .lss (.t .d0 .d4) (.l 0)))])
  (.cond (.t .d0 .d5) .skip (.exit 0)))
  (.seq (.block 1 (.seq (.reg 118 [.p (.L (.len false (.t .d0 .d1))),
    .p (.L (.bin .sub (.l 0) (.c (.int .i64 1)))),
    .p (.H (.call 56 [(.t .d0 .d0)])),
    .s .d0 .d7 (.L (.mov (.l 1))),
    .s .d1 .d0 (.L (.mov (.l 1)))])
  (.seq (.reg 56 [.p (.L (.iaddr 1 (.t .d0 .d3) (.t .d0 .d4))),
    .p (.L (.load (.l 0))),
    .s .d0 .d6 (.H (.call 58 [(.t .d0 .d0), (.l 0)]))])
  (.cond (.t .d0 .d6) (.seq (.reg 164 [.p (.H (.call 190 [(.t .d0 .d0), (.t .d0 .d1)])),
    .p (.L (.bin .add (.c (.int .i64 10)) (.t .d0 .d4))),
    .s .d0 .d2 (.H (.call 191 [(.l 1), (.t .d0 .d7), (.l 0), (.t .d1 .d0)]))])
  .ret) .skip))))
  (.reg 2 [.s .d0 .d4 (.L (.bin .add (.t .d0 .d4) (.c (.int .i64 1))))]))))))
  (.seq (.reg 2 [.s .d0 .d2 (.L (.mov (.t .d0 .d1)))])
  .ret)))))⟩
def i175 : Fun :=
  ⟨2, [0, 1, 4, 3, 16, 5, 6, 7, 8, 37, 42, 52], [.cell .d0 .d2 (some 12)], (.seq (.reg 3 [.s .d0 .d3 (.L (.box 12 (.t .d0 .d1))),
    .s .d0 .d2 (.L (.alloc [.int .i64 0, .int .i64 0, .str 0 0, .str 0 0, .str 0 0, .bool false, .str 0 0, .str 0 0, .slN, .slN, .slN, .slN]))])
  (.seq (.reg 3 [.p (.L (.faddr 0 (.t .d0 .d3))),
    .p (.H (.store 1 (.l 0) (.c (.int .i64 4))))])
  (.seq (.reg 122 [.p (.H (.call 173 [(.t .d0 .d0)])),
    .p (.L (.ext 0 (.l 0))),
    .p (.L (.ext 1 (.l 1))),
    .s .d0 .d5 (.L (.mov (.l 1))),
    .s .d0 .d6 (.L (.mov (.l 1)))])
  (.seq (.seq (.reg 2 [.s .d0 .d4 (.H (.call 58 [(.t .d0 .d0), (.c (.str 1 61))]))])
  (.cond (.t .d0 .d4) (.seq (.reg 3 [.p (.L (.faddr 5 (.t .d0 .d3))),
    .p (.H (.store 1 (.l 0) (.c (.bool true))))])
  (.seq (.reg 6 [.p (.L (.faddr 2 (.t .d0 .d3))),
    .p (.H (.store 1 (.l 0) (.t .d0 .d5)))])
  (.seq (.reg 6 [.p (.L (.faddr 3 (.t .d0 .d3))),
    .p (.H (.store 1 (.l 0) (.t .d0 .d6)))])
  (.seq (.reg 122 [.p (.H (.call 173 [(.t .d0 .d0)])),
    .p (.L (.ext 0 (.l 0))),
    .p (.L (.ext 1 (.l 1))),
    .s .d0 .d7 (.L (.mov (.l 1))),
    .s .d1 .d0 (.L (.mov (.l 1)))])
  (.seq (.reg 2 [.s .d0 .d5 (.L (.mov (.t .d0 .d7)))])
  (.reg 2 [.s .d0 .d6 (.L (.mov (.t .d1 .d0)))])))))) .skip))
  (.seq (.reg 6 [.p (.L (.faddr 6 (.t .d0 .d3))),
    .p (.H (.store 1 (.l 0) (.t .d0 .d5)))])
  (.seq (.reg 6 [.p (.L (.faddr 7 (.t .d0 .d3))),
    .p (.H (.store 1 (.l 0) (.t .d0 .d6)))])
  (.seq (.reg 2 [.p (.H (.call 55 [(.t .d0 .d0), (.c (.str 1 40))]))])
  (.seq (.seq (.reg 6 [.p (.H (.call 102 [(.t .d0 .d0), (.c (.str 1 41))])),
    .s .d1 .d1 (.L (.not (.l 0)))])
  (.cond (.t .d1 .d1) (.block 0 (.loop (.seq (.seq (.reg 30 [.p (.L (.nilck (.t .d0 .d0))),
    .p (.L (.faddr 3 (.l 0))),
    .p (.L (.load (.l 0))),
    .s .d1 .d2 (.L (.bin .eql (.l 0) (.c (.int .i64 0))))])
  (.cond (.t .d1 .d2) .skip (.exit 0)))
  (.block 1 (.seq (.draw [0, 1, 2, 3, 4, 5, 6, 7] [⟨.p (.L (.faddr 9 (.t .d0 .d3))), []⟩,
    ⟨.p (.L (.load (.l 0))), []⟩,
    ⟨.p (.L (.mov (.t .d0 .d0))), []⟩,
    ⟨.p (.H (.call 174 [(.l 0), (.c (.slN))])), [1]⟩,
    ⟨.p (.L (.bsl 1 1 [.slN] [(0, 1, (.l 0))])), []⟩,
    ⟨.p (.H (.append 1 24 (.l 3) (.l 0))), []⟩,
    ⟨.p (.L (.faddr 9 (.t .d0 .d3))), []⟩,
    ⟨.p (.H (.store 1 (.l 0) (.l 1))), []⟩])
  (.seq (.reg 6 [.p (.H (.call 58 [(.t .d0 .d0), (.c (.str 1 44))])),
    .s .d1 .d3 (.L (.not (.l 0)))])
  (.cond (.t .d1 .d3) (.exit 0) .skip))))))) .skip))
  (.seq (.reg 2 [.p (.H (.call 55 [(.t .d0 .d0), (.c (.str 1 41))]))])
  (.seq (.reg 3 [.p (.L (.loadn 12 (.t .d0 .d3))),
    .p (.H (.store 12 (.t .d0 .d2) (.l 0)))])
  .ret))))))))))⟩
def i176 : Fun :=
  ⟨4, [0, 1, 2, 3, 10, 23, 29, 8, 35, 12, 50, 11, 9, 68, 72, 87, 13, 15, 14, 16, 17, 113, 18], [], (.seq (.reg 1 [.s .d0 .d7 (.L (.mov (.c (.bool true))))])
  (.seq (.reg 1 [.s .d1 .d4 (.L (.mov (.c (.bool true))))])
  (.block 0 (.loop (.block 1 (.seq (.reg 4 [.s .d0 .d4 (.L (.bin .sub (.t .d0 .d2) (.t .d0 .d1)))])
  (.seq (.seq (.reg 2 [.s .d0 .d5 (.L (.bin .leq (.t .d0 .d4) (.c (.int .i64 12))))])
  (.cond (.t .d0 .d5) (.seq (.reg 8 [.p (.H (.call 192 [(.t .d0 .d0), (.t .d0 .d1), (.t .d0 .d2)]))])
  .ret) .skip))
  (.seq (.seq (.reg 2 [.s .d0 .d6 (.L (.bin .eql (.t .d0 .d3) (.c (.int .i64 0))))])
  (.cond (.t .d0 .d6) (.seq (.reg 8 [.p (.H (.call 193 [(.t .d0 .d0), (.t .d0 .d1), (.t .d0 .d2)]))])
  .ret) .skip))
  (.seq (.seq (.reg 2 [.s .d1 .d0 (.L (.not (.t .d0 .d7)))])
  (.cond (.t .d1 .d0) (.seq (.reg 8 [.p (.H (.call 194 [(.t .d0 .d0), (.t .d0 .d1), (.t .d0 .d2)]))])
  (.reg 2 [.s .d0 .d3 (.L (.bin .sub (.t .d0 .d3) (.c (.int .i64 1))))])) .skip))
  (.seq (.reg 488 [.p (.H (.call 195 [(.t .d0 .d0), (.t .d0 .d1), (.t .d0 .d2)])),
    .p (.L (.ext 0 (.l 0))),
    .p (.L (.ext 1 (.l 1))),
    .s .d1 .d3 (.L (.mov (.l 1))),
    .s .d1 .d1 (.L (.mov (.l 1)))])
  (.seq (.seq (.reg 2 [.s .d1 .d2 (.L (.bin .eql (.t .d1 .d1) (.c (.int .i64 2))))])
  (.cond (.t .d1 .d2) (.seq (.reg 8 [.p (.H (.call 196 [(.t .d0 .d0), (.t .d0 .d1), (.t .d0 .d2)]))])
  (.seq (.reg 50 [.p (.L (.bin .sub (.t .d0 .d2) (.c (.int .i64 1)))),
    .p (.L (.bin .sub (.t .d1 .d3) (.t .d0 .d1))),
    .s .d1 .d3 (.L (.bin .sub (.l 1) (.l 0)))])
  (.reg 1 [.s .d1 .d1 (.L (.mov (.c (.int .i64 1))))]))) .skip))
  (.seq (.seq (.reg 236 [.g (.t .d0 .d7) true (.L (.mov (.t .d1 .d4))),
    .p (.L (.pick (.t .d0 .d7) (.l 0) (.c (.bool false)))),
    .g (.l 0) true (.L (.mov (.t .d1 .d1))),
    .g (.l 1) true (.L (.bin .eql (.l 0) (.c (.int .i64 1)))),
    .s .d1 .d5 (.L (.pick (.l 2) (.l 0) (.c (.bool false))))])
  (.cond (.t .d1 .d5) (.seq (.reg 8 [.s .d1 .d6 (.H (.call 197 [(.t .d0 .d0), (.t .d0 .d1), (.t .d0 .d2)]))])
  (.cond (.t .d1 .d6) .ret .skip)) .skip))
  (.seq (.seq (.draw [0, 1, 2, 3, 4, 5, 6, 7, 8, 9, 10, 11, 12, 13, 14] [⟨.p (.L (.mov (.t .d0 .d1))), []⟩,
    ⟨.p (.L (.bin .gtr (.l 0) (.c (.int .i64 0)))), []⟩,
    ⟨.p (.L (.mov (.l 0))), []⟩,
    ⟨.g (.l 0) true (.L (.mov (.t .d0 .d0))), []⟩,
    ⟨.g (.l 1) true (.L (.mov (.t .d0 .d1))), []⟩,
    ⟨.g (.l 2) true (.L (.bin .sub (.l 0) (.c (.int .i64 1)))), []⟩,
    ⟨.g (.l 3) true (.L (.iaddr 1 (.l 2) (.l 0))), []⟩,
    ⟨.g (.l 4) true (.L (.load (.l 0))), []⟩,
    ⟨.g (.l 5) true (.L (.mov (.t .d0 .d0))), []⟩,
    ⟨.g (.l 6) true (.L (.mov (.t .d1 .d3))), []⟩,
    ⟨.g (.l 7) true (.L (.iaddr 1 (.l 1) (.l 0))), []⟩,
    ⟨.g (.l 8) true (.L (.load (.l 0))), []⟩,
    ⟨.g (.l 9) true (.H (.call 198 [(.l 4), (.l 0)])), []⟩,
    ⟨.g (.l 10) true (.L (.not (.l 0))), []⟩,
    ⟨.s .d1 .d7 (.L (.pick (.l 11) (.l 0) (.c (.bool false)))), []⟩])
  (.cond (.t .d1 .d7) (.seq (.reg 16 [.s .d2 .d0 (.H (.call 199 [(.t .d0 .d0), (.t .d0 .d1), (.t .d0 .d2), (.t .d1 .d3)]))])
  (.seq (.reg 2 [.s .d0 .d1 (.L (.mov (.t .d2 .d0)))])
  (.exit 1))) .skip))
  (.seq (.reg 976 [.p (.H (.call 200 [(.t .d0 .d0), (.t .d0 .d1), (.t .d0 .d2), (.t .d1 .d3)])),
    .p (.L (.ext 0 (.l 0))),
    .p (.L (.ext 1 (.l 1))),
    .s .d2 .d2 (.L (.mov (.l 1))),
    .s .d2 .d1 (.L (.mov (.l 1)))])
  (.seq (.reg 2 [.s .d1 .d4 (.L (.mov (.t .d2 .d1)))])
  (.seq (.reg 228 [.p (.L (.bin .sub (.t .d2 .d2) (.t .d0 .d1))),
    .p (.L (.bin .sub (.t .d0 .d2) (.t .d2 .d2))),
    .s .d2 .d3 (.L (.mov (.l 1))),
    .s .d2 .d4 (.L (.mov (.l 1)))])
  (.seq (.reg 2 [.s .d2 .d6 (.L (.bin .quo (.t .d0 .d4) (.c (.int .i64 8))))])
  (.seq (.reg 4 [.s .d2 .d5 (.L (.bin .lss (.t .d2 .d3) (.t .d2 .d4)))])
  (.cond (.t .d2 .d5) (.seq (.reg 4 [.s .d0 .d7 (.L (.bin .geq (.t .d2 .d3) (.t .d2 .d6)))])
  (.seq (.reg 16 [.p (.H (.call 176 [(.t .d0 .d0), (.t .d0 .d1), (.t .d2 .d2), (.t .d0 .d3)]))])
  (.reg 2 [.s .d0 .d1 (.L (.bin .add (.t .d2 .d2) (.c (.int .i64 1))))]))) (.seq (.reg 4 [.s .d0 .d7 (.L (.bin .geq (.t .d2 .d4) (.t .d2 .d6)))])
  (.seq (.reg 36 [.p (.L (.bin .add (.t .d2 .d2) (.c (.int .i64 1)))),
    .p (.H (.call 176 [(.t .d0 .d0), (.l 0), (.t .d0 .d2), (.t .d0 .d3)]))])
  (.reg 2 [.s .d0 .d2 (.L (.mov (.t .d2 .d2)))]))))))))))))))))))))))⟩
def i190 : Fun :=
  ⟨2, [0, 1, 4, 14, 21, 5, 6, 30], [.tmp .d0 .d2], (.seq (.reg 1 [.s .d0 .d2 (.L (.mov (.c (.slN))))])
  (.seq (.reg 4 [.s .d0 .d1 (.H (.call 207 [(.t .d0 .d0), (.t .d0 .d1)]))])
  (.seq (.block 0 (.loop (.seq (.seq (.reg 30 [.p (.L (.nilck (.t .d0 .d0))),
    .p (.L (.faddr 3 (.l 0))),
    .p (.L (.load (.l 0))),
    .s .d0 .d3 (.L (.bin .eql (.l 0) (.c (.int .i64 0))))])
  (.cond (.t .d0 .d3) .skip (.exit 0)))
  (.block 1 (.seq (.reg 118 [.p (.L (.len false (.t .d0 .d1))),
    .p (.L (.bin .sub (.l 0) (.c (.int .i64 1)))),
    .p (.H (.call 56 [(.t .d0 .d0)])),
    .s .d0 .d5 (.L (.mov (.l 1))),
    .s .d0 .d6 (.L (.mov (.l 1)))])
  (.block 2 (.seq (.reg 2 [.s .d0 .d4 (.H (.call 58 [(.t .d0 .d0), (.c (.str 1 43))]))])
  (.cond (.t .d0 .d4) (.reg 36 [.p (.H (.call 207 [(.t .d0 .d0), (.t .d0 .d1)])),
    .s .d0 .d1 (.H (.call 191 [(.l 0), (.t .d0 .d5), (.c (.int .i64 5)), (.t .d0 .d6)]))]) (.seq (.reg 2 [.s .d0 .d7 (.H (.call 58 [(.t .d0 .d0), (.c (.str 1 45))]))])
  (.cond (.t .d0 .d7) (.reg 36 [.p (.H (.call 207 [(.t .d0 .d0), (.t .d0 .d1)])),
    .s .d0 .d1 (.H (.call 191 [(.l 0), (.t .d0 .d5), (.c (.int .i64 6)), (.t .d0 .d6)]))]) (.seq (.reg 2 [.s .d0 .d2 (.L (.mov (.t .d0 .d1)))])
  .ret)))))))))))
  (.seq (.reg 2 [.s .d0 .d2 (.L (.mov (.t .d0 .d1)))])
  .ret))))⟩
def i192 : Fun :=
  ⟨3, [0, 1, 2, 6, 12, 7, 30], [], (.seq (.reg 2 [.s .d0 .d3 (.L (.bin .add (.t .d0 .d1) (.c (.int .i64 1))))])
  (.block 0 (.loop (.seq (.seq (.reg 4 [.s .d0 .d4 (.L (.bin .lss (.t .d0 .d3) (.t .d0 .d2)))])
  (.cond (.t .d0 .d4) .skip (.exit 0)))
  (.seq (.block 1 (.seq (.reg 2 [.s .d0 .d5 (.L (.mov (.t .d0 .d3)))])
  (.block 2 (.loop (.seq (.seq (.draw [0, 1, 2, 3, 4, 5, 6, 7, 8, 9, 10, 11, 12, 13, 14] [⟨.p (.L (.mov (.t .d0 .d5))), []⟩,
    ⟨.p (.L (.mov (.t .d0 .d1))), []⟩,
    ⟨.p (.L (.bin .gtr (.l 1) (.l 0))), []⟩,
    ⟨.p (.L (.mov (.l 0))), []⟩,
    ⟨.g (.l 0) true (.L (.mov (.t .d0 .d0))), []⟩,
    ⟨.g (.l 1) true (.L (.mov (.t .d0 .d5))), []⟩,
    ⟨.g (.l 2) true (.L (.iaddr 1 (.l 1) (.l 0))), []⟩,
    ⟨.g (.l 3) true (.L (.load (.l 0))), []⟩,
    ⟨.g (.l 4) true (.L (.mov (.t .d0 .d0))), []⟩,
    ⟨.g (.l 5) true (.L (.mov (.t .d0 .d5))), []⟩,
    ⟨.g (.l 6) true (.L (.bin .sub (.l 0) (.c (.int .i64 1)))), []⟩,
    ⟨.g (.l 7) true (.L (.iaddr 1 (.l 2) (.l 0))), []⟩,
    ⟨.g (.l 8) true (.L (.load (.l 0))), []⟩,
    ⟨.g (.l 9) true (.H (.call 198 [(.l 5), (.l 0)])), []⟩,
    ⟨.s .d0 .d6 (.L (.pick (.l 10) (.l 0) (.c (.bool false)))), []⟩])
  (.cond (.t .d0 .d6) .skip (.exit 2)))
  (.seq (.block 3 (.draw [0, 1, 2, 3, 4, 5, 6, 7, 8, 9, 10, 11, 12, 13, 14, 15, 16, 17] [⟨.p (.L (.mov (.t .d0 .d0))), []⟩,
    ⟨.p (.L (.mov (.t .d0 .d5))), []⟩,
    ⟨.p (.L (.mov (.t .d0 .d0))), []⟩,
    ⟨.p (.L (.mov (.t .d0 .d5))), []⟩,
    ⟨.p (.L (.bin .sub (.l 0) (.c (.int .i64 1)))), []⟩,
    ⟨.p (.L (.mov (.t .d0 .d0))), []⟩,
    ⟨.p (.L (.mov (.t .d0 .d5))), []⟩,
    ⟨.p (.L (.bin .sub (.l 0) (.c (.int .i64 1)))), []⟩,
    ⟨.p (.L (.iaddr 1 (.l 2) (.l 0))), []⟩,
    ⟨.p (.L (.load (.l 0))), []⟩,
    ⟨.p (.L (.mov (.t .d0 .d0))), []⟩,
    ⟨.p (.L (.mov (.t .d0 .d5))), []⟩,
    ⟨.p (.L (.iaddr 1 (.l 1) (.l 0))), []⟩,
    ⟨.p (.L (.load (.l 0))), []⟩,
    ⟨.p (.L (.iaddr 1 (.l 13) (.l 12))), []⟩,
    ⟨.p (.H (.store 1 (.l 0) (.l 5))), []⟩,
    ⟨.p (.L (.iaddr 1 (.l 13) (.l 11))), []⟩,
    ⟨.p (.H (.store 1 (.l 0) (.l 3))), []⟩]))
  (.reg 2 [.s .d0 .d5 (.L (.bin .sub (.t .d0 .d5) (.c (.int .i64 1))))])))))))
  (.reg 2 [.s .d0 .d3 (.L (.bin .add (.t .d0 .d3) (.c (.int .i64 1))))]))))))⟩
def i198 : Fun :=
  ⟨2, [0, 1, 4], [.tmp .d0 .d2], (.seq (.reg 1 [.s .d0 .d2 (.L (.mov (.c (.bool false))))])
  (.seq (.reg 3962 [.p (.H (.call 211 [(.t .d0 .d0)])),
    .g (.l 0) true (.L (.mov (.t .d0 .d1))),
    .g (.l 1) true (.H (.call 211 [(.l 0)])),
    .g (.l 2) true (.L (.not (.l 0))),
    .p (.L (.pick (.l 3) (.l 0) (.c (.bool false)))),
    .g (.l 0) false (.L (.mov (.t .d0 .d0))),
    .g (.l 1) false (.L (.mov (.t .d0 .d1))),
    .g (.l 2) false (.L (.bins .lss (.l 1) (.l 0))),
    .s .d0 .d2 (.L (.pick (.l 3) (.c (.bool true)) (.l 0)))])
  .ret))⟩
def i207 : Fun :=
  ⟨2, [0, 1, 4, 14, 21, 5, 6, 30, 39], [.tmp .d0 .d2], (.seq (.reg 1 [.s .d0 .d2 (.L (.mov (.c (.slN))))])
  (.seq (.reg 4 [.s .d0 .d1 (.H (.call 214 [(.t .d0 .d0), (.t .d0 .d1)]))])
  (.seq (.block 0 (.loop (.seq (.seq (.reg 30 [.p (.L (.nilck (.t .d0 .d0))),
    .p (.L (.faddr 3 (.l 0))),
    .p (.L (.load (.l 0))),
    .s .d0 .d3 (.L (.bin .eql (.l 0) (.c (.int .i64 0))))])
  (.cond (.t .d0 .d3) .skip (.exit 0)))
  (.block 1 (.seq (.reg 118 [.p (.L (.len false (.t .d0 .d1))),
    .p (.L (.bin .sub (.l 0) (.c (.int .i64 1)))),
    .p (.H (.call 56 [(.t .d0 .d0)])),
    .s .d0 .d5 (.L (.mov (.l 1))),
    .s .d0 .d6 (.L (.mov (.l 1)))])
  (.block 2 (.seq (.reg 2 [.s .d0 .d4 (.H (.call 58 [(.t .d0 .d0), (.c (.str 1 42))]))])
  (.cond (.t .d0 .d4) (.reg 36 [.p (.H (.call 214 [(.t .d0 .d0), (.t .d0 .d1)])),
    .s .d0 .d1 (.H (.call 191 [(.l 0), (.t .d0 .d5), (.c (.int .i64 7)), (.t .d0 .d6)]))]) (.seq (.reg 2 [.s .d0 .d7 (.H (.call 58 [(.t .d0 .d0), (.c (.str 1 47))]))])
  (.cond (.t .d0 .d7) (.reg 36 [.p (.H (.call 214 [(.t .d0 .d0), (.t .d0 .d1)])),
    .s .d0 .d1 (.H (.call 191 [(.l 0), (.t .d0 .d5), (.c (.int .i64 8)), (.t .d0 .d6)]))]) (.seq (.reg 2 [.s .d1 .d0 (.H (.call 58 [(.t .d0 .d0), (.c (.str 1 37))]))])
  (.cond (.t .d1 .d0) (.reg 36 [.p (.H (.call 214 [(.t .d0 .d0), (.t .d0 .d1)])),
    .s .d0 .d1 (.H (.call 191 [(.l 0), (.t .d0 .d5), (.c (.int .i64 9)), (.t .d0 .d6)]))]) (.seq (.reg 2 [.s .d0 .d2 (.L (.mov (.t .d0 .d1)))])
  .ret)))))))))))))
  (.seq (.reg 2 [.s .d0 .d2 (.L (.mov (.t .d0 .d1)))])
  .ret))))⟩
def i211 : Fun :=
  ⟨1, [0, 2], [.tmp .d0 .d1], (.seq (.reg 1 [.s .d0 .d1 (.L (.mov (.c (.bool false))))])
  (.seq (.reg 4 [.s .d0 .d1 (.L (.bins .neq (.t .d0 .d0) (.t .d0 .d0)))])
  .ret))⟩
def i214 : Fun :=
  ⟨2, [0, 1, 4, 13, 25, 5, 34, 6, 59, 77, 97, 7, 8], [.tmp .d0 .d2], (.seq (.reg 1 [.s .d0 .d2 (.L (.mov (.c (.slN))))])
  (.seq (.seq (.reg 30 [.p (.L (.nilck (.t .d0 .d0))),
    .p (.L (.faddr 3 (.l 0))),
    .p (.L (.load (.l 0))),
    .s .d0 .d3 (.L (.bin .neq (.l 0) (.c (.int .i64 0))))])
  (.cond (.t .d0 .d3) (.seq (.reg 2 [.s .d0 .d2 (.L (.mov (.t .d0 .d1)))])
  .ret) .skip))
  (.seq (.draw [0, 1, 2, 3, 4, 5, 6, 7, 8, 9, 10, 11] [⟨.p (.L (.mov (.t .d0 .d0))), []⟩,
    ⟨.p (.L (.nilck (.l 0))), []⟩,
    ⟨.p (.L (.faddr 0 (.l 0))), []⟩,
    ⟨.p (.L (.load (.l 0))), []⟩,
    ⟨.p (.L (.mov (.t .d0 .d0))), []⟩,
    ⟨.p (.L (.nilck (.l 0))), []⟩,
    ⟨.p (.L (.faddr 1 (.l 0))), []⟩,
    ⟨.p (.L (.load (.l 0))), []⟩,
    ⟨.p (.L (.iaddr 3 (.l 4) (.l 0))), []⟩,
    ⟨.p (.L (.loadn 3 (.l 0))), []⟩,
    ⟨.s .d0 .d5 (.L (.alloc [.int .i64 0, .str 0 0, .int .i64 0])), []⟩,
    ⟨.p (.H (.store 3 (.l 0) (.l 1))), []⟩])
  (.seq (.block 0 (.seq (.reg 58 [.p (.H (.call 102 [(.t .d0 .d0), (.c (.str 1 45))])),
    .g (.l 0) false (.L (.mov (.t .d0 .d0))),
    .g (.l 1) false (.H (.call 102 [(.l 0), (.c (.str 1 33))])),
    .s .d0 .d4 (.L (.pick (.l 2) (.c (.bool true)) (.l 0)))])
  (.cond (.t .d0 .d4) (.seq (.reg 1 [.s .d0 .d7 (.L (.mov (.c (.int .i64 3))))])
  (.seq (.seq (.reg 7 [.p (.L (.faddr 1 (.t .d0 .d5))),
    .p (.L (.load (.l 0))),
    .s .d0 .d6 (.L (.bins .eql (.l 0) (.c (.str 1 33))))])
  (.cond (.t .d0 .d6) (.reg 1 [.s .d0 .d7 (.L (.mov (.c (.int .i64 4))))]) .skip))
  (.seq (.reg 14 [.p (.L (.faddr 1 (.t .d0 .d5))),
    .p (.L (.load (.l 0))),
    .p (.H (.call 140 [(.t .d0 .d0), (.l 0)]))])
  (.seq (.reg 4 [.s .d0 .d1 (.H (.call 214 [(.t .d0 .d0), (.t .d0 .d1)]))])
  (.seq (.reg 254 [.p (.L (.nilck (.t .d0 .d0))),
    .p (.L (.faddr 2 (.l 0))),
    .p (.L (.load (.l 0))),
    .p (.L (.bin .sub (.l 0) (.c (.int .i64 1)))),
    .p (.L (.nilck (.t .d0 .d0))),
    .p (.L (.faddr 2 (.l 0))),
    .p (.H (.store 1 (.l 0) (.l 2)))])
  (.seq (.reg 1016 [.p (.L (.len false (.t .d0 .d1))),
    .p (.L (.bin .sub (.l 0) (.c (.int .i64 1)))),
    .p (.L (.faddr 2 (.t .d0 .d5))),
    .p (.L (.load (.l 0))),
    .p (.L (.build [.int .i64 0, .int .i64 0, .str 0 0, .str 0 0, .int .i64 0, .int .i64 0, .int .i64 0] [(0, 1, (.t .d0 .d7)), (4, 1, (.l 2)), (5, 1, (.c (.int .i64 (-1)))), (6, 1, (.l 0))])),
    .p (.L (.bsl 7 1 [.int .i64 0, .int .i64 0, .str 0 0, .str 0 0, .int .i64 0, .int .i64 0, .int .i64 0] [(0, 7, (.l 0))])),
    .s .d0 .d2 (.H (.append 7 72 (.t .d0 .d1) (.l 0)))])
  .ret)))))) (.seq (.reg 2 [.s .d1 .d0 (.H (.call 102 [(.t .d0 .d0), (.c (.str 1 40))]))])
  (.cond (.t .d1 .d0) (.seq (.reg 2 [.p (.H (.call 140 [(.t .d0 .d0), (.c (.str 1 40))]))])
  (.seq (.reg 4 [.s .d0 .d1 (.H (.call 174 [(.t .d0 .d0), (.t .d0 .d1)]))])
  (.seq (.reg 2 [.p (.H (.call 55 [(.t .d0 .d0), (.c (.str 1 41))]))])
  (.seq (.reg 254 [.p (.L (.nilck (.t .d0 .d0))),
    .p (.L (.faddr 2 (.l 0))),
    .p (.L (.load (.l 0))),
    .p (.L (.bin .sub (.l 0) (.c (.int .i64 1)))),
    .p (.L (.nilck (.t .d0 .d0))),
    .p (.L (.faddr 2 (.l 0))),
    .p (.H (.store 1 (.l 0) (.l 2)))])
  (.seq (.reg 2 [.s .d0 .d2 (.L (.mov (.t .d0 .d1)))])
  .ret))))) (.seq (.reg 7 [.p (.L (.faddr 0 (.t .d0 .d5))),
    .p (.L (.load (.l 0))),
    .s .d1 .d1 (.L (.bin .eql (.l 0) (.c (.int .i64 2))))])
  (.cond (.t .d1 .d1) (.seq (.reg 254 [.p (.L (.nilck (.t .d0 .d0))),
    .p (.L (.faddr 1 (.l 0))),
    .p (.L (.load (.l 0))),
    .p (.L (.bin .add (.l 0) (.c (.int .i64 1)))),
    .p (.L (.nilck (.t .d0 .d0))),
    .p (.L (.faddr 1 (.l 0))),
    .p (.H (.store 1 (.l 0) (.l 2)))])
  (.seq (.draw [0, 1, 2, 4, 5, 3, 6, 7, 8, 9] [⟨.p (.L (.mov (.t .d0 .d1))), []⟩,
    ⟨.p (.L (.faddr 1 (.t .d0 .d5))), []⟩,
    ⟨.p (.L (.load (.l 0))), []⟩,
    ⟨.p (.L (.faddr 2 (.t .d0 .d5))), []⟩,
    ⟨.p (.L (.load (.l 0))), []⟩,
    ⟨.p (.H (.call 103 [(.l 2)])), [0]⟩,
    ⟨.p (.L (.build [.int .i64 0, .int .i64 0, .str 0 0, .str 0 0, .int .i64 0, .int .i64 0, .int .i64 0] [(0, 1, (.c (.int .i64 1))), (1, 1, (.l 0)), (4, 1, (.c (.int .i64 (-1)))), (5, 1, (.c (.int .i64 (-1)))), (6, 1, (.l 1))])), []⟩,
    ⟨.p (.L (.bsl 7 1 [.int .i64 0, .int .i64 0, .str 0 0, .str 0 0, .int .i64 0, .int .i64 0, .int .i64 0] [(0, 7, (.l 0))])), []⟩,
    ⟨.p (.H (.append 7 72 (.l 7) (.l 0))), []⟩,
    ⟨.s .d0 .d2 (.L (.mov (.l 0))), []⟩])
  .ret)) (.seq (.reg 7 [.p (.L (.faddr 0 (.t .d0 .d5))),
    .p (.L (.load (.l 0))),
    .s .d1 .d2 (.L (.bin .eql (.l 0) (.c (.int .i64 1))))])
  (.cond (.t .d1 .d2) (.seq (.reg 122 [.p (.H (.call 173 [(.t .d0 .d0)])),
    .p (.L (.ext 0 (.l 0))),
    .p (.L (.ext 1 (.l 1))),
    .s .d1 .d3 (.L (.mov (.l 1))),
    .s .d1 .d4 (.L (.mov (.l 1)))])
  (.seq (.reg 248 [.p (.L (.faddr 2 (.t .d0 .d5))),
    .p (.L (.load (.l 0))),
    .p (.L (.build [.int .i64 0, .int .i64 0, .str 0 0, .str 0 0, .int .i64 0, .int .i64 0, .int .i64 0] [(0, 1, (.c (.int .i64 2))), (2, 1, (.t .d1 .d3)), (3, 1, (.t .d1 .d4)), (4, 1, (.c (.int .i64 (-1)))), (5, 1, (.c (.int .i64 (-1)))), (6, 1, (.l 0))])),
    .p (.L (.bsl 7 1 [.int .i64 0, .int .i64 0, .str 0 0, .str 0 0, .int .i64 0, .int .i64 0, .int .i64 0] [(0, 7, (.l 0))])),
    .s .d0 .d2 (.H (.append 7 72 (.t .d0 .d1) (.l 0)))])
  .ret)) .skip)))))))))
  (.seq (.reg 2 [.p (.H (.call 61 [(.t .d0 .d0), (.c (.int .i64 11))]))])
  (.seq (.reg 2 [.s .d0 .d2 (.L (.mov (.t .d0 .d1)))])
  .ret))))))⟩
def n1 {α : Type} : R8 (Option α) := R8.all none
def n2 {α : Type} : R8 (R8 (Option α)) := R8.all n1
def funs : T Fun := ⟨⟨⟨⟨none, none, none, none, none, none, (some i6), none⟩, ⟨none, none, (some i10), none, (some i12), (some i13), none, none⟩, ⟨(some i16), none, none, (some i19), none, (some i21), none, none⟩, ⟨none, (some i25), (some i26), (some i27), (some i28), (some i29), none, (some i31)⟩, ⟨none, (some i33), none, (some i35), none, none, (some i38), (some i39)⟩, ⟨(some i40), none, none, none, none, none, none, none⟩, ⟨none, none, (some i50), none, (some i52), (some i53), (some i54), (some i55)⟩, ⟨(some i56), (some i57), (some i58), (some i59), (some i60), none, (some i62), (some i63)⟩⟩, ⟨⟨(some i64), (some i65), (some i66), (some i67), (some i68), (some i69), (some i70), (some i71)⟩, ⟨(some i72), (some i73), (some i74), (some i75), (some i76), (some i77), (some i78), (some i79)⟩, ⟨(some i80), (some i81), none, none, none, none, (some i86), (some i87)⟩, ⟨(some i88), (some i89), none, (some i91), none, none, none, none⟩, ⟨none, (some i97), none, none, (some i100), none, (some i102), (some i103)⟩, ⟨(some i104), (some i105), (some i106), (some i107), (some i108), (some i109), none, (some i111)⟩, ⟨(some i112), (some i113), (some i114), (some i115), (some i116), (some i117), (some i118), (some i119)⟩, ⟨(some i120), (some i121), (some i122), none, none, none, (some i126), (some i127)⟩⟩, ⟨⟨(some i128), (some i129), none, none, (some i132), (some i133), none, none⟩, ⟨none, none, none, none, (some i140), (some i141), (some i142), (some i143)⟩, ⟨(some i144), (some i145), none, none, none, none, none, none⟩, ⟨none, none, (some i154), none, (some i156), none, none, none⟩, ⟨none, none, none, none, (some i164), (some i165), (some i166), (some i167)⟩, ⟨none, (some i169), none, none, none, (some i173), (some i174), (some i175)⟩, ⟨(some i176), none, none, none, none, none, none, none⟩, ⟨none, none, none, none, none, none, (some i190), none⟩⟩, ⟨⟨(some i192), none, none, none, none, none, (some i198), none⟩, ⟨none, none, none, none, none, none, none, (some i207)⟩, ⟨none, none, none, (some i211), none, none, (some i214), none⟩, n1, n1, n1, n1, n1⟩, n2, n2, n2, n2⟩, none, .mt⟩
/-- without the law of the document's example -/
def funsB : T Fun := ⟨⟨⟨⟨none, none, none, none, none, none, (some i6), none⟩, ⟨none, none, (some i10), none, none, (some i13), none, none⟩, ⟨(some i16), none, none, (some i19), none, (some i21), none, none⟩, ⟨none, (some i25), (some i26), (some i27), (some i28), (some i29), none, (some i31)⟩, ⟨none, (some i33), none, (some i35), none, none, (some i38), (some i39)⟩, ⟨(some i40), none, none, none, none, none, none, none⟩, ⟨none, none, (some i50), none, (some i52), (some i53), (some i54), (some i55)⟩, ⟨(some i56), (some i57), (some i58), (some i59), (some i60), none, (some i62), (some i63)⟩⟩, ⟨⟨(some i64), (some i65), (some i66), (some i67), (some i68), (some i69), (some i70), (some i71)⟩, ⟨(some i72), (some i73), (some i74), (some i75), (some i76), (some i77), (some i78), (some i79)⟩, ⟨(some i80), (some i81), none, none, none, none, (some i86), (some i87)⟩, ⟨(some i88), (some i89), none, (some i91), none, none, none, none⟩, ⟨none, (some i97), none, none, (some i100), none, (some i102), (some i103)⟩, ⟨(some i104), (some i105), (some i106), (some i107), (some i108), (some i109), none, (some i111)⟩, ⟨(some i112), (some i113), (some i114), (some i115), (some i116), (some i117), (some i118), (some i119)⟩, ⟨(some i120), (some i121), (some i122), none, none, none, (some i126), (some i127)⟩⟩, ⟨⟨(some i128), (some i129), none, none, (some i132), (some i133), none, none⟩, ⟨none, none, none, none, (some i140), (some i141), (some i142), (some i143)⟩, ⟨(some i144), (some i145), none, none, none, none, none, none⟩, ⟨none, none, (some i154), none, (some i156), none, none, none⟩, ⟨none, none, none, none, (some i164), (some i165), (some i166), (some i167)⟩, ⟨none, (some i169), none, none, none, (some i173), (some i174), (some i175)⟩, ⟨(some i176), none, none, none, none, none, none, none⟩, ⟨none, none, none, none, none, none, (some i190), none⟩⟩, ⟨⟨(some i192), none, none, none, none, none, (some i198), none⟩, ⟨none, none, none, none, none, none, none, (some i207)⟩, ⟨none, none, none, (some i211), none, none, (some i214), none⟩, n1, n1, n1, n1, n1⟩, n2, n2, n2, n2⟩, none, .mt⟩
def dfuns : T FunD := ⟨⟨n2, n2, n2, n2, n2, n2, n2, n2⟩, none, .mt⟩
end
end Go.Eng.YtfolmdfljpkpeaaGreatDoor
