/- Part of a proof of a law: rules of an evaluator, contracts, plain laws. No condition of its own. -/
import Derived.Test.YtjgmahbgfbkhnaaEngC
set_option linter.unusedVariables false
set_option linter.unusedSimpArgs false
set_option maxRecDepth 100000
namespace Go.Eng.Ytjgmahbgfbkhnaa
open Go.Eng
noncomputable section
def i3:Fun:=
 ⟨1,[0,2,8,3,5,4,6],[.tmp .d0 .d1],(.seq (.reg 1 [.s .d0 .d1 (.L (.mov (.c (.bool false))))])
 (.seq (.seq (.reg 2 [.s .d0 .d2 (.H (.call 10 [(.t .d0 .d0)]))])
 (.cond (.t .d0 .d2) (.seq (.reg 1 [.s .d0 .d1 (.H (.call 11 []))])
 .ret) .skip))
 (.seq (.reg 250 [.p (.H (.call 12 [(.t .d0 .d0)])),
   .p (.L (.ext 0 (.l 0))),
   .p (.L (.ext 1 (.l 1))),
   .s .d0 .d3 (.L (.alloc [.slN, .slN, .slN, .slN, .int .i64 0, .int .i64 0])),
   .p (.H (.store 6 (.l 0) (.l 2))),
   .s .d0 .d5 (.L (.mov (.l 2)))])
 (.seq (.reg 250 [.p (.H (.call 13 [(.t .d0 .d0)])),
   .p (.L (.ext 0 (.l 0))),
   .p (.L (.ext 1 (.l 1))),
   .s .d0 .d4 (.L (.alloc [.slN, .slN, .slN, .slN, .int .i64 0, .int .i64 0])),
   .p (.H (.store 6 (.l 0) (.l 2))),
   .s .d0 .d6 (.L (.mov (.l 2)))])
 (.seq (.reg 3575 [.p (.L (.cO 6 (.t .d0 .d3))),
   .p (.L (.cO 6 (.t .d0 .d4))),
   .p (.H (.call 14 [(.l 1),(.l 0)])),
   .g (.l 0) true (.L (.mov (.t .d0 .d5))),
   .g (.l 1) true (.H (.call 15 [(.l 0)])),
   .g (.l 2) true (.L (.mov (.t .d0 .d6))),
   .g (.l 3) true (.L (.bin .eql (.l 1) (.l 0))),
   .p (.L (.pick (.l 4) (.l 0) (.c (.bool false)))),
   .g (.l 0) true (.H (.call 11 [])),
   .s .d0 .d1 (.L (.pick (.l 1) (.l 0) (.c (.bool false))))])
 .ret)))))⟩
def i4:Fun:=
 ⟨2,[0,1,4,23,5,8,6,9,7,10],[.tmp .d0 .d2],(.seq (.reg 1 [.s .d0 .d2 (.L (.mov (.c (.bool false))))])
 (.seq (.seq (.reg 7926 [.p (.L (.len true (.t .d0 .d0))),
   .p (.L (.bin .gtr (.l 0) (.c (.int .i64 2000)))),
   .g (.l 0) true (.L (.mov (.t .d0 .d0))),
   .g (.l 1) true (.L (.len true (.l 0))),
   .g (.l 2) true (.L (.bin .leq (.l 0) (.c (.int .i64 8192)))),
   .p (.L (.pick (.l 3) (.l 0) (.c (.bool false)))),
   .g (.l 0) false (.L (.mov (.t .d0 .d1))),
   .g (.l 1) false (.L (.len true (.l 0))),
   .g (.l 2) false (.L (.bin .gtr (.l 0) (.c (.int .i64 100)))),
   .s .d0 .d3 (.L (.pick (.l 3) (.c (.bool true)) (.l 0)))])
 (.cond (.t .d0 .d3) (.seq (.reg 1 [.s .d0 .d2 (.H (.call 11 []))])
 .ret) .skip))
 (.seq (.reg 1018 [.p (.H (.call 16 [(.t .d0 .d0)])),
   .p (.L (.ext 0 (.l 0))),
   .p (.L (.ext 1 (.l 1))),
   .p (.L (.ext 2 (.l 2))),
   .s .d0 .d4 (.L (.alloc [.slN, .slN, .slN, .slN, .int .i64 0, .int .i64 0])),
   .p (.H (.store 6 (.l 0) (.l 3))),
   .s .d0 .d6 (.L (.mov (.l 3))),
   .s .d1 .d0 (.L (.mov (.l 3)))])
 (.seq (.reg 1018 [.p (.H (.call 17 [(.t .d0 .d0)])),
   .p (.L (.ext 0 (.l 0))),
   .p (.L (.ext 1 (.l 1))),
   .p (.L (.ext 2 (.l 2))),
   .s .d0 .d5 (.L (.alloc [.slN, .slN, .slN, .slN, .int .i64 0, .int .i64 0])),
   .p (.H (.store 6 (.l 0) (.l 3))),
   .s .d0 .d7 (.L (.mov (.l 3))),
   .s .d1 .d1 (.L (.mov (.l 3)))])
 (.seq (.draw [0,1,2,3,4,6,5,7,8,9,10,11,12,13,14,15,16,18,19,17,20,21,22,23,24,25,26] [⟨.p (.L (.cO 6 (.t .d0 .d4))),[]⟩,
   ⟨.p (.L (.cO 6 (.t .d0 .d5))),[]⟩,
   ⟨.p (.H (.call 14 [(.l 1),(.l 0)])),[]⟩,
   ⟨.p (.L (.mov (.l 0))),[]⟩,
   ⟨.g (.l 0) true (.L (.mov (.t .d0 .d6))),[]⟩,
   ⟨.g (.l 1) true (.L (.mov (.t .d0 .d7))),[]⟩,
   ⟨.g (.l 2) true (.H (.call 15 [(.l 1)])),[]⟩,
   ⟨.g (.l 3) true (.L (.bin .eql (.l 0) (.l 1))),[]⟩,
   ⟨.p (.L (.pick (.l 4) (.l 0) (.c (.bool false)))),[]⟩,
   ⟨.p (.L (.mov (.l 0))),[]⟩,
   ⟨.g (.l 0) true (.L (.mov (.t .d1 .d0))),[]⟩,
   ⟨.g (.l 1) true (.L (.mov (.t .d1 .d1))),[]⟩,
   ⟨.g (.l 2) true (.L (.bin .eql (.l 1) (.l 0))),[]⟩,
   ⟨.p (.L (.pick (.l 3) (.l 0) (.c (.bool false)))),[]⟩,
   ⟨.p (.L (.mov (.l 0))),[]⟩,
   ⟨.g (.l 0) true (.L (.cO 6 (.t .d0 .d4))),[]⟩,
   ⟨.g (.l 1) true (.L (.mov (.t .d0 .d1))),[]⟩,
   ⟨.g (.l 2) true (.L (.cO 6 (.t .d0 .d5))),[]⟩,
   ⟨.g (.l 3) true (.L (.mov (.t .d0 .d1))),[]⟩,
   ⟨.g (.l 4) true (.H (.call 18 [(.l 3),(.l 2)])),[1]⟩,
   ⟨.g (.l 5) true (.H (.call 19 [(.l 2),(.l 1)])),[]⟩,
   ⟨.g (.l 6) true (.L (.bin .eql (.l 1) (.l 0))),[]⟩,
   ⟨.p (.L (.pick (.l 7) (.l 0) (.c (.bool false)))),[]⟩,
   ⟨.p (.L (.mov (.l 0))),[]⟩,
   ⟨.g (.l 0) true (.H (.call 11 [])),[]⟩,
   ⟨.p (.L (.pick (.l 1) (.l 0) (.c (.bool false)))),[]⟩,
   ⟨.s .d0 .d2 (.L (.mov (.l 0))),[]⟩])
 .ret)))))⟩
def i10:Fun:=
 ⟨1,[0,2,3,11,29],[.tmp .d0 .d1],(.seq (.reg 1 [.s .d0 .d1 (.L (.mov (.c (.bool false))))])
 (.seq (.seq (.reg 1 [.s .d0 .d2 (.L (.mov (.c (.int .i64 0))))])
 (.block 0 (.loop (.seq (.seq (.reg 236 [.p (.L (.len false (.t .d0 .d0))),
   .p (.L (.bin .lss (.t .d0 .d2) (.l 0))),
   .g (.l 0) true (.L (.mov (.t .d0 .d2))),
   .g (.l 1) true (.L (.bin .lss (.l 0) (.c (.int .i64 200)))),
   .s .d0 .d3 (.L (.pick (.l 2) (.l 0) (.c (.bool false))))])
 (.cond (.t .d0 .d3) .skip (.exit 0)))
 (.seq (.block 1 (.seq (.reg 65404 [.p (.L (.aC 3 (.t .d0 .d0) (.t .d0 .d2))),
   .p (.L (.aA 0 (.l 0))),
   .p (.L (.load (.l 0))),
   .p (.L (.len true (.l 0))),
   .p (.L (.bin .gtr (.l 0) (.c (.int .i64 100)))),
   .g (.l 0) false (.L (.mov (.t .d0 .d0))),
   .g (.l 1) false (.L (.mov (.t .d0 .d2))),
   .g (.l 2) false (.L (.aC 3 (.l 1) (.l 0))),
   .g (.l 3) false (.L (.aA 1 (.l 0))),
   .g (.l 4) false (.L (.load (.l 0))),
   .g (.l 5) false (.L (.len true (.l 0))),
   .g (.l 6) false (.L (.bin .gtr (.l 0) (.c (.int .i64 100)))),
   .s .d0 .d4 (.L (.pick (.l 7) (.c (.bool true)) (.l 0)))])
 (.cond (.t .d0 .d4) (.seq (.reg 1 [.s .d0 .d1 (.L (.mov (.c (.bool true))))])
 .ret) .skip)))
 (.reg 2 [.s .d0 .d2 (.L (.bin .add (.t .d0 .d2) (.c (.int .i64 1))))]))))))
 (.seq (.reg 6 [.p (.L (.len false (.t .d0 .d0))),
   .s .d0 .d1 (.L (.bin .gtr (.l 0) (.c (.int .i64 150))))])
 .ret)))⟩
def i11:Fun:=
 ⟨0,[0,1,2,4,5],[.tmp .d0 .d0],(.seq (.reg 1 [.s .d0 .d0 (.L (.mov (.c (.bool false))))])
 (.seq (.reg 253 [.p (.H (.call 16 [(.c (.str 18 5175151693920292653173273800325353307267436))])),
   .p (.L (.ext 0 (.l 0))),
   .p (.L (.ext 1 (.l 1))),
   .p (.L (.ext 2 (.l 2))),
   .s .d0 .d1 (.L (.alloc [.slN, .slN, .slN, .slN, .int .i64 0, .int .i64 0])),
   .p (.H (.store 6 (.l 0) (.l 3))),
   .s .d0 .d2 (.L (.mov (.l 3)))])
 (.seq (.draw [0,2,1,3,4,5] [⟨.p (.L (.cO 6 (.t .d0 .d1))),[]⟩,
   ⟨.p (.L (.cO 6 (.t .d0 .d1))),[]⟩,
   ⟨.p (.H (.call 18 [(.l 1),(.c (.str 3 7827308))])),[0]⟩,
   ⟨.p (.H (.call 18 [(.l 1),(.c (.str 4 1751607656))])),[]⟩,
   ⟨.s .d0 .d3 (.L (.mov (.l 1))),[]⟩,
   ⟨.s .d0 .d4 (.L (.mov (.l 1))),[]⟩])
 (.seq (.reg 138504096833014 [.p (.H (.call 15 [(.t .d0 .d2)])),
   .p (.L (.bin .eql (.l 0) (.c (.int .i64 0)))),
   .g (.l 0) true (.L (.aA 0 (.t .d0 .d1))),
   .g (.l 1) true (.L (.load (.l 0))),
   .g (.l 2) true (.L (.len false (.l 0))),
   .g (.l 3) true (.L (.bin .eql (.l 0) (.c (.int .i64 2)))),
   .p (.L (.pick (.l 4) (.l 0) (.c (.bool false)))),
   .g (.l 0) true (.L (.mov (.t .d0 .d3))),
   .g (.l 1) true (.L (.bin .geq (.l 0) (.c (.int .i64 0)))),
   .p (.L (.pick (.l 2) (.l 0) (.c (.bool false)))),
   .g (.l 0) true (.L (.mov (.t .d0 .d4))),
   .g (.l 1) true (.L (.bin .geq (.l 0) (.c (.int .i64 0)))),
   .p (.L (.pick (.l 2) (.l 0) (.c (.bool false)))),
   .g (.l 0) true (.L (.aA 2 (.t .d0 .d1))),
   .g (.l 1) true (.L (.load (.l 0))),
   .g (.l 2) true (.L (.len false (.l 0))),
   .g (.l 3) true (.L (.bin .eql (.l 0) (.c (.int .i64 2)))),
   .p (.L (.pick (.l 4) (.l 0) (.c (.bool false)))),
   .g (.l 0) true (.L (.aA 2 (.t .d0 .d1))),
   .g (.l 1) true (.L (.load (.l 0))),
   .g (.l 2) true (.L (.mov (.t .d0 .d3))),
   .g (.l 3) true (.L (.aC 1 (.l 1) (.l 0))),
   .g (.l 4) true (.L (.load (.l 0))),
   .g (.l 5) true (.L (.mov (.t .d0 .d4))),
   .g (.l 6) true (.L (.aC 1 (.l 1) (.l 0))),
   .g (.l 7) true (.L (.load (.l 0))),
   .g (.l 8) true (.L (.mov (.t .d0 .d4))),
   .g (.l 9) true (.L (.bin .eql (.l 1) (.l 0))),
   .p (.L (.pick (.l 10) (.l 0) (.c (.bool false)))),
   .g (.l 0) true (.L (.aA 4 (.t .d0 .d1))),
   .g (.l 1) true (.L (.load (.l 0))),
   .g (.l 2) true (.L (.mov (.t .d0 .d3))),
   .g (.l 3) true (.L (.bin .eql (.l 1) (.l 0))),
   .p (.L (.pick (.l 4) (.l 0) (.c (.bool false)))),
   .g (.l 0) true (.L (.aA 5 (.t .d0 .d1))),
   .g (.l 1) true (.L (.load (.l 0))),
   .g (.l 2) true (.L (.mov (.t .d0 .d4))),
   .g (.l 3) true (.L (.bin .eql (.l 1) (.l 0))),
   .s .d0 .d0 (.L (.pick (.l 4) (.l 0) (.c (.bool false))))])
 .ret))))⟩
def i12:Fun:=
 ⟨1,[0,2,3,14,13,15,12,6,4,25,36,41,55,54,56,7,8,76,75,77,74,10,82,11,106],[.cell .d0 .d1 (some 6), .tmp .d0 .d2],(.seq (.reg 3 [.s .d0 .d1 (.L (.alloc [.slN, .slN, .slN, .slN, .int .i64 0, .int .i64 0])),
   .s .d0 .d2 (.L (.mov (.c (.int .i64 0))))])
 (.seq (.reg 1 [.s .d1 .d0 (.L (.mov (.c (.slN))))])
 (.seq (.seq (.reg 7 [.s .d0 .d6 (.L (.mov (.t .d0 .d0))),
   .s .d0 .d4 (.L (.len false (.l 0))),
   .s .d0 .d3 (.L (.mov (.c (.int .i64 0))))])
 (.block 0 (.loop (.seq (.reg 1 [.s .d0 .d5 (.L (.bin .lss (.t .d0 .d3) (.t .d0 .d4)))])
 (.seq (.cond (.t .d0 .d5) .skip (.exit 0))
 (.seq (.block 1 (.seq (.reg 15 [.p (.L (.aC 3 (.t .d0 .d6) (.t .d0 .d3))),
   .p (.L (.cO 3 (.l 0))),
   .s .d0 .d7 (.L (.alloc [.str 0 0, .str 0 0, .int .i64 0])),
   .p (.H (.store 3 (.l 0) (.l 1)))])
 (.seq (.reg 30 [.p (.L (.aA 0 (.t .d0 .d7))),
   .p (.L (.load (.l 0))),
   .p (.L (.bsl 1 1 [.str 0 0] [(0,1,(.l 0))])),
   .s .d1 .d0 (.H (.append 1 16 (.t .d1 .d0) (.l 0)))])
 (.seq (.reg 7 [.p (.L (.aA 1 (.t .d0 .d7))),
   .p (.L (.load (.l 0))),
   .s .d1 .d1 (.L (.bins .neq (.l 0) (.c (.str 0 0))))])
 (.cond (.t .d1 .d1) (.reg 30 [.p (.L (.aA 1 (.t .d0 .d7))),
   .p (.L (.load (.l 0))),
   .p (.L (.bsl 1 1 [.str 0 0] [(0,1,(.l 0))])),
   .s .d1 .d0 (.H (.append 1 16 (.t .d1 .d0) (.l 0)))]) .skip)))))
 (.reg 1 [.s .d0 .d3 (.L (.bin .add (.t .d0 .d3) (.c (.int .i64 1))))])))))))
 (.seq (.reg 2 [.p (.H (.call 24 [(.t .d1 .d0)]))])
 (.seq (.reg 2 [.s .d1 .d0 (.H (.call 25 [(.t .d1 .d0)]))])
 (.seq (.block 2 (.seq (.reg 6 [.p (.L (.len false (.t .d1 .d0))),
   .s .d1 .d2 (.L (.bin .eql (.l 0) (.c (.int .i64 0))))])
 (.cond (.t .d1 .d2) (.seq (.reg 7 [.p (.L (.build [.slN, .slN, .slN, .slN, .int .i64 0, .int .i64 0] [])),
   .p (.H (.store 6 (.t .d0 .d1) (.l 0))),
   .s .d0 .d2 (.L (.mov (.c (.int .i64 13))))])
 .ret) (.seq (.reg 6 [.p (.L (.len false (.t .d1 .d0))),
   .s .d1 .d3 (.L (.bin .gtr (.l 0) (.c (.int .i64 12))))])
 (.cond (.t .d1 .d3) (.seq (.reg 7 [.p (.L (.build [.slN, .slN, .slN, .slN, .int .i64 0, .int .i64 0] [])),
   .p (.H (.store 6 (.t .d0 .d1) (.l 0))),
   .s .d0 .d2 (.L (.mov (.c (.int .i64 14))))])
 .ret) .skip)))))
 (.seq (.reg 500 [.p (.L (.len false (.t .d1 .d0))),
   .p (.L (.len false (.t .d1 .d0))),
   .p (.L (.ssl 1 (.t .d1 .d0) none (some (.l 1)) (some (.l 0)))),
   .p (.L (.build [.slN, .slN, .slN, .slN, .int .i64 0, .int .i64 0] [(0,1,(.l 0))])),
   .s .d1 .d7 (.L (.alloc [.slN, .slN, .slN, .slN, .int .i64 0, .int .i64 0])),
   .p (.H (.store 6 (.l 0) (.l 1)))])
 (.seq (.seq (.reg 6 [.s .d1 .d5 (.L (.len false (.t .d1 .d0))),
   .s .d1 .d4 (.L (.mov (.c (.int .i64 0))))])
 (.block 3 (.loop (.seq (.reg 1 [.s .d1 .d6 (.L (.bin .lss (.t .d1 .d4) (.t .d1 .d5)))])
 (.seq (.cond (.t .d1 .d6) .skip (.exit 3))
 (.seq (.block 4 (.seq (.reg 2 [.s .d2 .d0 (.L (.mov (.t .d1 .d4)))])
 (.seq (.draw [0,1,2,3,4,5,6,7,8] [⟨.p (.L (.aA 1 (.t .d1 .d7))),[]⟩,
   ⟨.p (.L (.load (.l 0))),[]⟩,
   ⟨.p (.L (.mov (.t .d1 .d0))),[]⟩,
   ⟨.p (.L (.len false (.l 0))),[]⟩,
   ⟨.p (.L (.nI 1 [.bool false] 1 (.l 0) (.l 0))),[]⟩,
   ⟨.p (.L (.bsl 1 1 [.slN] [(0,1,(.l 0))])),[]⟩,
   ⟨.p (.H (.append 1 24 (.l 4) (.l 0))),[]⟩,
   ⟨.p (.L (.aA 1 (.t .d1 .d7))),[]⟩,
   ⟨.p (.H (.store 1 (.l 0) (.l 1))),[]⟩])
 (.reg 219 [.p (.L (.aA 1 (.t .d1 .d7))),
   .p (.L (.load (.l 0))),
   .p (.L (.aC 1 (.l 0) (.t .d2 .d0))),
   .p (.L (.load (.l 0))),
   .p (.L (.aC 1 (.l 0) (.t .d2 .d0))),
   .p (.H (.store 1 (.l 0) (.c (.bool true))))]))))
 (.reg 1 [.s .d1 .d4 (.L (.bin .add (.t .d1 .d4) (.c (.int .i64 1))))])))))))
 (.seq (.seq (.reg 7 [.s .d2 .d4 (.L (.mov (.t .d0 .d0))),
   .s .d2 .d2 (.L (.len false (.l 0))),
   .s .d2 .d1 (.L (.mov (.c (.int .i64 0))))])
 (.block 5 (.loop (.seq (.reg 1 [.s .d2 .d3 (.L (.bin .lss (.t .d2 .d1) (.t .d2 .d2)))])
 (.seq (.cond (.t .d2 .d3) .skip (.exit 5))
 (.seq (.block 6 (.seq (.reg 15 [.p (.L (.aC 3 (.t .d2 .d4) (.t .d2 .d1))),
   .p (.L (.cO 3 (.l 0))),
   .s .d2 .d5 (.L (.alloc [.str 0 0, .str 0 0, .int .i64 0])),
   .p (.H (.store 3 (.l 0) (.l 1)))])
 (.seq (.reg 7 [.p (.L (.aA 1 (.t .d2 .d5))),
   .p (.L (.load (.l 0))),
   .s .d2 .d6 (.L (.bins .neq (.l 0) (.c (.str 0 0))))])
 (.cond (.t .d2 .d6) (.draw [0,1,2,3,4,8,9,10,5,6,7,11,12,13] [⟨.p (.L (.aA 1 (.t .d1 .d7))),[]⟩,
   ⟨.p (.L (.load (.l 0))),[]⟩,
   ⟨.p (.L (.cO 6 (.t .d1 .d7))),[]⟩,
   ⟨.p (.L (.aA 0 (.t .d2 .d5))),[]⟩,
   ⟨.p (.L (.load (.l 0))),[]⟩,
   ⟨.p (.L (.cO 6 (.t .d1 .d7))),[]⟩,
   ⟨.p (.L (.aA 1 (.t .d2 .d5))),[]⟩,
   ⟨.p (.L (.load (.l 0))),[]⟩,
   ⟨.p (.H (.call 18 [(.l 5),(.l 3)])),[6,2,0]⟩,
   ⟨.p (.L (.aC 1 (.l 7) (.l 0))),[]⟩,
   ⟨.p (.L (.load (.l 0))),[]⟩,
   ⟨.p (.H (.call 18 [(.l 5),(.l 3)])),[9,0]⟩,
   ⟨.p (.L (.aC 1 (.l 1) (.l 0))),[]⟩,
   ⟨.p (.H (.store 1 (.l 0) (.c (.bool true)))),[]⟩]) .skip))))
 (.reg 1 [.s .d2 .d1 (.L (.bin .add (.t .d2 .d1) (.c (.int .i64 1))))])))))))
 (.seq (.reg 7 [.p (.L (.aA 1 (.t .d1 .d7))),
   .p (.L (.load (.l 0))),
   .p (.H (.call 26 [(.l 0)]))])
 (.seq (.reg 123 [.p (.L (.cO 6 (.t .d1 .d7))),
   .p (.H (.call 27 [(.l 0)])),
   .p (.L (.ext 0 (.l 0))),
   .p (.L (.ext 1 (.l 1))),
   .p (.H (.store 6 (.t .d1 .d7) (.l 1))),
   .s .d2 .d7 (.L (.mov (.l 1)))])
 (.seq (.seq (.reg 2 [.s .d3 .d0 (.L (.not (.t .d2 .d7)))])
 (.cond (.t .d3 .d0) (.seq (.reg 7 [.p (.L (.build [.slN, .slN, .slN, .slN, .int .i64 0, .int .i64 0] [])),
   .p (.H (.store 6 (.t .d0 .d1) (.l 0))),
   .s .d0 .d2 (.L (.mov (.c (.int .i64 13))))])
 .ret) .skip))
 (.seq (.reg 7 [.p (.L (.cO 6 (.t .d1 .d7))),
   .p (.H (.store 6 (.t .d0 .d1) (.l 0))),
   .s .d0 .d2 (.L (.mov (.c (.int .i64 0))))])
 .ret)))))))))))))⟩
def i13:Fun:=
 ⟨1,[0,2,3,5,19,4,34,44,6,48,51,8,55,9,7,10,70,78,11,99,12,104,13,109,15,150,14],[.cell .d0 .d1 (some 6), .tmp .d0 .d2],(.seq (.reg 3 [.s .d0 .d1 (.L (.alloc [.slN, .slN, .slN, .slN, .int .i64 0, .int .i64 0])),
   .s .d0 .d2 (.L (.mov (.c (.int .i64 0))))])
 (.seq (.reg 1 [.s .d0 .d5 (.L (.mov (.c (.slN))))])
 (.seq (.seq (.reg 1 [.s .d0 .d3 (.L (.mov (.c (.int .i64 0))))])
 (.block 0 (.loop (.seq (.seq (.reg 12 [.p (.L (.len false (.t .d0 .d0))),
   .s .d0 .d4 (.L (.bin .lss (.t .d0 .d3) (.l 0)))])
 (.cond (.t .d0 .d4) .skip (.exit 0)))
 (.seq (.block 1 (.seq (.reg 120 [.p (.L (.aC 3 (.t .d0 .d0) (.t .d0 .d3))),
   .p (.L (.aA 0 (.l 0))),
   .p (.L (.load (.l 0))),
   .s .d0 .d5 (.H (.call 28 [(.t .d0 .d5),(.l 0)]))])
 (.seq (.seq (.reg 60 [.p (.L (.aC 3 (.t .d0 .d0) (.t .d0 .d3))),
   .p (.L (.aA 1 (.l 0))),
   .p (.L (.load (.l 0))),
   .s .d0 .d6 (.L (.bins .neq (.l 0) (.c (.str 0 0))))])
 (.cond (.t .d0 .d6) (.reg 120 [.p (.L (.aC 3 (.t .d0 .d0) (.t .d0 .d3))),
   .p (.L (.aA 1 (.l 0))),
   .p (.L (.load (.l 0))),
   .s .d0 .d5 (.H (.call 28 [(.t .d0 .d5),(.l 0)]))]) .skip))
 (.seq (.reg 6 [.p (.L (.len false (.t .d0 .d5))),
   .s .d0 .d7 (.L (.bin .gtr (.l 0) (.c (.int .i64 13))))])
 (.cond (.t .d0 .d7) (.exit 0) .skip)))))
 (.reg 2 [.s .d0 .d3 (.L (.bin .add (.t .d0 .d3) (.c (.int .i64 1))))]))))))
 (.seq (.reg 2 [.s .d1 .d0 (.L (.len false (.t .d0 .d5)))])
 (.seq (.seq (.reg 2 [.s .d1 .d1 (.L (.bin .eql (.t .d1 .d0) (.c (.int .i64 0))))])
 (.cond (.t .d1 .d1) (.seq (.reg 7 [.p (.L (.build [.slN, .slN, .slN, .slN, .int .i64 0, .int .i64 0] [])),
   .p (.H (.store 6 (.t .d0 .d1) (.l 0))),
   .s .d0 .d2 (.L (.mov (.c (.int .i64 13))))])
 .ret) .skip))
 (.seq (.seq (.reg 2 [.s .d1 .d2 (.L (.bin .gtr (.t .d1 .d0) (.c (.int .i64 12))))])
 (.cond (.t .d1 .d2) (.seq (.reg 7 [.p (.L (.build [.slN, .slN, .slN, .slN, .int .i64 0, .int .i64 0] [])),
   .p (.H (.store 6 (.t .d0 .d1) (.l 0))),
   .s .d0 .d2 (.L (.mov (.c (.int .i64 14))))])
 .ret) .skip))
 (.seq (.reg 1 [.s .d1 .d6 (.L (.mov (.c (.slN))))])
 (.seq (.seq (.reg 1 [.s .d1 .d3 (.L (.mov (.c (.int .i64 0))))])
 (.block 2 (.loop (.seq (.seq (.reg 4 [.s .d1 .d4 (.L (.bin .lss (.t .d1 .d3) (.t .d1 .d0)))])
 (.cond (.t .d1 .d4) .skip (.exit 2)))
 (.seq (.block 3 (.seq (.reg 2 [.s .d1 .d5 (.L (.nI 1 [.bool false] 1 (.t .d1 .d0) (.t .d1 .d0)))])
 (.seq (.reg 12 [.p (.L (.aC 1 (.t .d1 .d5) (.t .d1 .d3))),
   .p (.H (.store 1 (.l 0) (.c (.bool true))))])
 (.reg 12 [.p (.L (.bsl 1 1 [.slN] [(0,1,(.t .d1 .d5))])),
   .s .d1 .d6 (.H (.append 1 24 (.t .d1 .d6) (.l 0)))]))))
 (.reg 2 [.s .d1 .d3 (.L (.bin .add (.t .d1 .d3) (.c (.int .i64 1))))]))))))
 (.seq (.seq (.reg 1 [.s .d1 .d7 (.L (.mov (.c (.int .i64 0))))])
 (.block 4 (.loop (.seq (.seq (.reg 12 [.p (.L (.len false (.t .d0 .d0))),
   .s .d2 .d0 (.L (.bin .lss (.t .d1 .d7) (.l 0)))])
 (.cond (.t .d2 .d0) .skip (.exit 4)))
 (.seq (.block 5 (.seq (.reg 60 [.p (.L (.aC 3 (.t .d0 .d0) (.t .d1 .d7))),
   .p (.L (.aA 1 (.l 0))),
   .p (.L (.load (.l 0))),
   .s .d2 .d1 (.L (.bins .neq (.l 0) (.c (.str 0 0))))])
 (.cond (.t .d2 .d1) (.draw [0,1,2,3,4,5,6,10,11,12,13,14,15,7,8,9,16,17,18] [⟨.p (.L (.mov (.t .d1 .d6))),[]⟩,
   ⟨.p (.L (.mov (.t .d0 .d5))),[]⟩,
   ⟨.p (.L (.mov (.t .d0 .d0))),[]⟩,
   ⟨.p (.L (.mov (.t .d1 .d7))),[]⟩,
   ⟨.p (.L (.aC 3 (.l 1) (.l 0))),[]⟩,
   ⟨.p (.L (.aA 0 (.l 0))),[]⟩,
   ⟨.p (.L (.load (.l 0))),[]⟩,
   ⟨.p (.L (.mov (.t .d0 .d5))),[]⟩,
   ⟨.p (.L (.mov (.t .d0 .d0))),[]⟩,
   ⟨.p (.L (.mov (.t .d1 .d7))),[]⟩,
   ⟨.p (.L (.aC 3 (.l 1) (.l 0))),[]⟩,
   ⟨.p (.L (.aA 1 (.l 0))),[]⟩,
   ⟨.p (.L (.load (.l 0))),[]⟩,
   ⟨.p (.H (.call 29 [(.l 11),(.l 6)])),[0]⟩,
   ⟨.p (.L (.aC 1 (.l 13) (.l 0))),[]⟩,
   ⟨.p (.L (.load (.l 0))),[]⟩,
   ⟨.p (.H (.call 29 [(.l 8),(.l 3)])),[0]⟩,
   ⟨.p (.L (.aC 1 (.l 1) (.l 0))),[]⟩,
   ⟨.p (.H (.store 1 (.l 0) (.c (.bool true)))),[]⟩]) .skip)))
 (.reg 2 [.s .d1 .d7 (.L (.bin .add (.t .d1 .d7) (.c (.int .i64 1))))]))))))
 (.seq (.seq (.reg 1 [.s .d2 .d2 (.L (.mov (.c (.int .i64 0))))])
 (.block 6 (.loop (.seq (.seq (.reg 4 [.s .d2 .d3 (.L (.bin .lss (.t .d2 .d2) (.t .d1 .d0)))])
 (.cond (.t .d2 .d3) .skip (.exit 6)))
 (.seq (.block 7 (.seq (.reg 1 [.s .d2 .d4 (.L (.mov (.c (.int .i64 0))))])
 (.block 8 (.loop (.seq (.seq (.reg 4 [.s .d2 .d5 (.L (.bin .lss (.t .d2 .d4) (.t .d1 .d0)))])
 (.cond (.t .d2 .d5) .skip (.exit 8)))
 (.seq (.block 9 (.seq (.reg 1 [.s .d2 .d6 (.L (.mov (.c (.int .i64 0))))])
 (.block 10 (.loop (.seq (.seq (.reg 4 [.s .d2 .d7 (.L (.bin .lss (.t .d2 .d6) (.t .d1 .d0)))])
 (.cond (.t .d2 .d7) .skip (.exit 10)))
 (.seq (.block 11 (.draw [0,1,2,3,4,5,6,7,8,9,10,11,12,13,14,15,16,17,18,19,20,21,22,23,24,25,26,27,28,29,30,31] [⟨.p (.L (.mov (.t .d1 .d6))),[]⟩,
   ⟨.p (.L (.mov (.t .d2 .d4))),[]⟩,
   ⟨.p (.L (.aC 1 (.l 1) (.l 0))),[]⟩,
   ⟨.p (.L (.load (.l 0))),[]⟩,
   ⟨.p (.L (.mov (.t .d2 .d6))),[]⟩,
   ⟨.p (.L (.mov (.t .d1 .d6))),[]⟩,
   ⟨.p (.L (.mov (.t .d2 .d4))),[]⟩,
   ⟨.p (.L (.aC 1 (.l 1) (.l 0))),[]⟩,
   ⟨.p (.L (.load (.l 0))),[]⟩,
   ⟨.p (.L (.mov (.t .d2 .d6))),[]⟩,
   ⟨.p (.L (.aC 1 (.l 1) (.l 0))),[]⟩,
   ⟨.p (.L (.load (.l 0))),[]⟩,
   ⟨.p (.L (.mov (.l 0))),[]⟩,
   ⟨.g (.l 0) false (.L (.mov (.t .d1 .d6))),[]⟩,
   ⟨.g (.l 1) false (.L (.mov (.t .d2 .d4))),[]⟩,
   ⟨.g (.l 2) false (.L (.aC 1 (.l 1) (.l 0))),[]⟩,
   ⟨.g (.l 3) false (.L (.load (.l 0))),[]⟩,
   ⟨.g (.l 4) false (.L (.mov (.t .d2 .d2))),[]⟩,
   ⟨.g (.l 5) false (.L (.aC 1 (.l 1) (.l 0))),[]⟩,
   ⟨.g (.l 6) false (.L (.load (.l 0))),[]⟩,
   ⟨.g (.l 7) false (.L (.mov (.l 0))),[]⟩,
   ⟨.g (.l 0) true (.L (.mov (.t .d1 .d6))),[]⟩,
   ⟨.g (.l 1) true (.L (.mov (.t .d2 .d2))),[]⟩,
   ⟨.g (.l 2) true (.L (.aC 1 (.l 1) (.l 0))),[]⟩,
   ⟨.g (.l 3) true (.L (.load (.l 0))),[]⟩,
   ⟨.g (.l 4) true (.L (.mov (.t .d2 .d6))),[]⟩,
   ⟨.g (.l 5) true (.L (.aC 1 (.l 1) (.l 0))),[]⟩,
   ⟨.g (.l 6) true (.L (.load (.l 0))),[]⟩,
   ⟨.g (.l 15) false (.L (.pick (.l 7) (.l 0) (.c (.bool false)))),[]⟩,
   ⟨.p (.L (.pick (.l 16) (.c (.bool true)) (.l 0))),[]⟩,
   ⟨.p (.L (.aC 1 (.l 26) (.l 25))),[]⟩,
   ⟨.p (.H (.store 1 (.l 0) (.l 1))),[]⟩]))
 (.reg 2 [.s .d2 .d6 (.L (.bin .add (.t .d2 .d6) (.c (.int .i64 1))))])))))))
 (.reg 2 [.s .d2 .d4 (.L (.bin .add (.t .d2 .d4) (.c (.int .i64 1))))])))))))
 (.reg 2 [.s .d2 .d2 (.L (.bin .add (.t .d2 .d2) (.c (.int .i64 1))))]))))))
 (.seq (.reg 500 [.p (.H (.call 30 [(.t .d0 .d5),(.t .d1 .d6)])),
   .p (.L (.ext 0 (.l 0))),
   .p (.L (.ext 1 (.l 1))),
   .s .d3 .d2 (.L (.alloc [.slN, .slN, .slN, .slN, .int .i64 0, .int .i64 0])),
   .p (.H (.store 6 (.l 0) (.l 2))),
   .s .d3 .d0 (.L (.mov (.l 2)))])
 (.seq (.seq (.reg 2 [.s .d3 .d1 (.L (.not (.t .d3 .d0)))])
 (.cond (.t .d3 .d1) (.seq (.reg 7 [.p (.L (.build [.slN, .slN, .slN, .slN, .int .i64 0, .int .i64 0] [])),
   .p (.H (.store 6 (.t .d0 .d1) (.l 0))),
   .s .d0 .d2 (.L (.mov (.c (.int .i64 13))))])
 .ret) .skip))
 (.seq (.reg 7 [.p (.L (.cO 6 (.t .d3 .d2))),
   .p (.H (.store 6 (.t .d0 .d1) (.l 0))),
   .s .d0 .d2 (.L (.mov (.c (.int .i64 0))))])
 .ret)))))))))))))⟩
def i14:Fun:=
 ⟨2,[0,1,4,2,3,53,5,58,73,6,81,100],[.tmp .d0 .d2],(.seq (.reg 7 [.s .d0 .d3 (.L (.box 6 (.t .d0 .d0))),
   .s .d0 .d4 (.L (.box 6 (.t .d0 .d1))),
   .s .d0 .d2 (.L (.mov (.c (.bool false))))])
 (.seq (.seq (.reg 140462072520639 [.p (.L (.aA 0 (.t .d0 .d3))),
   .p (.L (.load (.l 0))),
   .p (.L (.aA 0 (.t .d0 .d4))),
   .p (.L (.load (.l 0))),
   .p (.H (.call 31 [(.l 2),(.l 0)])),
   .p (.L (.not (.l 0))),
   .g (.l 0) false (.L (.aA 4 (.t .d0 .d3))),
   .g (.l 1) false (.L (.load (.l 0))),
   .g (.l 2) false (.L (.aA 4 (.t .d0 .d4))),
   .g (.l 3) false (.L (.load (.l 0))),
   .g (.l 4) false (.L (.bin .neq (.l 2) (.l 0))),
   .p (.L (.pick (.l 5) (.c (.bool true)) (.l 0))),
   .g (.l 0) false (.L (.aA 5 (.t .d0 .d3))),
   .g (.l 1) false (.L (.load (.l 0))),
   .g (.l 2) false (.L (.aA 5 (.t .d0 .d4))),
   .g (.l 3) false (.L (.load (.l 0))),
   .g (.l 4) false (.L (.bin .neq (.l 2) (.l 0))),
   .p (.L (.pick (.l 5) (.c (.bool true)) (.l 0))),
   .g (.l 0) false (.L (.aA 1 (.t .d0 .d3))),
   .g (.l 1) false (.L (.load (.l 0))),
   .g (.l 2) false (.L (.len false (.l 0))),
   .g (.l 3) false (.L (.aA 1 (.t .d0 .d4))),
   .g (.l 4) false (.L (.load (.l 0))),
   .g (.l 5) false (.L (.len false (.l 0))),
   .g (.l 6) false (.L (.bin .neq (.l 3) (.l 0))),
   .p (.L (.pick (.l 7) (.c (.bool true)) (.l 0))),
   .g (.l 0) false (.L (.aA 2 (.t .d0 .d3))),
   .g (.l 1) false (.L (.load (.l 0))),
   .g (.l 2) false (.L (.len false (.l 0))),
   .g (.l 3) false (.L (.aA 2 (.t .d0 .d4))),
   .g (.l 4) false (.L (.load (.l 0))),
   .g (.l 5) false (.L (.len false (.l 0))),
   .g (.l 6) false (.L (.bin .neq (.l 3) (.l 0))),
   .p (.L (.pick (.l 7) (.c (.bool true)) (.l 0))),
   .g (.l 0) false (.L (.aA 3 (.t .d0 .d3))),
   .g (.l 1) false (.L (.load (.l 0))),
   .g (.l 2) false (.L (.len false (.l 0))),
   .g (.l 3) false (.L (.aA 3 (.t .d0 .d4))),
   .g (.l 4) false (.L (.load (.l 0))),
   .g (.l 5) false (.L (.len false (.l 0))),
   .g (.l 6) false (.L (.bin .neq (.l 3) (.l 0))),
   .s .d0 .d5 (.L (.pick (.l 7) (.c (.bool true)) (.l 0)))])
 (.cond (.t .d0 .d5) (.seq (.reg 1 [.s .d0 .d2 (.L (.mov (.c (.bool false))))])
 .ret) .skip))
 (.seq (.seq (.reg 1 [.s .d0 .d6 (.L (.mov (.c (.int .i64 0))))])
 (.block 0 (.loop (.seq (.seq (.reg 30 [.p (.L (.aA 1 (.t .d0 .d3))),
   .p (.L (.load (.l 0))),
   .p (.L (.len false (.l 0))),
   .s .d0 .d7 (.L (.bin .lss (.t .d0 .d6) (.l 0)))])
 (.cond (.t .d0 .d7) .skip (.exit 0)))
 (.seq (.block 1 (.seq (.seq (.draw [0,1,2,3,4,5,6,7,8,9,10,11,12] [⟨.p (.L (.aA 1 (.t .d0 .d3))),[]⟩,
   ⟨.p (.L (.load (.l 0))),[]⟩,
   ⟨.p (.L (.mov (.t .d0 .d6))),[]⟩,
   ⟨.p (.L (.aC 1 (.l 1) (.l 0))),[]⟩,
   ⟨.p (.L (.load (.l 0))),[]⟩,
   ⟨.p (.L (.len false (.l 0))),[]⟩,
   ⟨.p (.L (.aA 1 (.t .d0 .d4))),[]⟩,
   ⟨.p (.L (.load (.l 0))),[]⟩,
   ⟨.p (.L (.mov (.t .d0 .d6))),[]⟩,
   ⟨.p (.L (.aC 1 (.l 1) (.l 0))),[]⟩,
   ⟨.p (.L (.load (.l 0))),[]⟩,
   ⟨.p (.L (.len false (.l 0))),[]⟩,
   ⟨.s .d1 .d0 (.L (.bin .neq (.l 6) (.l 0))),[]⟩])
 (.cond (.t .d1 .d0) (.seq (.reg 1 [.s .d0 .d2 (.L (.mov (.c (.bool false))))])
 .ret) .skip))
 (.seq (.reg 1 [.s .d1 .d1 (.L (.mov (.c (.int .i64 0))))])
 (.block 2 (.loop (.seq (.seq (.reg 246 [.p (.L (.aA 1 (.t .d0 .d3))),
   .p (.L (.load (.l 0))),
   .p (.L (.aC 1 (.l 0) (.t .d0 .d6))),
   .p (.L (.load (.l 0))),
   .p (.L (.len false (.l 0))),
   .s .d1 .d2 (.L (.bin .lss (.t .d1 .d1) (.l 0)))])
 (.cond (.t .d1 .d2) .skip (.exit 2)))
 (.seq (.block 3 (.seq (.draw [0,1,2,3,4,5,6,7,8,9,10,11,12,13,14,15,16] [⟨.p (.L (.aA 1 (.t .d0 .d3))),[]⟩,
   ⟨.p (.L (.load (.l 0))),[]⟩,
   ⟨.p (.L (.mov (.t .d0 .d6))),[]⟩,
   ⟨.p (.L (.aC 1 (.l 1) (.l 0))),[]⟩,
   ⟨.p (.L (.load (.l 0))),[]⟩,
   ⟨.p (.L (.mov (.t .d1 .d1))),[]⟩,
   ⟨.p (.L (.aC 1 (.l 1) (.l 0))),[]⟩,
   ⟨.p (.L (.load (.l 0))),[]⟩,
   ⟨.p (.L (.aA 1 (.t .d0 .d4))),[]⟩,
   ⟨.p (.L (.load (.l 0))),[]⟩,
   ⟨.p (.L (.mov (.t .d0 .d6))),[]⟩,
   ⟨.p (.L (.aC 1 (.l 1) (.l 0))),[]⟩,
   ⟨.p (.L (.load (.l 0))),[]⟩,
   ⟨.p (.L (.mov (.t .d1 .d1))),[]⟩,
   ⟨.p (.L (.aC 1 (.l 1) (.l 0))),[]⟩,
   ⟨.p (.L (.load (.l 0))),[]⟩,
   ⟨.s .d1 .d3 (.L (.eq true .bool (.l 8) (.l 0))),[]⟩])
 (.cond (.t .d1 .d3) (.seq (.reg 1 [.s .d0 .d2 (.L (.mov (.c (.bool false))))])
 .ret) .skip)))
 (.reg 2 [.s .d1 .d1 (.L (.bin .add (.t .d1 .d1) (.c (.int .i64 1))))]))))))))
 (.reg 2 [.s .d0 .d6 (.L (.bin .add (.t .d0 .d6) (.c (.int .i64 1))))]))))))
 (.seq (.reg 4063 [.p (.L (.aA 2 (.t .d0 .d3))),
   .p (.L (.load (.l 0))),
   .p (.L (.aA 2 (.t .d0 .d4))),
   .p (.L (.load (.l 0))),
   .p (.H (.call 32 [(.l 2),(.l 0)])),
   .g (.l 0) true (.L (.aA 3 (.t .d0 .d3))),
   .g (.l 1) true (.L (.load (.l 0))),
   .g (.l 2) true (.L (.aA 3 (.t .d0 .d4))),
   .g (.l 3) true (.L (.load (.l 0))),
   .g (.l 4) true (.H (.call 32 [(.l 2),(.l 0)])),
   .s .d0 .d2 (.L (.pick (.l 5) (.l 0) (.c (.bool false))))])
 .ret))))⟩
def i15:Fun:=
 ⟨1,[0,2],[.tmp .d0 .d1],(.seq (.reg 1 [.s .d0 .d1 (.L (.mov (.c (.int .i64 0))))])
 (.seq (.reg 2 [.s .d0 .d1 (.L (.mov (.t .d0 .d0)))])
 .ret))⟩
def i16:Fun:=
 ⟨1,[0,2,3,4,6,16,7,5,8],[.cell .d0 .d1 (some 6), .tmp .d0 .d2, .tmp .d0 .d3],(.seq (.reg 7 [.s .d0 .d1 (.L (.alloc [.slN, .slN, .slN, .slN, .int .i64 0, .int .i64 0])),
   .s .d0 .d2 (.L (.mov (.c (.int .i64 0)))),
   .s .d0 .d3 (.L (.mov (.c (.int .i64 0))))])
 (.seq (.reg 506 [.p (.H (.call 33 [(.t .d0 .d0)])),
   .p (.L (.ext 0 (.l 0))),
   .p (.L (.ext 1 (.l 1))),
   .p (.L (.ext 2 (.l 2))),
   .s .d0 .d7 (.L (.mov (.l 2))),
   .s .d0 .d4 (.L (.mov (.l 2))),
   .s .d0 .d6 (.L (.mov (.l 2)))])
 (.seq (.seq (.reg 2 [.s .d0 .d5 (.L (.bin .neq (.t .d0 .d4) (.c (.int .i64 0))))])
 (.cond (.t .d0 .d5) (.seq (.reg 57 [.p (.L (.build [.slN, .slN, .slN, .slN, .int .i64 0, .int .i64 0] [])),
   .p (.H (.store 6 (.t .d0 .d1) (.l 0))),
   .s .d0 .d2 (.L (.mov (.t .d0 .d4))),
   .s .d0 .d3 (.L (.mov (.t .d0 .d6)))])
 .ret) .skip))
 (.seq (.reg 250 [.p (.H (.call 12 [(.t .d0 .d7)])),
   .p (.L (.ext 0 (.l 0))),
   .p (.L (.ext 1 (.l 1))),
   .s .d1 .d0 (.L (.alloc [.slN, .slN, .slN, .slN, .int .i64 0, .int .i64 0])),
   .p (.H (.store 6 (.l 0) (.l 2))),
   .s .d0 .d4 (.L (.mov (.l 2)))])
 (.seq (.reg 29 [.p (.L (.cO 6 (.t .d1 .d0))),
   .p (.H (.store 6 (.t .d0 .d1) (.l 0))),
   .s .d0 .d2 (.L (.mov (.t .d0 .d4))),
   .s .d0 .d3 (.L (.mov (.c (.int .i64 0))))])
 .ret)))))⟩
def i17:Fun:=
 ⟨1,[0,2,3,4,6,17,7,5,8,9],[.cell .d0 .d1 (some 6), .tmp .d0 .d2, .tmp .d0 .d3],(.seq (.reg 7 [.s .d0 .d1 (.L (.alloc [.slN, .slN, .slN, .slN, .int .i64 0, .int .i64 0])),
   .s .d0 .d2 (.L (.mov (.c (.int .i64 0)))),
   .s .d0 .d3 (.L (.mov (.c (.int .i64 0))))])
 (.seq (.reg 506 [.p (.H (.call 34 [(.t .d0 .d0)])),
   .p (.L (.ext 0 (.l 0))),
   .p (.L (.ext 1 (.l 1))),
   .p (.L (.ext 2 (.l 2))),
   .s .d0 .d7 (.L (.mov (.l 2))),
   .s .d0 .d4 (.L (.mov (.l 2))),
   .s .d0 .d6 (.L (.mov (.l 2)))])
 (.seq (.seq (.reg 2 [.s .d0 .d5 (.L (.bin .neq (.t .d0 .d4) (.c (.int .i64 0))))])
 (.cond (.t .d0 .d5) (.seq (.reg 57 [.p (.L (.build [.slN, .slN, .slN, .slN, .int .i64 0, .int .i64 0] [])),
   .p (.H (.store 6 (.t .d0 .d1) (.l 0))),
   .s .d0 .d2 (.L (.mov (.t .d0 .d4))),
   .s .d0 .d3 (.L (.mov (.t .d0 .d6)))])
 .ret) .skip))
 (.seq (.reg 250 [.p (.H (.call 13 [(.t .d0 .d7)])),
   .p (.L (.ext 0 (.l 0))),
   .p (.L (.ext 1 (.l 1))),
   .s .d1 .d0 (.L (.alloc [.slN, .slN, .slN, .slN, .int .i64 0, .int .i64 0])),
   .p (.H (.store 6 (.l 0) (.l 2))),
   .s .d1 .d1 (.L (.mov (.l 2)))])
 (.seq (.reg 29 [.p (.L (.cO 6 (.t .d1 .d0))),
   .p (.H (.store 6 (.t .d0 .d1) (.l 0))),
   .s .d0 .d2 (.L (.mov (.t .d1 .d1))),
   .s .d0 .d3 (.L (.mov (.c (.int .i64 0))))])
 .ret)))))⟩
def i18:Fun:=
 ⟨2,[0,1,4,2],[.tmp .d0 .d2],(.seq (.reg 3 [.s .d0 .d3 (.L (.box 6 (.t .d0 .d0))),
   .s .d0 .d2 (.L (.mov (.c (.int .i64 0))))])
 (.seq (.reg 11 [.p (.L (.aA 0 (.t .d0 .d3))),
   .p (.L (.load (.l 0))),
   .s .d0 .d2 (.H (.call 35 [(.l 0),(.t .d0 .d1)]))])
 .ret))⟩
def i19:Fun:=
 ⟨2,[0,1,4,2],[.tmp .d0 .d2],(.seq (.reg 3 [.s .d0 .d3 (.L (.box 6 (.t .d0 .d0))),
   .s .d0 .d2 (.L (.mov (.c (.int .i64 0))))])
 (.seq (.reg 11 [.p (.L (.aA 0 (.t .d0 .d3))),
   .p (.L (.load (.l 0))),
   .s .d0 .d2 (.H (.call 29 [(.l 0),(.t .d0 .d1)]))])
 .ret))⟩
def i20:Fun:=
 ⟨1,[0,2,4,9,3],[.tmp .d0 .d1],(.seq (.reg 1 [.s .d0 .d1 (.L (.mov (.c (.slN))))])
 (.seq (.reg 1 [.s .d0 .d4 (.L (.mov (.c (.slN))))])
 (.seq (.seq (.reg 1 [.s .d0 .d2 (.L (.mov (.c (.int .i64 0))))])
 (.block 0 (.loop (.seq (.seq (.reg 26 [.p (.L (.bin .add (.t .d0 .d2) (.c (.int .i64 1)))),
   .p (.L (.len false (.t .d0 .d0))),
   .s .d0 .d3 (.L (.bin .lss (.l 1) (.l 0)))])
 (.cond (.t .d0 .d3) .skip (.exit 0)))
 (.seq (.block 1 (.draw [0,1,2,3,4,5,6,7,8,9,10,11,12,13,14,15,16,17,18,19,20,21] [⟨.p (.L (.mov (.t .d0 .d4))),[]⟩,
   ⟨.p (.L (.mov (.t .d0 .d0))),[]⟩,
   ⟨.p (.L (.mov (.t .d0 .d2))),[]⟩,
   ⟨.p (.L (.aC 1 (.l 1) (.l 0))),[]⟩,
   ⟨.p (.L (.load (.l 0))),[]⟩,
   ⟨.p (.L (.bin .rem (.l 0) (.c (.int .u8 6)))),[]⟩,
   ⟨.p (.L (.bin .add (.c (.int .u8 97)) (.l 0))),[]⟩,
   ⟨.p (.L (.bsl 1 1 [.int .u8 0] [(0,1,(.l 0))])),[]⟩,
   ⟨.p (.L (.bstr (.l 0))),[]⟩,
   ⟨.p (.L (.mov (.t .d0 .d0))),[]⟩,
   ⟨.p (.L (.mov (.t .d0 .d2))),[]⟩,
   ⟨.p (.L (.bin .add (.l 0) (.c (.int .i64 1)))),[]⟩,
   ⟨.p (.L (.aC 1 (.l 2) (.l 0))),[]⟩,
   ⟨.p (.L (.load (.l 0))),[]⟩,
   ⟨.p (.L (.bin .rem (.l 0) (.c (.int .u8 6)))),[]⟩,
   ⟨.p (.L (.bin .add (.c (.int .u8 97)) (.l 0))),[]⟩,
   ⟨.p (.L (.bsl 1 1 [.int .u8 0] [(0,1,(.l 0))])),[]⟩,
   ⟨.p (.L (.bstr (.l 0))),[]⟩,
   ⟨.p (.L (.build [.str 0 0, .str 0 0, .int .i64 0] [(0,1,(.l 9)),(1,1,(.l 0))])),[]⟩,
   ⟨.p (.L (.bsl 3 1 [.str 0 0, .str 0 0, .int .i64 0] [(0,3,(.l 0))])),[]⟩,
   ⟨.p (.H (.append 3 40 (.l 19) (.l 0))),[]⟩,
   ⟨.s .d0 .d4 (.L (.mov (.l 0))),[]⟩]))
 (.reg 2 [.s .d0 .d2 (.L (.bin .add (.t .d0 .d2) (.c (.int .i64 2))))]))))))
 (.seq (.reg 2 [.s .d0 .d1 (.L (.mov (.t .d0 .d4)))])
 .ret))))⟩
def i25:Fun:=
 ⟨1,[0,2,8,3,13,25,4,5,32,44],[.tmp .d0 .d1],(.seq (.reg 1 [.s .d0 .d1 (.L (.mov (.c (.slN))))])
 (.seq (.seq (.reg 6 [.p (.L (.len false (.t .d0 .d0))),
   .s .d0 .d2 (.L (.bin .lss (.l 0) (.c (.int .i64 2))))])
 (.cond (.t .d0 .d2) (.seq (.reg 2 [.s .d0 .d1 (.L (.mov (.t .d0 .d0)))])
 .ret) .skip))
 (.seq (.seq (.reg 1 [.s .d0 .d3 (.L (.mov (.c (.int .i64 1))))])
 (.block 0 (.loop (.seq (.seq (.reg 12 [.p (.L (.len false (.t .d0 .d0))),
   .s .d0 .d4 (.L (.bin .lss (.t .d0 .d3) (.l 0)))])
 (.cond (.t .d0 .d4) .skip (.exit 0)))
 (.seq (.block 1 (.seq (.draw [0,1,2,3,4,5,6,7,8,9] [⟨.p (.L (.mov (.t .d0 .d0))),[]⟩,
   ⟨.p (.L (.mov (.t .d0 .d3))),[]⟩,
   ⟨.p (.L (.aC 1 (.l 1) (.l 0))),[]⟩,
   ⟨.p (.L (.load (.l 0))),[]⟩,
   ⟨.p (.L (.mov (.t .d0 .d0))),[]⟩,
   ⟨.p (.L (.mov (.t .d0 .d3))),[]⟩,
   ⟨.p (.L (.bin .sub (.l 0) (.c (.int .i64 1)))),[]⟩,
   ⟨.p (.L (.aC 1 (.l 2) (.l 0))),[]⟩,
   ⟨.p (.L (.load (.l 0))),[]⟩,
   ⟨.s .d0 .d5 (.L (.bins .eql (.l 5) (.l 0))),[]⟩])
 (.cond (.t .d0 .d5) (.seq (.reg 4 [.s .d0 .d6 (.L (.ssl 1 (.t .d0 .d0) (some (.t .d0 .d3)) none none))])
 (.seq (.seq (.reg 1 [.s .d0 .d7 (.L (.mov (.c (.int .i64 1))))])
 (.block 2 (.loop (.seq (.seq (.reg 12 [.p (.L (.len false (.t .d0 .d6))),
   .s .d1 .d0 (.L (.bin .lss (.t .d0 .d7) (.l 0)))])
 (.cond (.t .d1 .d0) .skip (.exit 2)))
 (.seq (.block 3 (.seq (.draw [0,1,2,3,4,5,6,7,8,9] [⟨.p (.L (.mov (.t .d0 .d6))),[]⟩,
   ⟨.p (.L (.mov (.t .d0 .d7))),[]⟩,
   ⟨.p (.L (.aC 1 (.l 1) (.l 0))),[]⟩,
   ⟨.p (.L (.load (.l 0))),[]⟩,
   ⟨.p (.L (.mov (.t .d0 .d6))),[]⟩,
   ⟨.p (.L (.mov (.t .d0 .d7))),[]⟩,
   ⟨.p (.L (.bin .sub (.l 0) (.c (.int .i64 1)))),[]⟩,
   ⟨.p (.L (.aC 1 (.l 2) (.l 0))),[]⟩,
   ⟨.p (.L (.load (.l 0))),[]⟩,
   ⟨.s .d1 .d1 (.L (.bins .neq (.l 5) (.l 0))),[]⟩])
 (.cond (.t .d1 .d1) (.seq (.reg 240 [.p (.L (.aC 1 (.t .d0 .d6) (.t .d0 .d7))),
   .p (.L (.load (.l 0))),
   .p (.L (.aC 1 (.t .d0 .d0) (.t .d0 .d3))),
   .p (.H (.store 1 (.l 0) (.l 1)))])
 (.reg 2 [.s .d0 .d3 (.L (.bin .add (.t .d0 .d3) (.c (.int .i64 1))))])) .skip)))
 (.reg 2 [.s .d0 .d7 (.L (.bin .add (.t .d0 .d7) (.c (.int .i64 1))))]))))))
 (.seq (.reg 12 [.p (.L (.ssl 1 (.t .d0 .d0) (some (.t .d0 .d3)) none none)),
   .p (.H (.clear [.str 0 0] (.l 0)))])
 (.seq (.reg 4 [.s .d0 .d1 (.L (.ssl 1 (.t .d0 .d0) none (some (.t .d0 .d3)) none))])
 .ret)))) .skip)))
 (.reg 2 [.s .d0 .d3 (.L (.bin .add (.t .d0 .d3) (.c (.int .i64 1))))]))))))
 (.seq (.reg 2 [.s .d0 .d1 (.L (.mov (.t .d0 .d0)))])
 .ret))))⟩
def i26:Fun:=
 ⟨1,[0,7,6,8,12,11,13,3,2,22,25,24,26,4],[],(.seq (.reg 6 [.s .d0 .d2 (.L (.len false (.t .d0 .d0))),
   .s .d0 .d1 (.L (.mov (.c (.int .i64 0))))])
 (.block 0 (.loop (.seq (.reg 1 [.s .d0 .d3 (.L (.bin .lss (.t .d0 .d1) (.t .d0 .d2)))])
 (.seq (.cond (.t .d0 .d3) .skip (.exit 0))
 (.seq (.block 1 (.seq (.reg 2 [.s .d1 .d0 (.L (.mov (.t .d0 .d1)))])
 (.seq .skip
 (.seq (.reg 6 [.s .d0 .d5 (.L (.len false (.t .d0 .d0))),
   .s .d0 .d4 (.L (.mov (.c (.int .i64 0))))])
 (.block 2 (.loop (.seq (.reg 1 [.s .d0 .d6 (.L (.bin .lss (.t .d0 .d4) (.t .d0 .d5)))])
 (.seq (.cond (.t .d0 .d6) .skip (.exit 2))
 (.seq (.block 3 (.seq (.reg 2 [.s .d0 .d7 (.L (.mov (.t .d0 .d4)))])
 (.seq (.seq (.reg 236 [.p (.L (.aC 1 (.t .d0 .d0) (.t .d0 .d7))),
   .p (.L (.load (.l 0))),
   .p (.L (.aC 1 (.l 0) (.t .d1 .d0))),
   .p (.L (.load (.l 0))),
   .s .d1 .d1 (.L (.not (.l 0)))])
 (.cond (.t .d1 .d1) (.exit 3) .skip))
 (.seq (.reg 6 [.s .d1 .d3 (.L (.len false (.t .d0 .d0))),
   .s .d1 .d2 (.L (.mov (.c (.int .i64 0))))])
 (.block 4 (.loop (.seq (.reg 1 [.s .d1 .d4 (.L (.bin .lss (.t .d1 .d2) (.t .d1 .d3)))])
 (.seq (.cond (.t .d1 .d4) .skip (.exit 4))
 (.seq (.block 5 (.seq (.reg 2 [.s .d1 .d5 (.L (.mov (.t .d1 .d2)))])
 (.draw [0,1,2,3,4,5,6,7,8,9,10,11,12,13,14,15,16,17,18,19,20,21,22] [⟨.p (.L (.mov (.t .d0 .d0))),[]⟩,
   ⟨.p (.L (.mov (.t .d0 .d7))),[]⟩,
   ⟨.p (.L (.aC 1 (.l 1) (.l 0))),[]⟩,
   ⟨.p (.L (.load (.l 0))),[]⟩,
   ⟨.p (.L (.mov (.t .d1 .d5))),[]⟩,
   ⟨.p (.L (.mov (.t .d0 .d0))),[]⟩,
   ⟨.p (.L (.mov (.t .d0 .d7))),[]⟩,
   ⟨.p (.L (.aC 1 (.l 1) (.l 0))),[]⟩,
   ⟨.p (.L (.load (.l 0))),[]⟩,
   ⟨.p (.L (.mov (.t .d1 .d5))),[]⟩,
   ⟨.p (.L (.aC 1 (.l 1) (.l 0))),[]⟩,
   ⟨.p (.L (.load (.l 0))),[]⟩,
   ⟨.p (.L (.mov (.l 0))),[]⟩,
   ⟨.g (.l 0) false (.L (.mov (.t .d0 .d0))),[]⟩,
   ⟨.g (.l 1) false (.L (.mov (.t .d1 .d0))),[]⟩,
   ⟨.g (.l 2) false (.L (.aC 1 (.l 1) (.l 0))),[]⟩,
   ⟨.g (.l 3) false (.L (.load (.l 0))),[]⟩,
   ⟨.g (.l 4) false (.L (.mov (.t .d1 .d5))),[]⟩,
   ⟨.g (.l 5) false (.L (.aC 1 (.l 1) (.l 0))),[]⟩,
   ⟨.g (.l 6) false (.L (.load (.l 0))),[]⟩,
   ⟨.p (.L (.pick (.l 7) (.c (.bool true)) (.l 0))),[]⟩,
   ⟨.p (.L (.aC 1 (.l 17) (.l 16))),[]⟩,
   ⟨.p (.H (.store 1 (.l 0) (.l 1))),[]⟩])))
 (.reg 1 [.s .d1 .d2 (.L (.bin .add (.t .d1 .d2) (.c (.int .i64 1))))]))))))))))
 (.reg 1 [.s .d0 .d4 (.L (.bin .add (.t .d0 .d4) (.c (.int .i64 1))))]))))))))))
 (.reg 1 [.s .d0 .d1 (.L (.bin .add (.t .d0 .d1) (.c (.int .i64 1))))])))))))⟩
def i27:Fun:=
 ⟨1,[0,2,3,1,4,27,26,28,31,30,32,7,10,5,48,6,12,14,69,11,8,13,9,15,17,18,16],[.cell .d0 .d1 (some 6), .tmp .d0 .d2],(.seq (.reg 7 [.s .d0 .d3 (.L (.box 6 (.t .d0 .d0))),
   .s .d0 .d1 (.L (.alloc [.slN, .slN, .slN, .slN, .int .i64 0, .int .i64 0])),
   .s .d0 .d2 (.L (.mov (.c (.bool false))))])
 (.seq (.reg 7 [.p (.L (.aA 0 (.t .d0 .d3))),
   .p (.L (.load (.l 0))),
   .s .d0 .d4 (.L (.len false (.l 0)))])
 (.seq (.reg 7 [.p (.L (.fn 46 [] [(.t .d0 .d3)])),
   .s .d1 .d5 (.L (.alloc [.fnN])),
   .p (.H (.store 1 (.l 0) (.l 1)))])
 (.seq (.reg 1 [.s .d1 .d7 (.L (.fn 47 [] [(.t .d0 .d3)]))])
 (.seq (.reg 15 [.p (.L (.aA 2 (.t .d0 .d3))),
   .p (.H (.store 1 (.l 0) (.c (.slN)))),
   .p (.L (.aA 3 (.t .d0 .d3))),
   .p (.H (.store 1 (.l 0) (.c (.slN))))])
 (.seq (.seq (.reg 3 [.s .d0 .d6 (.L (.mov (.t .d0 .d4))),
   .s .d0 .d5 (.L (.mov (.c (.int .i64 0))))])
 (.block 0 (.loop (.seq (.reg 1 [.s .d0 .d7 (.L (.bin .lss (.t .d0 .d5) (.t .d0 .d6)))])
 (.seq (.cond (.t .d0 .d7) .skip (.exit 0))
 (.seq (.block 1 (.seq (.reg 6 [.s .d1 .d3 (.L (.alloc [.int .i64 0])),
   .p (.H (.store 1 (.l 0) (.t .d0 .d5)))])
 (.seq (.reg 3 [.s .d2 .d4 (.L (.mov (.c (.slN)))),
   .s .d2 .d6 (.L (.mov (.c (.slN))))])
 (.seq (.seq (.reg 3 [.s .d1 .d1 (.L (.mov (.t .d0 .d4))),
   .s .d1 .d0 (.L (.mov (.c (.int .i64 0))))])
 (.block 2 (.loop (.seq (.reg 1 [.s .d1 .d2 (.L (.bin .lss (.t .d1 .d0) (.t .d1 .d1)))])
 (.seq (.cond (.t .d1 .d2) .skip (.exit 2))
 (.seq (.block 3 (.seq (.reg 6 [.s .d1 .d4 (.L (.alloc [.int .i64 0])),
   .p (.H (.store 1 (.l 0) (.t .d1 .d0)))])
 (.seq (.seq (.reg 32247 [.p (.L (.load (.t .d1 .d3))),
   .p (.L (.load (.t .d1 .d4))),
   .p (.L (.bin .neq (.l 1) (.l 0))),
   .g (.l 0) true (.L (.load (.t .d1 .d5))),
   .g (.l 1) true (.L (.load (.t .d1 .d3))),
   .g (.l 2) true (.L (.load (.t .d1 .d4))),
   .g (.l 3) true (.H (.dS (.l 2) [(.l 1),(.l 0)])),
   .p (.L (.pick (.l 4) (.l 0) (.c (.bool false)))),
   .g (.l 0) true (.L (.load (.t .d1 .d5))),
   .g (.l 1) true (.L (.load (.t .d1 .d4))),
   .g (.l 2) true (.L (.load (.t .d1 .d3))),
   .g (.l 3) true (.H (.dS (.l 2) [(.l 1),(.l 0)])),
   .s .d1 .d6 (.L (.pick (.l 4) (.l 0) (.c (.bool false))))])
 (.cond (.t .d1 .d6) (.seq (.reg 7 [.p (.L (.build [.slN, .slN, .slN, .slN, .int .i64 0, .int .i64 0] [])),
   .p (.H (.store 6 (.t .d0 .d1) (.l 0))),
   .s .d0 .d2 (.L (.mov (.c (.bool false))))])
 .ret) .skip))
 (.seq (.reg 494 [.p (.L (.load (.t .d1 .d5))),
   .p (.L (.fn 49 [] [(.t .d1 .d5),(.t .d1 .d3),(.t .d1 .d4)])),
   .p (.H (.call 48 [(.t .d0 .d4),(.l 1),(.l 0)])),
   .p (.L (.ext 0 (.l 0))),
   .p (.L (.ext 1 (.l 1))),
   .s .d2 .d3 (.L (.mov (.l 1))),
   .s .d2 .d0 (.L (.mov (.l 1)))])
 (.seq (.reg 492 [.p (.L (.fn 50 [] [(.t .d1 .d5),(.t .d1 .d3),(.t .d1 .d4)])),
   .p (.H (.call 48 [(.t .d0 .d4),(.t .d1 .d7),(.l 0)])),
   .p (.L (.ext 0 (.l 0))),
   .p (.L (.ext 1 (.l 1))),
   .s .d2 .d5 (.L (.mov (.l 1))),
   .s .d2 .d1 (.L (.mov (.l 1)))])
 (.seq (.seq (.reg 58 [.p (.L (.not (.t .d2 .d0))),
   .g (.l 0) false (.L (.mov (.t .d2 .d1))),
   .g (.l 1) false (.L (.not (.l 0))),
   .s .d2 .d2 (.L (.pick (.l 2) (.c (.bool true)) (.l 0)))])
 (.cond (.t .d2 .d2) (.seq (.reg 7 [.p (.L (.build [.slN, .slN, .slN, .slN, .int .i64 0, .int .i64 0] [])),
   .p (.H (.store 6 (.t .d0 .d1) (.l 0))),
   .s .d0 .d2 (.L (.mov (.c (.bool false))))])
 .ret) .skip))
 (.reg 972 [.p (.L (.bsl 1 1 [.int .i64 0] [(0,1,(.t .d2 .d3))])),
   .p (.H (.append 1 8 (.t .d2 .d4) (.l 0))),
   .p (.L (.bsl 1 1 [.int .i64 0] [(0,1,(.t .d2 .d5))])),
   .p (.H (.append 1 8 (.t .d2 .d6) (.l 0))),
   .s .d2 .d4 (.L (.mov (.l 2))),
   .s .d2 .d6 (.L (.mov (.l 1)))])))))))
 (.reg 1 [.s .d1 .d0 (.L (.bin .add (.t .d1 .d0) (.c (.int .i64 1))))])))))))
 (.draw [0,1,2,3,5,6,7,8,4,10,9,11,12,13] [⟨.p (.L (.aA 2 (.t .d0 .d3))),[]⟩,
   ⟨.p (.L (.load (.l 0))),[]⟩,
   ⟨.p (.L (.mov (.t .d2 .d4))),[]⟩,
   ⟨.p (.L (.bsl 1 1 [.slN] [(0,1,(.l 0))])),[]⟩,
   ⟨.p (.L (.aA 3 (.t .d0 .d3))),[]⟩,
   ⟨.p (.L (.load (.l 0))),[]⟩,
   ⟨.p (.L (.mov (.t .d2 .d6))),[]⟩,
   ⟨.p (.L (.bsl 1 1 [.slN] [(0,1,(.l 0))])),[]⟩,
   ⟨.p (.H (.append 1 24 (.l 6) (.l 4))),[2,0]⟩,
   ⟨.p (.L (.aA 2 (.t .d0 .d3))),[]⟩,
   ⟨.p (.H (.append 1 24 (.l 4) (.l 2))),[]⟩,
   ⟨.p (.H (.store 1 (.l 1) (.l 2))),[]⟩,
   ⟨.p (.L (.aA 3 (.t .d0 .d3))),[]⟩,
   ⟨.p (.H (.store 1 (.l 0) (.l 2))),[]⟩])))))
 (.reg 1 [.s .d0 .d5 (.L (.bin .add (.t .d0 .d5) (.c (.int .i64 1))))])))))))
 (.seq (.reg 246 [.p (.L (.load (.t .d1 .d5))),
   .p (.H (.call 48 [(.t .d0 .d4),(.l 0),(.c (.fn 51 [] []))])),
   .p (.L (.ext 0 (.l 0))),
   .p (.L (.ext 1 (.l 1))),
   .s .d2 .d7 (.L (.mov (.l 1))),
   .s .d3 .d2 (.L (.mov (.l 1)))])
 (.seq (.reg 244 [.p (.H (.call 48 [(.t .d0 .d4),(.t .d1 .d7),(.c (.fn 52 [] []))])),
   .p (.L (.ext 0 (.l 0))),
   .p (.L (.ext 1 (.l 1))),
   .s .d3 .d0 (.L (.mov (.l 1))),
   .s .d3 .d1 (.L (.mov (.l 1)))])
 (.seq (.reg 60 [.p (.L (.aA 4 (.t .d0 .d3))),
   .p (.H (.store 1 (.l 0) (.t .d2 .d7))),
   .p (.L (.aA 5 (.t .d0 .d3))),
   .p (.H (.store 1 (.l 0) (.t .d3 .d0)))])
 (.seq (.reg 121 [.p (.L (.cO 6 (.t .d0 .d3))),
   .g (.t .d3 .d2) true (.L (.mov (.t .d3 .d1))),
   .p (.L (.pick (.t .d3 .d2) (.l 0) (.c (.bool false)))),
   .p (.H (.store 6 (.t .d0 .d1) (.l 2))),
   .s .d0 .d2 (.L (.mov (.l 1)))])
 .ret))))))))))⟩
def i28:Fun:=
 ⟨2,[0,1,4,5,18,32,6,42],[.tmp .d0 .d2],(.seq (.reg 1 [.s .d0 .d2 (.L (.mov (.c (.slN))))])
 (.seq (.reg 1 [.s .d0 .d3 (.L (.mov (.c (.int .i64 0))))])
 (.seq (.block 0 (.loop (.seq (.seq (.reg 4076 [.p (.L (.len false (.t .d0 .d0))),
   .p (.L (.bin .lss (.t .d0 .d3) (.l 0))),
   .g (.l 0) true (.L (.mov (.t .d0 .d0))),
   .g (.l 1) true (.L (.mov (.t .d0 .d3))),
   .g (.l 2) true (.L (.aC 1 (.l 1) (.l 0))),
   .g (.l 3) true (.L (.load (.l 0))),
   .g (.l 4) true (.L (.mov (.t .d0 .d1))),
   .g (.l 5) true (.L (.bins .lss (.l 1) (.l 0))),
   .s .d0 .d4 (.L (.pick (.l 6) (.l 0) (.c (.bool false))))])
 (.cond (.t .d0 .d4) .skip (.exit 0)))
 (.block 1 (.reg 2 [.s .d0 .d3 (.L (.bin .add (.t .d0 .d3) (.c (.int .i64 1))))])))))
 (.seq (.seq (.reg 4076 [.p (.L (.len false (.t .d0 .d0))),
   .p (.L (.bin .lss (.t .d0 .d3) (.l 0))),
   .g (.l 0) true (.L (.mov (.t .d0 .d0))),
   .g (.l 1) true (.L (.mov (.t .d0 .d3))),
   .g (.l 2) true (.L (.aC 1 (.l 1) (.l 0))),
   .g (.l 3) true (.L (.load (.l 0))),
   .g (.l 4) true (.L (.mov (.t .d0 .d1))),
   .g (.l 5) true (.L (.bins .eql (.l 1) (.l 0))),
   .s .d0 .d5 (.L (.pick (.l 6) (.l 0) (.c (.bool false))))])
 (.cond (.t .d0 .d5) (.seq (.reg 2 [.s .d0 .d2 (.L (.mov (.t .d0 .d0)))])
 .ret) .skip))
 (.seq (.reg 6 [.p (.L (.bsl 1 1 [.str 0 0] [(0,1,(.c (.str 0 0)))])),
   .s .d0 .d0 (.H (.append 1 16 (.t .d0 .d0) (.l 0)))])
 (.seq (.seq (.reg 6 [.p (.L (.len false (.t .d0 .d0))),
   .s .d0 .d6 (.L (.bin .sub (.l 0) (.c (.int .i64 1))))])
 (.block 2 (.loop (.seq (.seq (.reg 4 [.s .d0 .d7 (.L (.bin .gtr (.t .d0 .d6) (.t .d0 .d3)))])
 (.cond (.t .d0 .d7) .skip (.exit 2)))
 (.seq (.block 3 (.reg 496 [.p (.L (.bin .sub (.t .d0 .d6) (.c (.int .i64 1)))),
   .p (.L (.aC 1 (.t .d0 .d0) (.l 0))),
   .p (.L (.load (.l 0))),
   .p (.L (.aC 1 (.t .d0 .d0) (.t .d0 .d6))),
   .p (.H (.store 1 (.l 0) (.l 1)))]))
 (.reg 2 [.s .d0 .d6 (.L (.bin .sub (.t .d0 .d6) (.c (.int .i64 1))))]))))))
 (.seq (.reg 24 [.p (.L (.aC 1 (.t .d0 .d0) (.t .d0 .d3))),
   .p (.H (.store 1 (.l 0) (.t .d0 .d1)))])
 (.seq (.reg 2 [.s .d0 .d2 (.L (.mov (.t .d0 .d0)))])
 .ret))))))))⟩
def i29:Fun:=
 ⟨2,[0,1,4,5,9,17],[.tmp .d0 .d2],(.seq (.reg 1 [.s .d0 .d2 (.L (.mov (.c (.int .i64 0))))])
 (.seq (.seq (.reg 1 [.s .d0 .d3 (.L (.mov (.c (.int .i64 0))))])
 (.block 0 (.loop (.seq (.seq (.reg 12 [.p (.L (.len false (.t .d0 .d0))),
   .s .d0 .d4 (.L (.bin .lss (.t .d0 .d3) (.l 0)))])
 (.cond (.t .d0 .d4) .skip (.exit 0)))
 (.seq (.block 1 (.seq (.reg 44 [.p (.L (.aC 1 (.t .d0 .d0) (.t .d0 .d3))),
   .p (.L (.load (.l 0))),
   .s .d0 .d5 (.L (.bins .eql (.l 0) (.t .d0 .d1)))])
 (.cond (.t .d0 .d5) (.seq (.reg 2 [.s .d0 .d2 (.L (.mov (.t .d0 .d3)))])
 .ret) .skip)))
 (.reg 2 [.s .d0 .d3 (.L (.bin .add (.t .d0 .d3) (.c (.int .i64 1))))]))))))
 (.seq (.reg 1 [.s .d0 .d2 (.L (.mov (.c (.int .i64 (-1)))))])
 .ret)))⟩
def i30:Fun:=
 ⟨2,[0,1,4,5,7,6,19,8,24,47,10,12,65,9,11,14,74,13],[.cell .d0 .d2 (some 6), .tmp .d0 .d3],(.seq (.reg 3 [.s .d0 .d2 (.L (.alloc [.slN, .slN, .slN, .slN, .int .i64 0, .int .i64 0])),
   .s .d0 .d3 (.L (.mov (.c (.bool false))))])
 (.seq (.reg 2 [.s .d0 .d5 (.L (.len false (.t .d0 .d0)))])
 (.seq (.seq (.reg 1 [.s .d0 .d4 (.L (.mov (.c (.int .i64 0))))])
 (.block 0 (.loop (.seq (.seq (.reg 4 [.s .d0 .d6 (.L (.bin .lss (.t .d0 .d4) (.t .d0 .d5)))])
 (.cond (.t .d0 .d6) .skip (.exit 0)))
 (.seq (.block 1 (.seq (.reg 1 [.s .d0 .d7 (.L (.mov (.c (.int .i64 0))))])
 (.block 2 (.loop (.seq (.seq (.reg 4 [.s .d1 .d0 (.L (.bin .lss (.t .d0 .d7) (.t .d0 .d5)))])
 (.cond (.t .d1 .d0) .skip (.exit 2)))
 (.seq (.block 3 (.seq (.reg 2093044 [.p (.L (.bin .neq (.t .d0 .d4) (.t .d0 .d7))),
   .g (.l 0) true (.L (.mov (.t .d0 .d1))),
   .g (.l 1) true (.L (.mov (.t .d0 .d4))),
   .g (.l 2) true (.L (.aC 1 (.l 1) (.l 0))),
   .g (.l 3) true (.L (.load (.l 0))),
   .g (.l 4) true (.L (.mov (.t .d0 .d7))),
   .g (.l 5) true (.L (.aC 1 (.l 1) (.l 0))),
   .g (.l 6) true (.L (.load (.l 0))),
   .p (.L (.pick (.l 7) (.l 0) (.c (.bool false)))),
   .g (.l 0) true (.L (.mov (.t .d0 .d1))),
   .g (.l 1) true (.L (.mov (.t .d0 .d7))),
   .g (.l 2) true (.L (.aC 1 (.l 1) (.l 0))),
   .g (.l 3) true (.L (.load (.l 0))),
   .g (.l 4) true (.L (.mov (.t .d0 .d4))),
   .g (.l 5) true (.L (.aC 1 (.l 1) (.l 0))),
   .g (.l 6) true (.L (.load (.l 0))),
   .s .d1 .d1 (.L (.pick (.l 7) (.l 0) (.c (.bool false))))])
 (.cond (.t .d1 .d1) (.seq (.reg 7 [.p (.L (.build [.slN, .slN, .slN, .slN, .int .i64 0, .int .i64 0] [])),
   .p (.H (.store 6 (.t .d0 .d2) (.l 0))),
   .s .d0 .d3 (.L (.mov (.c (.bool false))))])
 .ret) .skip)))
 (.reg 2 [.s .d0 .d7 (.L (.bin .add (.t .d0 .d7) (.c (.int .i64 1))))])))))))
 (.reg 2 [.s .d0 .d4 (.L (.bin .add (.t .d0 .d4) (.c (.int .i64 1))))]))))))
 (.seq (.reg 122 [.p (.H (.call 53 [(.t .d0 .d1)])),
   .p (.L (.ext 0 (.l 0))),
   .p (.L (.ext 1 (.l 1))),
   .s .d1 .d5 (.L (.mov (.l 1))),
   .s .d1 .d2 (.L (.mov (.l 1)))])
 (.seq (.reg 246 [.p (.H (.call 54 [(.t .d0 .d1)])),
   .p (.H (.call 53 [(.l 0)])),
   .p (.L (.ext 0 (.l 0))),
   .p (.L (.ext 1 (.l 1))),
   .s .d1 .d6 (.L (.mov (.l 1))),
   .s .d1 .d3 (.L (.mov (.l 1)))])
 (.seq (.seq (.reg 58 [.p (.L (.not (.t .d1 .d2))),
   .g (.l 0) false (.L (.mov (.t .d1 .d3))),
   .g (.l 1) false (.L (.not (.l 0))),
   .s .d1 .d4 (.L (.pick (.l 2) (.c (.bool true)) (.l 0)))])
 (.cond (.t .d1 .d4) (.seq (.reg 7 [.p (.L (.build [.slN, .slN, .slN, .slN, .int .i64 0, .int .i64 0] [])),
   .p (.H (.store 6 (.t .d0 .d2) (.l 0))),
   .s .d0 .d3 (.L (.mov (.c (.bool false))))])
 .ret) .skip))
 (.seq (.reg 112 [.p (.L (.build [.slN, .slN, .slN, .slN, .int .i64 0, .int .i64 0] [(0,1,(.t .d0 .d0)),(1,1,(.t .d0 .d1)),(2,1,(.t .d1 .d5)),(3,1,(.t .d1 .d6))])),
   .s .d2 .d1 (.L (.alloc [.slN, .slN, .slN, .slN, .int .i64 0, .int .i64 0])),
   .p (.H (.store 6 (.l 0) (.l 1)))])
 (.seq (.seq (.reg 1 [.s .d1 .d7 (.L (.mov (.c (.int .i64 0))))])
 (.block 4 (.loop (.seq (.seq (.reg 4 [.s .d2 .d0 (.L (.bin .lss (.t .d1 .d7) (.t .d0 .d5)))])
 (.cond (.t .d2 .d0) .skip (.exit 4)))
 (.seq (.block 5 (.seq (.reg 990 [.p (.L (.aA 5 (.t .d2 .d1))),
   .p (.L (.load (.l 0))),
   .p (.L (.aC 1 (.t .d1 .d5) (.l 0))),
   .p (.L (.load (.l 0))),
   .p (.L (.aC 1 (.l 0) (.t .d1 .d7))),
   .p (.L (.load (.l 0))),
   .p (.L (.aA 5 (.t .d2 .d1))),
   .p (.H (.store 1 (.l 0) (.l 1)))])
 (.reg 990 [.p (.L (.aA 4 (.t .d2 .d1))),
   .p (.L (.load (.l 0))),
   .p (.L (.aC 1 (.t .d1 .d6) (.l 0))),
   .p (.L (.load (.l 0))),
   .p (.L (.aC 1 (.l 0) (.t .d1 .d7))),
   .p (.L (.load (.l 0))),
   .p (.L (.aA 4 (.t .d2 .d1))),
   .p (.H (.store 1 (.l 0) (.l 1)))])))
 (.reg 2 [.s .d1 .d7 (.L (.bin .add (.t .d1 .d7) (.c (.int .i64 1))))]))))))
 (.seq (.reg 7 [.p (.L (.cO 6 (.t .d2 .d1))),
   .p (.H (.store 6 (.t .d0 .d2) (.l 0))),
   .s .d0 .d3 (.L (.mov (.c (.bool true))))])
 .ret)))))))))⟩
def i31:Fun:=
 ⟨2,[0,1,4,10,5,14,25],[.tmp .d0 .d2],(.seq (.reg 1 [.s .d0 .d2 (.L (.mov (.c (.bool false))))])
 (.seq (.seq (.reg 26 [.p (.L (.len false (.t .d0 .d0))),
   .p (.L (.len false (.t .d0 .d1))),
   .s .d0 .d3 (.L (.bin .neq (.l 1) (.l 0)))])
 (.cond (.t .d0 .d3) (.seq (.reg 1 [.s .d0 .d2 (.L (.mov (.c (.bool false))))])
 .ret) .skip))
 (.seq (.seq (.reg 1 [.s .d0 .d4 (.L (.mov (.c (.int .i64 0))))])
 (.block 0 (.loop (.seq (.seq (.reg 12 [.p (.L (.len false (.t .d0 .d0))),
   .s .d0 .d5 (.L (.bin .lss (.t .d0 .d4) (.l 0)))])
 (.cond (.t .d0 .d5) .skip (.exit 0)))
 (.seq (.block 1 (.seq (.draw [0,1,2,3,4,5,6,7,8] [⟨.p (.L (.mov (.t .d0 .d0))),[]⟩,
   ⟨.p (.L (.mov (.t .d0 .d4))),[]⟩,
   ⟨.p (.L (.aC 1 (.l 1) (.l 0))),[]⟩,
   ⟨.p (.L (.load (.l 0))),[]⟩,
   ⟨.p (.L (.mov (.t .d0 .d1))),[]⟩,
   ⟨.p (.L (.mov (.t .d0 .d4))),[]⟩,
   ⟨.p (.L (.aC 1 (.l 1) (.l 0))),[]⟩,
   ⟨.p (.L (.load (.l 0))),[]⟩,
   ⟨.s .d0 .d6 (.L (.bins .neq (.l 4) (.l 0))),[]⟩])
 (.cond (.t .d0 .d6) (.seq (.reg 1 [.s .d0 .d2 (.L (.mov (.c (.bool false))))])
 .ret) .skip)))
 (.reg 2 [.s .d0 .d4 (.L (.bin .add (.t .d0 .d4) (.c (.int .i64 1))))]))))))
 (.seq (.reg 1 [.s .d0 .d2 (.L (.mov (.c (.bool true))))])
 .ret))))⟩
def i32:Fun:=
 ⟨2,[0,1,4,11,5,15,28,6,35,52],[.tmp .d0 .d2],(.seq (.reg 1 [.s .d0 .d2 (.L (.mov (.c (.bool false))))])
 (.seq (.seq (.reg 26 [.p (.L (.len false (.t .d0 .d0))),
   .p (.L (.len false (.t .d0 .d1))),
   .s .d0 .d3 (.L (.bin .neq (.l 1) (.l 0)))])
 (.cond (.t .d0 .d3) (.seq (.reg 1 [.s .d0 .d2 (.L (.mov (.c (.bool false))))])
 .ret) .skip))
 (.seq (.seq (.reg 1 [.s .d0 .d4 (.L (.mov (.c (.int .i64 0))))])
 (.block 0 (.loop (.seq (.seq (.reg 12 [.p (.L (.len false (.t .d0 .d0))),
   .s .d0 .d5 (.L (.bin .lss (.t .d0 .d4) (.l 0)))])
 (.cond (.t .d0 .d5) .skip (.exit 0)))
 (.seq (.block 1 (.seq (.seq (.draw [0,1,2,3,4,5,6,7,8,9,10] [⟨.p (.L (.mov (.t .d0 .d0))),[]⟩,
   ⟨.p (.L (.mov (.t .d0 .d4))),[]⟩,
   ⟨.p (.L (.aC 1 (.l 1) (.l 0))),[]⟩,
   ⟨.p (.L (.load (.l 0))),[]⟩,
   ⟨.p (.L (.len false (.l 0))),[]⟩,
   ⟨.p (.L (.mov (.t .d0 .d1))),[]⟩,
   ⟨.p (.L (.mov (.t .d0 .d4))),[]⟩,
   ⟨.p (.L (.aC 1 (.l 1) (.l 0))),[]⟩,
   ⟨.p (.L (.load (.l 0))),[]⟩,
   ⟨.p (.L (.len false (.l 0))),[]⟩,
   ⟨.s .d0 .d6 (.L (.bin .neq (.l 5) (.l 0))),[]⟩])
 (.cond (.t .d0 .d6) (.seq (.reg 1 [.s .d0 .d2 (.L (.mov (.c (.bool false))))])
 .ret) .skip))
 (.seq (.reg 1 [.s .d0 .d7 (.L (.mov (.c (.int .i64 0))))])
 (.block 2 (.loop (.seq (.seq (.reg 120 [.p (.L (.aC 1 (.t .d0 .d0) (.t .d0 .d4))),
   .p (.L (.load (.l 0))),
   .p (.L (.len false (.l 0))),
   .s .d1 .d0 (.L (.bin .lss (.t .d0 .d7) (.l 0)))])
 (.cond (.t .d1 .d0) .skip (.exit 2)))
 (.seq (.block 3 (.seq (.draw [0,1,2,3,4,5,6,7,8,9,10,11,12,13,14] [⟨.p (.L (.mov (.t .d0 .d0))),[]⟩,
   ⟨.p (.L (.mov (.t .d0 .d4))),[]⟩,
   ⟨.p (.L (.aC 1 (.l 1) (.l 0))),[]⟩,
   ⟨.p (.L (.load (.l 0))),[]⟩,
   ⟨.p (.L (.mov (.t .d0 .d7))),[]⟩,
   ⟨.p (.L (.aC 1 (.l 1) (.l 0))),[]⟩,
   ⟨.p (.L (.load (.l 0))),[]⟩,
   ⟨.p (.L (.mov (.t .d0 .d1))),[]⟩,
   ⟨.p (.L (.mov (.t .d0 .d4))),[]⟩,
   ⟨.p (.L (.aC 1 (.l 1) (.l 0))),[]⟩,
   ⟨.p (.L (.load (.l 0))),[]⟩,
   ⟨.p (.L (.mov (.t .d0 .d7))),[]⟩,
   ⟨.p (.L (.aC 1 (.l 1) (.l 0))),[]⟩,
   ⟨.p (.L (.load (.l 0))),[]⟩,
   ⟨.s .d1 .d1 (.L (.bin .neq (.l 7) (.l 0))),[]⟩])
 (.cond (.t .d1 .d1) (.seq (.reg 1 [.s .d0 .d2 (.L (.mov (.c (.bool false))))])
 .ret) .skip)))
 (.reg 2 [.s .d0 .d7 (.L (.bin .add (.t .d0 .d7) (.c (.int .i64 1))))]))))))))
 (.reg 2 [.s .d0 .d4 (.L (.bin .add (.t .d0 .d4) (.c (.int .i64 1))))]))))))
 (.seq (.reg 1 [.s .d0 .d2 (.L (.mov (.c (.bool true))))])
 .ret))))⟩
def i33:Fun:=
 ⟨1,[0,2,3,4,6,15,7,5],[.tmp .d0 .d1, .tmp .d0 .d2, .tmp .d0 .d3],(.seq (.reg 7 [.s .d0 .d1 (.L (.mov (.c (.slN)))),
   .s .d0 .d2 (.L (.mov (.c (.int .i64 0)))),
   .s .d0 .d3 (.L (.mov (.c (.int .i64 0))))])
 (.seq (.reg 506 [.p (.H (.call 55 [(.t .d0 .d0)])),
   .p (.L (.ext 0 (.l 0))),
   .p (.L (.ext 1 (.l 1))),
   .p (.L (.ext 2 (.l 2))),
   .s .d0 .d7 (.L (.mov (.l 2))),
   .s .d0 .d4 (.L (.mov (.l 2))),
   .s .d0 .d6 (.L (.mov (.l 2)))])
 (.seq (.seq (.reg 2 [.s .d0 .d5 (.L (.bin .neq (.t .d0 .d4) (.c (.int .i64 0))))])
 (.cond (.t .d0 .d5) (.seq (.reg 28 [.s .d0 .d1 (.L (.mov (.c (.slN)))),
   .s .d0 .d2 (.L (.mov (.t .d0 .d4))),
   .s .d0 .d3 (.L (.mov (.t .d0 .d6)))])
 .ret) .skip))
 (.seq (.reg 254 [.p (.H (.call 56 [(.t .d0 .d7),(.c (.fn 57 [] []))])),
   .p (.L (.ext 0 (.l 0))),
   .p (.L (.ext 1 (.l 1))),
   .p (.L (.ext 2 (.l 2))),
   .s .d0 .d1 (.L (.mov (.l 2))),
   .s .d0 .d2 (.L (.mov (.l 2))),
   .s .d0 .d3 (.L (.mov (.l 2)))])
 .ret))))⟩
def i34:Fun:=
 ⟨1,[0,2,3,4,6,20,7,5,8,46,53,11,10,9,61,12,80],[.tmp .d0 .d1, .tmp .d0 .d2, .tmp .d0 .d3],(.seq (.reg 7 [.s .d0 .d1 (.L (.mov (.c (.slN)))),
   .s .d0 .d2 (.L (.mov (.c (.int .i64 0)))),
   .s .d0 .d3 (.L (.mov (.c (.int .i64 0))))])
 (.seq (.reg 506 [.p (.H (.call 58 [(.t .d0 .d0)])),
   .p (.L (.ext 0 (.l 0))),
   .p (.L (.ext 1 (.l 1))),
   .p (.L (.ext 2 (.l 2))),
   .s .d0 .d7 (.L (.mov (.l 2))),
   .s .d0 .d4 (.L (.mov (.l 2))),
   .s .d0 .d6 (.L (.mov (.l 2)))])
 (.seq (.seq (.reg 2 [.s .d0 .d5 (.L (.bin .neq (.t .d0 .d4) (.c (.int .i64 0))))])
 (.cond (.t .d0 .d5) (.seq (.reg 28 [.s .d0 .d1 (.L (.mov (.c (.slN)))),
   .s .d0 .d2 (.L (.mov (.t .d0 .d4))),
   .s .d0 .d3 (.L (.mov (.t .d0 .d6)))])
 .ret) .skip))
 (.seq (.reg 6 [.p (.L (.build [.slN, .int .i64 0, .int .i64 0, .int .i64 0, .int .i64 0] [(0,1,(.t .d0 .d7))])),
   .s .d1 .d0 (.L (.box 5 (.l 0)))])
 (.seq (.reg 1 [.s .d1 .d5 (.L (.mov (.c (.slN))))])
 (.seq (.reg 2 [.p (.H (.call 59 [(.t .d1 .d0),(.c (.str 6 126909394608492))]))])
 (.seq (.block 0 (.loop (.seq (.seq (.draw [0,1,2,3,4,5,6,7,8,9,10,11,12,13,14,15,16,17,18] [⟨.p (.L (.mov (.t .d1 .d0))),[]⟩,
   ⟨.p (.L (.nilck (.l 0))),[]⟩,
   ⟨.p (.L (.aA 3 (.l 0))),[]⟩,
   ⟨.p (.L (.load (.l 0))),[]⟩,
   ⟨.p (.L (.bin .eql (.l 0) (.c (.int .i64 0)))),[]⟩,
   ⟨.p (.L (.mov (.l 0))),[]⟩,
   ⟨.g (.l 0) true (.L (.mov (.t .d1 .d0))),[]⟩,
   ⟨.g (.l 1) true (.L (.nilck (.l 0))),[]⟩,
   ⟨.g (.l 2) true (.L (.aA 0 (.l 0))),[]⟩,
   ⟨.g (.l 3) true (.L (.load (.l 0))),[]⟩,
   ⟨.g (.l 4) true (.L (.mov (.t .d1 .d0))),[]⟩,
   ⟨.g (.l 5) true (.L (.nilck (.l 0))),[]⟩,
   ⟨.g (.l 6) true (.L (.aA 1 (.l 0))),[]⟩,
   ⟨.g (.l 7) true (.L (.load (.l 0))),[]⟩,
   ⟨.g (.l 8) true (.L (.aC 3 (.l 4) (.l 0))),[]⟩,
   ⟨.g (.l 9) true (.L (.aA 0 (.l 0))),[]⟩,
   ⟨.g (.l 10) true (.L (.load (.l 0))),[]⟩,
   ⟨.g (.l 11) true (.L (.bin .neq (.l 0) (.c (.int .i64 0)))),[]⟩,
   ⟨.s .d1 .d1 (.L (.pick (.l 12) (.l 0) (.c (.bool false)))),[]⟩])
 (.cond (.t .d1 .d1) .skip (.exit 0)))
 (.block 1 (.seq (.reg 2 [.s .d1 .d4 (.H (.call 60 [(.t .d1 .d0)]))])
 (.seq (.reg 2 [.s .d1 .d3 (.H (.call 61 [(.t .d1 .d0)]))])
 (.seq (.seq (.reg 6 [.p (.H (.call 62 [(.t .d1 .d0),(.c (.str 1 60))])),
   .s .d1 .d2 (.L (.not (.l 0)))])
 (.cond (.t .d1 .d2) (.reg 56 [.p (.L (.build [.str 0 0, .str 0 0, .int .i64 0] [(0,1,(.t .d1 .d3)),(2,1,(.t .d1 .d4))])),
   .p (.L (.bsl 3 1 [.str 0 0, .str 0 0, .int .i64 0] [(0,3,(.l 0))])),
   .s .d1 .d5 (.H (.append 3 40 (.t .d1 .d5) (.l 0)))]) .skip))
 (.seq (.block 2 (.loop (.seq (.seq (.reg 2 [.s .d1 .d6 (.H (.call 63 [(.t .d1 .d0),(.c (.str 1 60))]))])
 (.cond (.t .d1 .d6) .skip (.exit 2)))
 (.block 3 (.seq (.reg 2 [.s .d1 .d4 (.H (.call 60 [(.t .d1 .d0)]))])
 (.seq (.reg 2 [.s .d1 .d7 (.H (.call 61 [(.t .d1 .d0)]))])
 (.seq (.reg 112 [.p (.L (.build [.str 0 0, .str 0 0, .int .i64 0] [(0,1,(.t .d1 .d3)),(1,1,(.t .d1 .d7)),(2,1,(.t .d1 .d4))])),
   .p (.L (.bsl 3 1 [.str 0 0, .str 0 0, .int .i64 0] [(0,3,(.l 0))])),
   .s .d1 .d5 (.H (.append 3 40 (.t .d1 .d5) (.l 0)))])
 (.reg 2 [.s .d1 .d3 (.L (.mov (.t .d1 .d7)))]))))))))
 (.reg 2 [.p (.H (.call 59 [(.t .d1 .d0),(.c (.str 1 59))]))])))))))))
 (.seq (.seq (.reg 30 [.p (.L (.nilck (.t .d1 .d0))),
   .p (.L (.aA 3 (.l 0))),
   .p (.L (.load (.l 0))),
   .s .d2 .d0 (.L (.bin .neq (.l 0) (.c (.int .i64 0))))])
 (.cond (.t .d2 .d0) (.seq (.draw [0,1,2,3,4,5,6,7,8,9,10] [⟨.p (.L (.mov (.t .d1 .d0))),[]⟩,
   ⟨.p (.L (.nilck (.l 0))),[]⟩,
   ⟨.p (.L (.aA 3 (.l 0))),[]⟩,
   ⟨.p (.L (.load (.l 0))),[]⟩,
   ⟨.p (.L (.mov (.t .d1 .d0))),[]⟩,
   ⟨.p (.L (.nilck (.l 0))),[]⟩,
   ⟨.p (.L (.aA 4 (.l 0))),[]⟩,
   ⟨.p (.L (.load (.l 0))),[]⟩,
   ⟨.s .d0 .d1 (.L (.mov (.c (.slN)))),[]⟩,
   ⟨.s .d0 .d2 (.L (.mov (.l 5))),[]⟩,
   ⟨.s .d0 .d3 (.L (.mov (.l 2))),[]⟩])
 .ret) .skip))
 (.seq (.reg 14 [.s .d0 .d1 (.L (.mov (.t .d1 .d5))),
   .s .d0 .d2 (.L (.mov (.c (.int .i64 0)))),
   .s .d0 .d3 (.L (.mov (.c (.int .i64 0))))])
 .ret)))))))))⟩
def i35:Fun:=
 ⟨2,[0,1,4,8,7,9,5,16],[.tmp .d0 .d2],(.seq (.reg 1 [.s .d0 .d2 (.L (.mov (.c (.int .i64 0))))])
 (.seq (.seq (.reg 6 [.s .d0 .d4 (.L (.len false (.t .d0 .d0))),
   .s .d0 .d3 (.L (.mov (.c (.int .i64 0))))])
 (.block 0 (.loop (.seq (.reg 1 [.s .d0 .d5 (.L (.bin .lss (.t .d0 .d3) (.t .d0 .d4)))])
 (.seq (.cond (.t .d0 .d5) .skip (.exit 0))
 (.seq (.block 1 (.seq (.reg 2 [.s .d0 .d6 (.L (.mov (.t .d0 .d3)))])
 (.seq (.reg 56 [.p (.L (.aC 1 (.t .d0 .d0) (.t .d0 .d6))),
   .p (.L (.load (.l 0))),
   .s .d0 .d7 (.L (.bins .eql (.t .d0 .d1) (.l 0)))])
 (.cond (.t .d0 .d7) (.seq (.reg 2 [.s .d0 .d2 (.L (.mov (.t .d0 .d6)))])
 .ret) .skip))))
 (.reg 1 [.s .d0 .d3 (.L (.bin .add (.t .d0 .d3) (.c (.int .i64 1))))])))))))
 (.seq (.reg 1 [.s .d0 .d2 (.L (.mov (.c (.int .i64 (-1)))))])
 .ret)))⟩
def i46:Fun:=
 ⟨3,[0,1,2,5],[.tmp .d0 .d3],(.seq (.reg 1 [.s .d0 .d3 (.L (.mov (.c (.bool false))))])
 (.seq (.reg 219 [.p (.L (.aA 1 (.t .d0 .d2))),
   .p (.L (.load (.l 0))),
   .p (.L (.aC 1 (.l 0) (.t .d0 .d0))),
   .p (.L (.load (.l 0))),
   .p (.L (.aC 1 (.l 0) (.t .d0 .d1))),
   .s .d0 .d3 (.L (.load (.l 0)))])
 .ret))⟩
def i47:Fun:=
 ⟨3,[0,1,2,5],[.tmp .d0 .d3],(.seq (.reg 1 [.s .d0 .d3 (.L (.mov (.c (.bool false))))])
 (.seq (.reg 219 [.p (.L (.aA 1 (.t .d0 .d2))),
   .p (.L (.load (.l 0))),
   .p (.L (.aC 1 (.l 0) (.t .d0 .d1))),
   .p (.L (.load (.l 0))),
   .p (.L (.aC 1 (.l 0) (.t .d0 .d0))),
   .s .d0 .d3 (.L (.load (.l 0)))])
 .ret))⟩
def i48:Fun:=
 ⟨3,[0,1,2,6,7,11,10,12,8,17,19,18,20,9,31],[.tmp .d0 .d3, .tmp .d0 .d4],(.seq (.reg 3 [.s .d0 .d3 (.L (.mov (.c (.int .i64 0)))),
   .s .d0 .d4 (.L (.mov (.c (.bool false))))])
 (.seq .skip
 (.seq (.seq (.reg 3 [.s .d0 .d6 (.L (.mov (.t .d0 .d0))),
   .s .d0 .d5 (.L (.mov (.c (.int .i64 0))))])
 (.block 0 (.loop (.seq (.reg 1 [.s .d0 .d7 (.L (.bin .lss (.t .d0 .d5) (.t .d0 .d6)))])
 (.seq (.cond (.t .d0 .d7) .skip (.exit 0))
 (.seq (.block 1 (.seq (.reg 2 [.s .d1 .d0 (.L (.mov (.t .d0 .d5)))])
 (.seq (.seq (.reg 12 [.p (.H (.dS (.t .d0 .d2) [(.t .d1 .d0)])),
   .s .d1 .d1 (.L (.not (.l 0)))])
 (.cond (.t .d1 .d1) (.exit 1) .skip))
 (.seq (.seq (.reg 3 [.s .d1 .d3 (.L (.mov (.t .d0 .d0))),
   .s .d1 .d2 (.L (.mov (.c (.int .i64 0))))])
 (.block 2 (.loop (.seq (.reg 1 [.s .d1 .d4 (.L (.bin .lss (.t .d1 .d2) (.t .d1 .d3)))])
 (.seq (.cond (.t .d1 .d4) .skip (.exit 2))
 (.seq (.block 3 (.seq (.reg 2 [.s .d1 .d5 (.L (.mov (.t .d1 .d2)))])
 (.seq (.reg 1012 [.p (.H (.dS (.t .d0 .d2) [(.t .d1 .d5)])),
   .g (.l 0) true (.L (.mov (.t .d0 .d1))),
   .g (.l 1) true (.L (.mov (.t .d1 .d0))),
   .g (.l 2) true (.L (.mov (.t .d1 .d5))),
   .g (.l 3) true (.H (.dS (.l 2) [(.l 1),(.l 0)])),
   .g (.l 4) true (.L (.not (.l 0))),
   .s .d1 .d6 (.L (.pick (.l 5) (.l 0) (.c (.bool false))))])
 (.cond (.t .d1 .d6) (.exit 1) .skip))))
 (.reg 1 [.s .d1 .d2 (.L (.bin .add (.t .d1 .d2) (.c (.int .i64 1))))])))))))
 (.seq (.reg 6 [.s .d0 .d3 (.L (.mov (.t .d1 .d0))),
   .s .d0 .d4 (.L (.mov (.c (.bool true))))])
 .ret)))))
 (.reg 1 [.s .d0 .d5 (.L (.bin .add (.t .d0 .d5) (.c (.int .i64 1))))])))))))
 (.seq (.reg 3 [.s .d0 .d3 (.L (.mov (.c (.int .i64 0)))),
   .s .d0 .d4 (.L (.mov (.c (.bool false))))])
 .ret))))⟩
def i49:Fun:=
 ⟨4,[0,1,2,3,5],[.tmp .d0 .d4],(.seq (.reg 1 [.s .d0 .d4 (.L (.mov (.c (.bool false))))])
 (.seq (.reg 1003 [.p (.L (.load (.t .d0 .d1))),
   .p (.L (.load (.t .d0 .d2))),
   .p (.H (.dS (.l 1) [(.l 0),(.t .d0 .d0)])),
   .g (.l 0) true (.L (.load (.t .d0 .d1))),
   .g (.l 1) true (.L (.load (.t .d0 .d3))),
   .g (.l 2) true (.L (.mov (.t .d0 .d0))),
   .g (.l 3) true (.H (.dS (.l 2) [(.l 1),(.l 0)])),
   .s .d0 .d4 (.L (.pick (.l 4) (.l 0) (.c (.bool false))))])
 .ret))⟩
def i50:Fun:=
 ⟨4,[0,1,2,3,5],[.tmp .d0 .d4],(.seq (.reg 1 [.s .d0 .d4 (.L (.mov (.c (.bool false))))])
 (.seq (.reg 1005 [.p (.L (.load (.t .d0 .d1))),
   .p (.L (.load (.t .d0 .d2))),
   .p (.H (.dS (.l 1) [(.t .d0 .d0),(.l 0)])),
   .g (.l 0) true (.L (.load (.t .d0 .d1))),
   .g (.l 1) true (.L (.mov (.t .d0 .d0))),
   .g (.l 2) true (.L (.load (.t .d0 .d3))),
   .g (.l 3) true (.H (.dS (.l 2) [(.l 1),(.l 0)])),
   .s .d0 .d4 (.L (.pick (.l 4) (.l 0) (.c (.bool false))))])
 .ret))⟩
def i51:Fun:=
 ⟨1,[0,2],[.tmp .d0 .d1],(.seq (.reg 1 [.s .d0 .d1 (.L (.mov (.c (.bool false))))])
 (.seq (.reg 1 [.s .d0 .d1 (.L (.mov (.c (.bool true))))])
 .ret))⟩
def i52:Fun:=
 ⟨1,[0,2],[.tmp .d0 .d1],(.seq (.reg 1 [.s .d0 .d1 (.L (.mov (.c (.bool false))))])
 (.seq (.reg 1 [.s .d0 .d1 (.L (.mov (.c (.bool true))))])
 .ret))⟩
def i53:Fun:=
 ⟨1,[0,2,3,5,14,7,20,9,29,8,10,55,6,4],[.tmp .d0 .d1, .tmp .d0 .d2],(.seq (.reg 3 [.s .d0 .d1 (.L (.mov (.c (.slN)))),
   .s .d0 .d2 (.L (.mov (.c (.bool false))))])
 (.seq (.reg 1 [.s .d1 .d5 (.L (.mov (.c (.slN))))])
 (.seq (.seq (.reg 1 [.s .d0 .d3 (.L (.mov (.c (.int .i64 0))))])
 (.block 0 (.loop (.seq (.seq (.reg 12 [.p (.L (.len false (.t .d0 .d0))),
   .s .d0 .d4 (.L (.bin .lss (.t .d0 .d3) (.l 0)))])
 (.cond (.t .d0 .d4) .skip (.exit 0)))
 (.seq (.block 1 (.seq (.reg 1 [.s .d1 .d4 (.L (.mov (.c (.slN))))])
 (.seq (.seq (.reg 1 [.s .d0 .d5 (.L (.mov (.c (.int .i64 0))))])
 (.block 2 (.loop (.seq (.seq (.reg 12 [.p (.L (.len false (.t .d0 .d0))),
   .s .d0 .d6 (.L (.bin .lss (.t .d0 .d5) (.l 0)))])
 (.cond (.t .d0 .d6) .skip (.exit 2)))
 (.seq (.block 3 (.seq (.reg 6 [.p (.L (.len false (.t .d0 .d0))),
   .s .d1 .d1 (.L (.nI 1 [.bool false] 1 (.l 0) (.l 0)))])
 (.seq (.seq (.reg 1 [.s .d0 .d7 (.L (.mov (.c (.int .i64 0))))])
 (.block 4 (.loop (.seq (.seq (.reg 12 [.p (.L (.len false (.t .d0 .d0))),
   .s .d1 .d0 (.L (.bin .lss (.t .d0 .d7) (.l 0)))])
 (.cond (.t .d1 .d0) .skip (.exit 4)))
 (.seq (.block 5 (.reg 1047984 [.p (.L (.aC 1 (.t .d0 .d0) (.t .d0 .d3))),
   .p (.L (.load (.l 0))),
   .p (.L (.aC 1 (.l 0) (.t .d0 .d7))),
   .p (.L (.load (.l 0))),
   .g (.l 0) true (.L (.mov (.t .d0 .d0))),
   .g (.l 1) true (.L (.mov (.t .d0 .d5))),
   .g (.l 2) true (.L (.aC 1 (.l 1) (.l 0))),
   .g (.l 3) true (.L (.load (.l 0))),
   .g (.l 4) true (.L (.mov (.t .d0 .d7))),
   .g (.l 5) true (.L (.aC 1 (.l 1) (.l 0))),
   .g (.l 6) true (.L (.load (.l 0))),
   .p (.L (.pick (.l 7) (.l 0) (.c (.bool false)))),
   .p (.L (.aC 1 (.t .d1 .d1) (.t .d0 .d7))),
   .p (.H (.store 1 (.l 0) (.l 1)))]))
 (.reg 2 [.s .d0 .d7 (.L (.bin .add (.t .d0 .d7) (.c (.int .i64 1))))]))))))
 (.seq (.reg 4 [.s .d1 .d2 (.H (.call 79 [(.t .d0 .d0),(.t .d1 .d1)]))])
 (.seq (.seq (.reg 2 [.s .d1 .d3 (.L (.bin .lss (.t .d1 .d2) (.c (.int .i64 0))))])
 (.cond (.t .d1 .d3) (.seq (.reg 3 [.s .d0 .d1 (.L (.mov (.c (.slN)))),
   .s .d0 .d2 (.L (.mov (.c (.bool false))))])
 .ret) .skip))
 (.reg 12 [.p (.L (.bsl 1 1 [.int .i64 0] [(0,1,(.t .d1 .d2))])),
   .s .d1 .d4 (.H (.append 1 8 (.t .d1 .d4) (.l 0)))]))))))
 (.reg 2 [.s .d0 .d5 (.L (.bin .add (.t .d0 .d5) (.c (.int .i64 1))))]))))))
 (.reg 12 [.p (.L (.bsl 1 1 [.slN] [(0,1,(.t .d1 .d4))])),
   .s .d1 .d5 (.H (.append 1 24 (.t .d1 .d5) (.l 0)))]))))
 (.reg 2 [.s .d0 .d3 (.L (.bin .add (.t .d0 .d3) (.c (.int .i64 1))))]))))))
 (.seq (.reg 6 [.s .d0 .d1 (.L (.mov (.t .d1 .d5))),
   .s .d0 .d2 (.L (.mov (.c (.bool true))))])
 .ret))))⟩
def i54:Fun:=
 ⟨1,[0,2,4,10,6,19,5,3],[.tmp .d0 .d1],(.seq (.reg 1 [.s .d0 .d1 (.L (.mov (.c (.slN))))])
 (.seq (.reg 1 [.s .d0 .d7 (.L (.mov (.c (.slN))))])
 (.seq (.seq (.reg 1 [.s .d0 .d2 (.L (.mov (.c (.int .i64 0))))])
 (.block 0 (.loop (.seq (.seq (.reg 12 [.p (.L (.len false (.t .d0 .d0))),
   .s .d0 .d3 (.L (.bin .lss (.t .d0 .d2) (.l 0)))])
 (.cond (.t .d0 .d3) .skip (.exit 0)))
 (.seq (.block 1 (.seq (.reg 6 [.p (.L (.len false (.t .d0 .d0))),
   .s .d0 .d6 (.L (.nI 1 [.bool false] 1 (.l 0) (.l 0)))])
 (.seq (.seq (.reg 1 [.s .d0 .d4 (.L (.mov (.c (.int .i64 0))))])
 (.block 2 (.loop (.seq (.seq (.reg 12 [.p (.L (.len false (.t .d0 .d0))),
   .s .d0 .d5 (.L (.bin .lss (.t .d0 .d4) (.l 0)))])
 (.cond (.t .d0 .d5) .skip (.exit 2)))
 (.seq (.block 3 (.reg 1968 [.p (.L (.aC 1 (.t .d0 .d0) (.t .d0 .d4))),
   .p (.L (.load (.l 0))),
   .p (.L (.aC 1 (.l 0) (.t .d0 .d2))),
   .p (.L (.load (.l 0))),
   .p (.L (.aC 1 (.t .d0 .d6) (.t .d0 .d4))),
   .p (.H (.store 1 (.l 0) (.l 1)))]))
 (.reg 2 [.s .d0 .d4 (.L (.bin .add (.t .d0 .d4) (.c (.int .i64 1))))]))))))
 (.reg 12 [.p (.L (.bsl 1 1 [.slN] [(0,1,(.t .d0 .d6))])),
   .s .d0 .d7 (.H (.append 1 24 (.t .d0 .d7) (.l 0)))]))))
 (.reg 2 [.s .d0 .d2 (.L (.bin .add (.t .d0 .d2) (.c (.int .i64 1))))]))))))
 (.seq (.reg 2 [.s .d0 .d1 (.L (.mov (.t .d0 .d7)))])
 .ret))))⟩
def i55:Fun:=
 ⟨1,[0,2,3,4,7],[.tmp .d0 .d1, .tmp .d0 .d2, .tmp .d0 .d3],(.seq (.reg 7 [.s .d0 .d1 (.L (.mov (.c (.slN)))),
   .s .d0 .d2 (.L (.mov (.c (.int .i64 0)))),
   .s .d0 .d3 (.L (.mov (.c (.int .i64 0))))])
 (.seq (.seq (.reg 6 [.p (.L (.len true (.t .d0 .d0))),
   .s .d0 .d4 (.L (.bin .gtr (.l 0) (.c (.int .i64 8192))))])
 (.cond (.t .d0 .d4) (.seq (.reg 7 [.s .d0 .d1 (.L (.mov (.c (.slN)))),
   .s .d0 .d2 (.L (.mov (.c (.int .i64 9)))),
   .s .d0 .d3 (.L (.mov (.c (.int .i64 8192))))])
 .ret) .skip))
 (.seq (.reg 254 [.p (.H (.call 80 [(.t .d0 .d0)])),
   .p (.L (.ext 0 (.l 0))),
   .p (.L (.ext 1 (.l 1))),
   .p (.L (.ext 2 (.l 2))),
   .s .d0 .d1 (.L (.mov (.l 2))),
   .s .d0 .d2 (.L (.mov (.l 2))),
   .s .d0 .d3 (.L (.mov (.l 2)))])
 .ret)))⟩
def i57:Fun:=
 ⟨1,[0,2,13,20,5,7,3,6,34,4],[.tmp .d0 .d1],(.seq (.reg 1 [.s .d0 .d1 (.L (.mov (.c (.slN))))])
 (.seq (.reg 2 [.p (.H (.call 82 [(.t .d0 .d0),(.c (.str 6 126909394608492))]))])
 (.seq (.reg 1 [.s .d0 .d6 (.L (.mov (.c (.slN))))])
 (.seq (.block 0 (.loop (.seq (.seq (.reg 14 [.p (.H (.call 83 [(.t .d0 .d0)])),
   .p (.L (.field 0 1 false (.l 0))),
   .s .d0 .d2 (.L (.bin .neq (.l 0) (.c (.int .i64 0))))])
 (.cond (.t .d0 .d2) .skip (.exit 0)))
 (.block 1 (.seq (.reg 118 [.p (.H (.call 83 [(.t .d0 .d0)])),
   .p (.L (.field 2 1 false (.l 0))),
   .p (.H (.call 84 [(.t .d0 .d0)])),
   .s .d1 .d1 (.L (.mov (.l 1))),
   .s .d0 .d4 (.L (.mov (.l 1)))])
 (.seq (.reg 1 [.s .d0 .d7 (.L (.mov (.c (.bool true))))])
 (.seq (.block 2 (.loop (.seq (.seq (.reg 2 [.s .d0 .d3 (.H (.call 85 [(.t .d0 .d0),(.c (.str 1 60))]))])
 (.cond (.t .d0 .d3) .skip (.exit 2)))
 (.block 3 (.seq (.reg 492 [.p (.H (.call 83 [(.t .d0 .d0)])),
   .p (.L (.field 2 1 false (.l 0))),
   .p (.H (.call 84 [(.t .d0 .d0)])),
   .p (.L (.build [.str 0 0, .str 0 0, .int .i64 0] [(0,1,(.t .d0 .d4)),(2,1,(.l 1)),(1,1,(.l 0))])),
   .s .d0 .d5 (.L (.alloc [.str 0 0, .str 0 0, .int .i64 0])),
   .p (.H (.store 3 (.l 0) (.l 1)))])
 (.seq (.reg 14 [.p (.L (.cO 3 (.t .d0 .d5))),
   .p (.L (.bsl 3 1 [.str 0 0, .str 0 0, .int .i64 0] [(0,3,(.l 0))])),
   .s .d0 .d6 (.H (.append 3 40 (.t .d0 .d6) (.l 0)))])
 (.reg 11 [.p (.L (.aA 1 (.t .d0 .d5))),
   .s .d0 .d4 (.L (.load (.l 0))),
   .s .d0 .d7 (.L (.mov (.c (.bool false))))])))))))
 (.seq (.seq (.reg 1 [.s .d1 .d0 (.L (.mov (.t .d0 .d7)))])
 (.cond (.t .d1 .d0) (.reg 56 [.p (.L (.build [.str 0 0, .str 0 0, .int .i64 0] [(0,1,(.t .d0 .d4)),(2,1,(.t .d1 .d1))])),
   .p (.L (.bsl 3 1 [.str 0 0, .str 0 0, .int .i64 0] [(0,3,(.l 0))])),
   .s .d0 .d6 (.H (.append 3 40 (.t .d0 .d6) (.l 0)))]) .skip))
 (.reg 2 [.p (.H (.call 82 [(.t .d0 .d0),(.c (.str 1 59))]))])))))))))
 (.seq (.reg 2 [.s .d0 .d1 (.L (.mov (.t .d0 .d6)))])
 .ret)))))⟩
def i58:Fun:=
 ⟨1,[0,2,3,4,14,6,18,7,38,55,67,70,8,95,102,106,9,5,119,10,132,138,165,11,26],[.tmp .d0 .d1, .tmp .d0 .d2, .tmp .d0 .d3],(.seq (.reg 7 [.s .d0 .d1 (.L (.mov (.c (.slN)))),
   .s .d0 .d2 (.L (.mov (.c (.int .i64 0)))),
   .s .d0 .d3 (.L (.mov (.c (.int .i64 0))))])
 (.seq (.seq (.reg 6 [.p (.L (.len true (.t .d0 .d0))),
   .s .d0 .d4 (.L (.bin .gtr (.l 0) (.c (.int .i64 8192))))])
 (.cond (.t .d0 .d4) (.seq (.reg 7 [.s .d0 .d1 (.L (.mov (.c (.slN)))),
   .s .d0 .d2 (.L (.mov (.c (.int .i64 9)))),
   .s .d0 .d3 (.L (.mov (.c (.int .i64 8192))))])
 .ret) .skip))
 (.seq (.reg 1 [.s .d2 .d1 (.L (.mov (.c (.slN))))])
 (.seq (.seq (.reg 1 [.s .d0 .d5 (.L (.mov (.c (.int .i64 0))))])
 (.block 0 (.loop (.seq (.seq (.reg 12 [.p (.L (.len true (.t .d0 .d0))),
   .s .d0 .d6 (.L (.bin .lss (.t .d0 .d5) (.l 0)))])
 (.cond (.t .d0 .d6) .skip (.exit 0)))
 (.block 1 (.seq (.reg 4 [.s .d0 .d7 (.L (.istr (.t .d0 .d0) (.t .d0 .d5)))])
 (.block 2 (.seq (.reg 15290 [.p (.L (.bin .eql (.t .d0 .d7) (.c (.int .u8 32)))),
   .g (.l 0) false (.L (.mov (.t .d0 .d7))),
   .g (.l 1) false (.L (.bin .eql (.l 0) (.c (.int .u8 9)))),
   .p (.L (.pick (.l 2) (.c (.bool true)) (.l 0))),
   .g (.l 0) false (.L (.mov (.t .d0 .d7))),
   .g (.l 1) false (.L (.bin .eql (.l 0) (.c (.int .u8 10)))),
   .p (.L (.pick (.l 2) (.c (.bool true)) (.l 0))),
   .g (.l 0) false (.L (.mov (.t .d0 .d7))),
   .g (.l 1) false (.L (.bin .eql (.l 0) (.c (.int .u8 13)))),
   .s .d1 .d0 (.L (.pick (.l 2) (.c (.bool true)) (.l 0)))])
 (.cond (.t .d1 .d0) (.reg 2 [.s .d0 .d5 (.L (.bin .add (.t .d0 .d5) (.c (.int .i64 1))))]) (.seq (.reg 2 [.s .d1 .d1 (.L (.bin .eql (.t .d0 .d7) (.c (.int .u8 35))))])
 (.cond (.t .d1 .d1) (.block 3 (.loop (.seq (.seq (.reg 1004 [.p (.L (.len true (.t .d0 .d0))),
   .p (.L (.bin .lss (.t .d0 .d5) (.l 0))),
   .g (.l 0) true (.L (.mov (.t .d0 .d0))),
   .g (.l 1) true (.L (.mov (.t .d0 .d5))),
   .g (.l 2) true (.L (.istr (.l 1) (.l 0))),
   .g (.l 3) true (.L (.bin .neq (.l 0) (.c (.int .u8 10)))),
   .s .d1 .d2 (.L (.pick (.l 4) (.l 0) (.c (.bool false))))])
 (.cond (.t .d1 .d2) .skip (.exit 3)))
 (.block 4 (.reg 2 [.s .d0 .d5 (.L (.bin .add (.t .d0 .d5) (.c (.int .i64 1))))]))))) (.seq (.reg 2 [.s .d1 .d3 (.H (.call 86 [(.t .d0 .d7)]))])
 (.cond (.t .d1 .d3) (.seq (.reg 2 [.s .d1 .d4 (.L (.mov (.t .d0 .d5)))])
 (.seq (.block 5 (.loop (.seq (.seq (.reg 4194284 [.p (.L (.len true (.t .d0 .d0))),
   .p (.L (.bin .lss (.t .d1 .d4) (.l 0))),
   .g (.l 0) true (.L (.mov (.t .d0 .d0))),
   .g (.l 1) true (.L (.mov (.t .d1 .d4))),
   .g (.l 2) true (.L (.istr (.l 1) (.l 0))),
   .g (.l 3) true (.H (.call 86 [(.l 0)])),
   .g (.l 4) true (.L (.mov (.l 0))),
   .g (.l 0) false (.L (.mov (.t .d0 .d0))),
   .g (.l 1) false (.L (.mov (.t .d1 .d4))),
   .g (.l 2) false (.L (.istr (.l 1) (.l 0))),
   .g (.l 3) false (.H (.call 87 [(.l 0)])),
   .g (.l 9) true (.L (.pick (.l 4) (.c (.bool true)) (.l 0))),
   .g (.l 10) true (.L (.mov (.l 0))),
   .g (.l 0) false (.L (.mov (.t .d0 .d0))),
   .g (.l 1) false (.L (.mov (.t .d1 .d4))),
   .g (.l 2) false (.L (.istr (.l 1) (.l 0))),
   .g (.l 3) false (.L (.bin .eql (.l 0) (.c (.int .u8 95)))),
   .g (.l 15) true (.L (.pick (.l 4) (.c (.bool true)) (.l 0))),
   .s .d1 .d5 (.L (.pick (.l 16) (.l 0) (.c (.bool false))))])
 (.cond (.t .d1 .d5) .skip (.exit 5)))
 (.block 6 (.reg 2 [.s .d1 .d4 (.L (.bin .add (.t .d1 .d4) (.c (.int .i64 1))))])))))
 (.seq (.reg 1 [.s .d2 .d0 (.L (.mov (.c (.int .i64 1))))])
 (.seq (.seq (.reg 24 [.p (.L (.sstr (.t .d0 .d0) (some (.t .d0 .d5)) (some (.t .d1 .d4)))),
   .s .d1 .d6 (.H (.call 88 [(.l 0)]))])
 (.cond (.t .d1 .d6) (.reg 1 [.s .d2 .d0 (.L (.mov (.c (.int .i64 3))))]) .skip))
 (.seq (.seq (.reg 12 [.p (.L (.bin .sub (.t .d1 .d4) (.t .d0 .d5))),
   .s .d1 .d7 (.L (.bin .gtr (.l 0) (.c (.int .i64 20))))])
 (.cond (.t .d1 .d7) (.seq (.reg 14 [.s .d0 .d1 (.L (.mov (.c (.slN)))),
   .s .d0 .d2 (.L (.mov (.c (.int .i64 9)))),
   .s .d0 .d3 (.L (.mov (.t .d0 .d5)))])
 .ret) .skip))
 (.seq (.reg 928 [.p (.L (.sstr (.t .d0 .d0) (some (.t .d0 .d5)) (some (.t .d1 .d4)))),
   .p (.L (.build [.int .i64 0, .str 0 0, .int .i64 0] [(0,1,(.t .d2 .d0)),(1,1,(.l 0)),(2,1,(.t .d0 .d5))])),
   .p (.L (.bsl 3 1 [.int .i64 0, .str 0 0, .int .i64 0] [(0,3,(.l 0))])),
   .s .d2 .d1 (.H (.append 3 32 (.t .d2 .d1) (.l 0)))])
 (.reg 2 [.s .d0 .d5 (.L (.mov (.t .d1 .d4)))]))))))) (.seq (.reg 2 [.s .d2 .d2 (.H (.call 87 [(.t .d0 .d7)]))])
 (.cond (.t .d2 .d2) (.seq (.reg 2 [.s .d2 .d3 (.L (.mov (.t .d0 .d5)))])
 (.seq (.block 7 (.loop (.seq (.seq (.reg 1004 [.p (.L (.len true (.t .d0 .d0))),
   .p (.L (.bin .lss (.t .d2 .d3) (.l 0))),
   .g (.l 0) true (.L (.mov (.t .d0 .d0))),
   .g (.l 1) true (.L (.mov (.t .d2 .d3))),
   .g (.l 2) true (.L (.istr (.l 1) (.l 0))),
   .g (.l 3) true (.H (.call 87 [(.l 0)])),
   .s .d2 .d4 (.L (.pick (.l 4) (.l 0) (.c (.bool false))))])
 (.cond (.t .d2 .d4) .skip (.exit 7)))
 (.block 8 (.reg 2 [.s .d2 .d3 (.L (.bin .add (.t .d2 .d3) (.c (.int .i64 1))))])))))
 (.seq (.seq (.reg 12 [.p (.L (.bin .sub (.t .d2 .d3) (.t .d0 .d5))),
   .s .d2 .d5 (.L (.bin .gtr (.l 0) (.c (.int .i64 9))))])
 (.cond (.t .d2 .d5) (.seq (.reg 14 [.s .d0 .d1 (.L (.mov (.c (.slN)))),
   .s .d0 .d2 (.L (.mov (.c (.int .i64 9)))),
   .s .d0 .d3 (.L (.mov (.t .d0 .d5)))])
 .ret) .skip))
 (.seq (.seq (.reg 67108588 [.p (.L (.bin .sub (.t .d2 .d3) (.t .d0 .d5))),
   .p (.L (.bin .gtr (.l 0) (.c (.int .i64 1)))),
   .g (.l 0) true (.L (.mov (.t .d0 .d7))),
   .g (.l 1) true (.L (.bin .eql (.l 0) (.c (.int .u8 48)))),
   .p (.L (.pick (.l 2) (.l 0) (.c (.bool false)))),
   .g (.l 0) false (.L (.mov (.t .d2 .d3))),
   .g (.l 1) false (.L (.mov (.t .d0 .d0))),
   .g (.l 2) false (.L (.len true (.l 0))),
   .g (.l 3) false (.L (.bin .lss (.l 2) (.l 0))),
   .g (.l 4) false (.L (.mov (.l 0))),
   .g (.l 0) true (.L (.mov (.t .d0 .d0))),
   .g (.l 1) true (.L (.mov (.t .d2 .d3))),
   .g (.l 2) true (.L (.istr (.l 1) (.l 0))),
   .g (.l 3) true (.H (.call 86 [(.l 0)])),
   .g (.l 4) true (.L (.mov (.l 0))),
   .g (.l 0) false (.L (.mov (.t .d0 .d0))),
   .g (.l 1) false (.L (.mov (.t .d2 .d3))),
   .g (.l 2) false (.L (.istr (.l 1) (.l 0))),
   .g (.l 3) false (.L (.bin .eql (.l 0) (.c (.int .u8 95)))),
   .g (.l 9) true (.L (.pick (.l 4) (.c (.bool true)) (.l 0))),
   .g (.l 15) false (.L (.pick (.l 10) (.l 0) (.c (.bool false)))),
   .s .d2 .d6 (.L (.pick (.l 16) (.c (.bool true)) (.l 0)))])
 (.cond (.t .d2 .d6) (.seq (.reg 14 [.s .d0 .d1 (.L (.mov (.c (.slN)))),
   .s .d0 .d2 (.L (.mov (.c (.int .i64 10)))),
   .s .d0 .d3 (.L (.mov (.t .d0 .d5)))])
 .ret) .skip))
 (.seq (.reg 464 [.p (.L (.sstr (.t .d0 .d0) (some (.t .d0 .d5)) (some (.t .d2 .d3)))),
   .p (.L (.build [.int .i64 0, .str 0 0, .int .i64 0] [(0,1,(.c (.int .i64 2))),(1,1,(.l 0)),(2,1,(.t .d0 .d5))])),
   .p (.L (.bsl 3 1 [.int .i64 0, .str 0 0, .int .i64 0] [(0,3,(.l 0))])),
   .s .d2 .d1 (.H (.append 3 32 (.t .d2 .d1) (.l 0)))])
 (.reg 2 [.s .d0 .d5 (.L (.mov (.t .d2 .d3)))])))))) (.seq (.reg 4 [.s .d2 .d7 (.H (.call 89 [(.t .d0 .d0),(.t .d0 .d5)]))])
 (.seq (.seq (.reg 2 [.s .d3 .d0 (.L (.bins .eql (.t .d2 .d7) (.c (.str 0 0))))])
 (.cond (.t .d3 .d0) (.seq (.reg 14 [.s .d0 .d1 (.L (.mov (.c (.slN)))),
   .s .d0 .d2 (.L (.mov (.c (.int .i64 10)))),
   .s .d0 .d3 (.L (.mov (.t .d0 .d5)))])
 .ret) .skip))
 (.seq (.reg 56 [.p (.L (.build [.int .i64 0, .str 0 0, .int .i64 0] [(0,1,(.c (.int .i64 4))),(1,1,(.t .d2 .d7)),(2,1,(.t .d0 .d5))])),
   .p (.L (.bsl 3 1 [.int .i64 0, .str 0 0, .int .i64 0] [(0,3,(.l 0))])),
   .s .d2 .d1 (.H (.append 3 32 (.t .d2 .d1) (.l 0)))])
 (.reg 12 [.p (.L (.len true (.t .d2 .d7))),
   .s .d0 .d5 (.L (.bin .add (.t .d0 .d5) (.l 0)))])))))))))))))))))))
 (.seq (.reg 444 [.p (.L (.len true (.t .d0 .d0))),
   .p (.L (.build [.int .i64 0, .str 0 0, .int .i64 0] [(2,1,(.l 0))])),
   .p (.L (.bsl 3 1 [.int .i64 0, .str 0 0, .int .i64 0] [(0,3,(.l 0))])),
   .s .d0 .d1 (.H (.append 3 32 (.t .d2 .d1) (.l 0))),
   .s .d0 .d2 (.L (.mov (.c (.int .i64 0)))),
   .s .d0 .d3 (.L (.mov (.c (.int .i64 0))))])
 .ret)))))⟩
def i59:Fun:=
 ⟨2,[0,1,7],[],(.seq (.reg 12 [.p (.H (.call 63 [(.t .d0 .d0),(.t .d0 .d1)])),
   .s .d0 .d2 (.L (.not (.l 0)))])
 (.cond (.t .d0 .d2) (.reg 2 [.p (.H (.call 90 [(.t .d0 .d0),(.c (.int .i64 11))]))]) .skip))⟩
def i60:Fun:=
 ⟨1,[0,2],[.tmp .d0 .d1],(.seq (.reg 1 [.s .d0 .d1 (.L (.mov (.c (.int .i64 0))))])
 (.seq (.draw [0,1,2,3,4,5,6,7,8,9,10,11] [⟨.p (.L (.mov (.t .d0 .d0))),[]⟩,
   ⟨.p (.L (.nilck (.l 0))),[]⟩,
   ⟨.p (.L (.aA 0 (.l 0))),[]⟩,
   ⟨.p (.L (.load (.l 0))),[]⟩,
   ⟨.p (.L (.mov (.t .d0 .d0))),[]⟩,
   ⟨.p (.L (.nilck (.l 0))),[]⟩,
   ⟨.p (.L (.aA 1 (.l 0))),[]⟩,
   ⟨.p (.L (.load (.l 0))),[]⟩,
   ⟨.p (.L (.aC 3 (.l 4) (.l 0))),[]⟩,
   ⟨.p (.L (.aA 2 (.l 0))),[]⟩,
   ⟨.p (.L (.load (.l 0))),[]⟩,
   ⟨.s .d0 .d1 (.L (.mov (.l 0))),[]⟩])
 .ret))⟩
def i61:Fun:=
 ⟨1,[0,2,3,23],[.tmp .d0 .d1],(.seq (.reg 1 [.s .d0 .d1 (.L (.mov (.c (.str 0 0))))])
 (.seq (.draw [0,1,2,3,4,5,6,7,8,9,10,11] [⟨.p (.L (.mov (.t .d0 .d0))),[]⟩,
   ⟨.p (.L (.nilck (.l 0))),[]⟩,
   ⟨.p (.L (.aA 0 (.l 0))),[]⟩,
   ⟨.p (.L (.load (.l 0))),[]⟩,
   ⟨.p (.L (.mov (.t .d0 .d0))),[]⟩,
   ⟨.p (.L (.nilck (.l 0))),[]⟩,
   ⟨.p (.L (.aA 1 (.l 0))),[]⟩,
   ⟨.p (.L (.load (.l 0))),[]⟩,
   ⟨.p (.L (.aC 3 (.l 4) (.l 0))),[]⟩,
   ⟨.p (.L (.cO 3 (.l 0))),[]⟩,
   ⟨.s .d0 .d2 (.L (.alloc [.int .i64 0, .str 0 0, .int .i64 0])),[]⟩,
   ⟨.p (.H (.store 3 (.l 0) (.l 1))),[]⟩])
 (.seq (.seq (.reg 990 [.p (.L (.nilck (.t .d0 .d0))),
   .p (.L (.aA 3 (.l 0))),
   .p (.L (.load (.l 0))),
   .p (.L (.bin .neq (.l 0) (.c (.int .i64 0)))),
   .g (.l 0) false (.L (.aA 0 (.t .d0 .d2))),
   .g (.l 1) false (.L (.load (.l 0))),
   .g (.l 2) false (.L (.bin .neq (.l 0) (.c (.int .i64 1)))),
   .s .d0 .d3 (.L (.pick (.l 3) (.c (.bool true)) (.l 0)))])
 (.cond (.t .d0 .d3) (.seq (.reg 2 [.p (.H (.call 90 [(.t .d0 .d0),(.c (.int .i64 11))]))])
 (.seq (.reg 1 [.s .d0 .d1 (.L (.mov (.c (.str 0 0))))])
 .ret)) .skip))
 (.seq (.reg 254 [.p (.L (.nilck (.t .d0 .d0))),
   .p (.L (.aA 1 (.l 0))),
   .p (.L (.load (.l 0))),
   .p (.L (.bin .add (.l 0) (.c (.int .i64 1)))),
   .p (.L (.nilck (.t .d0 .d0))),
   .p (.L (.aA 1 (.l 0))),
   .p (.H (.store 1 (.l 0) (.l 2)))])
 (.seq (.reg 3 [.p (.L (.aA 1 (.t .d0 .d2))),
   .s .d0 .d1 (.L (.load (.l 0)))])
 .ret)))))⟩
def i62:Fun:=
 ⟨2,[0,1,4,5],[.tmp .d0 .d2],(.seq (.reg 1 [.s .d0 .d2 (.L (.mov (.c (.bool false))))])
 (.seq (.draw [0,1,2,3,4,5,6,7,8,9,10,11] [⟨.p (.L (.mov (.t .d0 .d0))),[]⟩,
   ⟨.p (.L (.nilck (.l 0))),[]⟩,
   ⟨.p (.L (.aA 0 (.l 0))),[]⟩,
   ⟨.p (.L (.load (.l 0))),[]⟩,
   ⟨.p (.L (.mov (.t .d0 .d0))),[]⟩,
   ⟨.p (.L (.nilck (.l 0))),[]⟩,
   ⟨.p (.L (.aA 1 (.l 0))),[]⟩,
   ⟨.p (.L (.load (.l 0))),[]⟩,
   ⟨.p (.L (.aC 3 (.l 4) (.l 0))),[]⟩,
   ⟨.p (.L (.cO 3 (.l 0))),[]⟩,
   ⟨.s .d0 .d3 (.L (.alloc [.int .i64 0, .str 0 0, .int .i64 0])),[]⟩,
   ⟨.p (.H (.store 3 (.l 0) (.l 1))),[]⟩])
 (.seq (.reg 2064350 [.p (.L (.nilck (.t .d0 .d0))),
   .p (.L (.aA 3 (.l 0))),
   .p (.L (.load (.l 0))),
   .p (.L (.bin .eql (.l 0) (.c (.int .i64 0)))),
   .g (.l 0) true (.L (.aA 0 (.t .d0 .d3))),
   .g (.l 1) true (.L (.load (.l 0))),
   .g (.l 2) true (.L (.bin .eql (.l 0) (.c (.int .i64 4)))),
   .g (.l 3) true (.L (.mov (.l 0))),
   .g (.l 0) false (.L (.aA 0 (.t .d0 .d3))),
   .g (.l 1) false (.L (.load (.l 0))),
   .g (.l 2) false (.L (.bin .eql (.l 0) (.c (.int .i64 3)))),
   .g (.l 7) true (.L (.pick (.l 3) (.c (.bool true)) (.l 0))),
   .p (.L (.pick (.l 8) (.l 0) (.c (.bool false)))),
   .g (.l 0) true (.L (.aA 1 (.t .d0 .d3))),
   .g (.l 1) true (.L (.load (.l 0))),
   .g (.l 2) true (.L (.mov (.t .d0 .d1))),
   .g (.l 3) true (.L (.bins .eql (.l 1) (.l 0))),
   .s .d0 .d2 (.L (.pick (.l 4) (.l 0) (.c (.bool false))))])
 .ret)))⟩
def i63:Fun:=
 ⟨2,[0,1,4,8],[.tmp .d0 .d2],(.seq (.reg 1 [.s .d0 .d2 (.L (.mov (.c (.bool false))))])
 (.seq (.seq (.reg 12 [.p (.H (.call 62 [(.t .d0 .d0),(.t .d0 .d1)])),
   .s .d0 .d3 (.L (.not (.l 0)))])
 (.cond (.t .d0 .d3) (.seq (.reg 1 [.s .d0 .d2 (.L (.mov (.c (.bool false))))])
 .ret) .skip))
 (.seq (.reg 254 [.p (.L (.nilck (.t .d0 .d0))),
   .p (.L (.aA 1 (.l 0))),
   .p (.L (.load (.l 0))),
   .p (.L (.bin .add (.l 0) (.c (.int .i64 1)))),
   .p (.L (.nilck (.t .d0 .d0))),
   .p (.L (.aA 1 (.l 0))),
   .p (.H (.store 1 (.l 0) (.l 2)))])
 (.seq (.reg 1 [.s .d0 .d2 (.L (.mov (.c (.bool true))))])
 .ret))))⟩
def i79:Fun:=
 ⟨2,[0,1,4,5,11,7,21,6,41],[.tmp .d0 .d2],(.seq (.reg 1 [.s .d0 .d2 (.L (.mov (.c (.int .i64 0))))])
 (.seq (.seq (.reg 1 [.s .d0 .d3 (.L (.mov (.c (.int .i64 0))))])
 (.block 0 (.loop (.seq (.seq (.reg 12 [.p (.L (.len false (.t .d0 .d1))),
   .s .d0 .d4 (.L (.bin .lss (.t .d0 .d3) (.l 0)))])
 (.cond (.t .d0 .d4) .skip (.exit 0)))
 (.seq (.block 1 (.seq (.reg 12 [.p (.L (.aC 1 (.t .d0 .d1) (.t .d0 .d3))),
   .s .d0 .d7 (.L (.load (.l 0)))])
 (.seq (.seq (.reg 1 [.s .d0 .d5 (.L (.mov (.c (.int .i64 0))))])
 (.block 2 (.loop (.seq (.seq (.reg 12 [.p (.L (.len false (.t .d0 .d1))),
   .s .d0 .d6 (.L (.bin .lss (.t .d0 .d5) (.l 0)))])
 (.cond (.t .d0 .d6) .skip (.exit 2)))
 (.seq (.block 3 (.reg 131068 [.g (.t .d0 .d7) true (.L (.mov (.t .d0 .d1))),
   .g (.t .d0 .d7) true (.L (.mov (.t .d0 .d5))),
   .g (.t .d0 .d7) true (.L (.aC 1 (.l 1) (.l 0))),
   .g (.t .d0 .d7) true (.L (.load (.l 0))),
   .g (.t .d0 .d7) true (.L (.not (.l 0))),
   .g (.t .d0 .d7) true (.L (.mov (.l 0))),
   .g (.l 0) false (.L (.mov (.t .d0 .d0))),
   .g (.l 1) false (.L (.mov (.t .d0 .d3))),
   .g (.l 2) false (.L (.aC 1 (.l 1) (.l 0))),
   .g (.l 3) false (.L (.load (.l 0))),
   .g (.l 4) false (.L (.mov (.t .d0 .d5))),
   .g (.l 5) false (.L (.aC 1 (.l 1) (.l 0))),
   .g (.l 6) false (.L (.load (.l 0))),
   .g (.t .d0 .d7) true (.L (.pick (.l 7) (.c (.bool true)) (.l 0))),
   .s .d0 .d7 (.L (.pick (.t .d0 .d7) (.l 0) (.c (.bool false))))]))
 (.reg 2 [.s .d0 .d5 (.L (.bin .add (.t .d0 .d5) (.c (.int .i64 1))))]))))))
 (.seq (.reg 1 [.s .d1 .d0 (.L (.mov (.t .d0 .d7)))])
 (.cond (.t .d1 .d0) (.seq (.reg 2 [.s .d0 .d2 (.L (.mov (.t .d0 .d3)))])
 .ret) .skip)))))
 (.reg 2 [.s .d0 .d3 (.L (.bin .add (.t .d0 .d3) (.c (.int .i64 1))))]))))))
 (.seq (.reg 1 [.s .d0 .d2 (.L (.mov (.c (.int .i64 (-1)))))])
 .ret)))⟩
def i80:Fun:=
 ⟨1,[0,2,3,4,5,1,17,9,32,49,6,54,11,64,31,12,78,8,10,7],[.tmp .d0 .d1, .tmp .d0 .d2, .tmp .d0 .d3],(.seq (.reg 15 [.s .d0 .d5 (.L (.box 1 (.t .d0 .d0))),
   .s .d0 .d1 (.L (.mov (.c (.slN)))),
   .s .d0 .d2 (.L (.mov (.c (.int .i64 0)))),
   .s .d0 .d3 (.L (.mov (.c (.int .i64 0))))])
 (.seq (.reg 3 [.s .d0 .d4 (.L (.alloc [.int .i64 0])),
   .p (.H (.store 1 (.l 0) (.c (.int .i64 0))))])
 (.seq (.reg 1 [.s .d1 .d2 (.L (.fn 99 [] [(.t .d0 .d4),(.t .d0 .d5)]))])
 (.seq (.reg 1 [.s .d2 .d3 (.L (.mov (.c (.slN))))])
 (.seq (.block 0 (.loop (.seq (.seq (.reg 15 [.p (.L (.load (.t .d0 .d4))),
   .p (.L (.load (.t .d0 .d5))),
   .p (.L (.len true (.l 0))),
   .s .d0 .d6 (.L (.bin .lss (.l 2) (.l 0)))])
 (.cond (.t .d0 .d6) .skip (.exit 0)))
 (.block 1 (.seq (.draw [0,1,2,3,4,5] [⟨.p (.L (.load (.t .d0 .d4))),[]⟩,
   ⟨.p (.L (.load (.t .d0 .d5))),[]⟩,
   ⟨.p (.L (.load (.t .d0 .d4))),[]⟩,
   ⟨.p (.L (.istr (.l 1) (.l 0))),[]⟩,
   ⟨.s .d2 .d1 (.L (.mov (.l 3))),[]⟩,
   ⟨.s .d0 .d7 (.L (.mov (.l 1))),[]⟩])
 (.seq (.reg 7 [.s .d2 .d2 (.L (.mov (.c (.int .i64 0)))),
   .s .d1 .d4 (.L (.mov (.c (.str 0 0)))),
   .s .d1 .d7 (.L (.mov (.c (.int .i64 0))))])
 (.seq (.block 2 (.seq (.reg 15290 [.p (.L (.bin .eql (.t .d0 .d7) (.c (.int .u8 32)))),
   .g (.l 0) false (.L (.mov (.t .d0 .d7))),
   .g (.l 1) false (.L (.bin .eql (.l 0) (.c (.int .u8 9)))),
   .p (.L (.pick (.l 2) (.c (.bool true)) (.l 0))),
   .g (.l 0) false (.L (.mov (.t .d0 .d7))),
   .g (.l 1) false (.L (.bin .eql (.l 0) (.c (.int .u8 10)))),
   .p (.L (.pick (.l 2) (.c (.bool true)) (.l 0))),
   .g (.l 0) false (.L (.mov (.t .d0 .d7))),
   .g (.l 1) false (.L (.bin .eql (.l 0) (.c (.int .u8 13)))),
   .s .d1 .d0 (.L (.pick (.l 2) (.c (.bool true)) (.l 0)))])
 (.cond (.t .d1 .d0) (.seq (.reg 7 [.p (.L (.load (.t .d0 .d4))),
   .p (.L (.bin .add (.l 0) (.c (.int .i64 1)))),
   .p (.H (.store 1 (.t .d0 .d4) (.l 0)))])
 (.exit 1)) (.seq (.reg 2 [.s .d1 .d1 (.L (.bin .eql (.t .d0 .d7) (.c (.int .u8 35))))])
 (.cond (.t .d1 .d1) (.seq (.reg 2 [.p (.H (.dS (.t .d1 .d2) [(.c (.fn 100 [] []))]))])
 (.exit 1)) (.seq (.reg 2 [.s .d1 .d3 (.H (.call 101 [(.t .d0 .d7)]))])
 (.cond (.t .d1 .d3) (.seq (.reg 2 [.s .d1 .d4 (.H (.dS (.t .d1 .d2) [(.c (.fn 102 [] []))]))])
 (.reg 122 [.p (.H (.call 103 [(.t .d1 .d4)])),
   .p (.L (.ext 0 (.l 0))),
   .p (.L (.ext 1 (.l 1))),
   .s .d2 .d2 (.L (.mov (.l 1))),
   .s .d1 .d7 (.L (.mov (.l 1)))])) (.seq (.reg 2 [.s .d1 .d5 (.H (.call 104 [(.t .d0 .d7)]))])
 (.cond (.t .d1 .d5) (.seq (.reg 2 [.s .d1 .d4 (.H (.dS (.t .d1 .d2) [(.c (.fn 104 [] []))]))])
 (.reg 990 [.p (.L (.load (.t .d0 .d5))),
   .p (.L (.load (.t .d0 .d4))),
   .p (.L (.sstr (.l 1) (some (.l 0)) none)),
   .p (.H (.call 105 [(.t .d1 .d4),(.l 0)])),
   .p (.L (.ext 0 (.l 0))),
   .p (.L (.ext 1 (.l 1))),
   .s .d2 .d2 (.L (.mov (.l 1))),
   .s .d1 .d7 (.L (.mov (.l 1)))])) (.seq (.reg 63 [.p (.L (.load (.t .d0 .d5))),
   .p (.L (.load (.t .d0 .d4))),
   .p (.L (.sstr (.l 1) (some (.l 0)) none)),
   .p (.H (.call 106 [(.l 0)])),
   .s .d2 .d2 (.L (.mov (.c (.int .i64 4)))),
   .s .d1 .d4 (.L (.mov (.l 1)))])
 (.seq (.reg 29 [.p (.L (.load (.t .d0 .d4))),
   .p (.L (.len true (.t .d1 .d4))),
   .p (.L (.bin .add (.l 1) (.l 0))),
   .p (.H (.store 1 (.t .d0 .d4) (.l 0)))])
 (.seq (.reg 2 [.s .d1 .d6 (.L (.bins .eql (.t .d1 .d4) (.c (.str 0 0))))])
 (.cond (.t .d1 .d6) (.reg 1 [.s .d1 .d7 (.L (.mov (.c (.int .i64 10))))]) .skip)))))))))))))
 (.seq (.seq (.reg 2 [.s .d2 .d0 (.L (.bin .neq (.t .d1 .d7) (.c (.int .i64 0))))])
 (.cond (.t .d2 .d0) (.seq (.reg 28 [.s .d0 .d1 (.L (.mov (.c (.slN)))),
   .s .d0 .d2 (.L (.mov (.t .d1 .d7))),
   .s .d0 .d3 (.L (.mov (.t .d2 .d1)))])
 .ret) .skip))
 (.reg 112 [.p (.L (.build [.int .i64 0, .str 0 0, .int .i64 0] [(0,1,(.t .d2 .d2)),(1,1,(.t .d1 .d4)),(2,1,(.t .d2 .d1))])),
   .p (.L (.bsl 3 1 [.int .i64 0, .str 0 0, .int .i64 0] [(0,3,(.l 0))])),
   .s .d2 .d3 (.H (.append 3 32 (.t .d2 .d3) (.l 0)))])))))))))
 (.seq (.reg 446 [.p (.L (.load (.t .d0 .d5))),
   .p (.L (.len true (.l 0))),
   .p (.L (.build [.int .i64 0, .str 0 0, .int .i64 0] [(0,1,(.c (.int .i64 0))),(2,1,(.l 0))])),
   .p (.L (.bsl 3 1 [.int .i64 0, .str 0 0, .int .i64 0] [(0,3,(.l 0))])),
   .s .d0 .d1 (.H (.append 3 32 (.t .d2 .d3) (.l 0))),
   .s .d0 .d2 (.L (.mov (.c (.int .i64 0)))),
   .s .d0 .d3 (.L (.mov (.c (.int .i64 0))))])
 .ret))))))⟩
def i82:Fun:=
 ⟨2,[0,1,4,12,5],[.tmp .d0 .d2],(.seq (.reg 1 [.s .d0 .d2 (.L (.mov (.c (.int .i64 0))))])
 (.seq (.reg 6 [.p (.H (.call 83 [(.t .d0 .d0)])),
   .s .d0 .d4 (.L (.field 2 1 false (.l 0)))])
 (.seq (.seq (.reg 12 [.p (.H (.call 85 [(.t .d0 .d0),(.t .d0 .d1)])),
   .s .d0 .d3 (.L (.not (.l 0)))])
 (.cond (.t .d0 .d3) (.reg 2 [.p (.H (.call 107 [(.t .d0 .d0),(.c (.int .i64 11))]))]) .skip))
 (.seq (.reg 2 [.s .d0 .d2 (.L (.mov (.t .d0 .d4)))])
 .ret))))⟩
def i83:Fun:=
 ⟨1,[0,2],[.cell .d0 .d1 (some 3)],(.seq (.reg 1 [.s .d0 .d1 (.L (.alloc [.int .i64 0, .str 0 0, .int .i64 0]))])
 (.seq (.draw [0,1,2,3,4,5,6,7,8,9,10] [⟨.p (.L (.mov (.t .d0 .d0))),[]⟩,
   ⟨.p (.L (.nilck (.l 0))),[]⟩,
   ⟨.p (.L (.aA 0 (.l 0))),[]⟩,
   ⟨.p (.L (.load (.l 0))),[]⟩,
   ⟨.p (.L (.mov (.t .d0 .d0))),[]⟩,
   ⟨.p (.L (.nilck (.l 0))),[]⟩,
   ⟨.p (.L (.aA 1 (.l 0))),[]⟩,
   ⟨.p (.L (.load (.l 0))),[]⟩,
   ⟨.p (.L (.aC 3 (.l 4) (.l 0))),[]⟩,
   ⟨.p (.L (.cO 3 (.l 0))),[]⟩,
   ⟨.p (.H (.store 3 (.t .d0 .d1) (.l 0))),[]⟩])
 .ret))⟩
def i84:Fun:=
 ⟨1,[0,2],[.tmp .d0 .d1],(.seq (.reg 1 [.s .d0 .d1 (.L (.mov (.c (.str 0 0))))])
 (.seq (.reg 6 [.p (.H (.call 108 [(.t .d0 .d0),(.c (.int .i64 1))])),
   .s .d0 .d1 (.L (.field 1 1 false (.l 0)))])
 .ret))⟩
def i85:Fun:=
 ⟨2,[0,1,4,5,9],[.tmp .d0 .d2],(.seq (.reg 1 [.s .d0 .d2 (.L (.mov (.c (.bool false))))])
 (.seq (.reg 4 [.s .d0 .d3 (.H (.call 109 [(.t .d0 .d0),(.t .d0 .d1)]))])
 (.seq (.seq (.reg 1 [.s .d0 .d4 (.L (.mov (.t .d0 .d3)))])
 (.cond (.t .d0 .d4) (.reg 254 [.p (.L (.nilck (.t .d0 .d0))),
   .p (.L (.aA 1 (.l 0))),
   .p (.L (.load (.l 0))),
   .p (.L (.bin .add (.l 0) (.c (.int .i64 1)))),
   .p (.L (.nilck (.t .d0 .d0))),
   .p (.L (.aA 1 (.l 0))),
   .p (.H (.store 1 (.l 0) (.l 2)))]) .skip))
 (.seq (.reg 2 [.s .d0 .d2 (.L (.mov (.t .d0 .d3)))])
 .ret))))⟩
def i86:Fun:=
 ⟨1,[0,2],[.tmp .d0 .d1],(.seq (.reg 1 [.s .d0 .d1 (.L (.mov (.c (.bool false))))])
 (.seq (.reg 58 [.p (.L (.bin .geq (.t .d0 .d0) (.c (.int .u8 97)))),
   .g (.l 0) true (.L (.mov (.t .d0 .d0))),
   .g (.l 1) true (.L (.bin .leq (.l 0) (.c (.int .u8 122)))),
   .s .d0 .d1 (.L (.pick (.l 2) (.l 0) (.c (.bool false))))])
 .ret))⟩
def i87:Fun:=
 ⟨1,[0,2],[.tmp .d0 .d1],(.seq (.reg 1 [.s .d0 .d1 (.L (.mov (.c (.bool false))))])
 (.seq (.reg 58 [.p (.L (.bin .geq (.t .d0 .d0) (.c (.int .u8 48)))),
   .g (.l 0) true (.L (.mov (.t .d0 .d0))),
   .g (.l 1) true (.L (.bin .leq (.l 0) (.c (.int .u8 57)))),
   .s .d0 .d1 (.L (.pick (.l 2) (.l 0) (.c (.bool false))))])
 .ret))⟩
def i88:Fun:=
 ⟨1,[0,2,3,4],[.tmp .d0 .d1],(.seq (.reg 1 [.s .d0 .d1 (.L (.mov (.c (.bool false))))])
 (.seq (.seq (.reg 1 [.s .d0 .d2 (.L (.mov (.t .d0 .d0)))])
 (.block 0 (.seq (.seq (.reg 1 [.s .d0 .d3 (.L (.bins .eql (.t .d0 .d2) (.c (.str 6 111516500389741))))])
 (.cond (.t .d0 .d3) .skip (.seq (.reg 1 [.s .d0 .d3 (.L (.bins .eql (.t .d0 .d2) (.c (.str 6 128034844732777))))])
 (.cond (.t .d0 .d3) .skip (.seq (.reg 1 [.s .d0 .d3 (.L (.bins .eql (.t .d0 .d2) (.c (.str 3 7496054))))])
 (.cond (.t .d0 .d3) .skip (.seq (.reg 1 [.s .d0 .d3 (.L (.bins .eql (.t .d0 .d2) (.c (.str 4 1668248176))))])
 (.cond (.t .d0 .d3) .skip (.seq (.reg 1 [.s .d0 .d3 (.L (.bins .eql (.t .d0 .d2) (.c (.str 2 25456))))])
 (.cond (.t .d0 .d3) .skip (.seq (.reg 1 [.s .d0 .d3 (.L (.bins .eql (.t .d0 .d2) (.c (.str 4 1936028533))))])
 (.cond (.t .d0 .d3) .skip (.seq (.reg 1 [.s .d0 .d3 (.L (.bins .eql (.t .d0 .d2) (.c (.str 3 7628140))))])
 (.cond (.t .d0 .d3) .skip (.seq (.reg 1 [.s .d0 .d3 (.L (.bins .eql (.t .d0 .d2) (.c (.str 4 1819042147))))])
 (.cond (.t .d0 .d3) .skip (.seq (.reg 1 [.s .d0 .d3 (.L (.bins .eql (.t .d0 .d2) (.c (.str 2 26217))))])
 (.cond (.t .d0 .d3) .skip (.seq (.reg 1 [.s .d0 .d3 (.L (.bins .eql (.t .d0 .d2) (.c (.str 4 1702063205))))])
 (.cond (.t .d0 .d3) .skip (.seq (.reg 1 [.s .d0 .d3 (.L (.bins .eql (.t .d0 .d2) (.c (.str 5 435610544247))))])
 (.cond (.t .d0 .d3) .skip (.seq (.reg 1 [.s .d0 .d3 (.L (.bins .eql (.t .d0 .d2) (.c (.str 4 1953066341))))])
 (.cond (.t .d0 .d3) .skip (.seq (.reg 1 [.s .d0 .d3 (.L (.bins .eql (.t .d0 .d2) (.c (.str 6 128009175786866))))])
 (.cond (.t .d0 .d3) .skip (.seq (.reg 1 [.s .d0 .d3 (.L (.bins .eql (.t .d0 .d2) (.c (.str 4 1885956979))))])
 (.cond (.t .d0 .d3) .skip (.reg 1 [.s .d0 .d3 (.L (.bins .eql (.t .d0 .d2) (.c (.str 6 126909394608492))))])))))))))))))))))))))))))))))
 (.cond (.t .d0 .d3) (.seq (.reg 1 [.s .d0 .d1 (.L (.mov (.c (.bool true))))])
 .ret) .skip))))
 (.seq (.reg 1 [.s .d0 .d1 (.L (.mov (.c (.bool false))))])
 .ret)))⟩
def i89:Fun:=
 ⟨2,[0,1,4,9,14,15,26,27],[.tmp .d0 .d2],(.seq (.reg 1 [.s .d0 .d2 (.L (.mov (.c (.str 0 0))))])
 (.seq (.seq (.reg 26 [.p (.L (.bin .add (.t .d0 .d1) (.c (.int .i64 1)))),
   .p (.L (.len true (.t .d0 .d0))),
   .s .d0 .d3 (.L (.bin .lss (.l 1) (.l 0)))])
 (.cond (.t .d0 .d3) (.seq (.reg 24 [.p (.L (.bin .add (.t .d0 .d1) (.c (.int .i64 2)))),
   .s .d0 .d4 (.L (.sstr (.t .d0 .d0) (some (.t .d0 .d1)) (some (.l 0))))])
 (.block 0 (.seq (.seq (.reg 1 [.s .d0 .d5 (.L (.bins .eql (.t .d0 .d4) (.c (.str 2 15677))))])
 (.cond (.t .d0 .d5) .skip (.seq (.reg 1 [.s .d0 .d5 (.L (.bins .eql (.t .d0 .d4) (.c (.str 2 15676))))])
 (.cond (.t .d0 .d5) .skip (.reg 1 [.s .d0 .d5 (.L (.bins .eql (.t .d0 .d4) (.c (.str 2 15917))))])))))
 (.cond (.t .d0 .d5) (.seq (.reg 24 [.p (.L (.bin .add (.t .d0 .d1) (.c (.int .i64 2)))),
   .s .d0 .d2 (.L (.sstr (.t .d0 .d0) (some (.t .d0 .d1)) (some (.l 0))))])
 .ret) .skip)))) .skip))
 (.seq (.seq (.reg 4 [.s .d0 .d6 (.L (.istr (.t .d0 .d0) (.t .d0 .d1)))])
 (.block 1 (.seq (.seq (.reg 1 [.s .d0 .d7 (.L (.bin .eql (.t .d0 .d6) (.c (.int .u8 40))))])
 (.cond (.t .d0 .d7) .skip (.seq (.reg 1 [.s .d0 .d7 (.L (.bin .eql (.t .d0 .d6) (.c (.int .u8 41))))])
 (.cond (.t .d0 .d7) .skip (.seq (.reg 1 [.s .d0 .d7 (.L (.bin .eql (.t .d0 .d6) (.c (.int .u8 123))))])
 (.cond (.t .d0 .d7) .skip (.seq (.reg 1 [.s .d0 .d7 (.L (.bin .eql (.t .d0 .d6) (.c (.int .u8 125))))])
 (.cond (.t .d0 .d7) .skip (.seq (.reg 1 [.s .d0 .d7 (.L (.bin .eql (.t .d0 .d6) (.c (.int .u8 44))))])
 (.cond (.t .d0 .d7) .skip (.seq (.reg 1 [.s .d0 .d7 (.L (.bin .eql (.t .d0 .d6) (.c (.int .u8 59))))])
 (.cond (.t .d0 .d7) .skip (.seq (.reg 1 [.s .d0 .d7 (.L (.bin .eql (.t .d0 .d6) (.c (.int .u8 58))))])
 (.cond (.t .d0 .d7) .skip (.seq (.reg 1 [.s .d0 .d7 (.L (.bin .eql (.t .d0 .d6) (.c (.int .u8 46))))])
 (.cond (.t .d0 .d7) .skip (.seq (.reg 1 [.s .d0 .d7 (.L (.bin .eql (.t .d0 .d6) (.c (.int .u8 61))))])
 (.cond (.t .d0 .d7) .skip (.seq (.reg 1 [.s .d0 .d7 (.L (.bin .eql (.t .d0 .d6) (.c (.int .u8 60))))])
 (.cond (.t .d0 .d7) .skip (.seq (.reg 1 [.s .d0 .d7 (.L (.bin .eql (.t .d0 .d6) (.c (.int .u8 43))))])
 (.cond (.t .d0 .d7) .skip (.seq (.reg 1 [.s .d0 .d7 (.L (.bin .eql (.t .d0 .d6) (.c (.int .u8 45))))])
 (.cond (.t .d0 .d7) .skip (.seq (.reg 1 [.s .d0 .d7 (.L (.bin .eql (.t .d0 .d6) (.c (.int .u8 42))))])
 (.cond (.t .d0 .d7) .skip (.seq (.reg 1 [.s .d0 .d7 (.L (.bin .eql (.t .d0 .d6) (.c (.int .u8 47))))])
 (.cond (.t .d0 .d7) .skip (.seq (.reg 1 [.s .d0 .d7 (.L (.bin .eql (.t .d0 .d6) (.c (.int .u8 37))))])
 (.cond (.t .d0 .d7) .skip (.reg 1 [.s .d0 .d7 (.L (.bin .eql (.t .d0 .d6) (.c (.int .u8 33))))])))))))))))))))))))))))))))))))
 (.cond (.t .d0 .d7) (.seq (.reg 24 [.p (.L (.bin .add (.t .d0 .d1) (.c (.int .i64 1)))),
   .s .d0 .d2 (.L (.sstr (.t .d0 .d0) (some (.t .d0 .d1)) (some (.l 0))))])
 .ret) .skip))))
 (.seq (.reg 1 [.s .d0 .d2 (.L (.mov (.c (.str 0 0))))])
 .ret))))⟩
def i90:Fun:=
 ⟨2,[0,1,8],[],(.seq (.reg 30 [.p (.L (.nilck (.t .d0 .d0))),
   .p (.L (.aA 3 (.l 0))),
   .p (.L (.load (.l 0))),
   .s .d0 .d2 (.L (.bin .eql (.l 0) (.c (.int .i64 0))))])
 (.cond (.t .d0 .d2) (.seq (.reg 28 [.p (.L (.nilck (.t .d0 .d0))),
   .p (.L (.aA 3 (.l 0))),
   .p (.H (.store 1 (.l 0) (.t .d0 .d1)))])
 (.draw [0,1,2,3,4,5,6,7,8,9,10,11,12,13,14] [⟨.p (.L (.mov (.t .d0 .d0))),[]⟩,
   ⟨.p (.L (.mov (.t .d0 .d0))),[]⟩,
   ⟨.p (.L (.nilck (.l 0))),[]⟩,
   ⟨.p (.L (.aA 0 (.l 0))),[]⟩,
   ⟨.p (.L (.load (.l 0))),[]⟩,
   ⟨.p (.L (.mov (.t .d0 .d0))),[]⟩,
   ⟨.p (.L (.nilck (.l 0))),[]⟩,
   ⟨.p (.L (.aA 1 (.l 0))),[]⟩,
   ⟨.p (.L (.load (.l 0))),[]⟩,
   ⟨.p (.L (.aC 3 (.l 4) (.l 0))),[]⟩,
   ⟨.p (.L (.aA 2 (.l 0))),[]⟩,
   ⟨.p (.L (.load (.l 0))),[]⟩,
   ⟨.p (.L (.nilck (.l 11))),[]⟩,
   ⟨.p (.L (.aA 4 (.l 0))),[]⟩,
   ⟨.p (.H (.store 1 (.l 0) (.l 2))),[]⟩])) .skip))⟩
def i99:Fun:=
 ⟨3,[0,1,2,4,17,5],[.tmp .d0 .d3],(.seq (.reg 1 [.s .d0 .d3 (.L (.mov (.c (.str 0 0))))])
 (.seq (.reg 1 [.s .d0 .d5 (.L (.load (.t .d0 .d1)))])
 (.seq (.block 0 (.loop (.seq (.seq (.reg 2031 [.p (.L (.load (.t .d0 .d1))),
   .p (.L (.load (.t .d0 .d2))),
   .p (.L (.len true (.l 0))),
   .p (.L (.bin .lss (.l 2) (.l 0))),
   .g (.l 0) true (.L (.mov (.t .d0 .d0))),
   .g (.l 1) true (.L (.load (.t .d0 .d2))),
   .g (.l 2) true (.L (.load (.t .d0 .d1))),
   .g (.l 3) true (.L (.istr (.l 1) (.l 0))),
   .g (.l 4) true (.H (.dS (.l 3) [(.l 0)])),
   .s .d0 .d4 (.L (.pick (.l 5) (.l 0) (.c (.bool false))))])
 (.cond (.t .d0 .d4) .skip (.exit 0)))
 (.block 1 (.reg 7 [.p (.L (.load (.t .d0 .d1))),
   .p (.L (.bin .add (.l 0) (.c (.int .i64 1)))),
   .p (.H (.store 1 (.t .d0 .d1) (.l 0)))])))))
 (.seq (.reg 13 [.p (.L (.load (.t .d0 .d2))),
   .p (.L (.load (.t .d0 .d1))),
   .s .d0 .d3 (.L (.sstr (.l 1) (some (.t .d0 .d5)) (some (.l 0))))])
 .ret))))⟩
def i100:Fun:=
 ⟨1,[0,2],[.tmp .d0 .d1],(.seq (.reg 1 [.s .d0 .d1 (.L (.mov (.c (.bool false))))])
 (.seq (.reg 2 [.s .d0 .d1 (.L (.bin .neq (.t .d0 .d0) (.c (.int .u8 10))))])
 .ret))⟩
def i101:Fun:=
 ⟨1,[0,2],[.tmp .d0 .d1],(.seq (.reg 1 [.s .d0 .d1 (.L (.mov (.c (.bool false))))])
 (.seq (.reg 58 [.p (.L (.bin .geq (.t .d0 .d0) (.c (.int .u8 97)))),
   .g (.l 0) true (.L (.mov (.t .d0 .d0))),
   .g (.l 1) true (.L (.bin .leq (.l 0) (.c (.int .u8 122)))),
   .s .d0 .d1 (.L (.pick (.l 2) (.l 0) (.c (.bool false))))])
 .ret))⟩
def i102:Fun:=
 ⟨1,[0,2],[.tmp .d0 .d1],(.seq (.reg 1 [.s .d0 .d1 (.L (.mov (.c (.bool false))))])
 (.seq (.reg 954 [.p (.H (.call 101 [(.t .d0 .d0)])),
   .g (.l 0) false (.L (.mov (.t .d0 .d0))),
   .g (.l 1) false (.H (.call 104 [(.l 0)])),
   .p (.L (.pick (.l 2) (.c (.bool true)) (.l 0))),
   .g (.l 0) false (.L (.mov (.t .d0 .d0))),
   .g (.l 1) false (.L (.bin .eql (.l 0) (.c (.int .u8 95)))),
   .s .d0 .d1 (.L (.pick (.l 2) (.c (.bool true)) (.l 0)))])
 .ret))⟩
def i103:Fun:=
 ⟨1,[0,2,3,4,7],[.tmp .d0 .d1, .tmp .d0 .d2],(.seq (.reg 3 [.s .d0 .d1 (.L (.mov (.c (.int .i64 0)))),
   .s .d0 .d2 (.L (.mov (.c (.int .i64 0))))])
 (.seq (.block 0 (.seq (.reg 2 [.s .d0 .d3 (.H (.call 111 [(.t .d0 .d0)]))])
 (.cond (.t .d0 .d3) (.seq (.reg 3 [.s .d0 .d1 (.L (.mov (.c (.int .i64 3)))),
   .s .d0 .d2 (.L (.mov (.c (.int .i64 0))))])
 .ret) (.seq (.reg 6 [.p (.L (.len true (.t .d0 .d0))),
   .s .d0 .d4 (.L (.bin .gtr (.l 0) (.c (.int .i64 20))))])
 (.cond (.t .d0 .d4) (.seq (.reg 3 [.s .d0 .d1 (.L (.mov (.c (.int .i64 0)))),
   .s .d0 .d2 (.L (.mov (.c (.int .i64 9))))])
 .ret) .skip)))))
 (.seq (.reg 3 [.s .d0 .d1 (.L (.mov (.c (.int .i64 1)))),
   .s .d0 .d2 (.L (.mov (.c (.int .i64 0))))])
 .ret)))⟩
def i104:Fun:=
 ⟨1,[0,2],[.tmp .d0 .d1],(.seq (.reg 1 [.s .d0 .d1 (.L (.mov (.c (.bool false))))])
 (.seq (.reg 58 [.p (.L (.bin .geq (.t .d0 .d0) (.c (.int .u8 48)))),
   .g (.l 0) true (.L (.mov (.t .d0 .d0))),
   .g (.l 1) true (.L (.bin .leq (.l 0) (.c (.int .u8 57)))),
   .s .d0 .d1 (.L (.pick (.l 2) (.l 0) (.c (.bool false))))])
 .ret))⟩
def i105:Fun:=
 ⟨2,[0,1,4,5,6,10],[.tmp .d0 .d2, .tmp .d0 .d3],(.seq (.reg 3 [.s .d0 .d2 (.L (.mov (.c (.int .i64 0)))),
   .s .d0 .d3 (.L (.mov (.c (.int .i64 0))))])
 (.seq (.block 0 (.seq (.reg 6 [.p (.L (.len true (.t .d0 .d0))),
   .s .d0 .d4 (.L (.bin .gtr (.l 0) (.c (.int .i64 9))))])
 (.cond (.t .d0 .d4) (.seq (.reg 3 [.s .d0 .d2 (.L (.mov (.c (.int .i64 0)))),
   .s .d0 .d3 (.L (.mov (.c (.int .i64 9))))])
 .ret) (.seq (.seq (.reg 246 [.p (.L (.istr (.t .d0 .d0) (.c (.int .i64 0)))),
   .p (.L (.bin .eql (.l 0) (.c (.int .u8 48)))),
   .g (.l 0) true (.L (.mov (.t .d0 .d0))),
   .g (.l 1) true (.L (.len true (.l 0))),
   .g (.l 2) true (.L (.bin .gtr (.l 0) (.c (.int .i64 1)))),
   .s .d0 .d5 (.L (.pick (.l 3) (.l 0) (.c (.bool false))))])
 (.cond (.t .d0 .d5) .skip (.reg 122 [.p (.L (.bins .neq (.t .d0 .d1) (.c (.str 0 0)))),
   .g (.l 0) true (.L (.mov (.t .d0 .d1))),
   .g (.l 1) true (.L (.istr (.l 0) (.c (.int .i64 0)))),
   .g (.l 2) true (.H (.call 102 [(.l 0)])),
   .s .d0 .d5 (.L (.pick (.l 3) (.l 0) (.c (.bool false))))])))
 (.cond (.t .d0 .d5) (.seq (.reg 3 [.s .d0 .d2 (.L (.mov (.c (.int .i64 0)))),
   .s .d0 .d3 (.L (.mov (.c (.int .i64 10))))])
 .ret) .skip)))))
 (.seq (.reg 3 [.s .d0 .d2 (.L (.mov (.c (.int .i64 2)))),
   .s .d0 .d3 (.L (.mov (.c (.int .i64 0))))])
 .ret)))⟩
def i106:Fun:=
 ⟨1,[0,2,7,6,8,5,4,13,23],[.tmp .d0 .d1],(.seq (.reg 1 [.s .d0 .d1 (.L (.mov (.c (.str 0 0))))])
 (.seq (.seq (.reg 7 [.s .d0 .d5 (.L (.bsl 1 3 [.str 0 0] [(0,1,(.c (.str 2 15677))),(1,1,(.c (.str 2 15676))),(2,1,(.c (.str 2 15917)))])),
   .s .d0 .d3 (.L (.len false (.l 0))),
   .s .d0 .d2 (.L (.mov (.c (.int .i64 0))))])
 (.block 0 (.loop (.seq (.reg 1 [.s .d0 .d4 (.L (.bin .lss (.t .d0 .d2) (.t .d0 .d3)))])
 (.seq (.cond (.t .d0 .d4) .skip (.exit 0))
 (.seq (.block 1 (.seq (.reg 3 [.p (.L (.aC 1 (.t .d0 .d5) (.t .d0 .d2))),
   .s .d0 .d6 (.L (.load (.l 0)))])
 (.seq (.reg 4 [.s .d0 .d7 (.H (.call 112 [(.t .d0 .d0),(.t .d0 .d6)]))])
 (.cond (.t .d0 .d7) (.seq (.reg 2 [.s .d0 .d1 (.L (.mov (.t .d0 .d6)))])
 .ret) .skip))))
 (.reg 1 [.s .d0 .d2 (.L (.bin .add (.t .d0 .d2) (.c (.int .i64 1))))])))))))
 (.seq (.seq (.reg 250 [.p (.L (.bins .neq (.t .d0 .d0) (.c (.str 0 0)))),
   .g (.l 0) true (.L (.mov (.t .d0 .d0))),
   .g (.l 1) true (.L (.istr (.l 0) (.c (.int .i64 0)))),
   .g (.l 2) true (.H (.call 113 [(.c (.str 16 44057595459481303378468723561875581224)),(.l 0)])),
   .g (.l 3) true (.L (.bin .geq (.l 0) (.c (.int .i64 0)))),
   .s .d1 .d0 (.L (.pick (.l 4) (.l 0) (.c (.bool false))))])
 (.cond (.t .d1 .d0) (.seq (.reg 2 [.s .d0 .d1 (.L (.sstr (.t .d0 .d0) none (some (.c (.int .i64 1)))))])
 .ret) .skip))
 (.seq (.reg 1 [.s .d0 .d1 (.L (.mov (.c (.str 0 0))))])
 .ret))))⟩
def i107:Fun:=
 ⟨2,[0,1],[],(.reg 124 [.p (.H (.call 83 [(.t .d0 .d0)])),
   .p (.L (.field 2 1 false (.l 0))),
   .p (.L (.build [.int .i64 0, .int .i64 0] [(0,1,(.t .d0 .d1)),(1,1,(.l 0))])),
   .p (.L (.ifc 121 (.l 0))),
   .p (.H (.panic (.l 0)))])⟩
def i108:Fun:=
 ⟨2,[0,1,4,5,11],[.cell .d0 .d2 (some 3)],(.seq (.reg 1 [.s .d0 .d2 (.L (.alloc [.int .i64 0, .str 0 0, .int .i64 0]))])
 (.seq (.reg 14 [.p (.H (.call 83 [(.t .d0 .d0)])),
   .s .d0 .d3 (.L (.alloc [.int .i64 0, .str 0 0, .int .i64 0])),
   .p (.H (.store 3 (.l 0) (.l 1)))])
 (.seq (.seq (.reg 11 [.p (.L (.aA 0 (.t .d0 .d3))),
   .p (.L (.load (.l 0))),
   .s .d0 .d4 (.L (.bin .neq (.l 0) (.t .d0 .d1)))])
 (.cond (.t .d0 .d4) (.reg 2 [.p (.H (.call 107 [(.t .d0 .d0),(.c (.int .i64 11))]))]) .skip))
 (.seq (.reg 254 [.p (.L (.nilck (.t .d0 .d0))),
   .p (.L (.aA 1 (.l 0))),
   .p (.L (.load (.l 0))),
   .p (.L (.bin .add (.l 0) (.c (.int .i64 1)))),
   .p (.L (.nilck (.t .d0 .d0))),
   .p (.L (.aA 1 (.l 0))),
   .p (.H (.store 1 (.l 0) (.l 2)))])
 (.seq (.reg 3 [.p (.L (.cO 3 (.t .d0 .d3))),
   .p (.H (.store 3 (.t .d0 .d2) (.l 0)))])
 .ret)))))⟩
def i109:Fun:=
 ⟨2,[0,1,4,5],[.tmp .d0 .d2],(.seq (.reg 1 [.s .d0 .d2 (.L (.mov (.c (.bool false))))])
 (.seq (.reg 14 [.p (.H (.call 83 [(.t .d0 .d0)])),
   .s .d0 .d3 (.L (.alloc [.int .i64 0, .str 0 0, .int .i64 0])),
   .p (.H (.store 3 (.l 0) (.l 1)))])
 (.seq (.reg 16363 [.p (.L (.aA 1 (.t .d0 .d3))),
   .p (.L (.load (.l 0))),
   .p (.L (.bins .eql (.l 0) (.t .d0 .d1))),
   .g (.l 0) true (.L (.aA 0 (.t .d0 .d3))),
   .g (.l 1) true (.L (.load (.l 0))),
   .g (.l 2) true (.L (.bin .eql (.l 0) (.c (.int .i64 4)))),
   .g (.l 3) true (.L (.mov (.l 0))),
   .g (.l 0) false (.L (.aA 0 (.t .d0 .d3))),
   .g (.l 1) false (.L (.load (.l 0))),
   .g (.l 2) false (.L (.bin .eql (.l 0) (.c (.int .i64 3)))),
   .g (.l 7) true (.L (.pick (.l 3) (.c (.bool true)) (.l 0))),
   .s .d0 .d2 (.L (.pick (.l 8) (.l 0) (.c (.bool false))))])
 .ret)))⟩
def i111:Fun:=
 ⟨1,[0,2],[.tmp .d0 .d1],(.seq (.reg 1 [.s .d0 .d1 (.L (.mov (.c (.bool false))))])
 (.seq (.reg 5 [.p (.L (.bsl 1 15 [.str 0 0] [(0,1,(.c (.str 6 111516500389741))),(1,1,(.c (.str 6 128034844732777))),(2,1,(.c (.str 3 7496054))),(3,1,(.c (.str 4 1668248176))),(4,1,(.c (.str 2 25456))),(5,1,(.c (.str 4 1936028533))),(6,1,(.c (.str 3 7628140))),(7,1,(.c (.str 4 1819042147))),(8,1,(.c (.str 2 26217))),(9,1,(.c (.str 4 1702063205))),(10,1,(.c (.str 5 435610544247))),(11,1,(.c (.str 4 1953066341))),(12,1,(.c (.str 6 128009175786866))),(13,1,(.c (.str 4 1885956979))),(14,1,(.c (.str 6 126909394608492)))])),
   .s .d0 .d1 (.H (.call 114 [(.l 0),(.t .d0 .d0)]))])
 .ret))⟩
def i112:Fun:=
 ⟨2,[0,1,4],[.tmp .d0 .d2],(.seq (.reg 1 [.s .d0 .d2 (.L (.mov (.c (.bool false))))])
 (.seq (.reg 4 [.s .d0 .d2 (.H (.call 115 [(.t .d0 .d0),(.t .d0 .d1)]))])
 .ret))⟩
def i113:Fun:=
 ⟨2,[0,1,4],[.tmp .d0 .d2],(.seq (.reg 1 [.s .d0 .d2 (.L (.mov (.c (.int .i64 0))))])
 (.seq (.reg 4 [.s .d0 .d2 (.H (.call 116 [(.t .d0 .d0),(.t .d0 .d1)]))])
 .ret))⟩
def i114:Fun:=
 ⟨2,[0,1,4],[.tmp .d0 .d2],(.seq (.reg 1 [.s .d0 .d2 (.L (.mov (.c (.bool false))))])
 (.seq (.reg 12 [.p (.H (.call 35 [(.t .d0 .d0),(.t .d0 .d1)])),
   .s .d0 .d2 (.L (.bin .geq (.l 0) (.c (.int .i64 0))))])
 .ret))⟩
def i115:Fun:=
 ⟨2,[0,1,4],[.tmp .d0 .d2],(.seq (.reg 1 [.s .d0 .d2 (.L (.mov (.c (.bool false))))])
 (.seq (.reg 8154 [.p (.L (.len true (.t .d0 .d0))),
   .p (.L (.len true (.t .d0 .d1))),
   .p (.L (.bin .geq (.l 1) (.l 0))),
   .g (.l 0) true (.L (.mov (.t .d0 .d0))),
   .g (.l 1) true (.L (.mov (.t .d0 .d1))),
   .g (.l 2) true (.L (.len true (.l 0))),
   .g (.l 3) true (.L (.sstr (.l 2) none (some (.l 0)))),
   .g (.l 4) true (.L (.mov (.t .d0 .d1))),
   .g (.l 5) true (.L (.bins .eql (.l 1) (.l 0))),
   .s .d0 .d2 (.L (.pick (.l 6) (.l 0) (.c (.bool false))))])
 .ret))⟩
def d56:iR:=
 ⟨2,[0,1,4,5,6],(.reg 7 [.s .d0 .d2 (.L (.alloc [.slN])),
   .s .d0 .d3 (.L (.alloc [.int .i64 0])),
   .s .d0 .d4 (.L (.alloc [.int .i64 0]))]),81,[(.t .d0 .d2),(.t .d0 .d3),(.t .d0 .d4)],252,[.p (.L (.build [.slN, .int .i64 0, .int .i64 0] [(0,1,(.t .d0 .d0))])),
   .p (.L (.box 3 (.l 0))),
   .p (.H (.dS (.t .d0 .d1) [(.l 0)])),
   .p (.H (.store 1 (.t .d0 .d2) (.l 0))),
   .p (.H (.store 1 (.t .d0 .d3) (.c (.int .i64 0)))),
   .p (.H (.store 1 (.t .d0 .d4) (.c (.int .i64 0))))],[],[.cell .d0 .d2 none, .cell .d0 .d3 none, .cell .d0 .d4 none],[0,1,2,7,9,11,12,5,4,6],3,(.block 0 (.seq (.reg 1 [.s .d0 .d4 (.L (.eq false .ifc (.t .d0 .d3) (.c (.ifcN))))])
 (.cond (.t .d0 .d4) (.reg 0 []) (.seq (.reg 7 [.p (.L (.tassert 121 (.agg [.int .i64 0, .int .i64 0]) true (.t .d0 .d3))),
   .s .d0 .d5 (.L (.ext 1 (.l 0))),
   .s .d0 .d6 (.L (.ext 0 (.l 1)))])
 (.cond (.t .d0 .d5) (.seq (.reg 3 [.s .d1 .d0 (.L (.alloc [.int .i64 0, .int .i64 0])),
   .p (.H (.store 2 (.l 0) (.t .d0 .d6)))])
 (.seq (.reg 1 [.s .d0 .d7 (.L (.mov (.c (.slN))))])
 (.draw [0,1,2,3,4,5,6,7] [⟨.p (.L (.mov (.t .d0 .d7))),[]⟩,
   ⟨.p (.L (.aA 0 (.t .d1 .d0))),[]⟩,
   ⟨.p (.L (.load (.l 0))),[]⟩,
   ⟨.p (.L (.aA 1 (.t .d1 .d0))),[]⟩,
   ⟨.p (.L (.load (.l 0))),[]⟩,
   ⟨.p (.H (.store 1 (.t .d0 .d0) (.l 4))),[2,0]⟩,
   ⟨.p (.H (.store 1 (.t .d0 .d1) (.l 3))),[1]⟩,
   ⟨.p (.H (.store 1 (.t .d0 .d2) (.l 2))),[]⟩]))) (.seq (.reg 1 [.s .d1 .d1 (.L (.mov (.t .d0 .d3)))])
 (.reg 2 [.p (.H (.panic (.t .d1 .d1)))])))))))⟩
def n1 {α:Type}:R8 (Option α):=R8.all none
def n2 {α:Type}:R8 (R8 (Option α)):=R8.all n1
def aR:T Fun:=⟨⟨⟨⟨none,none,none,(some i3),(some i4),none,none,none⟩,⟨none,none,(some i10),(some i11),(some i12),(some i13),(some i14),(some i15)⟩,⟨(some i16),(some i17),(some i18),(some i19),(some i20),none,none,none⟩,⟨none,(some i25),(some i26),(some i27),(some i28),(some i29),(some i30),(some i31)⟩,⟨(some i32),(some i33),(some i34),(some i35),none,none,none,none⟩,⟨none,none,none,none,none,none,(some i46),(some i47)⟩,⟨(some i48),(some i49),(some i50),(some i51),(some i52),(some i53),(some i54),(some i55)⟩,⟨none,(some i57),(some i58),(some i59),(some i60),(some i61),(some i62),(some i63)⟩⟩,⟨⟨none,none,none,none,none,none,none,none⟩,⟨none,none,none,none,none,none,none,(some i79)⟩,⟨(some i80),none,(some i82),(some i83),(some i84),(some i85),(some i86),(some i87)⟩,⟨(some i88),(some i89),(some i90),none,none,none,none,none⟩,⟨none,none,none,(some i99),(some i100),(some i101),(some i102),(some i103)⟩,⟨(some i104),(some i105),(some i106),(some i107),(some i108),(some i109),none,(some i111)⟩,⟨(some i112),(some i113),(some i114),(some i115),none,none,none,none⟩,n1⟩,n2,n2,n2,n2,n2,n2⟩,none, .mt⟩
def dF:T iR:=⟨⟨⟨n1,n1,n1,n1,n1,n1,n1,⟨(some d56),none,none,none,none,none,none,none⟩⟩,n2,n2,n2,n2,n2,n2,n2⟩,none, .mt⟩
end
end Go.Eng.Ytjgmahbgfbkhnaa
