/- Part of a proof of a law: rules of an evaluator, contracts, plain laws. No condition of its own. -/
import Derived.Test.YtjobofnpmmjeoaaDoorEngC
set_option linter.unusedVariables false
set_option linter.unusedSimpArgs false
set_option maxRecDepth 100000
namespace Go.Eng.YtjobofnpmmjeoaaDoor
open Go.Eng
noncomputable section
def i8:Fun:=
 ⟨2,[0,1,4,6,27,10,9,34,8,12,11,5,71,85],[.tmp .d0 .d2],(.seq (.reg 1 [.s .d0 .d2 (.L (.mov (.c (.bool false))))])
 (.seq (.reg 506 [.p (.H (.call 10 [(.t .d0 .d0)])),
   .p (.L (.ext 0 (.l 0))),
   .p (.L (.ext 1 (.l 1))),
   .p (.L (.ext 2 (.l 2))),
   .s .d1 .d3 (.L (.alloc [.str 0 0, .int .i64 0, .slN, .slN, .slN])),
   .p (.H (.store 5 (.l 0) (.l 3))),
   .s .d0 .d3 (.L (.mov (.l 3)))])
 (.seq (.seq (.reg 246 [.p (.H (.call 12 [(.t .d0 .d3)])),
   .p (.L (.bin .neq (.l 0) (.c (.int .i64 0)))),
   .g (.l 0) false (.L (.mov (.t .d0 .d0))),
   .g (.l 1) false (.L (.len true (.l 0))),
   .g (.l 2) false (.L (.bin .gtr (.l 0) (.c (.int .i64 1000)))),
   .s .d0 .d4 (.L (.pick (.l 3) (.c (.bool true)) (.l 0)))])
 (.cond (.t .d0 .d4) (.seq (.reg 1 [.s .d0 .d2 (.H (.call 9 []))])
 .ret) .skip))
 (.seq (.reg 1 [.s .d1 .d0 (.L (.mov (.c (.str 0 0))))])
 (.seq (.reg 6 [.p (.L (.conv .i64 (.t .d0 .d1))),
   .s .d0 .d6 (.L (.bin .rem (.l 0) (.c (.int .i64 9))))])
 (.seq (.seq (.reg 1 [.s .d0 .d5 (.L (.mov (.c (.int .i64 0))))])
 (.block 0 (.loop (.seq (.seq (.reg 4 [.s .d0 .d7 (.L (.bin .lss (.t .d0 .d5) (.t .d0 .d6)))])
 (.cond (.t .d0 .d7) .skip (.exit 0)))
 (.seq (.block 1 (.reg 2 [.s .d1 .d0 (.L (.bins .add (.t .d1 .d0) (.c (.str 44 4484036301195357314777525094976569700246139432430888848378587489952097069475172621104142947990494362301962))))]))
 (.reg 2 [.s .d0 .d5 (.L (.bin .add (.t .d0 .d5) (.c (.int .i64 1))))]))))))
 (.seq (.reg 2028 [.p (.L (.bins .add (.t .d0 .d0) (.t .d1 .d0))),
   .p (.H (.call 10 [(.l 0)])),
   .p (.L (.ext 0 (.l 0))),
   .p (.L (.ext 1 (.l 1))),
   .p (.L (.ext 2 (.l 2))),
   .s .d1 .d2 (.L (.alloc [.str 0 0, .int .i64 0, .slN, .slN, .slN])),
   .p (.H (.store 5 (.l 0) (.l 3))),
   .s .d1 .d1 (.L (.mov (.l 3)))])
 (.seq (.seq (.reg 33538038 [.p (.H (.call 12 [(.t .d1 .d1)])),
   .p (.L (.bin .neq (.l 0) (.c (.int .i64 0)))),
   .g (.l 0) false (.L (.ak 3 (.t .d1 .d2))),
   .g (.l 1) false (.L (.load (.l 0))),
   .g (.l 2) false (.L (.len false (.l 0))),
   .g (.l 3) false (.L (.ak 3 (.t .d1 .d3))),
   .g (.l 4) false (.L (.load (.l 0))),
   .g (.l 5) false (.L (.len false (.l 0))),
   .g (.l 6) false (.L (.mov (.t .d0 .d6))),
   .g (.l 7) false (.L (.bin .add (.l 1) (.l 0))),
   .g (.l 8) false (.L (.bin .neq (.l 5) (.l 0))),
   .p (.L (.pick (.l 9) (.c (.bool true)) (.l 0))),
   .g (.l 0) false (.L (.ak 4 (.t .d1 .d2))),
   .g (.l 1) false (.L (.load (.l 0))),
   .g (.l 2) false (.L (.len false (.l 0))),
   .g (.l 3) false (.L (.ak 4 (.t .d1 .d3))),
   .g (.l 4) false (.L (.load (.l 0))),
   .g (.l 5) false (.L (.len false (.l 0))),
   .g (.l 6) false (.L (.mov (.t .d0 .d6))),
   .g (.l 7) false (.L (.bin .add (.l 1) (.l 0))),
   .g (.l 8) false (.L (.bin .neq (.l 5) (.l 0))),
   .s .d1 .d4 (.L (.pick (.l 9) (.c (.bool true)) (.l 0)))])
 (.cond (.t .d1 .d4) (.seq (.reg 1 [.s .d0 .d2 (.L (.mov (.c (.bool false))))])
 .ret) .skip))
 (.seq (.seq (.reg 16378 [.p (.L (.bin .gtr (.t .d0 .d6) (.c (.int .i64 0)))),
   .g (.l 0) true (.L (.ak 3 (.t .d1 .d2))),
   .g (.l 1) true (.L (.load (.l 0))),
   .g (.l 2) true (.L (.ak 3 (.t .d1 .d2))),
   .g (.l 3) true (.L (.load (.l 0))),
   .g (.l 4) true (.L (.len false (.l 0))),
   .g (.l 5) true (.L (.bin .sub (.l 0) (.c (.int .i64 1)))),
   .g (.l 6) true (.L (.bI 4 (.l 4) (.l 0))),
   .g (.l 7) true (.L (.ak 2 (.l 0))),
   .g (.l 8) true (.L (.load (.l 0))),
   .g (.l 9) true (.L (.bin .neq (.l 0) (.c (.int .i64 (-3))))),
   .s .d1 .d5 (.L (.pick (.l 10) (.l 0) (.c (.bool false))))])
 (.cond (.t .d1 .d5) (.seq (.reg 1 [.s .d0 .d2 (.L (.mov (.c (.bool false))))])
 .ret) .skip))
 (.seq (.reg 255 [.p (.L (.ak 3 (.t .d1 .d2))),
   .p (.L (.load (.l 0))),
   .p (.L (.ak 3 (.t .d1 .d3))),
   .p (.L (.load (.l 0))),
   .p (.L (.len false (.l 0))),
   .p (.L (.ssl 4 (.l 3) none (some (.l 0)) none)),
   .p (.L (.ak 3 (.t .d1 .d2))),
   .p (.H (.store 1 (.l 0) (.l 1)))])
 (.seq (.reg 255 [.p (.L (.ak 4 (.t .d1 .d2))),
   .p (.L (.load (.l 0))),
   .p (.L (.ak 4 (.t .d1 .d3))),
   .p (.L (.load (.l 0))),
   .p (.L (.len false (.l 0))),
   .p (.L (.ssl 8 (.l 3) none (some (.l 0)) none)),
   .p (.L (.ak 4 (.t .d1 .d2))),
   .p (.H (.store 1 (.l 0) (.l 1)))])
 (.seq (.reg 55 [.p (.L (.bE 5 (.t .d1 .d2))),
   .p (.L (.bE 5 (.t .d1 .d3))),
   .p (.H (.call 15 [(.l 1),(.l 0)])),
   .g (.l 0) true (.H (.call 9 [])),
   .s .d0 .d2 (.L (.pick (.l 1) (.l 0) (.c (.bool false))))])
 .ret))))))))))))⟩
def i9:Fun:=
 ⟨0,[0,2,1],[.tmp .d0 .d0],(.seq (.reg 1 [.s .d0 .d0 (.L (.mov (.c (.bool false))))])
 (.seq (.reg 125 [.p (.H (.call 16 [(.c (.str 17 20208420592927795050325378941289463177580))])),
   .p (.L (.ext 0 (.l 0))),
   .p (.L (.ext 1 (.l 1))),
   .p (.L (.ext 2 (.l 2))),
   .s .d0 .d2 (.L (.mov (.l 2))),
   .s .d0 .d1 (.L (.mov (.l 2)))])
 (.seq (.reg 4161270 [.p (.H (.call 12 [(.t .d0 .d1)])),
   .p (.L (.bin .eql (.l 0) (.c (.int .i64 0)))),
   .g (.l 0) true (.L (.mov (.t .d0 .d2))),
   .g (.l 1) true (.L (.len false (.l 0))),
   .g (.l 2) true (.L (.bin .eql (.l 0) (.c (.int .i64 2)))),
   .p (.L (.pick (.l 3) (.l 0) (.c (.bool false)))),
   .g (.l 0) true (.L (.mov (.t .d0 .d2))),
   .g (.l 1) true (.L (.bI 3 (.l 0) (.c (.int .i64 1)))),
   .g (.l 2) true (.L (.ak 0 (.l 0))),
   .g (.l 3) true (.L (.load (.l 0))),
   .g (.l 4) true (.L (.bins .eql (.l 0) (.c (.str 1 98)))),
   .p (.L (.pick (.l 5) (.l 0) (.c (.bool false)))),
   .g (.l 0) true (.L (.mov (.t .d0 .d2))),
   .g (.l 1) true (.L (.bI 3 (.l 0) (.c (.int .i64 1)))),
   .g (.l 2) true (.L (.ak 1 (.l 0))),
   .g (.l 3) true (.L (.load (.l 0))),
   .g (.l 4) true (.L (.bins .eql (.l 0) (.c (.str 1 99)))),
   .s .d0 .d0 (.L (.pick (.l 5) (.l 0) (.c (.bool false))))])
 .ret)))⟩
def i10:Fun:=
 ⟨1,[0,2,3,4,6,15,7,5],[.cell .d0 .d1 (some 5), .tmp .d0 .d2, .tmp .d0 .d3],(.seq (.reg 7 [.s .d0 .d1 (.L (.alloc [.str 0 0, .int .i64 0, .slN, .slN, .slN])),
   .s .d0 .d2 (.L (.mov (.c (.int .i64 0)))),
   .s .d0 .d3 (.L (.mov (.c (.int .i64 0))))])
 (.seq (.reg 506 [.p (.H (.call 11 [(.t .d0 .d0)])),
   .p (.L (.ext 0 (.l 0))),
   .p (.L (.ext 1 (.l 1))),
   .p (.L (.ext 2 (.l 2))),
   .s .d0 .d7 (.L (.mov (.l 2))),
   .s .d0 .d4 (.L (.mov (.l 2))),
   .s .d0 .d6 (.L (.mov (.l 2)))])
 (.seq (.seq (.reg 2 [.s .d0 .d5 (.L (.bin .neq (.t .d0 .d4) (.c (.int .i64 0))))])
 (.cond (.t .d0 .d5) (.seq (.reg 57 [.p (.L (.build [.str 0 0, .int .i64 0, .slN, .slN, .slN] [])),
   .p (.H (.store 5 (.t .d0 .d1) (.l 0))),
   .s .d0 .d2 (.L (.mov (.t .d0 .d4))),
   .s .d0 .d3 (.L (.mov (.t .d0 .d6)))])
 .ret) .skip))
 (.seq (.reg 254 [.p (.H (.call 17 [(.t .d0 .d7)])),
   .p (.L (.ext 0 (.l 0))),
   .p (.L (.ext 1 (.l 1))),
   .p (.L (.ext 2 (.l 2))),
   .p (.H (.store 5 (.t .d0 .d1) (.l 2))),
   .s .d0 .d2 (.L (.mov (.l 2))),
   .s .d0 .d3 (.L (.mov (.l 2)))])
 .ret))))⟩
def i11:Fun:=
 ⟨1,[0,2,3,4,7],[.tmp .d0 .d1, .tmp .d0 .d2, .tmp .d0 .d3],(.seq (.reg 7 [.s .d0 .d1 (.L (.mov (.c (.slN)))),
   .s .d0 .d2 (.L (.mov (.c (.int .i64 0)))),
   .s .d0 .d3 (.L (.mov (.c (.int .i64 0))))])
 (.seq (.seq (.reg 6 [.p (.L (.len true (.t .d0 .d0))),
   .s .d0 .d4 (.L (.bin .gtr (.l 0) (.c (.int .i64 8192))))])
 (.cond (.t .d0 .d4) (.seq (.reg 7 [.s .d0 .d1 (.L (.mov (.c (.slN)))),
   .s .d0 .d2 (.L (.mov (.c (.int .i64 9)))),
   .s .d0 .d3 (.L (.mov (.c (.int .i64 8192))))])
 .ret) .skip))
 (.seq (.reg 254 [.p (.H (.call 18 [(.t .d0 .d0)])),
   .p (.L (.ext 0 (.l 0))),
   .p (.L (.ext 1 (.l 1))),
   .p (.L (.ext 2 (.l 2))),
   .s .d0 .d1 (.L (.mov (.l 2))),
   .s .d0 .d2 (.L (.mov (.l 2))),
   .s .d0 .d3 (.L (.mov (.l 2)))])
 .ret)))⟩
def i12:Fun:=
 ⟨1,[0,2],[.tmp .d0 .d1],(.seq (.reg 1 [.s .d0 .d1 (.L (.mov (.c (.int .i64 0))))])
 (.seq (.reg 2 [.s .d0 .d1 (.L (.mov (.t .d0 .d0)))])
 .ret))⟩
def i15:Fun:=
 ⟨2,[0,1,4,2,3],[.tmp .d0 .d2],(.seq (.reg 7 [.s .d0 .d3 (.L (.box 5 (.t .d0 .d0))),
   .s .d0 .d4 (.L (.box 5 (.t .d0 .d1))),
   .s .d0 .d2 (.L (.mov (.c (.bool false))))])
 (.seq (.reg 7 [.p (.L (.bE 5 (.t .d0 .d3))),
   .p (.L (.bE 5 (.t .d0 .d4))),
   .s .d0 .d2 (.H (.call 19 [(.l 1),(.l 0),(.c (.bool true))]))])
 .ret))⟩
def i16:Fun:=
 ⟨1,[0,2,3,4,6,15,7,5],[.tmp .d0 .d1, .tmp .d0 .d2, .tmp .d0 .d3],(.seq (.reg 7 [.s .d0 .d1 (.L (.mov (.c (.slN)))),
   .s .d0 .d2 (.L (.mov (.c (.int .i64 0)))),
   .s .d0 .d3 (.L (.mov (.c (.int .i64 0))))])
 (.seq (.reg 506 [.p (.H (.call 11 [(.t .d0 .d0)])),
   .p (.L (.ext 0 (.l 0))),
   .p (.L (.ext 1 (.l 1))),
   .p (.L (.ext 2 (.l 2))),
   .s .d0 .d7 (.L (.mov (.l 2))),
   .s .d0 .d4 (.L (.mov (.l 2))),
   .s .d0 .d6 (.L (.mov (.l 2)))])
 (.seq (.seq (.reg 2 [.s .d0 .d5 (.L (.bin .neq (.t .d0 .d4) (.c (.int .i64 0))))])
 (.cond (.t .d0 .d5) (.seq (.reg 28 [.s .d0 .d1 (.L (.mov (.c (.slN)))),
   .s .d0 .d2 (.L (.mov (.t .d0 .d4))),
   .s .d0 .d3 (.L (.mov (.t .d0 .d6)))])
 .ret) .skip))
 (.seq (.reg 254 [.p (.H (.call 20 [(.t .d0 .d7),(.c (.fn 21 [] []))])),
   .p (.L (.ext 0 (.l 0))),
   .p (.L (.ext 1 (.l 1))),
   .p (.L (.ext 2 (.l 2))),
   .s .d0 .d1 (.L (.mov (.l 2))),
   .s .d0 .d2 (.L (.mov (.l 2))),
   .s .d0 .d3 (.L (.mov (.l 2)))])
 .ret))))⟩
def i17:Fun:=
 ⟨1,[0,2,3,4],[.cell .d0 .d1 (some 5), .tmp .d0 .d2, .tmp .d0 .d3],(.seq (.reg 7 [.s .d0 .d1 (.L (.alloc [.str 0 0, .int .i64 0, .slN, .slN, .slN])),
   .s .d0 .d2 (.L (.mov (.c (.int .i64 0)))),
   .s .d0 .d3 (.L (.mov (.c (.int .i64 0))))])
 (.seq (.reg 254 [.p (.H (.call 22 [(.t .d0 .d0),(.c (.fn 23 [] []))])),
   .p (.L (.ext 0 (.l 0))),
   .p (.L (.ext 1 (.l 1))),
   .p (.L (.ext 2 (.l 2))),
   .p (.H (.store 5 (.t .d0 .d1) (.l 2))),
   .s .d0 .d2 (.L (.mov (.l 2))),
   .s .d0 .d3 (.L (.mov (.l 2)))])
 .ret))⟩
def i18:Fun:=
 ⟨1,[0,2,3,4,5,1,17,9,32,49,6,54,11,64,31,12,78,8,10,7],[.tmp .d0 .d1, .tmp .d0 .d2, .tmp .d0 .d3],(.seq (.reg 15 [.s .d0 .d5 (.L (.box 1 (.t .d0 .d0))),
   .s .d0 .d1 (.L (.mov (.c (.slN)))),
   .s .d0 .d2 (.L (.mov (.c (.int .i64 0)))),
   .s .d0 .d3 (.L (.mov (.c (.int .i64 0))))])
 (.seq (.reg 3 [.s .d0 .d4 (.L (.alloc [.int .i64 0])),
   .p (.H (.store 1 (.l 0) (.c (.int .i64 0))))])
 (.seq (.reg 1 [.s .d1 .d2 (.L (.fn 24 [] [(.t .d0 .d4),(.t .d0 .d5)]))])
 (.seq (.reg 1 [.s .d2 .d3 (.L (.mov (.c (.slN))))])
 (.seq (.block 0 (.loop (.seq (.seq (.reg 15 [.p (.L (.load (.t .d0 .d4))),
   .p (.L (.load (.t .d0 .d5))),
   .p (.L (.len true (.l 0))),
   .s .d0 .d6 (.L (.bin .lss (.l 2) (.l 0)))])
 (.cond (.t .d0 .d6) .skip (.exit 0)))
 (.block 1 (.seq (.draw [0,1,2,3,4,5] [⟨.p (.L (.load (.t .d0 .d4))),[]⟩,
   ⟨.p (.L (.load (.t .d0 .d5))),[]⟩,
   ⟨.p (.L (.load (.t .d0 .d4))),[]⟩,
   ⟨.p (.L (.istr (.l 1) (.l 0))),[]⟩,
   ⟨.s .d2 .d1 (.L (.mov (.l 3))),[]⟩,
   ⟨.s .d0 .d7 (.L (.mov (.l 1))),[]⟩])
 (.seq (.reg 7 [.s .d2 .d2 (.L (.mov (.c (.int .i64 0)))),
   .s .d1 .d4 (.L (.mov (.c (.str 0 0)))),
   .s .d1 .d7 (.L (.mov (.c (.int .i64 0))))])
 (.seq (.block 2 (.seq (.reg 15290 [.p (.L (.bin .eql (.t .d0 .d7) (.c (.int .u8 32)))),
   .g (.l 0) false (.L (.mov (.t .d0 .d7))),
   .g (.l 1) false (.L (.bin .eql (.l 0) (.c (.int .u8 9)))),
   .p (.L (.pick (.l 2) (.c (.bool true)) (.l 0))),
   .g (.l 0) false (.L (.mov (.t .d0 .d7))),
   .g (.l 1) false (.L (.bin .eql (.l 0) (.c (.int .u8 10)))),
   .p (.L (.pick (.l 2) (.c (.bool true)) (.l 0))),
   .g (.l 0) false (.L (.mov (.t .d0 .d7))),
   .g (.l 1) false (.L (.bin .eql (.l 0) (.c (.int .u8 13)))),
   .s .d1 .d0 (.L (.pick (.l 2) (.c (.bool true)) (.l 0)))])
 (.cond (.t .d1 .d0) (.seq (.reg 7 [.p (.L (.load (.t .d0 .d4))),
   .p (.L (.bin .add (.l 0) (.c (.int .i64 1)))),
   .p (.H (.store 1 (.t .d0 .d4) (.l 0)))])
 (.exit 1)) (.seq (.reg 2 [.s .d1 .d1 (.L (.bin .eql (.t .d0 .d7) (.c (.int .u8 35))))])
 (.cond (.t .d1 .d1) (.seq (.reg 2 [.p (.H (.iH (.t .d1 .d2) [(.c (.fn 25 [] []))]))])
 (.exit 1)) (.seq (.reg 2 [.s .d1 .d3 (.H (.call 26 [(.t .d0 .d7)]))])
 (.cond (.t .d1 .d3) (.seq (.reg 2 [.s .d1 .d4 (.H (.iH (.t .d1 .d2) [(.c (.fn 27 [] []))]))])
 (.reg 122 [.p (.H (.call 28 [(.t .d1 .d4)])),
   .p (.L (.ext 0 (.l 0))),
   .p (.L (.ext 1 (.l 1))),
   .s .d2 .d2 (.L (.mov (.l 1))),
   .s .d1 .d7 (.L (.mov (.l 1)))])) (.seq (.reg 2 [.s .d1 .d5 (.H (.call 29 [(.t .d0 .d7)]))])
 (.cond (.t .d1 .d5) (.seq (.reg 2 [.s .d1 .d4 (.H (.iH (.t .d1 .d2) [(.c (.fn 29 [] []))]))])
 (.reg 990 [.p (.L (.load (.t .d0 .d5))),
   .p (.L (.load (.t .d0 .d4))),
   .p (.L (.sstr (.l 1) (some (.l 0)) none)),
   .p (.H (.call 30 [(.t .d1 .d4),(.l 0)])),
   .p (.L (.ext 0 (.l 0))),
   .p (.L (.ext 1 (.l 1))),
   .s .d2 .d2 (.L (.mov (.l 1))),
   .s .d1 .d7 (.L (.mov (.l 1)))])) (.seq (.reg 63 [.p (.L (.load (.t .d0 .d5))),
   .p (.L (.load (.t .d0 .d4))),
   .p (.L (.sstr (.l 1) (some (.l 0)) none)),
   .p (.H (.call 31 [(.l 0)])),
   .s .d2 .d2 (.L (.mov (.c (.int .i64 4)))),
   .s .d1 .d4 (.L (.mov (.l 1)))])
 (.seq (.reg 29 [.p (.L (.load (.t .d0 .d4))),
   .p (.L (.len true (.t .d1 .d4))),
   .p (.L (.bin .add (.l 1) (.l 0))),
   .p (.H (.store 1 (.t .d0 .d4) (.l 0)))])
 (.seq (.reg 2 [.s .d1 .d6 (.L (.bins .eql (.t .d1 .d4) (.c (.str 0 0))))])
 (.cond (.t .d1 .d6) (.reg 1 [.s .d1 .d7 (.L (.mov (.c (.int .i64 10))))]) .skip)))))))))))))
 (.seq (.seq (.reg 2 [.s .d2 .d0 (.L (.bin .neq (.t .d1 .d7) (.c (.int .i64 0))))])
 (.cond (.t .d2 .d0) (.seq (.reg 28 [.s .d0 .d1 (.L (.mov (.c (.slN)))),
   .s .d0 .d2 (.L (.mov (.t .d1 .d7))),
   .s .d0 .d3 (.L (.mov (.t .d2 .d1)))])
 .ret) .skip))
 (.reg 112 [.p (.L (.build [.int .i64 0, .str 0 0, .int .i64 0] [(0,1,(.t .d2 .d2)),(1,1,(.t .d1 .d4)),(2,1,(.t .d2 .d1))])),
   .p (.L (.bsl 3 1 [.int .i64 0, .str 0 0, .int .i64 0] [(0,3,(.l 0))])),
   .s .d2 .d3 (.H (.append 3 32 (.t .d2 .d3) (.l 0)))])))))))))
 (.seq (.reg 446 [.p (.L (.load (.t .d0 .d5))),
   .p (.L (.len true (.l 0))),
   .p (.L (.build [.int .i64 0, .str 0 0, .int .i64 0] [(0,1,(.c (.int .i64 0))),(2,1,(.l 0))])),
   .p (.L (.bsl 3 1 [.int .i64 0, .str 0 0, .int .i64 0] [(0,3,(.l 0))])),
   .s .d0 .d1 (.H (.append 3 32 (.t .d2 .d3) (.l 0))),
   .s .d0 .d2 (.L (.mov (.c (.int .i64 0)))),
   .s .d0 .d3 (.L (.mov (.c (.int .i64 0))))])
 .ret))))))⟩
def i19:Fun:=
 ⟨3,[0,1,2,6,3,4,56,7,61,94,8,99,9,10,140,11,145,12,13,219,14,224,272],[.tmp .d0 .d3],(.seq (.reg 7 [.s .d0 .d4 (.L (.box 5 (.t .d0 .d0))),
   .s .d0 .d5 (.L (.box 5 (.t .d0 .d1))),
   .s .d0 .d3 (.L (.mov (.c (.bool false))))])
 (.seq (.seq (.reg 4389439766495 [.p (.L (.ak 0 (.t .d0 .d4))),
   .p (.L (.load (.l 0))),
   .p (.L (.ak 0 (.t .d0 .d5))),
   .p (.L (.load (.l 0))),
   .p (.L (.bins .neq (.l 2) (.l 0))),
   .g (.l 0) false (.L (.mov (.t .d0 .d2))),
   .g (.l 1) false (.L (.mov (.l 0))),
   .g (.l 0) true (.L (.ak 1 (.t .d0 .d4))),
   .g (.l 1) true (.L (.load (.l 0))),
   .g (.l 2) true (.L (.ak 1 (.t .d0 .d5))),
   .g (.l 3) true (.L (.load (.l 0))),
   .g (.l 4) true (.L (.bin .neq (.l 2) (.l 0))),
   .g (.l 7) false (.L (.pick (.l 5) (.l 0) (.c (.bool false)))),
   .p (.L (.pick (.l 8) (.c (.bool true)) (.l 0))),
   .g (.l 0) false (.L (.ak 2 (.t .d0 .d4))),
   .g (.l 1) false (.L (.load (.l 0))),
   .g (.l 2) false (.L (.len false (.l 0))),
   .g (.l 3) false (.L (.ak 2 (.t .d0 .d5))),
   .g (.l 4) false (.L (.load (.l 0))),
   .g (.l 5) false (.L (.len false (.l 0))),
   .g (.l 6) false (.L (.bin .neq (.l 3) (.l 0))),
   .p (.L (.pick (.l 7) (.c (.bool true)) (.l 0))),
   .g (.l 0) false (.L (.ak 3 (.t .d0 .d4))),
   .g (.l 1) false (.L (.load (.l 0))),
   .g (.l 2) false (.L (.len false (.l 0))),
   .g (.l 3) false (.L (.ak 3 (.t .d0 .d5))),
   .g (.l 4) false (.L (.load (.l 0))),
   .g (.l 5) false (.L (.len false (.l 0))),
   .g (.l 6) false (.L (.bin .neq (.l 3) (.l 0))),
   .p (.L (.pick (.l 7) (.c (.bool true)) (.l 0))),
   .g (.l 0) false (.L (.ak 4 (.t .d0 .d4))),
   .g (.l 1) false (.L (.load (.l 0))),
   .g (.l 2) false (.L (.len false (.l 0))),
   .g (.l 3) false (.L (.ak 4 (.t .d0 .d5))),
   .g (.l 4) false (.L (.load (.l 0))),
   .g (.l 5) false (.L (.len false (.l 0))),
   .g (.l 6) false (.L (.bin .neq (.l 3) (.l 0))),
   .s .d0 .d6 (.L (.pick (.l 7) (.c (.bool true)) (.l 0)))])
 (.cond (.t .d0 .d6) (.seq (.reg 1 [.s .d0 .d3 (.L (.mov (.c (.bool false))))])
 .ret) .skip))
 (.seq (.seq (.reg 1 [.s .d0 .d7 (.L (.mov (.c (.int .i64 0))))])
 (.block 0 (.loop (.seq (.seq (.reg 30 [.p (.L (.ak 2 (.t .d0 .d4))),
   .p (.L (.load (.l 0))),
   .p (.L (.len false (.l 0))),
   .s .d1 .d0 (.L (.bin .lss (.t .d0 .d7) (.l 0)))])
 (.cond (.t .d1 .d0) .skip (.exit 0)))
 (.seq (.block 1 (.seq (.draw [0,1,2,3,4,5,6,7,8,9,10,11,12,13,14,15,16,17,18,19,20,21,22,23,24,25,26,27,28,29,30] [⟨.p (.L (.ak 2 (.t .d0 .d4))),[]⟩,
   ⟨.p (.L (.load (.l 0))),[]⟩,
   ⟨.p (.L (.mov (.t .d0 .d7))),[]⟩,
   ⟨.p (.L (.bI 2 (.l 1) (.l 0))),[]⟩,
   ⟨.p (.L (.ak 0 (.l 0))),[]⟩,
   ⟨.p (.L (.load (.l 0))),[]⟩,
   ⟨.p (.L (.ak 2 (.t .d0 .d5))),[]⟩,
   ⟨.p (.L (.load (.l 0))),[]⟩,
   ⟨.p (.L (.mov (.t .d0 .d7))),[]⟩,
   ⟨.p (.L (.bI 2 (.l 1) (.l 0))),[]⟩,
   ⟨.p (.L (.ak 0 (.l 0))),[]⟩,
   ⟨.p (.L (.load (.l 0))),[]⟩,
   ⟨.p (.L (.bins .neq (.l 6) (.l 0))),[]⟩,
   ⟨.p (.L (.mov (.l 0))),[]⟩,
   ⟨.g (.l 0) false (.L (.mov (.t .d0 .d2))),[]⟩,
   ⟨.g (.l 1) false (.L (.mov (.l 0))),[]⟩,
   ⟨.g (.l 0) true (.L (.ak 2 (.t .d0 .d4))),[]⟩,
   ⟨.g (.l 1) true (.L (.load (.l 0))),[]⟩,
   ⟨.g (.l 2) true (.L (.mov (.t .d0 .d7))),[]⟩,
   ⟨.g (.l 3) true (.L (.bI 2 (.l 1) (.l 0))),[]⟩,
   ⟨.g (.l 4) true (.L (.ak 1 (.l 0))),[]⟩,
   ⟨.g (.l 5) true (.L (.load (.l 0))),[]⟩,
   ⟨.g (.l 6) true (.L (.ak 2 (.t .d0 .d5))),[]⟩,
   ⟨.g (.l 7) true (.L (.load (.l 0))),[]⟩,
   ⟨.g (.l 8) true (.L (.mov (.t .d0 .d7))),[]⟩,
   ⟨.g (.l 9) true (.L (.bI 2 (.l 1) (.l 0))),[]⟩,
   ⟨.g (.l 10) true (.L (.ak 1 (.l 0))),[]⟩,
   ⟨.g (.l 11) true (.L (.load (.l 0))),[]⟩,
   ⟨.g (.l 12) true (.L (.bin .neq (.l 6) (.l 0))),[]⟩,
   ⟨.g (.l 15) false (.L (.pick (.l 13) (.l 0) (.c (.bool false)))),[]⟩,
   ⟨.s .d1 .d1 (.L (.pick (.l 16) (.c (.bool true)) (.l 0))),[]⟩])
 (.cond (.t .d1 .d1) (.seq (.reg 1 [.s .d0 .d3 (.L (.mov (.c (.bool false))))])
 .ret) .skip)))
 (.reg 2 [.s .d0 .d7 (.L (.bin .add (.t .d0 .d7) (.c (.int .i64 1))))]))))))
 (.seq (.seq (.reg 1 [.s .d1 .d2 (.L (.mov (.c (.int .i64 0))))])
 (.block 2 (.loop (.seq (.seq (.reg 30 [.p (.L (.ak 3 (.t .d0 .d4))),
   .p (.L (.load (.l 0))),
   .p (.L (.len false (.l 0))),
   .s .d1 .d3 (.L (.bin .lss (.t .d1 .d2) (.l 0)))])
 (.cond (.t .d1 .d3) .skip (.exit 2)))
 (.seq (.block 3 (.seq (.draw [0,1,2,3,4,5,6,7,8,9,10,11,12,13] [⟨.p (.L (.ak 3 (.t .d0 .d4))),[]⟩,
   ⟨.p (.L (.load (.l 0))),[]⟩,
   ⟨.p (.L (.mov (.t .d1 .d2))),[]⟩,
   ⟨.p (.L (.bI 4 (.l 1) (.l 0))),[]⟩,
   ⟨.p (.L (.bE 4 (.l 0))),[]⟩,
   ⟨.p (.L (.ak 3 (.t .d0 .d5))),[]⟩,
   ⟨.p (.L (.load (.l 0))),[]⟩,
   ⟨.p (.L (.mov (.t .d1 .d2))),[]⟩,
   ⟨.p (.L (.bI 4 (.l 1) (.l 0))),[]⟩,
   ⟨.p (.L (.bE 4 (.l 0))),[]⟩,
   ⟨.s .d1 .d4 (.L (.alloc [.str 0 0, .str 0 0, .int .i64 0, .int .i64 0])),[]⟩,
   ⟨.s .d1 .d5 (.L (.alloc [.str 0 0, .str 0 0, .int .i64 0, .int .i64 0])),[]⟩,
   ⟨.p (.H (.store 4 (.l 1) (.l 7))),[5,2]⟩,
   ⟨.p (.H (.store 4 (.l 1) (.l 3))),[]⟩])
 (.seq (.reg 536342495 [.p (.L (.ak 0 (.t .d1 .d4))),
   .p (.L (.load (.l 0))),
   .p (.L (.ak 0 (.t .d1 .d5))),
   .p (.L (.load (.l 0))),
   .p (.L (.bins .neq (.l 2) (.l 0))),
   .g (.l 0) false (.L (.ak 1 (.t .d1 .d4))),
   .g (.l 1) false (.L (.load (.l 0))),
   .g (.l 2) false (.L (.ak 1 (.t .d1 .d5))),
   .g (.l 3) false (.L (.load (.l 0))),
   .g (.l 4) false (.L (.bins .neq (.l 2) (.l 0))),
   .p (.L (.pick (.l 5) (.c (.bool true)) (.l 0))),
   .g (.l 0) false (.L (.ak 2 (.t .d1 .d4))),
   .g (.l 1) false (.L (.load (.l 0))),
   .g (.l 2) false (.L (.ak 2 (.t .d1 .d5))),
   .g (.l 3) false (.L (.load (.l 0))),
   .g (.l 4) false (.L (.bin .neq (.l 2) (.l 0))),
   .p (.L (.pick (.l 5) (.c (.bool true)) (.l 0))),
   .g (.l 0) false (.L (.mov (.t .d0 .d2))),
   .g (.l 1) false (.L (.mov (.l 0))),
   .g (.l 0) true (.L (.ak 3 (.t .d1 .d4))),
   .g (.l 1) true (.L (.load (.l 0))),
   .g (.l 2) true (.L (.ak 3 (.t .d1 .d5))),
   .g (.l 3) true (.L (.load (.l 0))),
   .g (.l 4) true (.L (.bin .neq (.l 2) (.l 0))),
   .g (.l 7) false (.L (.pick (.l 5) (.l 0) (.c (.bool false)))),
   .s .d1 .d6 (.L (.pick (.l 8) (.c (.bool true)) (.l 0)))])
 (.cond (.t .d1 .d6) (.seq (.reg 1 [.s .d0 .d3 (.L (.mov (.c (.bool false))))])
 .ret) .skip))))
 (.reg 2 [.s .d1 .d2 (.L (.bin .add (.t .d1 .d2) (.c (.int .i64 1))))]))))))
 (.seq (.seq (.reg 1 [.s .d1 .d7 (.L (.mov (.c (.int .i64 0))))])
 (.block 4 (.loop (.seq (.seq (.reg 30 [.p (.L (.ak 4 (.t .d0 .d4))),
   .p (.L (.load (.l 0))),
   .p (.L (.len false (.l 0))),
   .s .d2 .d0 (.L (.bin .lss (.t .d1 .d7) (.l 0)))])
 (.cond (.t .d2 .d0) .skip (.exit 4)))
 (.seq (.block 5 (.seq (.draw [0,1,2,3,4,5,6,7,8,9,10,11,12,13] [⟨.p (.L (.ak 4 (.t .d0 .d4))),[]⟩,
   ⟨.p (.L (.load (.l 0))),[]⟩,
   ⟨.p (.L (.mov (.t .d1 .d7))),[]⟩,
   ⟨.p (.L (.bI 8 (.l 1) (.l 0))),[]⟩,
   ⟨.p (.L (.bE 8 (.l 0))),[]⟩,
   ⟨.p (.L (.ak 4 (.t .d0 .d5))),[]⟩,
   ⟨.p (.L (.load (.l 0))),[]⟩,
   ⟨.p (.L (.mov (.t .d1 .d7))),[]⟩,
   ⟨.p (.L (.bI 8 (.l 1) (.l 0))),[]⟩,
   ⟨.p (.L (.bE 8 (.l 0))),[]⟩,
   ⟨.s .d2 .d1 (.L (.alloc [.str 0 0, .slN, .bool false, .str 0 0, .str 0 0, .slN, .slN, .int .i64 0])),[]⟩,
   ⟨.s .d2 .d2 (.L (.alloc [.str 0 0, .slN, .bool false, .str 0 0, .str 0 0, .slN, .slN, .int .i64 0])),[]⟩,
   ⟨.p (.H (.store 8 (.l 1) (.l 7))),[5,2]⟩,
   ⟨.p (.H (.store 8 (.l 1) (.l 3))),[]⟩])
 (.seq (.seq (.reg 4602661209739096031 [.p (.L (.ak 0 (.t .d2 .d1))),
   .p (.L (.load (.l 0))),
   .p (.L (.ak 0 (.t .d2 .d2))),
   .p (.L (.load (.l 0))),
   .p (.L (.bins .neq (.l 2) (.l 0))),
   .g (.l 0) false (.L (.ak 2 (.t .d2 .d1))),
   .g (.l 1) false (.L (.load (.l 0))),
   .g (.l 2) false (.L (.ak 2 (.t .d2 .d2))),
   .g (.l 3) false (.L (.load (.l 0))),
   .g (.l 4) false (.L (.eq true .bool (.l 2) (.l 0))),
   .p (.L (.pick (.l 5) (.c (.bool true)) (.l 0))),
   .g (.l 0) false (.L (.ak 3 (.t .d2 .d1))),
   .g (.l 1) false (.L (.load (.l 0))),
   .g (.l 2) false (.L (.ak 3 (.t .d2 .d2))),
   .g (.l 3) false (.L (.load (.l 0))),
   .g (.l 4) false (.L (.bins .neq (.l 2) (.l 0))),
   .p (.L (.pick (.l 5) (.c (.bool true)) (.l 0))),
   .g (.l 0) false (.L (.ak 4 (.t .d2 .d1))),
   .g (.l 1) false (.L (.load (.l 0))),
   .g (.l 2) false (.L (.ak 4 (.t .d2 .d2))),
   .g (.l 3) false (.L (.load (.l 0))),
   .g (.l 4) false (.L (.bins .neq (.l 2) (.l 0))),
   .p (.L (.pick (.l 5) (.c (.bool true)) (.l 0))),
   .g (.l 0) false (.L (.ak 5 (.t .d2 .d1))),
   .g (.l 1) false (.L (.load (.l 0))),
   .g (.l 2) false (.L (.ak 5 (.t .d2 .d2))),
   .g (.l 3) false (.L (.load (.l 0))),
   .g (.l 4) false (.H (.call 32 [(.l 2),(.l 0)])),
   .g (.l 5) false (.L (.not (.l 0))),
   .p (.L (.pick (.l 6) (.c (.bool true)) (.l 0))),
   .g (.l 0) false (.L (.mov (.t .d0 .d2))),
   .g (.l 1) false (.L (.mov (.l 0))),
   .g (.l 0) true (.L (.ak 7 (.t .d2 .d1))),
   .g (.l 1) true (.L (.load (.l 0))),
   .g (.l 2) true (.L (.ak 7 (.t .d2 .d2))),
   .g (.l 3) true (.L (.load (.l 0))),
   .g (.l 4) true (.L (.bin .neq (.l 2) (.l 0))),
   .g (.l 7) false (.L (.pick (.l 5) (.l 0) (.c (.bool false)))),
   .p (.L (.pick (.l 8) (.c (.bool true)) (.l 0))),
   .g (.l 0) false (.L (.ak 1 (.t .d2 .d1))),
   .g (.l 1) false (.L (.load (.l 0))),
   .g (.l 2) false (.L (.len false (.l 0))),
   .g (.l 3) false (.L (.ak 1 (.t .d2 .d2))),
   .g (.l 4) false (.L (.load (.l 0))),
   .g (.l 5) false (.L (.len false (.l 0))),
   .g (.l 6) false (.L (.bin .neq (.l 3) (.l 0))),
   .p (.L (.pick (.l 7) (.c (.bool true)) (.l 0))),
   .g (.l 0) false (.L (.ak 6 (.t .d2 .d1))),
   .g (.l 1) false (.L (.load (.l 0))),
   .g (.l 2) false (.L (.ak 6 (.t .d2 .d2))),
   .g (.l 3) false (.L (.load (.l 0))),
   .g (.l 4) false (.L (.mov (.t .d0 .d2))),
   .g (.l 5) false (.H (.call 33 [(.l 3),(.l 1),(.l 0)])),
   .g (.l 6) false (.L (.not (.l 0))),
   .s .d2 .d3 (.L (.pick (.l 7) (.c (.bool true)) (.l 0)))])
 (.cond (.t .d2 .d3) (.seq (.reg 1 [.s .d0 .d3 (.L (.mov (.c (.bool false))))])
 .ret) .skip))
 (.seq (.reg 1 [.s .d2 .d4 (.L (.mov (.c (.int .i64 0))))])
 (.block 6 (.loop (.seq (.seq (.reg 30 [.p (.L (.ak 1 (.t .d2 .d1))),
   .p (.L (.load (.l 0))),
   .p (.L (.len false (.l 0))),
   .s .d2 .d5 (.L (.bin .lss (.t .d2 .d4) (.l 0)))])
 (.cond (.t .d2 .d5) .skip (.exit 6)))
 (.seq (.block 7 (.seq (.draw [0,1,2,3,4,5,6,7,8,9,10,11,12,13,14,15,16,17,18,19,20,21,22,23,24,25,26,27,28,29,30,31,32,33,34,35,36,37,38,39,40,41,42,43,44,45] [⟨.p (.L (.ak 1 (.t .d2 .d1))),[]⟩,
   ⟨.p (.L (.load (.l 0))),[]⟩,
   ⟨.p (.L (.mov (.t .d2 .d4))),[]⟩,
   ⟨.p (.L (.bI 3 (.l 1) (.l 0))),[]⟩,
   ⟨.p (.L (.ak 0 (.l 0))),[]⟩,
   ⟨.p (.L (.load (.l 0))),[]⟩,
   ⟨.p (.L (.ak 1 (.t .d2 .d2))),[]⟩,
   ⟨.p (.L (.load (.l 0))),[]⟩,
   ⟨.p (.L (.mov (.t .d2 .d4))),[]⟩,
   ⟨.p (.L (.bI 3 (.l 1) (.l 0))),[]⟩,
   ⟨.p (.L (.ak 0 (.l 0))),[]⟩,
   ⟨.p (.L (.load (.l 0))),[]⟩,
   ⟨.p (.L (.bins .neq (.l 6) (.l 0))),[]⟩,
   ⟨.p (.L (.mov (.l 0))),[]⟩,
   ⟨.g (.l 0) false (.L (.ak 1 (.t .d2 .d1))),[]⟩,
   ⟨.g (.l 1) false (.L (.load (.l 0))),[]⟩,
   ⟨.g (.l 2) false (.L (.mov (.t .d2 .d4))),[]⟩,
   ⟨.g (.l 3) false (.L (.bI 3 (.l 1) (.l 0))),[]⟩,
   ⟨.g (.l 4) false (.L (.ak 1 (.l 0))),[]⟩,
   ⟨.g (.l 5) false (.L (.load (.l 0))),[]⟩,
   ⟨.g (.l 6) false (.L (.ak 1 (.t .d2 .d2))),[]⟩,
   ⟨.g (.l 7) false (.L (.load (.l 0))),[]⟩,
   ⟨.g (.l 8) false (.L (.mov (.t .d2 .d4))),[]⟩,
   ⟨.g (.l 9) false (.L (.bI 3 (.l 1) (.l 0))),[]⟩,
   ⟨.g (.l 10) false (.L (.ak 1 (.l 0))),[]⟩,
   ⟨.g (.l 11) false (.L (.load (.l 0))),[]⟩,
   ⟨.g (.l 12) false (.L (.bins .neq (.l 6) (.l 0))),[]⟩,
   ⟨.p (.L (.pick (.l 13) (.c (.bool true)) (.l 0))),[]⟩,
   ⟨.p (.L (.mov (.l 0))),[]⟩,
   ⟨.g (.l 0) false (.L (.mov (.t .d0 .d2))),[]⟩,
   ⟨.g (.l 1) false (.L (.mov (.l 0))),[]⟩,
   ⟨.g (.l 0) true (.L (.ak 1 (.t .d2 .d1))),[]⟩,
   ⟨.g (.l 1) true (.L (.load (.l 0))),[]⟩,
   ⟨.g (.l 2) true (.L (.mov (.t .d2 .d4))),[]⟩,
   ⟨.g (.l 3) true (.L (.bI 3 (.l 1) (.l 0))),[]⟩,
   ⟨.g (.l 4) true (.L (.ak 2 (.l 0))),[]⟩,
   ⟨.g (.l 5) true (.L (.load (.l 0))),[]⟩,
   ⟨.g (.l 6) true (.L (.ak 1 (.t .d2 .d2))),[]⟩,
   ⟨.g (.l 7) true (.L (.load (.l 0))),[]⟩,
   ⟨.g (.l 8) true (.L (.mov (.t .d2 .d4))),[]⟩,
   ⟨.g (.l 9) true (.L (.bI 3 (.l 1) (.l 0))),[]⟩,
   ⟨.g (.l 10) true (.L (.ak 2 (.l 0))),[]⟩,
   ⟨.g (.l 11) true (.L (.load (.l 0))),[]⟩,
   ⟨.g (.l 12) true (.L (.bin .neq (.l 6) (.l 0))),[]⟩,
   ⟨.g (.l 15) false (.L (.pick (.l 13) (.l 0) (.c (.bool false)))),[]⟩,
   ⟨.s .d2 .d6 (.L (.pick (.l 16) (.c (.bool true)) (.l 0))),[]⟩])
 (.cond (.t .d2 .d6) (.seq (.reg 1 [.s .d0 .d3 (.L (.mov (.c (.bool false))))])
 .ret) .skip)))
 (.reg 2 [.s .d2 .d4 (.L (.bin .add (.t .d2 .d4) (.c (.int .i64 1))))])))))))))
 (.reg 2 [.s .d1 .d7 (.L (.bin .add (.t .d1 .d7) (.c (.int .i64 1))))]))))))
 (.seq (.reg 1 [.s .d0 .d3 (.L (.mov (.c (.bool true))))])
 .ret))))))⟩
def i21:Fun:=
 ⟨1,[0,2,13,20,5,7,3,6,34,4],[.tmp .d0 .d1],(.seq (.reg 1 [.s .d0 .d1 (.L (.mov (.c (.slN))))])
 (.seq (.reg 2 [.p (.H (.call 35 [(.t .d0 .d0),(.c (.str 6 126909394608492))]))])
 (.seq (.reg 1 [.s .d0 .d6 (.L (.mov (.c (.slN))))])
 (.seq (.block 0 (.loop (.seq (.seq (.reg 14 [.p (.H (.call 36 [(.t .d0 .d0)])),
   .p (.L (.field 0 1 false (.l 0))),
   .s .d0 .d2 (.L (.bin .neq (.l 0) (.c (.int .i64 0))))])
 (.cond (.t .d0 .d2) .skip (.exit 0)))
 (.block 1 (.seq (.reg 118 [.p (.H (.call 36 [(.t .d0 .d0)])),
   .p (.L (.field 2 1 false (.l 0))),
   .p (.H (.call 37 [(.t .d0 .d0)])),
   .s .d1 .d1 (.L (.mov (.l 1))),
   .s .d0 .d4 (.L (.mov (.l 1)))])
 (.seq (.reg 1 [.s .d0 .d7 (.L (.mov (.c (.bool true))))])
 (.seq (.block 2 (.loop (.seq (.seq (.reg 2 [.s .d0 .d3 (.H (.call 38 [(.t .d0 .d0),(.c (.str 1 60))]))])
 (.cond (.t .d0 .d3) .skip (.exit 2)))
 (.block 3 (.seq (.reg 492 [.p (.H (.call 36 [(.t .d0 .d0)])),
   .p (.L (.field 2 1 false (.l 0))),
   .p (.H (.call 37 [(.t .d0 .d0)])),
   .p (.L (.build [.str 0 0, .str 0 0, .int .i64 0] [(0,1,(.t .d0 .d4)),(2,1,(.l 1)),(1,1,(.l 0))])),
   .s .d0 .d5 (.L (.alloc [.str 0 0, .str 0 0, .int .i64 0])),
   .p (.H (.store 3 (.l 0) (.l 1)))])
 (.seq (.reg 14 [.p (.L (.bE 3 (.t .d0 .d5))),
   .p (.L (.bsl 3 1 [.str 0 0, .str 0 0, .int .i64 0] [(0,3,(.l 0))])),
   .s .d0 .d6 (.H (.append 3 40 (.t .d0 .d6) (.l 0)))])
 (.reg 11 [.p (.L (.ak 1 (.t .d0 .d5))),
   .s .d0 .d4 (.L (.load (.l 0))),
   .s .d0 .d7 (.L (.mov (.c (.bool false))))])))))))
 (.seq (.seq (.reg 1 [.s .d1 .d0 (.L (.mov (.t .d0 .d7)))])
 (.cond (.t .d1 .d0) (.reg 56 [.p (.L (.build [.str 0 0, .str 0 0, .int .i64 0] [(0,1,(.t .d0 .d4)),(2,1,(.t .d1 .d1))])),
   .p (.L (.bsl 3 1 [.str 0 0, .str 0 0, .int .i64 0] [(0,3,(.l 0))])),
   .s .d0 .d6 (.H (.append 3 40 (.t .d0 .d6) (.l 0)))]) .skip))
 (.reg 2 [.p (.H (.call 35 [(.t .d0 .d0),(.c (.str 1 59))]))])))))))))
 (.seq (.reg 2 [.s .d0 .d1 (.L (.mov (.t .d0 .d6)))])
 .ret)))))⟩
def i23:Fun:=
 ⟨1,[0,2,15,3,32,34],[.cell .d0 .d1 (some 5)],(.seq (.reg 1 [.s .d0 .d1 (.L (.alloc [.str 0 0, .int .i64 0, .slN, .slN, .slN]))])
 (.seq (.reg 2 [.p (.H (.call 35 [(.t .d0 .d0),(.c (.str 6 111516500389741))]))])
 (.seq (.reg 246 [.p (.H (.call 36 [(.t .d0 .d0)])),
   .p (.L (.field 2 1 false (.l 0))),
   .p (.H (.call 37 [(.t .d0 .d0)])),
   .p (.L (.build [.str 0 0, .int .i64 0, .slN, .slN, .slN] [(1,1,(.l 1)),(0,1,(.l 0))])),
   .s .d0 .d3 (.L (.alloc [.str 0 0, .int .i64 0, .slN, .slN, .slN])),
   .p (.H (.store 5 (.l 0) (.l 1)))])
 (.seq (.reg 2 [.p (.H (.call 35 [(.t .d0 .d0),(.c (.str 1 59))]))])
 (.seq (.block 0 (.loop (.seq (.seq (.reg 2 [.s .d0 .d2 (.H (.call 38 [(.t .d0 .d0),(.c (.str 6 128034844732777))]))])
 (.cond (.t .d0 .d2) .skip (.exit 0)))
 (.block 1 (.seq (.draw [0,1,2,5,3,4,6,7,8,9,10,11] [⟨.p (.L (.ak 2 (.t .d0 .d3))),[]⟩,
   ⟨.p (.L (.load (.l 0))),[]⟩,
   ⟨.p (.L (.mov (.t .d0 .d0))),[]⟩,
   ⟨.p (.L (.mov (.t .d0 .d0))),[]⟩,
   ⟨.p (.H (.call 36 [(.l 1)])),[2]⟩,
   ⟨.p (.L (.field 2 1 false (.l 0))),[]⟩,
   ⟨.p (.H (.call 37 [(.l 2)])),[4]⟩,
   ⟨.p (.L (.build [.str 0 0, .int .i64 0] [(1,1,(.l 1)),(0,1,(.l 0))])),[]⟩,
   ⟨.p (.L (.bsl 2 1 [.str 0 0, .int .i64 0] [(0,2,(.l 0))])),[]⟩,
   ⟨.p (.H (.append 2 24 (.l 7) (.l 0))),[]⟩,
   ⟨.p (.L (.ak 2 (.t .d0 .d3))),[]⟩,
   ⟨.p (.H (.store 1 (.l 0) (.l 1))),[]⟩])
 (.reg 2 [.p (.H (.call 35 [(.t .d0 .d0),(.c (.str 1 59))]))]))))))
 (.seq (.block 2 (.loop (.seq (.seq (.reg 14 [.p (.H (.call 36 [(.t .d0 .d0)])),
   .p (.L (.field 0 1 false (.l 0))),
   .s .d0 .d4 (.L (.bin .neq (.l 0) (.c (.int .i64 0))))])
 (.cond (.t .d0 .d4) .skip (.exit 2)))
 (.block 3 (.seq (.reg 2 [.s .d0 .d5 (.H (.call 38 [(.t .d0 .d0),(.c (.str 3 7496054))]))])
 (.cond (.t .d0 .d5) (.draw [0,1,2,3,4,5,6,7] [⟨.p (.L (.ak 3 (.t .d0 .d3))),[]⟩,
   ⟨.p (.L (.load (.l 0))),[]⟩,
   ⟨.p (.L (.mov (.t .d0 .d0))),[]⟩,
   ⟨.p (.H (.call 40 [(.l 0)])),[1]⟩,
   ⟨.p (.L (.bsl 4 1 [.str 0 0, .str 0 0, .int .i64 0, .int .i64 0] [(0,4,(.l 0))])),[]⟩,
   ⟨.p (.H (.append 4 48 (.l 3) (.l 0))),[]⟩,
   ⟨.p (.L (.ak 3 (.t .d0 .d3))),[]⟩,
   ⟨.p (.H (.store 1 (.l 0) (.l 1))),[]⟩]) (.seq (.reg 2 [.p (.H (.call 35 [(.t .d0 .d0),(.c (.str 4 1668248176))]))])
 (.draw [0,1,2,3,4,5,6,7] [⟨.p (.L (.ak 4 (.t .d0 .d3))),[]⟩,
   ⟨.p (.L (.load (.l 0))),[]⟩,
   ⟨.p (.L (.mov (.t .d0 .d0))),[]⟩,
   ⟨.p (.H (.call 41 [(.l 0)])),[1]⟩,
   ⟨.p (.L (.bsl 8 1 [.str 0 0, .slN, .bool false, .str 0 0, .str 0 0, .slN, .slN, .int .i64 0] [(0,8,(.l 0))])),[]⟩,
   ⟨.p (.H (.append 8 136 (.l 3) (.l 0))),[]⟩,
   ⟨.p (.L (.ak 4 (.t .d0 .d3))),[]⟩,
   ⟨.p (.H (.store 1 (.l 0) (.l 1))),[]⟩]))))))))
 (.seq (.reg 3 [.p (.L (.bE 5 (.t .d0 .d3))),
   .p (.H (.store 5 (.t .d0 .d1) (.l 0)))])
 .ret)))))))⟩
def i24:Fun:=
 ⟨3,[0,1,2,4,17,5],[.tmp .d0 .d3],(.seq (.reg 1 [.s .d0 .d3 (.L (.mov (.c (.str 0 0))))])
 (.seq (.reg 1 [.s .d0 .d5 (.L (.load (.t .d0 .d1)))])
 (.seq (.block 0 (.loop (.seq (.seq (.reg 2031 [.p (.L (.load (.t .d0 .d1))),
   .p (.L (.load (.t .d0 .d2))),
   .p (.L (.len true (.l 0))),
   .p (.L (.bin .lss (.l 2) (.l 0))),
   .g (.l 0) true (.L (.mov (.t .d0 .d0))),
   .g (.l 1) true (.L (.load (.t .d0 .d2))),
   .g (.l 2) true (.L (.load (.t .d0 .d1))),
   .g (.l 3) true (.L (.istr (.l 1) (.l 0))),
   .g (.l 4) true (.H (.iH (.l 3) [(.l 0)])),
   .s .d0 .d4 (.L (.pick (.l 5) (.l 0) (.c (.bool false))))])
 (.cond (.t .d0 .d4) .skip (.exit 0)))
 (.block 1 (.reg 7 [.p (.L (.load (.t .d0 .d1))),
   .p (.L (.bin .add (.l 0) (.c (.int .i64 1)))),
   .p (.H (.store 1 (.t .d0 .d1) (.l 0)))])))))
 (.seq (.reg 13 [.p (.L (.load (.t .d0 .d2))),
   .p (.L (.load (.t .d0 .d1))),
   .s .d0 .d3 (.L (.sstr (.l 1) (some (.t .d0 .d5)) (some (.l 0))))])
 .ret))))⟩
def i25:Fun:=
 ⟨1,[0,2],[.tmp .d0 .d1],(.seq (.reg 1 [.s .d0 .d1 (.L (.mov (.c (.bool false))))])
 (.seq (.reg 2 [.s .d0 .d1 (.L (.bin .neq (.t .d0 .d0) (.c (.int .u8 10))))])
 .ret))⟩
def i26:Fun:=
 ⟨1,[0,2],[.tmp .d0 .d1],(.seq (.reg 1 [.s .d0 .d1 (.L (.mov (.c (.bool false))))])
 (.seq (.reg 58 [.p (.L (.bin .geq (.t .d0 .d0) (.c (.int .u8 97)))),
   .g (.l 0) true (.L (.mov (.t .d0 .d0))),
   .g (.l 1) true (.L (.bin .leq (.l 0) (.c (.int .u8 122)))),
   .s .d0 .d1 (.L (.pick (.l 2) (.l 0) (.c (.bool false))))])
 .ret))⟩
def i27:Fun:=
 ⟨1,[0,2],[.tmp .d0 .d1],(.seq (.reg 1 [.s .d0 .d1 (.L (.mov (.c (.bool false))))])
 (.seq (.reg 954 [.p (.H (.call 26 [(.t .d0 .d0)])),
   .g (.l 0) false (.L (.mov (.t .d0 .d0))),
   .g (.l 1) false (.H (.call 29 [(.l 0)])),
   .p (.L (.pick (.l 2) (.c (.bool true)) (.l 0))),
   .g (.l 0) false (.L (.mov (.t .d0 .d0))),
   .g (.l 1) false (.L (.bin .eql (.l 0) (.c (.int .u8 95)))),
   .s .d0 .d1 (.L (.pick (.l 2) (.c (.bool true)) (.l 0)))])
 .ret))⟩
def i28:Fun:=
 ⟨1,[0,2,3,4,7],[.tmp .d0 .d1, .tmp .d0 .d2],(.seq (.reg 3 [.s .d0 .d1 (.L (.mov (.c (.int .i64 0)))),
   .s .d0 .d2 (.L (.mov (.c (.int .i64 0))))])
 (.seq (.block 0 (.seq (.reg 2 [.s .d0 .d3 (.H (.call 42 [(.t .d0 .d0)]))])
 (.cond (.t .d0 .d3) (.seq (.reg 3 [.s .d0 .d1 (.L (.mov (.c (.int .i64 3)))),
   .s .d0 .d2 (.L (.mov (.c (.int .i64 0))))])
 .ret) (.seq (.reg 6 [.p (.L (.len true (.t .d0 .d0))),
   .s .d0 .d4 (.L (.bin .gtr (.l 0) (.c (.int .i64 20))))])
 (.cond (.t .d0 .d4) (.seq (.reg 3 [.s .d0 .d1 (.L (.mov (.c (.int .i64 0)))),
   .s .d0 .d2 (.L (.mov (.c (.int .i64 9))))])
 .ret) .skip)))))
 (.seq (.reg 3 [.s .d0 .d1 (.L (.mov (.c (.int .i64 1)))),
   .s .d0 .d2 (.L (.mov (.c (.int .i64 0))))])
 .ret)))⟩
def i29:Fun:=
 ⟨1,[0,2],[.tmp .d0 .d1],(.seq (.reg 1 [.s .d0 .d1 (.L (.mov (.c (.bool false))))])
 (.seq (.reg 58 [.p (.L (.bin .geq (.t .d0 .d0) (.c (.int .u8 48)))),
   .g (.l 0) true (.L (.mov (.t .d0 .d0))),
   .g (.l 1) true (.L (.bin .leq (.l 0) (.c (.int .u8 57)))),
   .s .d0 .d1 (.L (.pick (.l 2) (.l 0) (.c (.bool false))))])
 .ret))⟩
def i30:Fun:=
 ⟨2,[0,1,4,5,6,10],[.tmp .d0 .d2, .tmp .d0 .d3],(.seq (.reg 3 [.s .d0 .d2 (.L (.mov (.c (.int .i64 0)))),
   .s .d0 .d3 (.L (.mov (.c (.int .i64 0))))])
 (.seq (.block 0 (.seq (.reg 6 [.p (.L (.len true (.t .d0 .d0))),
   .s .d0 .d4 (.L (.bin .gtr (.l 0) (.c (.int .i64 9))))])
 (.cond (.t .d0 .d4) (.seq (.reg 3 [.s .d0 .d2 (.L (.mov (.c (.int .i64 0)))),
   .s .d0 .d3 (.L (.mov (.c (.int .i64 9))))])
 .ret) (.seq (.seq (.reg 246 [.p (.L (.istr (.t .d0 .d0) (.c (.int .i64 0)))),
   .p (.L (.bin .eql (.l 0) (.c (.int .u8 48)))),
   .g (.l 0) true (.L (.mov (.t .d0 .d0))),
   .g (.l 1) true (.L (.len true (.l 0))),
   .g (.l 2) true (.L (.bin .gtr (.l 0) (.c (.int .i64 1)))),
   .s .d0 .d5 (.L (.pick (.l 3) (.l 0) (.c (.bool false))))])
 (.cond (.t .d0 .d5) .skip (.reg 122 [.p (.L (.bins .neq (.t .d0 .d1) (.c (.str 0 0)))),
   .g (.l 0) true (.L (.mov (.t .d0 .d1))),
   .g (.l 1) true (.L (.istr (.l 0) (.c (.int .i64 0)))),
   .g (.l 2) true (.H (.call 27 [(.l 0)])),
   .s .d0 .d5 (.L (.pick (.l 3) (.l 0) (.c (.bool false))))])))
 (.cond (.t .d0 .d5) (.seq (.reg 3 [.s .d0 .d2 (.L (.mov (.c (.int .i64 0)))),
   .s .d0 .d3 (.L (.mov (.c (.int .i64 10))))])
 .ret) .skip)))))
 (.seq (.reg 3 [.s .d0 .d2 (.L (.mov (.c (.int .i64 2)))),
   .s .d0 .d3 (.L (.mov (.c (.int .i64 0))))])
 .ret)))⟩
def i31:Fun:=
 ⟨1,[0,2,7,6,8,5,4,13,23],[.tmp .d0 .d1],(.seq (.reg 1 [.s .d0 .d1 (.L (.mov (.c (.str 0 0))))])
 (.seq (.seq (.reg 7 [.s .d0 .d5 (.L (.bsl 1 3 [.str 0 0] [(0,1,(.c (.str 2 15677))),(1,1,(.c (.str 2 15676))),(2,1,(.c (.str 2 15917)))])),
   .s .d0 .d3 (.L (.len false (.l 0))),
   .s .d0 .d2 (.L (.mov (.c (.int .i64 0))))])
 (.block 0 (.loop (.seq (.reg 1 [.s .d0 .d4 (.L (.bin .lss (.t .d0 .d2) (.t .d0 .d3)))])
 (.seq (.cond (.t .d0 .d4) .skip (.exit 0))
 (.seq (.block 1 (.seq (.reg 3 [.p (.L (.bI 1 (.t .d0 .d5) (.t .d0 .d2))),
   .s .d0 .d6 (.L (.load (.l 0)))])
 (.seq (.reg 4 [.s .d0 .d7 (.H (.call 43 [(.t .d0 .d0),(.t .d0 .d6)]))])
 (.cond (.t .d0 .d7) (.seq (.reg 2 [.s .d0 .d1 (.L (.mov (.t .d0 .d6)))])
 .ret) .skip))))
 (.reg 1 [.s .d0 .d2 (.L (.bin .add (.t .d0 .d2) (.c (.int .i64 1))))])))))))
 (.seq (.seq (.reg 250 [.p (.L (.bins .neq (.t .d0 .d0) (.c (.str 0 0)))),
   .g (.l 0) true (.L (.mov (.t .d0 .d0))),
   .g (.l 1) true (.L (.istr (.l 0) (.c (.int .i64 0)))),
   .g (.l 2) true (.H (.call 44 [(.c (.str 16 44057595459481303378468723561875581224)),(.l 0)])),
   .g (.l 3) true (.L (.bin .geq (.l 0) (.c (.int .i64 0)))),
   .s .d1 .d0 (.L (.pick (.l 4) (.l 0) (.c (.bool false))))])
 (.cond (.t .d1 .d0) (.seq (.reg 2 [.s .d0 .d1 (.L (.sstr (.t .d0 .d0) none (some (.c (.int .i64 1)))))])
 .ret) .skip))
 (.seq (.reg 1 [.s .d0 .d1 (.L (.mov (.c (.str 0 0))))])
 .ret))))⟩
def i32:Fun:=
 ⟨2,[0,1,4,10,5,14,25],[.tmp .d0 .d2],(.seq (.reg 1 [.s .d0 .d2 (.L (.mov (.c (.bool false))))])
 (.seq (.seq (.reg 26 [.p (.L (.len false (.t .d0 .d0))),
   .p (.L (.len false (.t .d0 .d1))),
   .s .d0 .d3 (.L (.bin .neq (.l 1) (.l 0)))])
 (.cond (.t .d0 .d3) (.seq (.reg 1 [.s .d0 .d2 (.L (.mov (.c (.bool false))))])
 .ret) .skip))
 (.seq (.seq (.reg 1 [.s .d0 .d4 (.L (.mov (.c (.int .i64 0))))])
 (.block 0 (.loop (.seq (.seq (.reg 12 [.p (.L (.len false (.t .d0 .d0))),
   .s .d0 .d5 (.L (.bin .lss (.t .d0 .d4) (.l 0)))])
 (.cond (.t .d0 .d5) .skip (.exit 0)))
 (.seq (.block 1 (.seq (.draw [0,1,2,3,4,5,6,7,8] [⟨.p (.L (.mov (.t .d0 .d0))),[]⟩,
   ⟨.p (.L (.mov (.t .d0 .d4))),[]⟩,
   ⟨.p (.L (.bI 1 (.l 1) (.l 0))),[]⟩,
   ⟨.p (.L (.load (.l 0))),[]⟩,
   ⟨.p (.L (.mov (.t .d0 .d1))),[]⟩,
   ⟨.p (.L (.mov (.t .d0 .d4))),[]⟩,
   ⟨.p (.L (.bI 1 (.l 1) (.l 0))),[]⟩,
   ⟨.p (.L (.load (.l 0))),[]⟩,
   ⟨.s .d0 .d6 (.L (.bins .neq (.l 4) (.l 0))),[]⟩])
 (.cond (.t .d0 .d6) (.seq (.reg 1 [.s .d0 .d2 (.L (.mov (.c (.bool false))))])
 .ret) .skip)))
 (.reg 2 [.s .d0 .d4 (.L (.bin .add (.t .d0 .d4) (.c (.int .i64 1))))]))))))
 (.seq (.reg 1 [.s .d0 .d2 (.L (.mov (.c (.bool true))))])
 .ret))))⟩
def i33:Fun:=
 ⟨3,[0,1,2,6,15,7,19,8,9,95,120,10,125,140],[.tmp .d0 .d3],(.seq (.reg 1 [.s .d0 .d3 (.L (.mov (.c (.bool false))))])
 (.seq (.seq (.reg 26 [.p (.L (.len false (.t .d0 .d0))),
   .p (.L (.len false (.t .d0 .d1))),
   .s .d0 .d4 (.L (.bin .neq (.l 1) (.l 0)))])
 (.cond (.t .d0 .d4) (.seq (.reg 1 [.s .d0 .d3 (.L (.mov (.c (.bool false))))])
 .ret) .skip))
 (.seq (.seq (.reg 1 [.s .d0 .d5 (.L (.mov (.c (.int .i64 0))))])
 (.block 0 (.loop (.seq (.seq (.reg 12 [.p (.L (.len false (.t .d0 .d0))),
   .s .d0 .d6 (.L (.bin .lss (.t .d0 .d5) (.l 0)))])
 (.cond (.t .d0 .d6) .skip (.exit 0)))
 (.seq (.block 1 (.seq (.draw [0,1,2,3,4,5,6,7,8,9,10,11] [⟨.p (.L (.mov (.t .d0 .d0))),[]⟩,
   ⟨.p (.L (.mov (.t .d0 .d5))),[]⟩,
   ⟨.p (.L (.bI 12 (.l 1) (.l 0))),[]⟩,
   ⟨.p (.L (.bE 12 (.l 0))),[]⟩,
   ⟨.p (.L (.mov (.t .d0 .d1))),[]⟩,
   ⟨.p (.L (.mov (.t .d0 .d5))),[]⟩,
   ⟨.p (.L (.bI 12 (.l 1) (.l 0))),[]⟩,
   ⟨.p (.L (.bE 12 (.l 0))),[]⟩,
   ⟨.s .d0 .d7 (.L (.alloc [.int .i64 0, .int .i64 0, .str 0 0, .str 0 0, .str 0 0, .bool false, .str 0 0, .str 0 0, .slN, .slN, .slN, .slN])),[]⟩,
   ⟨.s .d1 .d0 (.L (.alloc [.int .i64 0, .int .i64 0, .str 0 0, .str 0 0, .str 0 0, .bool false, .str 0 0, .str 0 0, .slN, .slN, .slN, .slN])),[]⟩,
   ⟨.p (.H (.store 12 (.l 1) (.l 6))),[2]⟩,
   ⟨.p (.H (.store 12 (.l 1) (.l 3))),[]⟩])
 (.seq (.seq (.reg 73641726341501911007 [.p (.L (.ak 0 (.t .d0 .d7))),
   .p (.L (.load (.l 0))),
   .p (.L (.ak 0 (.t .d1 .d0))),
   .p (.L (.load (.l 0))),
   .p (.L (.bin .neq (.l 2) (.l 0))),
   .g (.l 0) false (.L (.mov (.t .d0 .d2))),
   .g (.l 1) false (.L (.mov (.l 0))),
   .g (.l 0) true (.L (.ak 1 (.t .d0 .d7))),
   .g (.l 1) true (.L (.load (.l 0))),
   .g (.l 2) true (.L (.ak 1 (.t .d1 .d0))),
   .g (.l 3) true (.L (.load (.l 0))),
   .g (.l 4) true (.L (.bin .neq (.l 2) (.l 0))),
   .g (.l 7) false (.L (.pick (.l 5) (.l 0) (.c (.bool false)))),
   .p (.L (.pick (.l 8) (.c (.bool true)) (.l 0))),
   .g (.l 0) false (.L (.ak 2 (.t .d0 .d7))),
   .g (.l 1) false (.L (.load (.l 0))),
   .g (.l 2) false (.L (.ak 2 (.t .d1 .d0))),
   .g (.l 3) false (.L (.load (.l 0))),
   .g (.l 4) false (.L (.bins .neq (.l 2) (.l 0))),
   .p (.L (.pick (.l 5) (.c (.bool true)) (.l 0))),
   .g (.l 0) false (.L (.ak 3 (.t .d0 .d7))),
   .g (.l 1) false (.L (.load (.l 0))),
   .g (.l 2) false (.L (.ak 3 (.t .d1 .d0))),
   .g (.l 3) false (.L (.load (.l 0))),
   .g (.l 4) false (.L (.bins .neq (.l 2) (.l 0))),
   .p (.L (.pick (.l 5) (.c (.bool true)) (.l 0))),
   .g (.l 0) false (.L (.ak 4 (.t .d0 .d7))),
   .g (.l 1) false (.L (.load (.l 0))),
   .g (.l 2) false (.L (.ak 4 (.t .d1 .d0))),
   .g (.l 3) false (.L (.load (.l 0))),
   .g (.l 4) false (.L (.bins .neq (.l 2) (.l 0))),
   .p (.L (.pick (.l 5) (.c (.bool true)) (.l 0))),
   .g (.l 0) false (.L (.ak 5 (.t .d0 .d7))),
   .g (.l 1) false (.L (.load (.l 0))),
   .g (.l 2) false (.L (.ak 5 (.t .d1 .d0))),
   .g (.l 3) false (.L (.load (.l 0))),
   .g (.l 4) false (.L (.eq true .bool (.l 2) (.l 0))),
   .p (.L (.pick (.l 5) (.c (.bool true)) (.l 0))),
   .g (.l 0) false (.L (.ak 6 (.t .d0 .d7))),
   .g (.l 1) false (.L (.load (.l 0))),
   .g (.l 2) false (.L (.ak 6 (.t .d1 .d0))),
   .g (.l 3) false (.L (.load (.l 0))),
   .g (.l 4) false (.L (.bins .neq (.l 2) (.l 0))),
   .p (.L (.pick (.l 5) (.c (.bool true)) (.l 0))),
   .g (.l 0) false (.L (.ak 7 (.t .d0 .d7))),
   .g (.l 1) false (.L (.load (.l 0))),
   .g (.l 2) false (.L (.ak 7 (.t .d1 .d0))),
   .g (.l 3) false (.L (.load (.l 0))),
   .g (.l 4) false (.L (.bins .neq (.l 2) (.l 0))),
   .p (.L (.pick (.l 5) (.c (.bool true)) (.l 0))),
   .g (.l 0) false (.L (.ak 9 (.t .d0 .d7))),
   .g (.l 1) false (.L (.load (.l 0))),
   .g (.l 2) false (.L (.len false (.l 0))),
   .g (.l 3) false (.L (.ak 9 (.t .d1 .d0))),
   .g (.l 4) false (.L (.load (.l 0))),
   .g (.l 5) false (.L (.len false (.l 0))),
   .g (.l 6) false (.L (.bin .neq (.l 3) (.l 0))),
   .s .d1 .d1 (.L (.pick (.l 7) (.c (.bool true)) (.l 0)))])
 (.cond (.t .d1 .d1) (.seq (.reg 1 [.s .d0 .d3 (.L (.mov (.c (.bool false))))])
 .ret) .skip))
 (.seq (.seq (.reg 33488751 [.p (.L (.ak 8 (.t .d0 .d7))),
   .p (.L (.load (.l 0))),
   .p (.L (.ak 8 (.t .d1 .d0))),
   .p (.L (.load (.l 0))),
   .p (.H (.call 45 [(.l 2),(.l 0),(.t .d0 .d2)])),
   .p (.L (.not (.l 0))),
   .g (.l 0) false (.L (.ak 10 (.t .d0 .d7))),
   .g (.l 1) false (.L (.load (.l 0))),
   .g (.l 2) false (.L (.ak 10 (.t .d1 .d0))),
   .g (.l 3) false (.L (.load (.l 0))),
   .g (.l 4) false (.L (.mov (.t .d0 .d2))),
   .g (.l 5) false (.H (.call 33 [(.l 3),(.l 1),(.l 0)])),
   .g (.l 6) false (.L (.not (.l 0))),
   .p (.L (.pick (.l 7) (.c (.bool true)) (.l 0))),
   .g (.l 0) false (.L (.ak 11 (.t .d0 .d7))),
   .g (.l 1) false (.L (.load (.l 0))),
   .g (.l 2) false (.L (.ak 11 (.t .d1 .d0))),
   .g (.l 3) false (.L (.load (.l 0))),
   .g (.l 4) false (.L (.mov (.t .d0 .d2))),
   .g (.l 5) false (.H (.call 33 [(.l 3),(.l 1),(.l 0)])),
   .g (.l 6) false (.L (.not (.l 0))),
   .s .d1 .d2 (.L (.pick (.l 7) (.c (.bool true)) (.l 0)))])
 (.cond (.t .d1 .d2) (.seq (.reg 1 [.s .d0 .d3 (.L (.mov (.c (.bool false))))])
 .ret) .skip))
 (.seq (.reg 1 [.s .d1 .d3 (.L (.mov (.c (.int .i64 0))))])
 (.block 2 (.loop (.seq (.seq (.reg 30 [.p (.L (.ak 9 (.t .d0 .d7))),
   .p (.L (.load (.l 0))),
   .p (.L (.len false (.l 0))),
   .s .d1 .d4 (.L (.bin .lss (.t .d1 .d3) (.l 0)))])
 (.cond (.t .d1 .d4) .skip (.exit 2)))
 (.seq (.block 3 (.seq (.draw [0,1,2,3,4,5,6,7,8,9,10,11,12] [⟨.p (.L (.ak 9 (.t .d0 .d7))),[]⟩,
   ⟨.p (.L (.load (.l 0))),[]⟩,
   ⟨.p (.L (.mov (.t .d1 .d3))),[]⟩,
   ⟨.p (.L (.bI 1 (.l 1) (.l 0))),[]⟩,
   ⟨.p (.L (.load (.l 0))),[]⟩,
   ⟨.p (.L (.ak 9 (.t .d1 .d0))),[]⟩,
   ⟨.p (.L (.load (.l 0))),[]⟩,
   ⟨.p (.L (.mov (.t .d1 .d3))),[]⟩,
   ⟨.p (.L (.bI 1 (.l 1) (.l 0))),[]⟩,
   ⟨.p (.L (.load (.l 0))),[]⟩,
   ⟨.p (.L (.mov (.t .d0 .d2))),[]⟩,
   ⟨.p (.H (.call 45 [(.l 6),(.l 1),(.l 0)])),[]⟩,
   ⟨.s .d1 .d5 (.L (.not (.l 0))),[]⟩])
 (.cond (.t .d1 .d5) (.seq (.reg 1 [.s .d0 .d3 (.L (.mov (.c (.bool false))))])
 .ret) .skip)))
 (.reg 2 [.s .d1 .d3 (.L (.bin .add (.t .d1 .d3) (.c (.int .i64 1))))]))))))))))
 (.reg 2 [.s .d0 .d5 (.L (.bin .add (.t .d0 .d5) (.c (.int .i64 1))))]))))))
 (.seq (.reg 1 [.s .d0 .d3 (.L (.mov (.c (.bool true))))])
 .ret))))⟩
def i35:Fun:=
 ⟨2,[0,1,4,12,5],[.tmp .d0 .d2],(.seq (.reg 1 [.s .d0 .d2 (.L (.mov (.c (.int .i64 0))))])
 (.seq (.reg 6 [.p (.H (.call 36 [(.t .d0 .d0)])),
   .s .d0 .d4 (.L (.field 2 1 false (.l 0)))])
 (.seq (.seq (.reg 12 [.p (.H (.call 38 [(.t .d0 .d0),(.t .d0 .d1)])),
   .s .d0 .d3 (.L (.not (.l 0)))])
 (.cond (.t .d0 .d3) (.reg 2 [.p (.H (.call 46 [(.t .d0 .d0),(.c (.int .i64 11))]))]) .skip))
 (.seq (.reg 2 [.s .d0 .d2 (.L (.mov (.t .d0 .d4)))])
 .ret))))⟩
def i36:Fun:=
 ⟨1,[0,2],[.cell .d0 .d1 (some 3)],(.seq (.reg 1 [.s .d0 .d1 (.L (.alloc [.int .i64 0, .str 0 0, .int .i64 0]))])
 (.seq (.draw [0,1,2,3,4,5,6,7,8,9,10] [⟨.p (.L (.mov (.t .d0 .d0))),[]⟩,
   ⟨.p (.L (.nilck (.l 0))),[]⟩,
   ⟨.p (.L (.ak 0 (.l 0))),[]⟩,
   ⟨.p (.L (.load (.l 0))),[]⟩,
   ⟨.p (.L (.mov (.t .d0 .d0))),[]⟩,
   ⟨.p (.L (.nilck (.l 0))),[]⟩,
   ⟨.p (.L (.ak 1 (.l 0))),[]⟩,
   ⟨.p (.L (.load (.l 0))),[]⟩,
   ⟨.p (.L (.bI 3 (.l 4) (.l 0))),[]⟩,
   ⟨.p (.L (.bE 3 (.l 0))),[]⟩,
   ⟨.p (.H (.store 3 (.t .d0 .d1) (.l 0))),[]⟩])
 .ret))⟩
def i37:Fun:=
 ⟨1,[0,2],[.tmp .d0 .d1],(.seq (.reg 1 [.s .d0 .d1 (.L (.mov (.c (.str 0 0))))])
 (.seq (.reg 6 [.p (.H (.call 47 [(.t .d0 .d0),(.c (.int .i64 1))])),
   .s .d0 .d1 (.L (.field 1 1 false (.l 0)))])
 .ret))⟩
def i38:Fun:=
 ⟨2,[0,1,4,5,9],[.tmp .d0 .d2],(.seq (.reg 1 [.s .d0 .d2 (.L (.mov (.c (.bool false))))])
 (.seq (.reg 4 [.s .d0 .d3 (.H (.call 48 [(.t .d0 .d0),(.t .d0 .d1)]))])
 (.seq (.seq (.reg 1 [.s .d0 .d4 (.L (.mov (.t .d0 .d3)))])
 (.cond (.t .d0 .d4) (.reg 254 [.p (.L (.nilck (.t .d0 .d0))),
   .p (.L (.ak 1 (.l 0))),
   .p (.L (.load (.l 0))),
   .p (.L (.bin .add (.l 0) (.c (.int .i64 1)))),
   .p (.L (.nilck (.t .d0 .d0))),
   .p (.L (.ak 1 (.l 0))),
   .p (.H (.store 1 (.l 0) (.l 2)))]) .skip))
 (.seq (.reg 2 [.s .d0 .d2 (.L (.mov (.t .d0 .d3)))])
 .ret))))⟩
def i40:Fun:=
 ⟨1,[0,2,3,4,23],[.cell .d0 .d1 (some 4)],(.seq (.reg 1 [.s .d0 .d1 (.L (.alloc [.str 0 0, .str 0 0, .int .i64 0, .int .i64 0]))])
 (.seq (.reg 246 [.p (.H (.call 36 [(.t .d0 .d0)])),
   .p (.L (.field 2 1 false (.l 0))),
   .p (.H (.call 37 [(.t .d0 .d0)])),
   .p (.L (.build [.str 0 0, .str 0 0, .int .i64 0, .int .i64 0] [(3,1,(.l 1)),(0,1,(.l 0))])),
   .s .d0 .d2 (.L (.alloc [.str 0 0, .str 0 0, .int .i64 0, .int .i64 0])),
   .p (.H (.store 4 (.l 0) (.l 1)))])
 (.seq (.reg 2 [.p (.H (.call 35 [(.t .d0 .d0),(.c (.str 1 58))]))])
 (.seq (.reg 14 [.p (.H (.call 37 [(.t .d0 .d0)])),
   .p (.L (.ak 1 (.t .d0 .d2))),
   .p (.H (.store 1 (.l 0) (.l 1)))])
 (.seq (.reg 2 [.p (.H (.call 35 [(.t .d0 .d0),(.c (.str 1 61))]))])
 (.seq (.reg 2 [.s .d0 .d3 (.H (.call 38 [(.t .d0 .d0),(.c (.str 1 45))]))])
 (.seq (.reg 14 [.p (.H (.call 49 [(.t .d0 .d0)])),
   .p (.L (.ak 2 (.t .d0 .d2))),
   .p (.H (.store 1 (.l 0) (.l 1)))])
 (.seq (.seq (.reg 1 [.s .d0 .d4 (.L (.mov (.t .d0 .d3)))])
 (.cond (.t .d0 .d4) (.reg 31 [.p (.L (.ak 2 (.t .d0 .d2))),
   .p (.L (.load (.l 0))),
   .p (.L (.neg (.l 0))),
   .p (.L (.ak 2 (.t .d0 .d2))),
   .p (.H (.store 1 (.l 0) (.l 1)))]) .skip))
 (.seq (.reg 2 [.p (.H (.call 35 [(.t .d0 .d0),(.c (.str 1 59))]))])
 (.seq (.reg 3 [.p (.L (.bE 4 (.t .d0 .d2))),
   .p (.H (.store 4 (.t .d0 .d1) (.l 0)))])
 .ret))))))))))⟩
def i41:Fun:=
 ⟨1,[0,2,1,3,16],[.cell .d0 .d1 (some 8)],(.seq (.reg 3 [.s .d0 .d2 (.L (.box 1 (.t .d0 .d0))),
   .s .d0 .d1 (.L (.alloc [.str 0 0, .slN, .bool false, .str 0 0, .str 0 0, .slN, .slN, .int .i64 0]))])
 (.seq (.draw [0,3,6,1,2,4,5,7] [⟨.p (.L (.load (.t .d0 .d2))),[]⟩,
   ⟨.p (.L (.load (.t .d0 .d2))),[]⟩,
   ⟨.s .d0 .d3 (.L (.alloc [.str 0 0, .slN, .bool false, .str 0 0, .str 0 0, .slN, .slN, .int .i64 0])),[]⟩,
   ⟨.p (.H (.call 36 [(.l 2)])),[1,0]⟩,
   ⟨.p (.L (.field 2 1 false (.l 0))),[]⟩,
   ⟨.p (.H (.call 37 [(.l 3)])),[2]⟩,
   ⟨.p (.L (.build [.str 0 0, .slN, .bool false, .str 0 0, .str 0 0, .slN, .slN, .int .i64 0] [(7,1,(.l 1)),(0,1,(.l 0))])),[]⟩,
   ⟨.p (.H (.store 8 (.l 4) (.l 0))),[]⟩])
 (.seq (.reg 3 [.p (.L (.load (.t .d0 .d2))),
   .p (.H (.call 35 [(.l 0),(.c (.str 1 40))]))])
 (.seq (.reg 7 [.p (.L (.load (.t .d0 .d2))),
   .p (.L (.fn 51 [] [(.t .d0 .d2),(.t .d0 .d3)])),
   .p (.H (.call 50 [(.l 1),(.c (.str 1 41)),(.l 0)]))])
 (.seq (.seq (.reg 3 [.p (.L (.load (.t .d0 .d2))),
   .s .d0 .d4 (.H (.call 38 [(.l 0),(.c (.str 2 15917))]))])
 (.cond (.t .d0 .d4) (.reg 63 [.p (.L (.load (.t .d0 .d2))),
   .p (.H (.call 37 [(.l 0)])),
   .p (.L (.ak 2 (.t .d0 .d3))),
   .p (.H (.store 1 (.l 0) (.c (.bool true)))),
   .p (.L (.ak 3 (.t .d0 .d3))),
   .p (.H (.store 1 (.l 0) (.l 3)))]) .skip))
 (.seq (.reg 3 [.p (.L (.load (.t .d0 .d2))),
   .p (.H (.call 35 [(.l 0),(.c (.str 2 25456))]))])
 (.seq (.reg 15 [.p (.L (.load (.t .d0 .d2))),
   .p (.H (.call 37 [(.l 0)])),
   .p (.L (.ak 4 (.t .d0 .d3))),
   .p (.H (.store 1 (.l 0) (.l 1)))])
 (.seq (.reg 3 [.p (.L (.load (.t .d0 .d2))),
   .p (.H (.call 35 [(.l 0),(.c (.str 4 1936028533))]))])
 (.seq (.reg 3 [.p (.L (.load (.t .d0 .d2))),
   .p (.H (.call 35 [(.l 0),(.c (.str 1 123))]))])
 (.seq (.reg 7 [.p (.L (.load (.t .d0 .d2))),
   .p (.L (.fn 52 [] [(.t .d0 .d3),(.t .d0 .d2)])),
   .p (.H (.call 50 [(.l 1),(.c (.str 1 125)),(.l 0)]))])
 (.seq (.reg 15 [.p (.L (.load (.t .d0 .d2))),
   .p (.H (.call 53 [(.l 0)])),
   .p (.L (.ak 6 (.t .d0 .d3))),
   .p (.H (.store 1 (.l 0) (.l 1)))])
 (.seq (.reg 3 [.p (.L (.bE 8 (.t .d0 .d3))),
   .p (.H (.store 8 (.t .d0 .d1) (.l 0)))])
 .ret))))))))))))⟩
def i42:Fun:=
 ⟨1,[0,2],[.tmp .d0 .d1],(.seq (.reg 1 [.s .d0 .d1 (.L (.mov (.c (.bool false))))])
 (.seq (.reg 5 [.p (.L (.bsl 1 15 [.str 0 0] [(0,1,(.c (.str 6 111516500389741))),(1,1,(.c (.str 6 128034844732777))),(2,1,(.c (.str 3 7496054))),(3,1,(.c (.str 4 1668248176))),(4,1,(.c (.str 2 25456))),(5,1,(.c (.str 4 1936028533))),(6,1,(.c (.str 3 7628140))),(7,1,(.c (.str 4 1819042147))),(8,1,(.c (.str 2 26217))),(9,1,(.c (.str 4 1702063205))),(10,1,(.c (.str 5 435610544247))),(11,1,(.c (.str 4 1953066341))),(12,1,(.c (.str 6 128009175786866))),(13,1,(.c (.str 4 1885956979))),(14,1,(.c (.str 6 126909394608492)))])),
   .s .d0 .d1 (.H (.call 54 [(.l 0),(.t .d0 .d0)]))])
 .ret))⟩
def i43:Fun:=
 ⟨2,[0,1,4],[.tmp .d0 .d2],(.seq (.reg 1 [.s .d0 .d2 (.L (.mov (.c (.bool false))))])
 (.seq (.reg 4 [.s .d0 .d2 (.H (.call 55 [(.t .d0 .d0),(.t .d0 .d1)]))])
 .ret))⟩
def i44:Fun:=
 ⟨2,[0,1,4],[.tmp .d0 .d2],(.seq (.reg 1 [.s .d0 .d2 (.L (.mov (.c (.int .i64 0))))])
 (.seq (.reg 4 [.s .d0 .d2 (.H (.call 56 [(.t .d0 .d0),(.t .d0 .d1)]))])
 .ret))⟩
def i45:Fun:=
 ⟨3,[0,1,2,6,11,7,18,31],[.tmp .d0 .d3],(.seq (.reg 1 [.s .d0 .d3 (.L (.mov (.c (.bool false))))])
 (.seq (.seq (.reg 12 [.p (.H (.call 57 [(.t .d0 .d0),(.t .d0 .d1)])),
   .s .d0 .d4 (.L (.not (.l 0)))])
 (.cond (.t .d0 .d4) (.seq (.reg 1 [.s .d0 .d3 (.L (.mov (.c (.bool false))))])
 .ret) .skip))
 (.seq (.seq (.reg 1 [.s .d0 .d5 (.L (.mov (.c (.int .i64 0))))])
 (.block 0 (.loop (.seq (.seq (.reg 108 [.p (.L (.len false (.t .d0 .d0))),
   .p (.L (.bin .lss (.t .d0 .d5) (.l 0))),
   .g (.l 0) true (.L (.mov (.t .d0 .d2))),
   .s .d0 .d6 (.L (.pick (.l 1) (.l 0) (.c (.bool false))))])
 (.cond (.t .d0 .d6) .skip (.exit 0)))
 (.seq (.block 1 (.seq (.draw [0,1,2,3,4,5,6,7,8,9,10] [⟨.p (.L (.mov (.t .d0 .d0))),[]⟩,
   ⟨.p (.L (.mov (.t .d0 .d5))),[]⟩,
   ⟨.p (.L (.bI 7 (.l 1) (.l 0))),[]⟩,
   ⟨.p (.L (.ak 6 (.l 0))),[]⟩,
   ⟨.p (.L (.load (.l 0))),[]⟩,
   ⟨.p (.L (.mov (.t .d0 .d1))),[]⟩,
   ⟨.p (.L (.mov (.t .d0 .d5))),[]⟩,
   ⟨.p (.L (.bI 7 (.l 1) (.l 0))),[]⟩,
   ⟨.p (.L (.ak 6 (.l 0))),[]⟩,
   ⟨.p (.L (.load (.l 0))),[]⟩,
   ⟨.s .d0 .d7 (.L (.bin .neq (.l 5) (.l 0))),[]⟩])
 (.cond (.t .d0 .d7) (.seq (.reg 1 [.s .d0 .d3 (.L (.mov (.c (.bool false))))])
 .ret) .skip)))
 (.reg 2 [.s .d0 .d5 (.L (.bin .add (.t .d0 .d5) (.c (.int .i64 1))))]))))))
 (.seq (.reg 1 [.s .d0 .d3 (.L (.mov (.c (.bool true))))])
 .ret))))⟩
def i46:Fun:=
 ⟨2,[0,1],[],(.reg 124 [.p (.H (.call 36 [(.t .d0 .d0)])),
   .p (.L (.field 2 1 false (.l 0))),
   .p (.L (.build [.int .i64 0, .int .i64 0] [(0,1,(.t .d0 .d1)),(1,1,(.l 0))])),
   .p (.L (.ifc 83 (.l 0))),
   .p (.H (.panic (.l 0)))])⟩
def i47:Fun:=
 ⟨2,[0,1,4,5,11],[.cell .d0 .d2 (some 3)],(.seq (.reg 1 [.s .d0 .d2 (.L (.alloc [.int .i64 0, .str 0 0, .int .i64 0]))])
 (.seq (.reg 14 [.p (.H (.call 36 [(.t .d0 .d0)])),
   .s .d0 .d3 (.L (.alloc [.int .i64 0, .str 0 0, .int .i64 0])),
   .p (.H (.store 3 (.l 0) (.l 1)))])
 (.seq (.seq (.reg 11 [.p (.L (.ak 0 (.t .d0 .d3))),
   .p (.L (.load (.l 0))),
   .s .d0 .d4 (.L (.bin .neq (.l 0) (.t .d0 .d1)))])
 (.cond (.t .d0 .d4) (.reg 2 [.p (.H (.call 46 [(.t .d0 .d0),(.c (.int .i64 11))]))]) .skip))
 (.seq (.reg 254 [.p (.L (.nilck (.t .d0 .d0))),
   .p (.L (.ak 1 (.l 0))),
   .p (.L (.load (.l 0))),
   .p (.L (.bin .add (.l 0) (.c (.int .i64 1)))),
   .p (.L (.nilck (.t .d0 .d0))),
   .p (.L (.ak 1 (.l 0))),
   .p (.H (.store 1 (.l 0) (.l 2)))])
 (.seq (.reg 3 [.p (.L (.bE 3 (.t .d0 .d3))),
   .p (.H (.store 3 (.t .d0 .d2) (.l 0)))])
 .ret)))))⟩
def i48:Fun:=
 ⟨2,[0,1,4,5],[.tmp .d0 .d2],(.seq (.reg 1 [.s .d0 .d2 (.L (.mov (.c (.bool false))))])
 (.seq (.reg 14 [.p (.H (.call 36 [(.t .d0 .d0)])),
   .s .d0 .d3 (.L (.alloc [.int .i64 0, .str 0 0, .int .i64 0])),
   .p (.H (.store 3 (.l 0) (.l 1)))])
 (.seq (.reg 16363 [.p (.L (.ak 1 (.t .d0 .d3))),
   .p (.L (.load (.l 0))),
   .p (.L (.bins .eql (.l 0) (.t .d0 .d1))),
   .g (.l 0) true (.L (.ak 0 (.t .d0 .d3))),
   .g (.l 1) true (.L (.load (.l 0))),
   .g (.l 2) true (.L (.bin .eql (.l 0) (.c (.int .i64 4)))),
   .g (.l 3) true (.L (.mov (.l 0))),
   .g (.l 0) false (.L (.ak 0 (.t .d0 .d3))),
   .g (.l 1) false (.L (.load (.l 0))),
   .g (.l 2) false (.L (.bin .eql (.l 0) (.c (.int .i64 3)))),
   .g (.l 7) true (.L (.pick (.l 3) (.c (.bool true)) (.l 0))),
   .s .d0 .d2 (.L (.pick (.l 8) (.l 0) (.c (.bool false))))])
 .ret)))⟩
def i49:Fun:=
 ⟨1,[0,2,3],[.tmp .d0 .d1],(.seq (.reg 1 [.s .d0 .d1 (.L (.mov (.c (.int .i64 0))))])
 (.seq (.reg 238 [.p (.H (.call 47 [(.t .d0 .d0),(.c (.int .i64 2))])),
   .p (.L (.field 1 1 false (.l 0))),
   .p (.H (.call 58 [(.l 0)])),
   .p (.L (.ext 0 (.l 0))),
   .p (.L (.ext 1 (.l 1))),
   .s .d0 .d2 (.L (.mov (.l 1)))])
 (.seq (.reg 2 [.s .d0 .d1 (.L (.mov (.t .d0 .d2)))])
 .ret)))⟩
def i50:Fun:=
 ⟨3,[0,1,2,10,6,14],[],(.seq (.reg 1 [.s .d0 .d4 (.L (.mov (.c (.int .i64 0))))])
 (.block 0 (.loop (.seq (.seq (.reg 12 [.p (.H (.call 38 [(.t .d0 .d0),(.t .d0 .d1)])),
   .s .d0 .d3 (.L (.not (.l 0)))])
 (.cond (.t .d0 .d3) .skip (.exit 0)))
 (.seq (.block 1 (.seq (.seq (.reg 2 [.s .d0 .d5 (.L (.bin .gtr (.t .d0 .d4) (.c (.int .i64 0))))])
 (.cond (.t .d0 .d5) (.reg 2 [.p (.H (.call 35 [(.t .d0 .d0),(.c (.str 1 44))]))]) .skip))
 (.reg 2 [.p (.H (.iH (.t .d0 .d2) []))])))
 (.reg 2 [.s .d0 .d4 (.L (.bin .add (.t .d0 .d4) (.c (.int .i64 1))))]))))))⟩
def i51:Fun:=
 ⟨2,[0,1,2],[],(.seq (.draw [0,3,6,1,2,4,5,7] [⟨.p (.L (.load (.t .d0 .d0))),[]⟩,
   ⟨.p (.L (.load (.t .d0 .d0))),[]⟩,
   ⟨.s .d0 .d2 (.L (.alloc [.str 0 0, .str 0 0, .int .i64 0])),[]⟩,
   ⟨.p (.H (.call 36 [(.l 2)])),[1,0]⟩,
   ⟨.p (.L (.field 2 1 false (.l 0))),[]⟩,
   ⟨.p (.H (.call 37 [(.l 3)])),[2]⟩,
   ⟨.p (.L (.build [.str 0 0, .str 0 0, .int .i64 0] [(2,1,(.l 1)),(0,1,(.l 0))])),[]⟩,
   ⟨.p (.H (.store 3 (.l 4) (.l 0))),[]⟩])
 (.seq (.reg 3 [.p (.L (.load (.t .d0 .d0))),
   .p (.H (.call 35 [(.l 0),(.c (.str 1 58))]))])
 (.seq (.reg 15 [.p (.L (.load (.t .d0 .d0))),
   .p (.H (.call 37 [(.l 0)])),
   .p (.L (.ak 1 (.t .d0 .d2))),
   .p (.H (.store 1 (.l 0) (.l 1)))])
 (.reg 127 [.p (.L (.ak 1 (.t .d0 .d1))),
   .p (.L (.load (.l 0))),
   .p (.L (.bE 3 (.t .d0 .d2))),
   .p (.L (.bsl 3 1 [.str 0 0, .str 0 0, .int .i64 0] [(0,3,(.l 0))])),
   .p (.H (.append 3 40 (.l 2) (.l 0))),
   .p (.L (.ak 1 (.t .d0 .d1))),
   .p (.H (.store 1 (.l 0) (.l 1)))]))))⟩
def i52:Fun:=
 ⟨2,[0,1],[],(.draw [0,1,2,3,4,5,6,7] [⟨.p (.L (.ak 5 (.t .d0 .d0))),[]⟩,
   ⟨.p (.L (.load (.l 0))),[]⟩,
   ⟨.p (.L (.load (.t .d0 .d1))),[]⟩,
   ⟨.p (.H (.call 37 [(.l 0)])),[1]⟩,
   ⟨.p (.L (.bsl 1 1 [.str 0 0] [(0,1,(.l 0))])),[]⟩,
   ⟨.p (.H (.append 1 16 (.l 3) (.l 0))),[]⟩,
   ⟨.p (.L (.ak 5 (.t .d0 .d0))),[]⟩,
   ⟨.p (.H (.store 1 (.l 0) (.l 1))),[]⟩])⟩
def i53:Fun:=
 ⟨1,[0,2,6,20,3],[.tmp .d0 .d1],(.seq (.reg 1 [.s .d0 .d1 (.L (.mov (.c (.slN))))])
 (.seq (.seq (.reg 6 [.p (.H (.call 48 [(.t .d0 .d0),(.c (.str 1 123))])),
   .s .d0 .d2 (.L (.not (.l 0)))])
 (.cond (.t .d0 .d2) (.reg 2 [.p (.H (.call 46 [(.t .d0 .d0),(.c (.int .i64 11))]))]) .skip))
 (.seq (.reg 2 [.p (.H (.call 59 [(.t .d0 .d0)]))])
 (.seq (.reg 254 [.p (.L (.nilck (.t .d0 .d0))),
   .p (.L (.ak 1 (.l 0))),
   .p (.L (.load (.l 0))),
   .p (.L (.bin .add (.l 0) (.c (.int .i64 1)))),
   .p (.L (.nilck (.t .d0 .d0))),
   .p (.L (.ak 1 (.l 0))),
   .p (.H (.store 1 (.l 0) (.l 2)))])
 (.seq (.reg 1 [.s .d0 .d4 (.L (.mov (.c (.slN))))])
 (.seq (.block 0 (.loop (.seq (.seq (.reg 6 [.p (.H (.call 38 [(.t .d0 .d0),(.c (.str 1 125))])),
   .s .d0 .d3 (.L (.not (.l 0)))])
 (.cond (.t .d0 .d3) .skip (.exit 0)))
 (.block 1 (.reg 28 [.p (.H (.call 60 [(.t .d0 .d0)])),
   .p (.L (.bsl 12 1 [.int .i64 0, .int .i64 0, .str 0 0, .str 0 0, .str 0 0, .bool false, .str 0 0, .str 0 0, .slN, .slN, .slN, .slN] [(0,12,(.l 0))])),
   .s .d0 .d4 (.H (.append 12 200 (.t .d0 .d4) (.l 0)))])))))
 (.seq (.reg 254 [.p (.L (.nilck (.t .d0 .d0))),
   .p (.L (.ak 2 (.l 0))),
   .p (.L (.load (.l 0))),
   .p (.L (.bin .sub (.l 0) (.c (.int .i64 1)))),
   .p (.L (.nilck (.t .d0 .d0))),
   .p (.L (.ak 2 (.l 0))),
   .p (.H (.store 1 (.l 0) (.l 2)))])
 (.seq (.reg 2 [.s .d0 .d1 (.L (.mov (.t .d0 .d4)))])
 .ret))))))))⟩
def i54:Fun:=
 ⟨2,[0,1,4],[.tmp .d0 .d2],(.seq (.reg 1 [.s .d0 .d2 (.L (.mov (.c (.bool false))))])
 (.seq (.reg 12 [.p (.H (.call 61 [(.t .d0 .d0),(.t .d0 .d1)])),
   .s .d0 .d2 (.L (.bin .geq (.l 0) (.c (.int .i64 0))))])
 .ret))⟩
def i55:Fun:=
 ⟨2,[0,1,4],[.tmp .d0 .d2],(.seq (.reg 1 [.s .d0 .d2 (.L (.mov (.c (.bool false))))])
 (.seq (.reg 8154 [.p (.L (.len true (.t .d0 .d0))),
   .p (.L (.len true (.t .d0 .d1))),
   .p (.L (.bin .geq (.l 1) (.l 0))),
   .g (.l 0) true (.L (.mov (.t .d0 .d0))),
   .g (.l 1) true (.L (.mov (.t .d0 .d1))),
   .g (.l 2) true (.L (.len true (.l 0))),
   .g (.l 3) true (.L (.sstr (.l 2) none (some (.l 0)))),
   .g (.l 4) true (.L (.mov (.t .d0 .d1))),
   .g (.l 5) true (.L (.bins .eql (.l 1) (.l 0))),
   .s .d0 .d2 (.L (.pick (.l 6) (.l 0) (.c (.bool false))))])
 .ret))⟩
def i57:Fun:=
 ⟨2,[0,1,4,12,5,16,6,7,31],[.tmp .d0 .d2],(.seq (.reg 1 [.s .d0 .d2 (.L (.mov (.c (.bool false))))])
 (.seq (.seq (.reg 26 [.p (.L (.len false (.t .d0 .d0))),
   .p (.L (.len false (.t .d0 .d1))),
   .s .d0 .d3 (.L (.bin .neq (.l 1) (.l 0)))])
 (.cond (.t .d0 .d3) (.seq (.reg 1 [.s .d0 .d2 (.L (.mov (.c (.bool false))))])
 .ret) .skip))
 (.seq (.seq (.reg 1 [.s .d0 .d4 (.L (.mov (.c (.int .i64 0))))])
 (.block 0 (.loop (.seq (.seq (.reg 12 [.p (.L (.len false (.t .d0 .d0))),
   .s .d0 .d5 (.L (.bin .lss (.t .d0 .d4) (.l 0)))])
 (.cond (.t .d0 .d5) .skip (.exit 0)))
 (.seq (.block 1 (.seq (.draw [0,1,2,3,4,5,6,7,8,9,10,11] [⟨.p (.L (.mov (.t .d0 .d0))),[]⟩,
   ⟨.p (.L (.mov (.t .d0 .d4))),[]⟩,
   ⟨.p (.L (.bI 7 (.l 1) (.l 0))),[]⟩,
   ⟨.p (.L (.bE 7 (.l 0))),[]⟩,
   ⟨.p (.L (.mov (.t .d0 .d1))),[]⟩,
   ⟨.p (.L (.mov (.t .d0 .d4))),[]⟩,
   ⟨.p (.L (.bI 7 (.l 1) (.l 0))),[]⟩,
   ⟨.p (.L (.bE 7 (.l 0))),[]⟩,
   ⟨.s .d0 .d6 (.L (.alloc [.int .i64 0, .int .i64 0, .str 0 0, .str 0 0, .int .i64 0, .int .i64 0, .int .i64 0])),[]⟩,
   ⟨.s .d0 .d7 (.L (.alloc [.int .i64 0, .int .i64 0, .str 0 0, .str 0 0, .int .i64 0, .int .i64 0, .int .i64 0])),[]⟩,
   ⟨.p (.H (.store 7 (.l 1) (.l 6))),[2]⟩,
   ⟨.p (.H (.store 7 (.l 1) (.l 3))),[]⟩])
 (.seq (.reg 3 [.p (.L (.ak 6 (.t .d0 .d6))),
   .p (.H (.store 1 (.l 0) (.c (.int .i64 0))))])
 (.seq (.reg 3 [.p (.L (.ak 6 (.t .d0 .d7))),
   .p (.H (.store 1 (.l 0) (.c (.int .i64 0))))])
 (.seq (.reg 7 [.p (.L (.bE 7 (.t .d0 .d6))),
   .p (.L (.bE 7 (.t .d0 .d7))),
   .s .d1 .d0 (.L (.eq true (.st [(0, .int),(1, .int),(2, .str),(3, .str),(4, .int),(5, .int),(6, .int)]) (.l 1) (.l 0)))])
 (.cond (.t .d1 .d0) (.seq (.reg 1 [.s .d0 .d2 (.L (.mov (.c (.bool false))))])
 .ret) .skip))))))
 (.reg 2 [.s .d0 .d4 (.L (.bin .add (.t .d0 .d4) (.c (.int .i64 1))))]))))))
 (.seq (.reg 1 [.s .d0 .d2 (.L (.mov (.c (.bool true))))])
 .ret))))⟩
def i58:Fun:=
 ⟨1,[0,2,3,5,12,4],[.tmp .d0 .d1, .tmp .d0 .d2],(.seq (.reg 3 [.s .d0 .d1 (.L (.mov (.c (.int .i64 0)))),
   .s .d0 .d2 (.L (.mov (.c (.ifcN))))])
 (.seq (.reg 122 [.p (.H (.call 63 [(.t .d0 .d0)])),
   .p (.L (.ext 0 (.l 0))),
   .p (.L (.ext 1 (.l 1))),
   .s .d0 .d5 (.L (.mov (.l 1))),
   .s .d0 .d3 (.L (.mov (.l 1)))])
 (.seq (.seq (.reg 2 [.s .d0 .d4 (.L (.eq true .ifc (.t .d0 .d3) (.c (.ifcN))))])
 (.cond (.t .d0 .d4) (.seq (.reg 56 [.p (.H (.call 64 [(.c (.str 4 1768911937)),(.t .d0 .d0),(.c (.int .i64 0)),(.c (.int .i64 0)),(.t .d0 .d3)])),
   .s .d0 .d1 (.L (.mov (.t .d0 .d5))),
   .s .d0 .d2 (.L (.mov (.l 1)))])
 .ret) .skip))
 (.seq (.reg 6 [.s .d0 .d1 (.L (.mov (.t .d0 .d5))),
   .s .d0 .d2 (.L (.mov (.c (.ifcN))))])
 .ret))))⟩
def i59:Fun:=
 ⟨1,[0,6],[],(.seq (.seq (.reg 30 [.p (.L (.nilck (.t .d0 .d0))),
   .p (.L (.ak 2 (.l 0))),
   .p (.L (.load (.l 0))),
   .s .d0 .d1 (.L (.bin .geq (.l 0) (.c (.int .i64 40))))])
 (.cond (.t .d0 .d1) (.reg 2 [.p (.H (.call 46 [(.t .d0 .d0),(.c (.int .i64 12))]))]) .skip))
 (.reg 254 [.p (.L (.nilck (.t .d0 .d0))),
   .p (.L (.ak 2 (.l 0))),
   .p (.L (.load (.l 0))),
   .p (.L (.bin .add (.l 0) (.c (.int .i64 1)))),
   .p (.L (.nilck (.t .d0 .d0))),
   .p (.L (.ak 2 (.l 0))),
   .p (.H (.store 1 (.l 0) (.l 2)))]))⟩
def i60:Fun:=
 ⟨1,[0,2,21,3,32,37,48,65,74,80,87],[.cell .d0 .d1 (some 12)],(.seq (.reg 1 [.s .d0 .d1 (.L (.alloc [.int .i64 0, .int .i64 0, .str 0 0, .str 0 0, .str 0 0, .bool false, .str 0 0, .str 0 0, .slN, .slN, .slN, .slN]))])
 (.seq (.reg 62 [.p (.H (.call 36 [(.t .d0 .d0)])),
   .p (.L (.field 2 1 false (.l 0))),
   .p (.L (.build [.int .i64 0, .int .i64 0, .str 0 0, .str 0 0, .str 0 0, .bool false, .str 0 0, .str 0 0, .slN, .slN, .slN, .slN] [(1,1,(.l 0))])),
   .s .d0 .d3 (.L (.alloc [.int .i64 0, .int .i64 0, .str 0 0, .str 0 0, .str 0 0, .bool false, .str 0 0, .str 0 0, .slN, .slN, .slN, .slN])),
   .p (.H (.store 12 (.l 0) (.l 1)))])
 (.seq (.block 0 (.seq (.reg 2 [.s .d0 .d2 (.H (.call 38 [(.t .d0 .d0),(.c (.str 2 26217))]))])
 (.cond (.t .d0 .d2) (.seq (.reg 62 [.p (.H (.call 65 [(.t .d0 .d0)])),
   .p (.L (.ak 0 (.t .d0 .d3))),
   .p (.H (.store 1 (.l 0) (.c (.int .i64 5)))),
   .p (.L (.ak 8 (.t .d0 .d3))),
   .p (.H (.store 1 (.l 0) (.l 3)))])
 (.seq (.reg 14 [.p (.H (.call 53 [(.t .d0 .d0)])),
   .p (.L (.ak 10 (.t .d0 .d3))),
   .p (.H (.store 1 (.l 0) (.l 1)))])
 (.seq (.seq (.reg 2 [.s .d0 .d4 (.H (.call 38 [(.t .d0 .d0),(.c (.str 4 1702063205))]))])
 (.cond (.t .d0 .d4) (.reg 14 [.p (.H (.call 53 [(.t .d0 .d0)])),
   .p (.L (.ak 11 (.t .d0 .d3))),
   .p (.H (.store 1 (.l 0) (.l 1)))]) .skip))
 (.seq (.reg 3 [.p (.L (.bE 12 (.t .d0 .d3))),
   .p (.H (.store 12 (.t .d0 .d1) (.l 0)))])
 .ret)))) (.seq (.reg 2 [.s .d0 .d5 (.H (.call 38 [(.t .d0 .d0),(.c (.str 5 435610544247))]))])
 (.cond (.t .d0 .d5) (.seq (.reg 62 [.p (.H (.call 65 [(.t .d0 .d0)])),
   .p (.L (.ak 0 (.t .d0 .d3))),
   .p (.H (.store 1 (.l 0) (.c (.int .i64 6)))),
   .p (.L (.ak 8 (.t .d0 .d3))),
   .p (.H (.store 1 (.l 0) (.l 3)))])
 (.seq (.reg 14 [.p (.H (.call 53 [(.t .d0 .d0)])),
   .p (.L (.ak 10 (.t .d0 .d3))),
   .p (.H (.store 1 (.l 0) (.l 1)))])
 (.seq (.reg 3 [.p (.L (.bE 12 (.t .d0 .d3))),
   .p (.H (.store 12 (.t .d0 .d1) (.l 0)))])
 .ret))) (.seq (.reg 2 [.s .d0 .d6 (.H (.call 38 [(.t .d0 .d0),(.c (.str 3 7628140))]))])
 (.cond (.t .d0 .d6) (.seq (.reg 62 [.p (.H (.call 37 [(.t .d0 .d0)])),
   .p (.L (.ak 0 (.t .d0 .d3))),
   .p (.H (.store 1 (.l 0) (.c (.int .i64 1)))),
   .p (.L (.ak 3 (.t .d0 .d3))),
   .p (.H (.store 1 (.l 0) (.l 3)))])
 (.seq (.reg 2 [.p (.H (.call 35 [(.t .d0 .d0),(.c (.str 1 58))]))])
 (.seq (.reg 14 [.p (.H (.call 37 [(.t .d0 .d0)])),
   .p (.L (.ak 4 (.t .d0 .d3))),
   .p (.H (.store 1 (.l 0) (.l 1)))])
 (.seq (.reg 2 [.p (.H (.call 35 [(.t .d0 .d0),(.c (.str 1 61))]))])
 (.reg 14 [.p (.H (.call 65 [(.t .d0 .d0)])),
   .p (.L (.ak 8 (.t .d0 .d3))),
   .p (.H (.store 1 (.l 0) (.l 1)))]))))) (.seq (.reg 2 [.s .d0 .d7 (.H (.call 38 [(.t .d0 .d0),(.c (.str 6 128009175786866))]))])
 (.cond (.t .d0 .d7) (.seq (.reg 3 [.p (.L (.ak 0 (.t .d0 .d3))),
   .p (.H (.store 1 (.l 0) (.c (.int .i64 3))))])
 (.seq (.reg 2 [.p (.H (.call 35 [(.t .d0 .d0),(.c (.str 1 61))]))])
 (.reg 14 [.p (.H (.call 65 [(.t .d0 .d0)])),
   .p (.L (.ak 8 (.t .d0 .d3))),
   .p (.H (.store 1 (.l 0) (.l 1)))]))) (.seq (.reg 2 [.s .d1 .d0 (.H (.call 38 [(.t .d0 .d0),(.c (.str 4 1819042147))]))])
 (.cond (.t .d1 .d0) (.seq (.reg 3 [.p (.L (.ak 0 (.t .d0 .d3))),
   .p (.H (.store 1 (.l 0) (.c (.int .i64 4))))])
 (.reg 2 [.p (.H (.call 66 [(.t .d0 .d0),(.t .d0 .d3)]))])) (.seq (.reg 2 [.s .d1 .d1 (.H (.call 38 [(.t .d0 .d0),(.c (.str 4 1953066341))]))])
 (.cond (.t .d1 .d1) (.reg 62 [.p (.H (.call 37 [(.t .d0 .d0)])),
   .p (.L (.ak 0 (.t .d0 .d3))),
   .p (.H (.store 1 (.l 0) (.c (.int .i64 7)))),
   .p (.L (.ak 3 (.t .d0 .d3))),
   .p (.H (.store 1 (.l 0) (.l 3)))]) (.seq (.reg 2 [.s .d1 .d2 (.H (.call 38 [(.t .d0 .d0),(.c (.str 4 1885956979))]))])
 (.cond (.t .d1 .d2) (.reg 3 [.p (.L (.ak 0 (.t .d0 .d3))),
   .p (.H (.store 1 (.l 0) (.c (.int .i64 8))))]) (.seq (.reg 3 [.p (.L (.ak 0 (.t .d0 .d3))),
   .p (.H (.store 1 (.l 0) (.c (.int .i64 2))))])
 (.seq (.reg 506 [.p (.H (.call 67 [(.t .d0 .d0)])),
   .p (.L (.ext 0 (.l 0))),
   .p (.L (.ext 1 (.l 1))),
   .p (.L (.ak 2 (.t .d0 .d3))),
   .p (.H (.store 1 (.l 0) (.l 2))),
   .p (.L (.ak 3 (.t .d0 .d3))),
   .p (.H (.store 1 (.l 0) (.l 3)))])
 (.seq (.reg 2 [.p (.H (.call 35 [(.t .d0 .d0),(.c (.str 1 61))]))])
 (.reg 14 [.p (.H (.call 65 [(.t .d0 .d0)])),
   .p (.L (.ak 8 (.t .d0 .d3))),
   .p (.H (.store 1 (.l 0) (.l 1)))])))))))))))))))))))
 (.seq (.reg 2 [.p (.H (.call 35 [(.t .d0 .d0),(.c (.str 1 59))]))])
 (.seq (.reg 3 [.p (.L (.bE 12 (.t .d0 .d3))),
   .p (.H (.store 12 (.t .d0 .d1) (.l 0)))])
 .ret)))))⟩
def i61:Fun:=
 ⟨2,[0,1,4,8,7,9,5,16],[.tmp .d0 .d2],(.seq (.reg 1 [.s .d0 .d2 (.L (.mov (.c (.int .i64 0))))])
 (.seq (.seq (.reg 6 [.s .d0 .d4 (.L (.len false (.t .d0 .d0))),
   .s .d0 .d3 (.L (.mov (.c (.int .i64 0))))])
 (.block 0 (.loop (.seq (.reg 1 [.s .d0 .d5 (.L (.bin .lss (.t .d0 .d3) (.t .d0 .d4)))])
 (.seq (.cond (.t .d0 .d5) .skip (.exit 0))
 (.seq (.block 1 (.seq (.reg 2 [.s .d0 .d6 (.L (.mov (.t .d0 .d3)))])
 (.seq (.reg 56 [.p (.L (.bI 1 (.t .d0 .d0) (.t .d0 .d6))),
   .p (.L (.load (.l 0))),
   .s .d0 .d7 (.L (.bins .eql (.t .d0 .d1) (.l 0)))])
 (.cond (.t .d0 .d7) (.seq (.reg 2 [.s .d0 .d2 (.L (.mov (.t .d0 .d6)))])
 .ret) .skip))))
 (.reg 1 [.s .d0 .d3 (.L (.bin .add (.t .d0 .d3) (.c (.int .i64 1))))])))))))
 (.seq (.reg 1 [.s .d0 .d2 (.L (.mov (.c (.int .i64 (-1)))))])
 .ret)))⟩
def i63:Fun:=
 ⟨1,[0,2,3,4,30,39,44,49,48,50,47,8,56,6,5,66,9,10],[.tmp .d0 .d1, .tmp .d0 .d2],(.seq (.reg 3 [.s .d0 .d1 (.L (.mov (.c (.int .i64 0)))),
   .s .d0 .d2 (.L (.mov (.c (.ifcN))))])
 (.seq (.reg 2 [.s .d0 .d3 (.L (.len true (.t .d0 .d0)))])
 (.seq (.seq (.reg 261886 [.g (.c (.bool false)) true (.L (.mov (.t .d0 .d3))),
   .g (.c (.bool false)) true (.L (.bin .lss (.c (.int .i64 0)) (.l 0))),
   .g (.c (.bool false)) true (.L (.mov (.l 0))),
   .g (.l 0) true (.L (.mov (.t .d0 .d3))),
   .g (.l 1) true (.L (.bin .lss (.l 0) (.c (.int .i64 10)))),
   .g (.c (.bool false)) true (.L (.pick (.l 2) (.l 0) (.c (.bool false)))),
   .p (.L (.pick (.c (.bool false)) (.l 0) (.c (.bool false)))),
   .g (.l 0) false (.L (.mov (.c (.bool true)))),
   .g (.l 0) true (.L (.mov (.t .d0 .d3))),
   .g (.l 1) true (.L (.bin .lss (.c (.int .i64 0)) (.l 0))),
   .g (.l 2) true (.L (.mov (.l 0))),
   .g (.l 0) true (.L (.mov (.t .d0 .d3))),
   .g (.l 1) true (.L (.bin .lss (.l 0) (.c (.int .i64 19)))),
   .g (.l 5) true (.L (.pick (.l 2) (.l 0) (.c (.bool false)))),
   .g (.l 7) false (.L (.pick (.l 6) (.l 0) (.c (.bool false)))),
   .s .d0 .d4 (.L (.pick (.l 8) (.c (.bool true)) (.l 0)))])
 (.cond (.t .d0 .d4) (.seq (.reg 2 [.s .d1 .d6 (.L (.mov (.t .d0 .d0)))])
 (.seq (.seq (.reg 246 [.p (.L (.istr (.t .d0 .d0) (.c (.int .i64 0)))),
   .p (.L (.bin .eql (.l 0) (.c (.int .u8 45)))),
   .g (.l 0) false (.L (.mov (.t .d0 .d0))),
   .g (.l 1) false (.L (.istr (.l 0) (.c (.int .i64 0)))),
   .g (.l 2) false (.L (.bin .eql (.l 0) (.c (.int .u8 43)))),
   .s .d0 .d5 (.L (.pick (.l 3) (.c (.bool true)) (.l 0)))])
 (.cond (.t .d0 .d5) (.seq (.reg 2 [.s .d0 .d0 (.L (.sstr (.t .d0 .d0) (some (.c (.int .i64 1))) none))])
 (.seq (.reg 6 [.p (.L (.len true (.t .d0 .d0))),
   .s .d0 .d6 (.L (.bin .lss (.l 0) (.c (.int .i64 1))))])
 (.cond (.t .d0 .d6) (.seq (.reg 7 [.p (.L (.ifc 113 (.c (.int .i64 2)))),
   .s .d0 .d1 (.L (.mov (.c (.int .i64 0)))),
   .s .d0 .d2 (.L (.mov (.l 1)))])
 .ret) .skip))) .skip))
 (.seq (.reg 1 [.s .d1 .d5 (.L (.mov (.c (.int .i64 0))))])
 (.seq (.seq (.reg 14 [.s .d1 .d2 (.L (.lG (.t .d0 .d0))),
   .s .d1 .d0 (.L (.len false (.l 0))),
   .s .d0 .d7 (.L (.mov (.c (.int .i64 0))))])
 (.block 0 (.loop (.seq (.reg 1 [.s .d1 .d1 (.L (.bin .lss (.t .d0 .d7) (.t .d1 .d0)))])
 (.seq (.cond (.t .d1 .d1) .skip (.exit 0))
 (.seq (.block 1 (.seq (.reg 3 [.p (.L (.bI 1 (.t .d1 .d2) (.t .d0 .d7))),
   .s .d1 .d3 (.L (.load (.l 0)))])
 (.seq (.reg 2 [.s .d1 .d3 (.L (.bin .sub (.t .d1 .d3) (.c (.int .u8 48))))])
 (.seq (.seq (.reg 2 [.s .d1 .d4 (.L (.bin .gtr (.t .d1 .d3) (.c (.int .u8 9))))])
 (.cond (.t .d1 .d4) (.seq (.reg 7 [.p (.L (.ifc 113 (.c (.int .i64 2)))),
   .s .d0 .d1 (.L (.mov (.c (.int .i64 0)))),
   .s .d0 .d2 (.L (.mov (.l 1)))])
 .ret) .skip))
 (.reg 26 [.p (.L (.bin .mul (.t .d1 .d5) (.c (.int .i64 10)))),
   .p (.L (.conv .i64 (.t .d1 .d3))),
   .s .d1 .d5 (.L (.bin .add (.l 1) (.l 0)))])))))
 (.reg 1 [.s .d0 .d7 (.L (.bin .add (.t .d0 .d7) (.c (.int .i64 1))))])))))))
 (.seq (.seq (.reg 6 [.p (.L (.istr (.t .d1 .d6) (.c (.int .i64 0)))),
   .s .d1 .d7 (.L (.bin .eql (.l 0) (.c (.int .u8 45))))])
 (.cond (.t .d1 .d7) (.reg 2 [.s .d1 .d5 (.L (.neg (.t .d1 .d5)))]) .skip))
 (.seq (.reg 6 [.s .d0 .d1 (.L (.mov (.t .d1 .d5))),
   .s .d0 .d2 (.L (.mov (.c (.ifcN))))])
 .ret)))))) .skip))
 (.seq (.reg 122 [.p (.H (.call 68 [(.t .d0 .d0),(.c (.int .i64 10)),(.c (.int .i64 0))])),
   .p (.L (.ext 0 (.l 0))),
   .p (.L (.ext 1 (.l 1))),
   .s .d2 .d0 (.L (.mov (.l 1))),
   .s .d2 .d1 (.L (.mov (.l 1)))])
 (.seq (.reg 12 [.s .d0 .d1 (.L (.mov (.t .d2 .d0))),
   .s .d0 .d2 (.L (.mov (.t .d2 .d1)))])
 .ret)))))⟩
def i65:Fun:=
 ⟨1,[0,2,3],[.tmp .d0 .d1],(.seq (.reg 1 [.s .d0 .d1 (.L (.mov (.c (.slN))))])
 (.seq (.reg 6 [.p (.L (.build [.ptrN, .slN] [(0,1,(.t .d0 .d0))])),
   .s .d0 .d2 (.L (.box 2 (.l 0)))])
 (.seq (.reg 2 [.p (.H (.call 73 [(.t .d0 .d2)]))])
 (.seq (.reg 14 [.p (.L (.nilck (.t .d0 .d2))),
   .p (.L (.ak 1 (.l 0))),
   .s .d0 .d1 (.L (.load (.l 0)))])
 .ret))))⟩
def i66:Fun:=
 ⟨2,[0,1,16,49,55],[],(.seq (.reg 8168 [.p (.H (.call 67 [(.t .d0 .d0)])),
   .p (.L (.ext 0 (.l 0))),
   .p (.L (.ext 1 (.l 1))),
   .p (.L (.nilck (.t .d0 .d1))),
   .p (.L (.ak 6 (.l 0))),
   .p (.H (.store 1 (.l 0) (.l 3))),
   .p (.L (.nilck (.t .d0 .d1))),
   .p (.L (.ak 7 (.l 0))),
   .p (.H (.store 1 (.l 0) (.l 5)))])
 (.seq (.seq (.reg 2 [.s .d0 .d2 (.H (.call 38 [(.t .d0 .d0),(.c (.str 1 61))]))])
 (.cond (.t .d0 .d2) (.seq (.draw [0,1,2,3,4,5,6,7,8,9,10,11,12,13,14,15,16,17,18,19] [⟨.p (.L (.mov (.t .d0 .d1))),[]⟩,
   ⟨.p (.L (.mov (.t .d0 .d1))),[]⟩,
   ⟨.p (.L (.mov (.t .d0 .d1))),[]⟩,
   ⟨.p (.L (.mov (.t .d0 .d1))),[]⟩,
   ⟨.p (.L (.nilck (.l 0))),[]⟩,
   ⟨.p (.L (.ak 6 (.l 0))),[]⟩,
   ⟨.p (.L (.load (.l 0))),[]⟩,
   ⟨.p (.L (.mov (.t .d0 .d1))),[]⟩,
   ⟨.p (.L (.nilck (.l 0))),[]⟩,
   ⟨.p (.L (.ak 7 (.l 0))),[]⟩,
   ⟨.p (.L (.load (.l 0))),[]⟩,
   ⟨.p (.L (.nilck (.l 10))),[]⟩,
   ⟨.p (.L (.ak 5 (.l 0))),[]⟩,
   ⟨.p (.H (.store 1 (.l 0) (.c (.bool true)))),[]⟩,
   ⟨.p (.L (.nilck (.l 12))),[]⟩,
   ⟨.p (.L (.ak 2 (.l 0))),[]⟩,
   ⟨.p (.H (.store 1 (.l 0) (.l 9))),[]⟩,
   ⟨.p (.L (.nilck (.l 14))),[]⟩,
   ⟨.p (.L (.ak 3 (.l 0))),[]⟩,
   ⟨.p (.H (.store 1 (.l 0) (.l 8))),[]⟩])
 (.reg 8168 [.p (.H (.call 67 [(.t .d0 .d0)])),
   .p (.L (.ext 0 (.l 0))),
   .p (.L (.ext 1 (.l 1))),
   .p (.L (.nilck (.t .d0 .d1))),
   .p (.L (.ak 6 (.l 0))),
   .p (.H (.store 1 (.l 0) (.l 3))),
   .p (.L (.nilck (.t .d0 .d1))),
   .p (.L (.ak 7 (.l 0))),
   .p (.H (.store 1 (.l 0) (.l 5)))])) .skip))
 (.seq (.reg 2 [.p (.H (.call 35 [(.t .d0 .d0),(.c (.str 1 40))]))])
 (.block 0 (.loop (.seq (.seq (.reg 6 [.p (.H (.call 38 [(.t .d0 .d0),(.c (.str 1 41))])),
   .s .d0 .d3 (.L (.not (.l 0)))])
 (.cond (.t .d0 .d3) .skip (.exit 0)))
 (.block 1 (.seq (.seq (.reg 62 [.p (.L (.nilck (.t .d0 .d1))),
   .p (.L (.ak 9 (.l 0))),
   .p (.L (.load (.l 0))),
   .p (.L (.len false (.l 0))),
   .s .d0 .d4 (.L (.bin .gtr (.l 0) (.c (.int .i64 0))))])
 (.cond (.t .d0 .d4) (.reg 2 [.p (.H (.call 35 [(.t .d0 .d0),(.c (.str 1 44))]))]) .skip))
 (.draw [0,1,2,3,4,5,6,7,8,9,10,11] [⟨.p (.L (.mov (.t .d0 .d1))),[]⟩,
   ⟨.p (.L (.mov (.t .d0 .d1))),[]⟩,
   ⟨.p (.L (.nilck (.l 0))),[]⟩,
   ⟨.p (.L (.ak 9 (.l 0))),[]⟩,
   ⟨.p (.L (.load (.l 0))),[]⟩,
   ⟨.p (.L (.mov (.t .d0 .d0))),[]⟩,
   ⟨.p (.H (.call 65 [(.l 0)])),[1]⟩,
   ⟨.p (.L (.bsl 1 1 [.slN] [(0,1,(.l 0))])),[]⟩,
   ⟨.p (.H (.append 1 24 (.l 3) (.l 0))),[]⟩,
   ⟨.p (.L (.nilck (.l 8))),[]⟩,
   ⟨.p (.L (.ak 9 (.l 0))),[]⟩,
   ⟨.p (.H (.store 1 (.l 0) (.l 2))),[]⟩])))))))))⟩
def i67:Fun:=
 ⟨1,[0,2,3,7],[.tmp .d0 .d1, .tmp .d0 .d2],(.seq (.reg 3 [.s .d0 .d1 (.L (.mov (.c (.str 0 0)))),
   .s .d0 .d2 (.L (.mov (.c (.str 0 0))))])
 (.seq (.reg 2 [.s .d0 .d2 (.H (.call 37 [(.t .d0 .d0)]))])
 (.seq (.seq (.reg 2 [.s .d0 .d3 (.H (.call 38 [(.t .d0 .d0),(.c (.str 1 46))]))])
 (.cond (.t .d0 .d3) (.reg 28 [.p (.H (.call 37 [(.t .d0 .d0)])),
   .s .d0 .d1 (.L (.mov (.t .d0 .d2))),
   .s .d0 .d2 (.L (.mov (.l 1)))]) .skip))
 (.seq (.reg 0 [])
 .ret))))⟩
def i73:Fun:=
 ⟨1,[0,2,6,21,3,4,7,5],[.tmp .d0 .d1],(.seq (.reg 1 [.s .d0 .d1 (.L (.mov (.c (.int .i64 0))))])
 (.seq (.reg 2 [.s .d0 .d4 (.H (.call 78 [(.t .d0 .d0)]))])
 (.seq (.reg 16318 [.p (.L (.build [.str 0 0, .int .i64 0] [(0,1,(.c (.str 2 15677))),(1,1,(.c (.int .i64 10)))])),
   .p (.L (.build [.str 0 0, .int .i64 0] [(0,1,(.c (.str 2 15676))),(1,1,(.c (.int .i64 12)))])),
   .p (.L (.build [.str 0 0, .int .i64 0] [(0,1,(.c (.str 1 60))),(1,1,(.c (.int .i64 11)))])),
   .p (.L (.bsl 2 3 [.str 0 0, .int .i64 0] [(0,2,(.l 2)),(2,2,(.l 1)),(4,2,(.l 0))])),
   .p (.H (.call 79 [(.t .d0 .d0),(.l 0)])),
   .p (.L (.ext 0 (.l 0))),
   .p (.L (.ext 1 (.l 1))),
   .p (.L (.ext 2 (.l 2))),
   .s .d0 .d5 (.L (.alloc [.str 0 0, .int .i64 0])),
   .p (.H (.store 2 (.l 0) (.l 3))),
   .s .d0 .d7 (.L (.mov (.l 3))),
   .s .d0 .d2 (.L (.mov (.l 3)))])
 (.seq (.seq (.reg 2 [.s .d0 .d3 (.L (.not (.t .d0 .d2)))])
 (.cond (.t .d0 .d3) (.seq (.reg 2 [.s .d0 .d1 (.L (.mov (.t .d0 .d4)))])
 .ret) .skip))
 (.seq (.reg 2 [.s .d0 .d6 (.H (.call 78 [(.t .d0 .d0)]))])
 (.seq (.reg 198 [.p (.L (.ak 1 (.t .d0 .d5))),
   .p (.L (.load (.l 0))),
   .p (.L (.build [.int .i64 0, .int .i64 0, .str 0 0, .str 0 0, .int .i64 0, .int .i64 0, .int .i64 0] [(0,1,(.l 0)),(4,1,(.t .d0 .d4)),(5,1,(.t .d0 .d6)),(6,1,(.t .d0 .d7))])),
   .s .d0 .d1 (.H (.call 80 [(.t .d0 .d0),(.l 0)]))])
 .ret))))))⟩
def i78:Fun:=
 ⟨1,[0,2],[.tmp .d0 .d1],(.seq (.reg 1 [.s .d0 .d1 (.L (.mov (.c (.int .i64 0))))])
 (.seq (.reg 124 [.p (.L (.fn 85 [(.t .d0 .d0)] [])),
   .p (.L (.build [.str 0 0, .int .i64 0] [(0,1,(.c (.str 1 43))),(1,1,(.c (.int .i64 5)))])),
   .p (.L (.build [.str 0 0, .int .i64 0] [(0,1,(.c (.str 1 45))),(1,1,(.c (.int .i64 6)))])),
   .p (.L (.bsl 2 2 [.str 0 0, .int .i64 0] [(0,2,(.l 1)),(2,2,(.l 0))])),
   .s .d0 .d1 (.H (.call 84 [(.t .d0 .d0),(.l 3),(.l 0)]))])
 .ret))⟩
def i79:Fun:=
 ⟨2,[0,1,4,5,6,15,14,16,13,25],[.cell .d0 .d2 (some 2), .tmp .d0 .d3, .tmp .d0 .d4],(.seq (.reg 7 [.s .d0 .d2 (.L (.alloc [.str 0 0, .int .i64 0])),
   .s .d0 .d3 (.L (.mov (.c (.int .i64 0)))),
   .s .d0 .d4 (.L (.mov (.c (.bool false))))])
 (.seq (.reg 62 [.p (.L (.nilck (.t .d0 .d0))),
   .p (.L (.ak 0 (.l 0))),
   .p (.L (.load (.l 0))),
   .p (.H (.call 36 [(.l 0)])),
   .s .d0 .d3 (.L (.field 2 1 false (.l 0)))])
 (.seq .skip
 (.seq (.seq (.reg 7 [.s .d1 .d0 (.L (.mov (.t .d0 .d1))),
   .s .d0 .d6 (.L (.len false (.l 0))),
   .s .d0 .d5 (.L (.mov (.c (.int .i64 0))))])
 (.block 0 (.loop (.seq (.reg 1 [.s .d0 .d7 (.L (.bin .lss (.t .d0 .d5) (.t .d0 .d6)))])
 (.seq (.cond (.t .d0 .d7) .skip (.exit 0))
 (.seq (.block 1 (.seq (.reg 7 [.p (.L (.bI 2 (.t .d1 .d0) (.t .d0 .d5))),
   .p (.L (.bE 2 (.l 0))),
   .p (.H (.store 2 (.t .d0 .d2) (.l 0)))])
 (.seq (.draw [0,1,2,3,4,5,6] [⟨.p (.L (.mov (.t .d0 .d0))),[]⟩,
   ⟨.p (.L (.nilck (.l 0))),[]⟩,
   ⟨.p (.L (.ak 0 (.l 0))),[]⟩,
   ⟨.p (.L (.load (.l 0))),[]⟩,
   ⟨.p (.L (.ak 0 (.t .d0 .d2))),[]⟩,
   ⟨.p (.L (.load (.l 0))),[]⟩,
   ⟨.s .d1 .d1 (.H (.call 38 [(.l 2),(.l 0)])),[]⟩])
 (.cond (.t .d1 .d1) (.seq (.reg 1 [.s .d0 .d4 (.L (.mov (.c (.bool true))))])
 (.exit 0)) .skip))))
 (.reg 1 [.s .d0 .d5 (.L (.bin .add (.t .d0 .d5) (.c (.int .i64 1))))])))))))
 (.seq (.reg 9 [.p (.L (.bE 2 (.t .d0 .d2))),
   .p (.H (.store 2 (.t .d0 .d2) (.l 0)))])
 .ret)))))⟩
def i80:Fun:=
 ⟨2,[0,1,4,3],[.tmp .d0 .d2],(.seq (.reg 3 [.s .d0 .d3 (.L (.box 7 (.t .d0 .d1))),
   .s .d0 .d2 (.L (.mov (.c (.int .i64 0))))])
 (.seq (.draw [0,1,2,3,4,5,6,7,8,9,10] [⟨.p (.L (.mov (.t .d0 .d0))),[]⟩,
   ⟨.p (.L (.mov (.t .d0 .d0))),[]⟩,
   ⟨.p (.L (.nilck (.l 0))),[]⟩,
   ⟨.p (.L (.ak 1 (.l 0))),[]⟩,
   ⟨.p (.L (.load (.l 0))),[]⟩,
   ⟨.p (.L (.bE 7 (.t .d0 .d3))),[]⟩,
   ⟨.p (.L (.bsl 7 1 [.int .i64 0, .int .i64 0, .str 0 0, .str 0 0, .int .i64 0, .int .i64 0, .int .i64 0] [(0,7,(.l 0))])),[]⟩,
   ⟨.p (.H (.append 7 72 (.l 2) (.l 0))),[]⟩,
   ⟨.p (.L (.nilck (.l 7))),[]⟩,
   ⟨.p (.L (.ak 1 (.l 0))),[]⟩,
   ⟨.p (.H (.store 1 (.l 0) (.l 2))),[]⟩])
 (.seq (.reg 62 [.p (.L (.nilck (.t .d0 .d0))),
   .p (.L (.ak 1 (.l 0))),
   .p (.L (.load (.l 0))),
   .p (.L (.len false (.l 0))),
   .s .d0 .d2 (.L (.bin .sub (.l 0) (.c (.int .i64 1))))])
 .ret)))⟩
def i84:Fun:=
 ⟨3,[0,1,2,6,10,22,7,8,11,9],[.tmp .d0 .d3],(.seq (.reg 1 [.s .d0 .d3 (.L (.mov (.c (.int .i64 0))))])
 (.seq (.reg 2 [.s .d0 .d6 (.H (.iH (.t .d0 .d1) []))])
 (.block 0 (.loop (.block 1 (.seq (.reg 2036 [.p (.H (.call 79 [(.t .d0 .d0),(.t .d0 .d2)])),
   .p (.L (.ext 0 (.l 0))),
   .p (.L (.ext 1 (.l 1))),
   .p (.L (.ext 2 (.l 2))),
   .s .d0 .d7 (.L (.alloc [.str 0 0, .int .i64 0])),
   .p (.H (.store 2 (.l 0) (.l 3))),
   .s .d1 .d1 (.L (.mov (.l 3))),
   .s .d0 .d4 (.L (.mov (.l 3)))])
 (.seq (.seq (.reg 2 [.s .d0 .d5 (.L (.not (.t .d0 .d4)))])
 (.cond (.t .d0 .d5) (.seq (.reg 2 [.s .d0 .d3 (.L (.mov (.t .d0 .d6)))])
 .ret) .skip))
 (.seq (.reg 2 [.s .d1 .d0 (.H (.iH (.t .d0 .d1) []))])
 (.reg 198 [.p (.L (.ak 1 (.t .d0 .d7))),
   .p (.L (.load (.l 0))),
   .p (.L (.build [.int .i64 0, .int .i64 0, .str 0 0, .str 0 0, .int .i64 0, .int .i64 0, .int .i64 0] [(0,1,(.l 0)),(4,1,(.t .d0 .d6)),(5,1,(.t .d1 .d0)),(6,1,(.t .d1 .d1))])),
   .s .d0 .d6 (.H (.call 80 [(.t .d0 .d0),(.l 0)]))])))))))))⟩
def i85:Fun:=
 ⟨1,[0,2],[.tmp .d0 .d1],(.seq (.reg 1 [.s .d0 .d1 (.L (.mov (.c (.int .i64 0))))])
 (.seq (.reg 252 [.p (.L (.fn 87 [(.t .d0 .d0)] [])),
   .p (.L (.build [.str 0 0, .int .i64 0] [(0,1,(.c (.str 1 42))),(1,1,(.c (.int .i64 7)))])),
   .p (.L (.build [.str 0 0, .int .i64 0] [(0,1,(.c (.str 1 47))),(1,1,(.c (.int .i64 8)))])),
   .p (.L (.build [.str 0 0, .int .i64 0] [(0,1,(.c (.str 1 37))),(1,1,(.c (.int .i64 9)))])),
   .p (.L (.bsl 2 3 [.str 0 0, .int .i64 0] [(0,2,(.l 2)),(2,2,(.l 1)),(4,2,(.l 0))])),
   .s .d0 .d1 (.H (.call 84 [(.t .d0 .d0),(.l 4),(.l 0)]))])
 .ret))⟩
def i87:Fun:=
 ⟨1,[0,2,20,19,21,18,5,30,6,3,70,7,110,8,9],[.tmp .d0 .d1],(.seq (.reg 1 [.s .d0 .d1 (.L (.mov (.c (.int .i64 0))))])
 (.seq (.reg 62 [.p (.L (.nilck (.t .d0 .d0))),
   .p (.L (.ak 0 (.l 0))),
   .p (.L (.load (.l 0))),
   .p (.H (.call 36 [(.l 0)])),
   .s .d1 .d1 (.L (.field 2 1 false (.l 0)))])
 (.seq (.seq (.reg 31 [.p (.L (.build [.str 0 0, .int .i64 0] [(0,1,(.c (.str 1 45))),(1,1,(.c (.int .i64 3)))])),
   .p (.L (.build [.str 0 0, .int .i64 0] [(0,1,(.c (.str 1 33))),(1,1,(.c (.int .i64 4)))])),
   .s .d0 .d5 (.L (.bsl 2 2 [.str 0 0, .int .i64 0] [(0,2,(.l 1)),(2,2,(.l 0))])),
   .s .d0 .d3 (.L (.len false (.l 0))),
   .s .d0 .d2 (.L (.mov (.c (.int .i64 0))))])
 (.block 0 (.loop (.seq (.reg 1 [.s .d0 .d4 (.L (.bin .lss (.t .d0 .d2) (.t .d0 .d3)))])
 (.seq (.cond (.t .d0 .d4) .skip (.exit 0))
 (.seq (.block 1 (.seq (.reg 15 [.p (.L (.bI 2 (.t .d0 .d5) (.t .d0 .d2))),
   .p (.L (.bE 2 (.l 0))),
   .s .d0 .d6 (.L (.alloc [.str 0 0, .int .i64 0])),
   .p (.H (.store 2 (.l 0) (.l 1)))])
 (.seq (.draw [0,1,2,3,4,5,6] [⟨.p (.L (.mov (.t .d0 .d0))),[]⟩,
   ⟨.p (.L (.nilck (.l 0))),[]⟩,
   ⟨.p (.L (.ak 0 (.l 0))),[]⟩,
   ⟨.p (.L (.load (.l 0))),[]⟩,
   ⟨.p (.L (.ak 0 (.t .d0 .d6))),[]⟩,
   ⟨.p (.L (.load (.l 0))),[]⟩,
   ⟨.s .d0 .d7 (.H (.call 48 [(.l 2),(.l 0)])),[]⟩])
 (.cond (.t .d0 .d7) (.seq (.reg 30 [.p (.L (.nilck (.t .d0 .d0))),
   .p (.L (.ak 0 (.l 0))),
   .p (.L (.load (.l 0))),
   .p (.H (.call 59 [(.l 0)]))])
 (.seq (.reg 2046 [.p (.L (.nilck (.t .d0 .d0))),
   .p (.L (.ak 0 (.l 0))),
   .p (.L (.load (.l 0))),
   .p (.L (.nilck (.l 0))),
   .p (.L (.ak 1 (.l 0))),
   .p (.L (.load (.l 0))),
   .p (.L (.bin .add (.l 0) (.c (.int .i64 1)))),
   .p (.L (.nilck (.l 4))),
   .p (.L (.ak 1 (.l 0))),
   .p (.H (.store 1 (.l 0) (.l 2)))])
 (.seq (.reg 2 [.s .d1 .d0 (.H (.call 87 [(.t .d0 .d0)]))])
 (.seq (.reg 2046 [.p (.L (.nilck (.t .d0 .d0))),
   .p (.L (.ak 0 (.l 0))),
   .p (.L (.load (.l 0))),
   .p (.L (.nilck (.l 0))),
   .p (.L (.ak 2 (.l 0))),
   .p (.L (.load (.l 0))),
   .p (.L (.bin .sub (.l 0) (.c (.int .i64 1)))),
   .p (.L (.nilck (.l 4))),
   .p (.L (.ak 2 (.l 0))),
   .p (.H (.store 1 (.l 0) (.l 2)))])
 (.seq (.reg 102 [.p (.L (.ak 1 (.t .d0 .d6))),
   .p (.L (.load (.l 0))),
   .p (.L (.build [.int .i64 0, .int .i64 0, .str 0 0, .str 0 0, .int .i64 0, .int .i64 0, .int .i64 0] [(0,1,(.l 0)),(4,1,(.t .d1 .d0)),(5,1,(.c (.int .i64 (-1)))),(6,1,(.t .d1 .d1))])),
   .s .d0 .d1 (.H (.call 80 [(.t .d0 .d0),(.l 0)]))])
 .ret))))) .skip))))
 (.reg 1 [.s .d0 .d2 (.L (.bin .add (.t .d0 .d2) (.c (.int .i64 1))))])))))))
 (.seq (.seq (.reg 30 [.p (.L (.nilck (.t .d0 .d0))),
   .p (.L (.ak 0 (.l 0))),
   .p (.L (.load (.l 0))),
   .s .d1 .d2 (.H (.call 48 [(.l 0),(.c (.str 1 40))]))])
 (.cond (.t .d1 .d2) (.seq (.reg 30 [.p (.L (.nilck (.t .d0 .d0))),
   .p (.L (.ak 0 (.l 0))),
   .p (.L (.load (.l 0))),
   .p (.H (.call 59 [(.l 0)]))])
 (.seq (.reg 2046 [.p (.L (.nilck (.t .d0 .d0))),
   .p (.L (.ak 0 (.l 0))),
   .p (.L (.load (.l 0))),
   .p (.L (.nilck (.l 0))),
   .p (.L (.ak 1 (.l 0))),
   .p (.L (.load (.l 0))),
   .p (.L (.bin .add (.l 0) (.c (.int .i64 1)))),
   .p (.L (.nilck (.l 4))),
   .p (.L (.ak 1 (.l 0))),
   .p (.H (.store 1 (.l 0) (.l 2)))])
 (.seq (.reg 2 [.s .d1 .d3 (.H (.call 73 [(.t .d0 .d0)]))])
 (.seq (.reg 30 [.p (.L (.nilck (.t .d0 .d0))),
   .p (.L (.ak 0 (.l 0))),
   .p (.L (.load (.l 0))),
   .p (.H (.call 35 [(.l 0),(.c (.str 1 41))]))])
 (.seq (.reg 2046 [.p (.L (.nilck (.t .d0 .d0))),
   .p (.L (.ak 0 (.l 0))),
   .p (.L (.load (.l 0))),
   .p (.L (.nilck (.l 0))),
   .p (.L (.ak 2 (.l 0))),
   .p (.L (.load (.l 0))),
   .p (.L (.bin .sub (.l 0) (.c (.int .i64 1)))),
   .p (.L (.nilck (.l 4))),
   .p (.L (.ak 2 (.l 0))),
   .p (.H (.store 1 (.l 0) (.l 2)))])
 (.seq (.reg 2 [.s .d0 .d1 (.L (.mov (.t .d1 .d3)))])
 .ret)))))) .skip))
 (.seq (.seq (.reg 126 [.p (.L (.nilck (.t .d0 .d0))),
   .p (.L (.ak 0 (.l 0))),
   .p (.L (.load (.l 0))),
   .p (.H (.call 36 [(.l 0)])),
   .p (.L (.field 0 1 false (.l 0))),
   .s .d1 .d4 (.L (.bin .eql (.l 0) (.c (.int .i64 2))))])
 (.cond (.t .d1 .d4) (.seq (.reg 444 [.p (.L (.nilck (.t .d0 .d0))),
   .p (.L (.ak 0 (.l 0))),
   .p (.L (.load (.l 0))),
   .p (.H (.call 49 [(.l 0)])),
   .p (.L (.build [.int .i64 0, .int .i64 0, .str 0 0, .str 0 0, .int .i64 0, .int .i64 0, .int .i64 0] [(0,1,(.c (.int .i64 1))),(1,1,(.l 0)),(4,1,(.c (.int .i64 (-1)))),(5,1,(.c (.int .i64 (-1)))),(6,1,(.t .d1 .d1))])),
   .s .d0 .d1 (.H (.call 80 [(.t .d0 .d0),(.l 0)]))])
 .ret) .skip))
 (.seq (.reg 990 [.p (.L (.nilck (.t .d0 .d0))),
   .p (.L (.ak 0 (.l 0))),
   .p (.L (.load (.l 0))),
   .p (.H (.call 67 [(.l 0)])),
   .p (.L (.ext 0 (.l 0))),
   .p (.L (.ext 1 (.l 1))),
   .s .d1 .d5 (.L (.mov (.l 1))),
   .s .d1 .d6 (.L (.mov (.l 1)))])
 (.seq (.reg 48 [.p (.L (.build [.int .i64 0, .int .i64 0, .str 0 0, .str 0 0, .int .i64 0, .int .i64 0, .int .i64 0] [(0,1,(.c (.int .i64 2))),(2,1,(.t .d1 .d5)),(3,1,(.t .d1 .d6)),(4,1,(.c (.int .i64 (-1)))),(5,1,(.c (.int .i64 (-1)))),(6,1,(.t .d1 .d1))])),
   .s .d0 .d1 (.H (.call 80 [(.t .d0 .d0),(.l 0)]))])
 .ret)))))))⟩
def d20:lF:=
 ⟨2,[0,1,4,5,6],(.reg 7 [.s .d0 .d2 (.L (.alloc [.slN])),
   .s .d0 .d3 (.L (.alloc [.int .i64 0])),
   .s .d0 .d4 (.L (.alloc [.int .i64 0]))]),34,[(.t .d0 .d2),(.t .d0 .d3),(.t .d0 .d4)],252,[.p (.L (.build [.slN, .int .i64 0, .int .i64 0] [(0,1,(.t .d0 .d0))])),
   .p (.L (.box 3 (.l 0))),
   .p (.H (.iH (.t .d0 .d1) [(.l 0)])),
   .p (.H (.store 1 (.t .d0 .d2) (.l 0))),
   .p (.H (.store 1 (.t .d0 .d3) (.c (.int .i64 0)))),
   .p (.H (.store 1 (.t .d0 .d4) (.c (.int .i64 0))))],[],[.cell .d0 .d2 none, .cell .d0 .d3 none, .cell .d0 .d4 none],[0,1,2,7,9,11,12,5,4,6],3,(.block 0 (.seq (.reg 1 [.s .d0 .d4 (.L (.eq false .ifc (.t .d0 .d3) (.c (.ifcN))))])
 (.cond (.t .d0 .d4) (.reg 0 []) (.seq (.reg 7 [.p (.L (.tassert 83 (.agg [.int .i64 0, .int .i64 0]) true (.t .d0 .d3))),
   .s .d0 .d5 (.L (.ext 1 (.l 0))),
   .s .d0 .d6 (.L (.ext 0 (.l 1)))])
 (.cond (.t .d0 .d5) (.seq (.reg 3 [.s .d1 .d0 (.L (.alloc [.int .i64 0, .int .i64 0])),
   .p (.H (.store 2 (.l 0) (.t .d0 .d6)))])
 (.seq (.reg 1 [.s .d0 .d7 (.L (.mov (.c (.slN))))])
 (.draw [0,1,2,3,4,5,6,7] [⟨.p (.L (.mov (.t .d0 .d7))),[]⟩,
   ⟨.p (.L (.ak 0 (.t .d1 .d0))),[]⟩,
   ⟨.p (.L (.load (.l 0))),[]⟩,
   ⟨.p (.L (.ak 1 (.t .d1 .d0))),[]⟩,
   ⟨.p (.L (.load (.l 0))),[]⟩,
   ⟨.p (.H (.store 1 (.t .d0 .d0) (.l 4))),[2,0]⟩,
   ⟨.p (.H (.store 1 (.t .d0 .d1) (.l 3))),[1]⟩,
   ⟨.p (.H (.store 1 (.t .d0 .d2) (.l 2))),[]⟩]))) (.seq (.reg 1 [.s .d1 .d1 (.L (.mov (.t .d0 .d3)))])
 (.reg 2 [.p (.H (.panic (.t .d1 .d1)))])))))))⟩
def d22:lF:=
 ⟨2,[0,1,4,5,6],(.reg 7 [.s .d0 .d2 (.L (.alloc [.str 0 0, .int .i64 0, .slN, .slN, .slN])),
   .s .d0 .d3 (.L (.alloc [.int .i64 0])),
   .s .d0 .d4 (.L (.alloc [.int .i64 0]))]),39,[(.t .d0 .d2),(.t .d0 .d3),(.t .d0 .d4)],252,[.p (.L (.build [.slN, .int .i64 0, .int .i64 0] [(0,1,(.t .d0 .d0))])),
   .p (.L (.box 3 (.l 0))),
   .p (.H (.iH (.t .d0 .d1) [(.l 0)])),
   .p (.H (.store 5 (.t .d0 .d2) (.l 0))),
   .p (.H (.store 1 (.t .d0 .d3) (.c (.int .i64 0)))),
   .p (.H (.store 1 (.t .d0 .d4) (.c (.int .i64 0))))],[],[.cell .d0 .d2 (some 5), .cell .d0 .d3 none, .cell .d0 .d4 none],[0,1,2,7,9,11,12,5,4,6],3,(.block 0 (.seq (.reg 1 [.s .d0 .d4 (.L (.eq false .ifc (.t .d0 .d3) (.c (.ifcN))))])
 (.cond (.t .d0 .d4) (.reg 0 []) (.seq (.reg 7 [.p (.L (.tassert 83 (.agg [.int .i64 0, .int .i64 0]) true (.t .d0 .d3))),
   .s .d0 .d5 (.L (.ext 1 (.l 0))),
   .s .d0 .d6 (.L (.ext 0 (.l 1)))])
 (.cond (.t .d0 .d5) (.seq (.reg 3 [.s .d1 .d0 (.L (.alloc [.int .i64 0, .int .i64 0])),
   .p (.H (.store 2 (.l 0) (.t .d0 .d6)))])
 (.seq (.reg 1 [.s .d0 .d7 (.L (.alloc [.str 0 0, .int .i64 0, .slN, .slN, .slN]))])
 (.draw [0,1,2,3,4,5,6,7] [⟨.p (.L (.bE 5 (.t .d0 .d7))),[]⟩,
   ⟨.p (.L (.ak 0 (.t .d1 .d0))),[]⟩,
   ⟨.p (.L (.load (.l 0))),[]⟩,
   ⟨.p (.L (.ak 1 (.t .d1 .d0))),[]⟩,
   ⟨.p (.L (.load (.l 0))),[]⟩,
   ⟨.p (.H (.store 5 (.t .d0 .d0) (.l 4))),[2,0]⟩,
   ⟨.p (.H (.store 1 (.t .d0 .d1) (.l 3))),[1]⟩,
   ⟨.p (.H (.store 1 (.t .d0 .d2) (.l 2))),[]⟩]))) (.seq (.reg 1 [.s .d1 .d1 (.L (.mov (.t .d0 .d3)))])
 (.reg 2 [.p (.H (.panic (.t .d1 .d1)))])))))))⟩
def n1 {α:Type}:R8 (Option α):=R8.all none
def n2 {α:Type}:R8 (R8 (Option α)):=R8.all n1
def bJ:T Fun:=⟨⟨⟨⟨none,none,none,none,none,none,none,none⟩,⟨(some i8),(some i9),(some i10),(some i11),(some i12),none,none,(some i15)⟩,⟨(some i16),(some i17),(some i18),(some i19),none,(some i21),none,(some i23)⟩,⟨(some i24),(some i25),(some i26),(some i27),(some i28),(some i29),(some i30),(some i31)⟩,⟨(some i32),(some i33),none,(some i35),(some i36),(some i37),(some i38),none⟩,⟨(some i40),(some i41),(some i42),(some i43),(some i44),(some i45),(some i46),(some i47)⟩,⟨(some i48),(some i49),(some i50),(some i51),(some i52),(some i53),(some i54),(some i55)⟩,⟨none,(some i57),(some i58),(some i59),(some i60),(some i61),none,(some i63)⟩⟩,⟨⟨none,(some i65),(some i66),(some i67),none,none,none,none⟩,⟨none,(some i73),none,none,none,none,(some i78),(some i79)⟩,⟨(some i80),none,none,none,(some i84),(some i85),none,(some i87)⟩,⟨none,none,none,none,none,none,none,none⟩,⟨none,none,none,none,none,none,none,none⟩,n1,n1,⟨none,none,none,none,none,none,none,none⟩⟩,n2,n2,n2,n2,n2,n2⟩,none, .mt⟩
def gY:T lF:=⟨⟨⟨n1,n1,⟨none,none,none,none,(some d20),none,(some d22),none⟩,n1,n1,n1,n1,n1⟩,n2,n2,n2,n2,n2,n2,n2⟩,none, .mt⟩
end
end Go.Eng.YtjobofnpmmjeoaaDoor
