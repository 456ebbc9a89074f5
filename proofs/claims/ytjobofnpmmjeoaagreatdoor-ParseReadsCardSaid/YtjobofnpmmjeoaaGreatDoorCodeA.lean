/- Part of a proof of a law: rules of an evaluator, contracts, plain laws. No condition of its own. -/
import Derived.Test.YtjobofnpmmjeoaaGreatDoorEngC
set_option linter.unusedVariables false
set_option linter.unusedSimpArgs false
set_option maxRecDepth 100000
namespace Go.Eng.YtjobofnpmmjeoaaGreatDoor
open Go.Eng
noncomputable section
abbrev aN:A:= .t .d0 .d0
abbrev dO:A:= .t .d0 .d3
abbrev dP:A:= .t .d0 .d1
abbrev fB:A:= .t .d0 .d5
abbrev fE:A:= .t .d0 .d2
abbrev fH:A:= .t .d0 .d4
abbrev fJ:A:= .t .d0 .d7
abbrev iE:A:= .t .d0 .d6
abbrev iZ:A:= .t .d1 .d0
abbrev pE:A:= .t .d1 .d4
abbrev qw:A:= .t .d1 .d1
abbrev r9:A:= .t .d1 .d2
abbrev wT:A:= .t .d2 .d1
abbrev yt:A:= .t .d1 .d3
abbrev vE:A:= .t .d1 .d5
abbrev Dp:A:= .t .d2 .d2
abbrev Fq:A:= .t .d2 .d3
abbrev JU:A:= .t .d1 .d7
abbrev zt24:A:= .t .d2 .d4
abbrev JV:A:= .t .d1 .d6
abbrev zl0:A:= .l 0
abbrev zl1:A:= .l 1
abbrev zl2:A:= .l 2
abbrev zl3:A:= .l 3
abbrev zl4:A:= .l 4
abbrev zl5:A:= .l 5
abbrev zl6:A:= .l 6
abbrev zl7:A:= .l 7
abbrev zl8:A:= .l 8
abbrev zc0:A:= .c (.int .i64 0)
abbrev zc1:A:= .c (.bool false)
abbrev zc2:A:= .c (.int .i64 1)
abbrev zc3:A:= .c (.bool true)
abbrev zc4:A:= .c (.slN)
abbrev zc5:A:= .c (.str 0 0)
abbrev zc6:A:= .c (.int .i64 2)
abbrev zc7:A:= .c (.int .i64 (-1))
abbrev zc8:A:= .c (.str 1 59)
abbrev zc9:A:= .c (.int .i64 9)
abbrev J7:A:= .c (.int .i64 10)
abbrev Dq:A:= .c (.int .i64 11)
abbrev Dr:A:= .c (.str 1 61)
abbrev Hw:A:= .c (.int .i64 3)
abbrev Hy:A:= .c (.int .i64 4)
abbrev Hz:A:= .c (.str 1 41)
abbrev Ka:A:= .c (.str 1 40)
abbrev Kc:A:= .c (.ifcN)
abbrev Ny:A:= .c (.int .u8 48)
abbrev Nz:A:= .c (.str 1 58)
abbrev NA:A:= .c (.str 1 45)
abbrev NC:A:= .c (.str 1 125)
abbrev Q7:A:= .c (.int .i64 8192)
abbrev Q8:A:= .c (.str 1 60)
abbrev Q9:A:= .c (.str 1 44)
abbrev zc25:A:= .c (.str 6 126909394608492)
abbrev zc26:A:= .c (.int .u8 10)
abbrev zc27:A:= .c (.str 6 111516500389741)
abbrev zc28:A:= .c (.str 6 128034844732777)
abbrev zc29:A:= .c (.str 3 7496054)
abbrev zc30:A:= .c (.str 4 1668248176)
abbrev zc31:A:= .c (.str 2 25456)
abbrev zc32:A:= .c (.str 4 1936028533)
abbrev zc33:A:= .c (.str 3 7628140)
abbrev zc34:A:= .c (.str 4 1819042147)
abbrev zc35:A:= .c (.str 2 26217)
abbrev zc36:A:= .c (.str 4 1702063205)
abbrev zc37:A:= .c (.str 5 435610544247)
abbrev zc38:A:= .c (.str 4 1953066341)
abbrev zc39:A:= .c (.str 6 128009175786866)
abbrev zc40:A:= .c (.str 4 1885956979)
abbrev zc41:A:= .c (.str 2 15677)
abbrev zc42:A:= .c (.str 2 15676)
abbrev zc43:A:= .c (.str 2 15917)
abbrev zc44:A:= .c (.str 1 123)
abbrev zc45:A:= .c (.int .i64 7)
abbrev zc46:A:= .c (.int .i64 8)
abbrev zc47:A:= .c (.int .i64 5)
abbrev zc48:A:= .c (.int .i64 6)
abbrev zo0:Op:= .L (.load zl0)
abbrev zo1:Op:= .L (.mov zc0)
abbrev zo2:Op:= .L (.mov aN)
abbrev zo3:Op:= .L (.nilck aN)
abbrev zo4:Op:= .L (.mov zc1)
abbrev zo5:Op:= .L (.nilck zl0)
abbrev zo6:Op:= .L (.aA 1 zl0)
abbrev zo7:Op:= .L (.mov zl1)
abbrev zo8:Op:= .L (.aA 0 zl0)
abbrev zo9:Op:= .L (.mov zl2)
abbrev lH:Op:= .L (.mov zc4)
abbrev mh:Op:= .L (.ext 0 zl0)
abbrev mo:Op:= .L (.ext 1 zl1)
abbrev nK:Op:= .L (.mov dP)
abbrev o8:Op:= .L (.mov zl0)
abbrev o9:Op:= .L (.aA 2 zl0)
abbrev pF:Op:= .L (.len false zl0)
abbrev pG:Op:= .L (.not zl0)
abbrev pI:Op:= .L (.aA 0 dO)
abbrev qO:Op:= .L (.aA 3 zl0)
abbrev vF:Op:= .L (.mov fE)
abbrev vG:Op:= .L (.mov fH)
abbrev wV:Op:= .L (.len true aN)
abbrev wW:Op:= .L (.ext 2 zl2)
abbrev wX:Op:= .L (.mov fB)
abbrev wY:Op:= .L (.mov fJ)
abbrev wZ:Op:= .L (.load fE)
abbrev yu:Op:= .L (.mov zc5)
abbrev ze:Op:= .L (.bin .add zl0 zc2)
abbrev zW:Op:= .L (.alloc [.str 0 0, .int .i64 0, .slN, .slN, .slN])
abbrev zX:Op:= .L (.bin .eql zl0 zc0)
abbrev zY:Op:= .L (.aA 3 dO)
abbrev zZ:Op:= .L (.field 2 1 false zl0)
abbrev Aa:Op:= .L (.bin .sub zl0 zc2)
abbrev Cc:Op:= .L (.len false aN)
abbrev Ce:Op:= .L (.mov zc3)
abbrev Ci:Op:= .L (.bins .neq zl2 zl0)
abbrev Cj:Op:= .L (.pick zl5 zc3 zl0)
abbrev Ck:Op:= .L (.mov dO)
abbrev Dt:Op:= .L (.bT 3 zl4 zl0)
abbrev Du:Op:= .L (.aA 8 dO)
abbrev Fu:Op:= .L (.mov zl3)
abbrev Fv:Op:= .L (.mov iE)
abbrev Fx:Op:= .L (.mov iZ)
abbrev FC:Op:= .L (.bin .neq zl0 zc0)
abbrev FD:Op:= .L (.pick zl2 zc3 zl0)
abbrev FE:Op:= .L (.istr zl1 zl0)
abbrev FH:Op:= .L (.aY 12 dO)
abbrev HV:Op:= .L (.pick zl3 zl0 zc1)
abbrev HY:Op:= .L (.pick zl5 zl0 zc1)
abbrev HZ:Op:= .L (.len false dP)
abbrev H6:Op:= .L (.bT 3 zl1 zl0)
abbrev H7:Op:= .L (.aA 2 dO)
abbrev H8:Op:= .L (.aA 1 fB)
abbrev H9:Op:= .L (.alloc [.int .i64 0, .str 0 0, .int .i64 0])
abbrev Ia:Op:= .L (.pick zl7 zc3 zl0)
abbrev Ke:Op:= .L (.len true zl0)
abbrev Kg:Op:= .L (.aY 3 zl0)
abbrev Kh:Op:= .L (.pick zl2 zl0 zc1)
abbrev Ki:Op:= .L (.aA 4 dO)
abbrev Kj:Op:= .L (.aA 2 fB)
abbrev Kk:Op:= .L (.load fH)
abbrev Kl:Op:= .L (.alloc [.int .i64 0, .int .i64 0, .str 0 0, .str 0 0, .str 0 0, .bool false, .str 0 0, .str 0 0, .slN, .slN, .slN, .slN])
abbrev ND:Op:= .L (.pick zl4 zl0 zc1)
abbrev NE:Op:= .L (.bsl 3 1 [.str 0 0, .str 0 0, .int .i64 0] [(0,3,zl0)])
abbrev NG:Op:= .L (.mov zc9)
abbrev NH:Op:= .L (.bsl 3 1 [.int .i64 0, .str 0 0, .int .i64 0] [(0,3,zl0)])
abbrev NI:Op:= .L (.bin .neq zl2 zl0)
abbrev NJ:Op:= .L (.alloc [.str 0 0, .str 0 0, .int .i64 0, .int .i64 0])
abbrev NK:Op:= .L (.alloc [.str 0 0, .slN, .bool false, .str 0 0, .str 0 0, .slN, .slN, .int .i64 0])
abbrev NM:Op:= .L (.mov zt24)
abbrev NN:Op:= .L (.aA 2 fE)
abbrev NQ:Op:= .L (.load dP)
abbrev Ra:Op:= .L (.mov pE)
abbrev Rb:Op:= .L (.bin .add fH zc2)
abbrev Rc:Op:= .L (.bin .add fB zc2)
abbrev Rf:Op:= .L (.mov Fq)
abbrev Rh:Op:= .L (.pick zl3 zc3 zl0)
abbrev Ri:Op:= .L (.pick zl8 zc3 zl0)
abbrev Rj:Op:= .L (.bin .neq zl3 zl0)
abbrev Rk:Op:= .L (.aA 1 wT)
abbrev Rl:Op:= .L (.alloc [.int .i64 0])
abbrev Rm:Op:= .L (.load fB)
abbrev Rn:Op:= .L (.aA 6 zl0)
abbrev Ro:Op:= .L (.nilck dP)
abbrev Rp:Op:= .L (.bsl 7 1 [.int .i64 0, .int .i64 0, .str 0 0, .str 0 0, .int .i64 0, .int .i64 0, .int .i64 0] [(0,7,zl0)])
abbrev zo86:Op:= .L (.aY 5 dO)
abbrev zo87:Op:= .L (.bin .eql zl1 zl0)
abbrev zo88:Op:= .L (.mov yt)
abbrev zo89:Op:= .L (.bin .neq fH zc0)
abbrev zo90:Op:= .L (.mov JU)
abbrev zo91:Op:= .L (.bin .neq zl1 zl0)
abbrev zo92:Op:= .L (.bin .lss fH zl0)
abbrev zo93:Op:= .L (.bin .lss fB zl0)
abbrev zo94:Op:= .L (.mov J7)
abbrev zo95:Op:= .L (.aA 1 fE)
abbrev zo96:Op:= .L (.aA 2 fH)
abbrev zo97:Op:= .L (.bT 2 zl1 zl0)
abbrev zo98:Op:= .L (.aA 1 Dp)
abbrev zo99:Op:= .L (.bT 1 zl1 zl0)
abbrev Lm:Op:= .L (.bT 7 zl1 zl0)
abbrev Lp:Op:= .L (.aA 10 dO)
abbrev Lr:Op:= .L (.alloc [.str 0 0, .int .i64 0])
abbrev Rq:Op:= .L (.bin .eql zl0 zc6)
abbrev Rs:Op:= .L (.build [.str 0 0, .int .i64 0, .slN, .slN, .slN] [])
abbrev Rt:Op:= .L (.pick (.l 12) zl0 zc1)
abbrev Ru:Op:= .L (.pick zl4 zc3 zl0)
abbrev Rv:Op:= .L (.bin .lss zl2 zl0)
abbrev Rw:Op:= .L (.pick (.l 16) zc3 zl0)
abbrev Rx:Op:= .L (.field 0 1 false zl0)
abbrev Ry:Op:= .L (.alloc [.str 0 0, .str 0 0, .int .i64 0])
abbrev Rz:Op:= .L (.bins .neq zl6 zl0)
abbrev RA:Op:= .L (.sstr aN (some dP) (some zl0))
abbrev RB:Op:= .L (.bin .add fE zc2)
abbrev zo137:Op:= .L (.build [.slN, .int .i64 0, .int .i64 0, .int .i64 0, .int .i64 0] [(0,1,fJ)])
abbrev zo152:Op:= .L (.build [.str 0 0, .int .i64 0, .slN, .slN, .slN] [(1,1,zl1),(0,1,zl0)])
abbrev zo153:Op:= .L (.build [.str 0 0, .int .i64 0] [(1,1,zl1),(0,1,zl0)])
abbrev zo154:Op:= .L (.bsl 2 1 [.str 0 0, .int .i64 0] [(0,2,zl0)])
abbrev zo155:Op:= .L (.bsl 4 1 [.str 0 0, .str 0 0, .int .i64 0, .int .i64 0] [(0,4,zl0)])
abbrev zo156:Op:= .L (.bsl 8 1 [.str 0 0, .slN, .bool false, .str 0 0, .str 0 0, .slN, .slN, .int .i64 0] [(0,8,zl0)])
abbrev zo179:Op:= .L (.build [.str 0 0, .str 0 0, .int .i64 0, .int .i64 0] [(3,1,zl1),(0,1,zl0)])
abbrev zo181:Op:= .L (.build [.str 0 0, .slN, .bool false, .str 0 0, .str 0 0, .slN, .slN, .int .i64 0] [(7,1,zl1),(0,1,zl0)])
abbrev zo182:Op:= .L (.build [.str 0 0, .str 0 0, .int .i64 0] [(2,1,zl1),(0,1,zl0)])
abbrev zo195:Op:= .L (.bsl 12 1 [.int .i64 0, .int .i64 0, .str 0 0, .str 0 0, .str 0 0, .bool false, .str 0 0, .str 0 0, .slN, .slN, .slN, .slN] [(0,12,zl0)])
abbrev zo198:Op:= .L (.build [.int .i64 0, .int .i64 0, .str 0 0, .str 0 0, .str 0 0, .bool false, .str 0 0, .str 0 0, .slN, .slN, .slN, .slN] [(1,1,zl0)])
abbrev zo202:Op:= .L (.alloc [.int .i64 0, .int .i64 0, .str 0 0, .str 0 0, .int .i64 0, .int .i64 0, .int .i64 0])
abbrev zo208:Op:= .L (.bsl 2 3 [.str 0 0, .int .i64 0] [(0,2,zl2),(2,2,zl1),(4,2,zl0)])
abbrev zo209:Op:= .L (.bsl 2 2 [.str 0 0, .int .i64 0] [(0,2,zl1),(2,2,zl0)])
abbrev zo211:Op:= .L (.build [.slN, .int .i64 0, .int .i64 0] [(0,1,aN)])
abbrev zo214:Op:= .L (.tassert 80 (.agg [.int .i64 0, .int .i64 0]) true dO)
def i3:Fun:=
 ⟨1,[0,2,22,3,6,4,7,5,8,9,12,10,13,11,14],[.tmp .d0 .d1],(.seq (.reg 1 [.s .d0 .d1 zo4])
 (.seq (.seq (.reg 246 [.p wV,
   .p (.L (.bin .gtr zl0 (.c (.int .i64 2000)))),
   .g zl0 true zo2,
   .g zl1 true Ke,
   .g zl2 true (.L (.bin .leq zl0 Q7)),
   .s .d0 .d2 HV])
 (.cond fE (.seq (.reg 1 [.s .d0 .d1 (.H (.call 4 []))])
 .ret) .skip))
 (.seq (.reg 1018 [.p (.H (.call 5 [aN])),
   .p mh,
   .p mo,
   .p wW,
   .s .d0 .d3 zW,
   .p (.H (.store 5 zl0 zl3)),
   .s .d0 .d5 Fu,
   .s .d0 .d7 Fu])
 (.seq (.reg 1018 [.p (.H (.call 6 [aN])),
   .p mh,
   .p mo,
   .p wW,
   .s .d0 .d4 zW,
   .p (.H (.store 5 zl0 zl3)),
   .s .d0 .d6 Fu,
   .s .d1 .d0 Fu])
 (.seq (.reg 506 [.p (.H (.call 7 [aN])),
   .p mh,
   .p mo,
   .p wW,
   .s .d1 .d1 zo9,
   .s .d1 .d3 zo9,
   .s .d1 .d5 zo9])
 (.seq (.reg 506 [.p (.H (.call 8 [aN])),
   .p mh,
   .p mo,
   .p wW,
   .s .d1 .d2 zo9,
   .s .d1 .d4 zo9,
   .s .d1 .d6 zo9])
 (.seq (.reg 7482097143 [.p zo86,
   .p (.L (.aY 5 fH)),
   .p (.H (.call 9 [zl1,zl0])),
   .g zl0 true wX,
   .g zl1 true (.H (.call 10 [zl0])),
   .g zl2 true Fv,
   .g zl3 true zo87,
   .p ND,
   .g zl0 true wY,
   .g zl1 true Fx,
   .g zl2 true zo87,
   .p HV,
   .g zl0 true (.L (.mov qw)),
   .g zl1 true (.L (.mov r9)),
   .g zl2 true (.H (.call 11 [zl1,zl0])),
   .p HV,
   .g zl0 true zo88,
   .g zl1 true (.H (.call 10 [zl0])),
   .g zl2 true Ra,
   .g zl3 true zo87,
   .p ND,
   .g zl0 true (.L (.mov vE)),
   .g zl1 true (.L (.mov JV)),
   .g zl2 true zo87,
   .p HV,
   .g zl0 true (.H (.call 4 [])),
   .s .d0 .d1 (.L (.pick zl1 zl0 zc1))])
 .ret)))))))⟩
def i4:Fun:=
 ⟨0,[0,2,1],[.tmp .d0 .d0],(.seq (.reg 1 [.s .d0 .d0 zo4])
 (.seq (.reg 125 [.p (.H (.call 7 [(.c (.str 17 20208420592927795050325378941289463177580))])),
   .p mh,
   .p mo,
   .p wW,
   .s .d0 .d2 zo9,
   .s .d0 .d1 zo9])
 (.seq (.reg 4161270 [.p (.H (.call 10 [dP])),
   .p zX,
   .g zl0 true vF,
   .g zl1 true pF,
   .g zl2 true Rq,
   .p HV,
   .g zl0 true vF,
   .g zl1 true (.L (.bT 3 zl0 zc2)),
   .g zl2 true zo8,
   .g zl3 true zo0,
   .g zl4 true (.L (.bins .eql zl0 (.c (.str 1 98)))),
   .p HY,
   .g zl0 true vF,
   .g zl1 true (.L (.bT 3 zl0 zc2)),
   .g zl2 true zo6,
   .g zl3 true zo0,
   .g zl4 true (.L (.bins .eql zl0 (.c (.str 1 99)))),
   .s .d0 .d0 HY])
 .ret)))⟩
def i5:Fun:=
 ⟨1,[0,2,3,4,6,15,7,5],[.cell .d0 .d1 (some 5), .tmp .d0 .d2, .tmp .d0 .d3],(.seq (.reg 7 [.s .d0 .d1 zW,
   .s .d0 .d2 zo1,
   .s .d0 .d3 zo1])
 (.seq (.reg 506 [.p (.H (.call 12 [aN])),
   .p mh,
   .p mo,
   .p wW,
   .s .d0 .d7 zo9,
   .s .d0 .d4 zo9,
   .s .d0 .d6 zo9])
 (.seq (.seq (.reg 2 [.s .d0 .d5 zo89])
 (.cond fB (.seq (.reg 57 [.p Rs,
   .p (.H (.store 5 dP zl0)),
   .s .d0 .d2 vG,
   .s .d0 .d3 Fv])
 .ret) .skip))
 (.seq (.reg 254 [.p (.H (.call 13 [fJ])),
   .p mh,
   .p mo,
   .p wW,
   .p (.H (.store 5 dP zl2)),
   .s .d0 .d2 zo9,
   .s .d0 .d3 zo9])
 .ret))))⟩
def i6:Fun:=
 ⟨1,[0,2,3,4,6,17,7,5,8,30,9],[.cell .d0 .d1 (some 5), .tmp .d0 .d2, .tmp .d0 .d3],(.seq (.reg 7 [.s .d0 .d1 zW,
   .s .d0 .d2 zo1,
   .s .d0 .d3 zo1])
 (.seq (.reg 506 [.p (.H (.call 14 [aN])),
   .p mh,
   .p mo,
   .p wW,
   .s .d0 .d7 zo9,
   .s .d0 .d4 zo9,
   .s .d0 .d6 zo9])
 (.seq (.seq (.reg 2 [.s .d0 .d5 zo89])
 (.cond fB (.seq (.reg 57 [.p Rs,
   .p (.H (.store 5 dP zl0)),
   .s .d0 .d2 vG,
   .s .d0 .d3 Fv])
 .ret) .skip))
 (.seq (.reg 6 [.p zo137,
   .s .d1 .d0 (.L (.box 5 zl0))])
 (.seq (.reg 14 [.p (.H (.call 15 [iZ])),
   .s .d1 .d2 zW,
   .p (.H (.store 5 zl0 zl1))])
 (.seq (.seq (.reg 30 [.p (.L (.nilck iZ)),
   .p qO,
   .p zo0,
   .s .d1 .d1 FC])
 (.cond qw (.seq (.draw [0,1,2,3,4,5,6,7,8,9,10,11] [⟨.p Rs,[]⟩,
   ⟨.p Fx,[]⟩,
   ⟨.p zo5,[]⟩,
   ⟨.p qO,[]⟩,
   ⟨.p zo0,[]⟩,
   ⟨.p Fx,[]⟩,
   ⟨.p zo5,[]⟩,
   ⟨.p (.L (.aA 4 zl0)),[]⟩,
   ⟨.p zo0,[]⟩,
   ⟨.p (.H (.store 5 dP zl8)),[4,0]⟩,
   ⟨.s .d0 .d2 (.L (.mov zl5)),[]⟩,
   ⟨.s .d0 .d3 zo9,[]⟩])
 .ret) .skip))
 (.seq (.reg 15 [.p (.L (.aY 5 r9)),
   .p (.H (.store 5 dP zl0)),
   .s .d0 .d2 zo1,
   .s .d0 .d3 zo1])
 .ret)))))))⟩
def i7:Fun:=
 ⟨1,[0,2,3,4,6,15,7,5],[.tmp .d0 .d1, .tmp .d0 .d2, .tmp .d0 .d3],(.seq (.reg 7 [.s .d0 .d1 lH,
   .s .d0 .d2 zo1,
   .s .d0 .d3 zo1])
 (.seq (.reg 506 [.p (.H (.call 12 [aN])),
   .p mh,
   .p mo,
   .p wW,
   .s .d0 .d7 zo9,
   .s .d0 .d4 zo9,
   .s .d0 .d6 zo9])
 (.seq (.seq (.reg 2 [.s .d0 .d5 zo89])
 (.cond fB (.seq (.reg 28 [.s .d0 .d1 lH,
   .s .d0 .d2 vG,
   .s .d0 .d3 Fv])
 .ret) .skip))
 (.seq (.reg 254 [.p (.H (.call 16 [fJ,(.c (.fn 17 [] []))])),
   .p mh,
   .p mo,
   .p wW,
   .s .d0 .d1 zo9,
   .s .d0 .d2 zo9,
   .s .d0 .d3 zo9])
 .ret))))⟩
def i8:Fun:=
 ⟨1,[0,2,3,4,6,20,7,5,8,46,53,11,10,9,61,12,80],[.tmp .d0 .d1, .tmp .d0 .d2, .tmp .d0 .d3],(.seq (.reg 7 [.s .d0 .d1 lH,
   .s .d0 .d2 zo1,
   .s .d0 .d3 zo1])
 (.seq (.reg 506 [.p (.H (.call 14 [aN])),
   .p mh,
   .p mo,
   .p wW,
   .s .d0 .d7 zo9,
   .s .d0 .d4 zo9,
   .s .d0 .d6 zo9])
 (.seq (.seq (.reg 2 [.s .d0 .d5 zo89])
 (.cond fB (.seq (.reg 28 [.s .d0 .d1 lH,
   .s .d0 .d2 vG,
   .s .d0 .d3 Fv])
 .ret) .skip))
 (.seq (.reg 6 [.p zo137,
   .s .d1 .d0 (.L (.box 5 zl0))])
 (.seq (.reg 1 [.s .d1 .d5 lH])
 (.seq (.reg 2 [.p (.H (.call 18 [iZ,zc25]))])
 (.seq (.block 0 (.loop (.seq (.seq (.draw [0,1,2,3,4,5,6,7,8,9,10,11,12,13,14,15,16,17,18] [⟨.p Fx,[]⟩,
   ⟨.p zo5,[]⟩,
   ⟨.p qO,[]⟩,
   ⟨.p zo0,[]⟩,
   ⟨.p zX,[]⟩,
   ⟨.p o8,[]⟩,
   ⟨.g zl0 true Fx,[]⟩,
   ⟨.g zl1 true zo5,[]⟩,
   ⟨.g zl2 true zo8,[]⟩,
   ⟨.g zl3 true zo0,[]⟩,
   ⟨.g zl4 true Fx,[]⟩,
   ⟨.g zl5 true zo5,[]⟩,
   ⟨.g zl6 true zo6,[]⟩,
   ⟨.g zl7 true zo0,[]⟩,
   ⟨.g zl8 true Dt,[]⟩,
   ⟨.g (.l 9) true zo8,[]⟩,
   ⟨.g (.l 10) true zo0,[]⟩,
   ⟨.g (.l 11) true FC,[]⟩,
   ⟨.s .d1 .d1 Rt,[]⟩])
 (.cond qw .skip (.exit 0)))
 (.block 1 (.seq (.reg 2 [.s .d1 .d4 (.H (.call 19 [iZ]))])
 (.seq (.reg 2 [.s .d1 .d3 (.H (.call 20 [iZ]))])
 (.seq (.seq (.reg 6 [.p (.H (.call 21 [iZ,Q8])),
   .s .d1 .d2 pG])
 (.cond r9 (.reg 56 [.p (.L (.build [.str 0 0, .str 0 0, .int .i64 0] [(0,1,yt),(2,1,pE)])),
   .p NE,
   .s .d1 .d5 (.H (.append 3 40 vE zl0))]) .skip))
 (.seq (.block 2 (.loop (.seq (.seq (.reg 2 [.s .d1 .d6 (.H (.call 22 [iZ,Q8]))])
 (.cond JV .skip (.exit 2)))
 (.block 3 (.seq (.reg 2 [.s .d1 .d4 (.H (.call 19 [iZ]))])
 (.seq (.reg 2 [.s .d1 .d7 (.H (.call 20 [iZ]))])
 (.seq (.reg 112 [.p (.L (.build [.str 0 0, .str 0 0, .int .i64 0] [(0,1,yt),(1,1,JU),(2,1,pE)])),
   .p NE,
   .s .d1 .d5 (.H (.append 3 40 vE zl0))])
 (.reg 2 [.s .d1 .d3 zo90]))))))))
 (.reg 2 [.p (.H (.call 18 [iZ,zc8]))])))))))))
 (.seq (.seq (.reg 30 [.p (.L (.nilck iZ)),
   .p qO,
   .p zo0,
   .s .d2 .d0 FC])
 (.cond (.t .d2 .d0) (.seq (.draw [0,1,2,3,4,5,6,7,8,9,10] [⟨.p Fx,[]⟩,
   ⟨.p zo5,[]⟩,
   ⟨.p qO,[]⟩,
   ⟨.p zo0,[]⟩,
   ⟨.p Fx,[]⟩,
   ⟨.p zo5,[]⟩,
   ⟨.p (.L (.aA 4 zl0)),[]⟩,
   ⟨.p zo0,[]⟩,
   ⟨.s .d0 .d1 lH,[]⟩,
   ⟨.s .d0 .d2 (.L (.mov zl5)),[]⟩,
   ⟨.s .d0 .d3 zo9,[]⟩])
 .ret) .skip))
 (.seq (.reg 14 [.s .d0 .d1 (.L (.mov vE)),
   .s .d0 .d2 zo1,
   .s .d0 .d3 zo1])
 .ret)))))))))⟩
def i9:Fun:=
 ⟨2,[0,1,4,2,3],[.tmp .d0 .d2],(.seq (.reg 7 [.s .d0 .d3 (.L (.box 5 aN)),
   .s .d0 .d4 (.L (.box 5 dP)),
   .s .d0 .d2 zo4])
 (.seq (.reg 7 [.p zo86,
   .p (.L (.aY 5 fH)),
   .s .d0 .d2 (.H (.call 23 [zl1,zl0,zc3]))])
 .ret))⟩
def i10:Fun:=
 ⟨1,[0,2],[.tmp .d0 .d1],(.seq (.reg 1 [.s .d0 .d1 zo1])
 (.seq (.reg 2 [.s .d0 .d1 zo2])
 .ret))⟩
def i11:Fun:=
 ⟨2,[0,1,4,10,5,14,25],[.tmp .d0 .d2],(.seq (.reg 1 [.s .d0 .d2 zo4])
 (.seq (.seq (.reg 26 [.p Cc,
   .p HZ,
   .s .d0 .d3 zo91])
 (.cond dO (.seq (.reg 1 [.s .d0 .d2 zo4])
 .ret) .skip))
 (.seq (.seq (.reg 1 [.s .d0 .d4 zo1])
 (.block 0 (.loop (.seq (.seq (.reg 12 [.p Cc,
   .s .d0 .d5 zo92])
 (.cond fB .skip (.exit 0)))
 (.seq (.block 1 (.seq (.draw [0,1,2,3,4,5,6,7,8] [⟨.p zo2,[]⟩,
   ⟨.p vG,[]⟩,
   ⟨.p H6,[]⟩,
   ⟨.p Kg,[]⟩,
   ⟨.p nK,[]⟩,
   ⟨.p vG,[]⟩,
   ⟨.p H6,[]⟩,
   ⟨.p Kg,[]⟩,
   ⟨.s .d0 .d6 (.L (.eq true (.st [(0, .str),(1, .str),(2, .int)]) zl4 zl0)),[]⟩])
 (.cond iE (.seq (.reg 1 [.s .d0 .d2 zo4])
 .ret) .skip)))
 (.reg 2 [.s .d0 .d4 Rb]))))))
 (.seq (.reg 1 [.s .d0 .d2 Ce])
 .ret))))⟩
def i12:Fun:=
 ⟨1,[0,2,3,4,7],[.tmp .d0 .d1, .tmp .d0 .d2, .tmp .d0 .d3],(.seq (.reg 7 [.s .d0 .d1 lH,
   .s .d0 .d2 zo1,
   .s .d0 .d3 zo1])
 (.seq (.seq (.reg 6 [.p wV,
   .s .d0 .d4 (.L (.bin .gtr zl0 Q7))])
 (.cond fH (.seq (.reg 7 [.s .d0 .d1 lH,
   .s .d0 .d2 NG,
   .s .d0 .d3 (.L (.mov Q7))])
 .ret) .skip))
 (.seq (.reg 254 [.p (.H (.call 24 [aN])),
   .p mh,
   .p mo,
   .p wW,
   .s .d0 .d1 zo9,
   .s .d0 .d2 zo9,
   .s .d0 .d3 zo9])
 .ret)))⟩
def i13:Fun:=
 ⟨1,[0,2,3,4],[.cell .d0 .d1 (some 5), .tmp .d0 .d2, .tmp .d0 .d3],(.seq (.reg 7 [.s .d0 .d1 zW,
   .s .d0 .d2 zo1,
   .s .d0 .d3 zo1])
 (.seq (.reg 254 [.p (.H (.call 25 [aN,(.c (.fn 26 [] []))])),
   .p mh,
   .p mo,
   .p wW,
   .p (.H (.store 5 dP zl2)),
   .s .d0 .d2 zo9,
   .s .d0 .d3 zo9])
 .ret))⟩
def i14:Fun:=
 ⟨1,[0,2,3,4,14,6,18,7,38,55,67,70,8,95,102,106,9,5,119,10,132,138,165,11,26],[.tmp .d0 .d1, .tmp .d0 .d2, .tmp .d0 .d3],(.seq (.reg 7 [.s .d0 .d1 lH,
   .s .d0 .d2 zo1,
   .s .d0 .d3 zo1])
 (.seq (.seq (.reg 6 [.p wV,
   .s .d0 .d4 (.L (.bin .gtr zl0 Q7))])
 (.cond fH (.seq (.reg 7 [.s .d0 .d1 lH,
   .s .d0 .d2 NG,
   .s .d0 .d3 (.L (.mov Q7))])
 .ret) .skip))
 (.seq (.reg 1 [.s .d2 .d1 lH])
 (.seq (.seq (.reg 1 [.s .d0 .d5 zo1])
 (.block 0 (.loop (.seq (.seq (.reg 12 [.p wV,
   .s .d0 .d6 zo93])
 (.cond iE .skip (.exit 0)))
 (.block 1 (.seq (.reg 4 [.s .d0 .d7 (.L (.istr aN fB))])
 (.block 2 (.seq (.reg 15290 [.p (.L (.bin .eql fJ (.c (.int .u8 32)))),
   .g zl0 false wY,
   .g zl1 false (.L (.bin .eql zl0 (.c (.int .u8 9)))),
   .p FD,
   .g zl0 false wY,
   .g zl1 false (.L (.bin .eql zl0 zc26)),
   .p FD,
   .g zl0 false wY,
   .g zl1 false (.L (.bin .eql zl0 (.c (.int .u8 13)))),
   .s .d1 .d0 FD])
 (.cond iZ (.reg 2 [.s .d0 .d5 Rc]) (.seq (.reg 2 [.s .d1 .d1 (.L (.bin .eql fJ (.c (.int .u8 35))))])
 (.cond qw (.block 3 (.loop (.seq (.seq (.reg 1004 [.p wV,
   .p zo93,
   .g zl0 true zo2,
   .g zl1 true wX,
   .g zl2 true FE,
   .g zl3 true (.L (.bin .neq zl0 zc26)),
   .s .d1 .d2 ND])
 (.cond r9 .skip (.exit 3)))
 (.block 4 (.reg 2 [.s .d0 .d5 Rc]))))) (.seq (.reg 2 [.s .d1 .d3 (.H (.call 27 [fJ]))])
 (.cond yt (.seq (.reg 2 [.s .d1 .d4 wX])
 (.seq (.block 5 (.loop (.seq (.seq (.reg 4194284 [.p wV,
   .p (.L (.bin .lss pE zl0)),
   .g zl0 true zo2,
   .g zl1 true Ra,
   .g zl2 true FE,
   .g zl3 true (.H (.call 27 [zl0])),
   .g zl4 true o8,
   .g zl0 false zo2,
   .g zl1 false Ra,
   .g zl2 false FE,
   .g zl3 false (.H (.call 28 [zl0])),
   .g (.l 9) true Ru,
   .g (.l 10) true o8,
   .g zl0 false zo2,
   .g zl1 false Ra,
   .g zl2 false FE,
   .g zl3 false (.L (.bin .eql zl0 (.c (.int .u8 95)))),
   .g (.l 15) true Ru,
   .s .d1 .d5 (.L (.pick (.l 16) zl0 zc1))])
 (.cond vE .skip (.exit 5)))
 (.block 6 (.reg 2 [.s .d1 .d4 (.L (.bin .add pE zc2))])))))
 (.seq (.reg 1 [.s .d2 .d0 (.L (.mov zc2))])
 (.seq (.seq (.reg 24 [.p (.L (.sstr aN (some fB) (some pE))),
   .s .d1 .d6 (.H (.call 29 [zl0]))])
 (.cond JV (.reg 1 [.s .d2 .d0 (.L (.mov Hw))]) .skip))
 (.seq (.seq (.reg 12 [.p (.L (.bin .sub pE fB)),
   .s .d1 .d7 (.L (.bin .gtr zl0 (.c (.int .i64 20))))])
 (.cond JU (.seq (.reg 14 [.s .d0 .d1 lH,
   .s .d0 .d2 NG,
   .s .d0 .d3 wX])
 .ret) .skip))
 (.seq (.reg 928 [.p (.L (.sstr aN (some fB) (some pE))),
   .p (.L (.build [.int .i64 0, .str 0 0, .int .i64 0] [(0,1,(.t .d2 .d0)),(1,1,zl0),(2,1,fB)])),
   .p NH,
   .s .d2 .d1 (.H (.append 3 32 wT zl0))])
 (.reg 2 [.s .d0 .d5 Ra]))))))) (.seq (.reg 2 [.s .d2 .d2 (.H (.call 28 [fJ]))])
 (.cond Dp (.seq (.reg 2 [.s .d2 .d3 wX])
 (.seq (.block 7 (.loop (.seq (.seq (.reg 1004 [.p wV,
   .p (.L (.bin .lss Fq zl0)),
   .g zl0 true zo2,
   .g zl1 true Rf,
   .g zl2 true FE,
   .g zl3 true (.H (.call 28 [zl0])),
   .s .d2 .d4 ND])
 (.cond zt24 .skip (.exit 7)))
 (.block 8 (.reg 2 [.s .d2 .d3 (.L (.bin .add Fq zc2))])))))
 (.seq (.seq (.reg 12 [.p (.L (.bin .sub Fq fB)),
   .s .d2 .d5 (.L (.bin .gtr zl0 zc9))])
 (.cond (.t .d2 .d5) (.seq (.reg 14 [.s .d0 .d1 lH,
   .s .d0 .d2 NG,
   .s .d0 .d3 wX])
 .ret) .skip))
 (.seq (.seq (.reg 67108588 [.p (.L (.bin .sub Fq fB)),
   .p (.L (.bin .gtr zl0 zc2)),
   .g zl0 true wY,
   .g zl1 true (.L (.bin .eql zl0 Ny)),
   .p Kh,
   .g zl0 false Rf,
   .g zl1 false zo2,
   .g zl2 false Ke,
   .g zl3 false Rv,
   .g zl4 false o8,
   .g zl0 true zo2,
   .g zl1 true Rf,
   .g zl2 true FE,
   .g zl3 true (.H (.call 27 [zl0])),
   .g zl4 true o8,
   .g zl0 false zo2,
   .g zl1 false Rf,
   .g zl2 false FE,
   .g zl3 false (.L (.bin .eql zl0 (.c (.int .u8 95)))),
   .g (.l 9) true Ru,
   .g (.l 15) false (.L (.pick (.l 10) zl0 zc1)),
   .s .d2 .d6 Rw])
 (.cond (.t .d2 .d6) (.seq (.reg 14 [.s .d0 .d1 lH,
   .s .d0 .d2 zo94,
   .s .d0 .d3 wX])
 .ret) .skip))
 (.seq (.reg 464 [.p (.L (.sstr aN (some fB) (some Fq))),
   .p (.L (.build [.int .i64 0, .str 0 0, .int .i64 0] [(0,1,zc6),(1,1,zl0),(2,1,fB)])),
   .p NH,
   .s .d2 .d1 (.H (.append 3 32 wT zl0))])
 (.reg 2 [.s .d0 .d5 Rf])))))) (.seq (.reg 4 [.s .d2 .d7 (.H (.call 30 [aN,fB]))])
 (.seq (.seq (.reg 2 [.s .d3 .d0 (.L (.bins .eql (.t .d2 .d7) zc5))])
 (.cond (.t .d3 .d0) (.seq (.reg 14 [.s .d0 .d1 lH,
   .s .d0 .d2 zo94,
   .s .d0 .d3 wX])
 .ret) .skip))
 (.seq (.reg 56 [.p (.L (.build [.int .i64 0, .str 0 0, .int .i64 0] [(0,1,Hy),(1,1,(.t .d2 .d7)),(2,1,fB)])),
   .p NH,
   .s .d2 .d1 (.H (.append 3 32 wT zl0))])
 (.reg 12 [.p (.L (.len true (.t .d2 .d7))),
   .s .d0 .d5 (.L (.bin .add fB zl0))])))))))))))))))))))
 (.seq (.reg 444 [.p wV,
   .p (.L (.build [.int .i64 0, .str 0 0, .int .i64 0] [(2,1,zl0)])),
   .p NH,
   .s .d0 .d1 (.H (.append 3 32 wT zl0)),
   .s .d0 .d2 zo1,
   .s .d0 .d3 zo1])
 .ret)))))⟩
def i15:Fun:=
 ⟨1,[0,2,14,3,45,47,56],[.cell .d0 .d1 (some 5)],(.seq (.reg 1 [.s .d0 .d1 zW])
 (.seq (.reg 2 [.p (.H (.call 18 [aN,zc27]))])
 (.seq (.reg 122 [.p (.H (.call 19 [aN])),
   .p (.H (.call 20 [aN])),
   .p zo152,
   .s .d0 .d3 zW,
   .p (.H (.store 5 zl0 zl1))])
 (.seq (.reg 2 [.p (.H (.call 18 [aN,zc8]))])
 (.seq (.block 0 (.loop (.seq (.seq (.reg 2 [.s .d0 .d2 (.H (.call 22 [aN,zc28]))])
 (.cond fE .skip (.exit 0)))
 (.block 1 (.seq (.draw [0,1,2,4,3,5,6,7,8,9,10] [⟨.p H7,[]⟩,
   ⟨.p zo0,[]⟩,
   ⟨.p zo2,[]⟩,
   ⟨.p zo2,[]⟩,
   ⟨.p (.H (.call 19 [zl1])),[2]⟩,
   ⟨.p (.H (.call 20 [zl1])),[3]⟩,
   ⟨.p zo153,[]⟩,
   ⟨.p zo154,[]⟩,
   ⟨.p (.H (.append 2 24 zl6 zl0)),[]⟩,
   ⟨.p H7,[]⟩,
   ⟨.p (.H (.store 1 zl0 zl1)),[]⟩])
 (.reg 2 [.p (.H (.call 18 [aN,zc8]))]))))))
 (.seq (.block 2 (.loop (.seq (.seq (.draw [0,1,2,3,4,5,6,7,8,9,10,11,12,13,14,15,16,17,18] [⟨.p zo2,[]⟩,
   ⟨.p zo5,[]⟩,
   ⟨.p qO,[]⟩,
   ⟨.p zo0,[]⟩,
   ⟨.p zX,[]⟩,
   ⟨.p o8,[]⟩,
   ⟨.g zl0 true zo2,[]⟩,
   ⟨.g zl1 true zo5,[]⟩,
   ⟨.g zl2 true zo8,[]⟩,
   ⟨.g zl3 true zo0,[]⟩,
   ⟨.g zl4 true zo2,[]⟩,
   ⟨.g zl5 true zo5,[]⟩,
   ⟨.g zl6 true zo6,[]⟩,
   ⟨.g zl7 true zo0,[]⟩,
   ⟨.g zl8 true Dt,[]⟩,
   ⟨.g (.l 9) true zo8,[]⟩,
   ⟨.g (.l 10) true zo0,[]⟩,
   ⟨.g (.l 11) true FC,[]⟩,
   ⟨.s .d0 .d4 Rt,[]⟩])
 (.cond fH .skip (.exit 2)))
 (.block 3 (.seq (.reg 2 [.s .d0 .d5 (.H (.call 22 [aN,zc29]))])
 (.cond fB (.draw [0,1,2,3,4,5,6,7] [⟨.p zY,[]⟩,
   ⟨.p zo0,[]⟩,
   ⟨.p zo2,[]⟩,
   ⟨.p (.H (.call 31 [zl0])),[1]⟩,
   ⟨.p zo155,[]⟩,
   ⟨.p (.H (.append 4 48 zl3 zl0)),[]⟩,
   ⟨.p zY,[]⟩,
   ⟨.p (.H (.store 1 zl0 zl1)),[]⟩]) (.seq (.reg 2 [.s .d0 .d6 (.H (.call 22 [aN,zc30]))])
 (.cond iE (.draw [0,1,2,3,4,5,6,7] [⟨.p Ki,[]⟩,
   ⟨.p zo0,[]⟩,
   ⟨.p zo2,[]⟩,
   ⟨.p (.H (.call 32 [zl0])),[1]⟩,
   ⟨.p zo156,[]⟩,
   ⟨.p (.H (.append 8 136 zl3 zl0)),[]⟩,
   ⟨.p Ki,[]⟩,
   ⟨.p (.H (.store 1 zl0 zl1)),[]⟩]) (.reg 2 [.p (.H (.call 33 [aN,Dq]))])))))))))
 (.seq (.reg 3 [.p zo86,
   .p (.H (.store 5 dP zl0))])
 .ret)))))))⟩
def i17:Fun:=
 ⟨1,[0,2,13,20,5,7,3,6,34,4],[.tmp .d0 .d1],(.seq (.reg 1 [.s .d0 .d1 lH])
 (.seq (.reg 2 [.p (.H (.call 35 [aN,zc25]))])
 (.seq (.reg 1 [.s .d0 .d6 lH])
 (.seq (.block 0 (.loop (.seq (.seq (.reg 14 [.p (.H (.call 36 [aN])),
   .p Rx,
   .s .d0 .d2 FC])
 (.cond fE .skip (.exit 0)))
 (.block 1 (.seq (.reg 118 [.p (.H (.call 36 [aN])),
   .p zZ,
   .p (.H (.call 37 [aN])),
   .s .d1 .d1 zo7,
   .s .d0 .d4 zo7])
 (.seq (.reg 1 [.s .d0 .d7 Ce])
 (.seq (.block 2 (.loop (.seq (.seq (.reg 2 [.s .d0 .d3 (.H (.call 38 [aN,Q8]))])
 (.cond dO .skip (.exit 2)))
 (.block 3 (.seq (.reg 492 [.p (.H (.call 36 [aN])),
   .p zZ,
   .p (.H (.call 37 [aN])),
   .p (.L (.build [.str 0 0, .str 0 0, .int .i64 0] [(0,1,fH),(2,1,zl1),(1,1,zl0)])),
   .s .d0 .d5 Ry,
   .p (.H (.store 3 zl0 zl1))])
 (.seq (.reg 14 [.p (.L (.aY 3 fB)),
   .p NE,
   .s .d0 .d6 (.H (.append 3 40 iE zl0))])
 (.reg 11 [.p H8,
   .s .d0 .d4 zo0,
   .s .d0 .d7 zo4])))))))
 (.seq (.seq (.reg 1 [.s .d1 .d0 wY])
 (.cond iZ (.reg 56 [.p (.L (.build [.str 0 0, .str 0 0, .int .i64 0] [(0,1,fH),(2,1,qw)])),
   .p NE,
   .s .d0 .d6 (.H (.append 3 40 iE zl0))]) .skip))
 (.reg 2 [.p (.H (.call 35 [aN,zc8]))])))))))))
 (.seq (.reg 2 [.s .d0 .d1 Fv])
 .ret)))))⟩
def i18:Fun:=
 ⟨2,[0,1,7],[],(.seq (.reg 12 [.p (.H (.call 22 [aN,dP])),
   .s .d0 .d2 pG])
 (.cond fE (.reg 2 [.p (.H (.call 33 [aN,Dq]))]) .skip))⟩
def i19:Fun:=
 ⟨1,[0,2],[.tmp .d0 .d1],(.seq (.reg 1 [.s .d0 .d1 zo1])
 (.seq (.draw [0,1,2,3,4,5,6,7,8,9,10,11] [⟨.p zo2,[]⟩,
   ⟨.p zo5,[]⟩,
   ⟨.p zo8,[]⟩,
   ⟨.p zo0,[]⟩,
   ⟨.p zo2,[]⟩,
   ⟨.p zo5,[]⟩,
   ⟨.p zo6,[]⟩,
   ⟨.p zo0,[]⟩,
   ⟨.p Dt,[]⟩,
   ⟨.p o9,[]⟩,
   ⟨.p zo0,[]⟩,
   ⟨.s .d0 .d1 o8,[]⟩])
 .ret))⟩
def i20:Fun:=
 ⟨1,[0,2,3,23],[.tmp .d0 .d1],(.seq (.reg 1 [.s .d0 .d1 yu])
 (.seq (.draw [0,1,2,3,4,5,6,7,8,9,10,11] [⟨.p zo2,[]⟩,
   ⟨.p zo5,[]⟩,
   ⟨.p zo8,[]⟩,
   ⟨.p zo0,[]⟩,
   ⟨.p zo2,[]⟩,
   ⟨.p zo5,[]⟩,
   ⟨.p zo6,[]⟩,
   ⟨.p zo0,[]⟩,
   ⟨.p Dt,[]⟩,
   ⟨.p Kg,[]⟩,
   ⟨.s .d0 .d2 H9,[]⟩,
   ⟨.p (.H (.store 3 zl0 zl1)),[]⟩])
 (.seq (.seq (.reg 990 [.p zo3,
   .p qO,
   .p zo0,
   .p FC,
   .g zl0 false (.L (.aA 0 fE)),
   .g zl1 false zo0,
   .g zl2 false (.L (.bin .neq zl0 zc2)),
   .s .d0 .d3 Rh])
 (.cond dO (.seq (.reg 2 [.p (.H (.call 33 [aN,Dq]))])
 (.seq (.reg 1 [.s .d0 .d1 yu])
 .ret)) .skip))
 (.seq (.reg 254 [.p zo3,
   .p zo6,
   .p zo0,
   .p ze,
   .p zo3,
   .p zo6,
   .p (.H (.store 1 zl0 zl2))])
 (.seq (.reg 3 [.p zo95,
   .s .d0 .d1 zo0])
 .ret)))))⟩
def i21:Fun:=
 ⟨2,[0,1,4,5],[.tmp .d0 .d2],(.seq (.reg 1 [.s .d0 .d2 zo4])
 (.seq (.draw [0,1,2,3,4,5,6,7,8,9,10,11] [⟨.p zo2,[]⟩,
   ⟨.p zo5,[]⟩,
   ⟨.p zo8,[]⟩,
   ⟨.p zo0,[]⟩,
   ⟨.p zo2,[]⟩,
   ⟨.p zo5,[]⟩,
   ⟨.p zo6,[]⟩,
   ⟨.p zo0,[]⟩,
   ⟨.p Dt,[]⟩,
   ⟨.p Kg,[]⟩,
   ⟨.s .d0 .d3 H9,[]⟩,
   ⟨.p (.H (.store 3 zl0 zl1)),[]⟩])
 (.seq (.reg 2064350 [.p zo3,
   .p qO,
   .p zo0,
   .p zX,
   .g zl0 true pI,
   .g zl1 true zo0,
   .g zl2 true (.L (.bin .eql zl0 Hy)),
   .g zl3 true o8,
   .g zl0 false pI,
   .g zl1 false zo0,
   .g zl2 false (.L (.bin .eql zl0 Hw)),
   .g zl7 true Rh,
   .p (.L (.pick zl8 zl0 zc1)),
   .g zl0 true (.L (.aA 1 dO)),
   .g zl1 true zo0,
   .g zl2 true nK,
   .g zl3 true (.L (.bins .eql zl1 zl0)),
   .s .d0 .d2 ND])
 .ret)))⟩
def i22:Fun:=
 ⟨2,[0,1,4,8],[.tmp .d0 .d2],(.seq (.reg 1 [.s .d0 .d2 zo4])
 (.seq (.seq (.reg 12 [.p (.H (.call 21 [aN,dP])),
   .s .d0 .d3 pG])
 (.cond dO (.seq (.reg 1 [.s .d0 .d2 zo4])
 .ret) .skip))
 (.seq (.reg 254 [.p zo3,
   .p zo6,
   .p zo0,
   .p ze,
   .p zo3,
   .p zo6,
   .p (.H (.store 1 zl0 zl2))])
 (.seq (.reg 1 [.s .d0 .d2 Ce])
 .ret))))⟩
def i23:Fun:=
 ⟨3,[0,1,2,6,3,4,56,7,61,94,8,99,9,10,140,11,145,12,13,219,14,224,272],[.tmp .d0 .d3],(.seq (.reg 7 [.s .d0 .d4 (.L (.box 5 aN)),
   .s .d0 .d5 (.L (.box 5 dP)),
   .s .d0 .d3 zo4])
 (.seq (.seq (.reg 4389439766495 [.p (.L (.aA 0 fH)),
   .p zo0,
   .p (.L (.aA 0 fB)),
   .p zo0,
   .p Ci,
   .g zl0 false vF,
   .g zl1 false o8,
   .g zl0 true (.L (.aA 1 fH)),
   .g zl1 true zo0,
   .g zl2 true H8,
   .g zl3 true zo0,
   .g zl4 true NI,
   .g zl7 false HY,
   .p Ri,
   .g zl0 false zo96,
   .g zl1 false zo0,
   .g zl2 false pF,
   .g zl3 false Kj,
   .g zl4 false zo0,
   .g zl5 false pF,
   .g zl6 false Rj,
   .p Ia,
   .g zl0 false (.L (.aA 3 fH)),
   .g zl1 false zo0,
   .g zl2 false pF,
   .g zl3 false (.L (.aA 3 fB)),
   .g zl4 false zo0,
   .g zl5 false pF,
   .g zl6 false Rj,
   .p Ia,
   .g zl0 false (.L (.aA 4 fH)),
   .g zl1 false zo0,
   .g zl2 false pF,
   .g zl3 false (.L (.aA 4 fB)),
   .g zl4 false zo0,
   .g zl5 false pF,
   .g zl6 false Rj,
   .s .d0 .d6 Ia])
 (.cond iE (.seq (.reg 1 [.s .d0 .d3 zo4])
 .ret) .skip))
 (.seq (.seq (.reg 1 [.s .d0 .d7 zo1])
 (.block 0 (.loop (.seq (.seq (.reg 30 [.p zo96,
   .p zo0,
   .p pF,
   .s .d1 .d0 (.L (.bin .lss fJ zl0))])
 (.cond iZ .skip (.exit 0)))
 (.seq (.block 1 (.seq (.draw [0,1,2,3,4,5,6,7,8,9,10,11,12,13,14,15,16,17,18,19,20,21,22,23,24,25,26,27,28,29,30] [⟨.p zo96,[]⟩,
   ⟨.p zo0,[]⟩,
   ⟨.p wY,[]⟩,
   ⟨.p zo97,[]⟩,
   ⟨.p zo8,[]⟩,
   ⟨.p zo0,[]⟩,
   ⟨.p Kj,[]⟩,
   ⟨.p zo0,[]⟩,
   ⟨.p wY,[]⟩,
   ⟨.p zo97,[]⟩,
   ⟨.p zo8,[]⟩,
   ⟨.p zo0,[]⟩,
   ⟨.p Rz,[]⟩,
   ⟨.p o8,[]⟩,
   ⟨.g zl0 false vF,[]⟩,
   ⟨.g zl1 false o8,[]⟩,
   ⟨.g zl0 true zo96,[]⟩,
   ⟨.g zl1 true zo0,[]⟩,
   ⟨.g zl2 true wY,[]⟩,
   ⟨.g zl3 true zo97,[]⟩,
   ⟨.g zl4 true zo6,[]⟩,
   ⟨.g zl5 true zo0,[]⟩,
   ⟨.g zl6 true Kj,[]⟩,
   ⟨.g zl7 true zo0,[]⟩,
   ⟨.g zl8 true wY,[]⟩,
   ⟨.g (.l 9) true zo97,[]⟩,
   ⟨.g (.l 10) true zo6,[]⟩,
   ⟨.g (.l 11) true zo0,[]⟩,
   ⟨.g (.l 12) true (.L (.bin .neq zl6 zl0)),[]⟩,
   ⟨.g (.l 15) false (.L (.pick (.l 13) zl0 zc1)),[]⟩,
   ⟨.s .d1 .d1 Rw,[]⟩])
 (.cond qw (.seq (.reg 1 [.s .d0 .d3 zo4])
 .ret) .skip)))
 (.reg 2 [.s .d0 .d7 (.L (.bin .add fJ zc2))]))))))
 (.seq (.seq (.reg 1 [.s .d1 .d2 zo1])
 (.block 2 (.loop (.seq (.seq (.reg 30 [.p (.L (.aA 3 fH)),
   .p zo0,
   .p pF,
   .s .d1 .d3 (.L (.bin .lss r9 zl0))])
 (.cond yt .skip (.exit 2)))
 (.seq (.block 3 (.seq (.draw [0,1,2,3,4,5,6,7,8,9,10,11,12,13] [⟨.p (.L (.aA 3 fH)),[]⟩,
   ⟨.p zo0,[]⟩,
   ⟨.p (.L (.mov r9)),[]⟩,
   ⟨.p (.L (.bT 4 zl1 zl0)),[]⟩,
   ⟨.p (.L (.aY 4 zl0)),[]⟩,
   ⟨.p (.L (.aA 3 fB)),[]⟩,
   ⟨.p zo0,[]⟩,
   ⟨.p (.L (.mov r9)),[]⟩,
   ⟨.p (.L (.bT 4 zl1 zl0)),[]⟩,
   ⟨.p (.L (.aY 4 zl0)),[]⟩,
   ⟨.s .d1 .d4 NJ,[]⟩,
   ⟨.s .d1 .d5 NJ,[]⟩,
   ⟨.p (.H (.store 4 zl1 zl7)),[5,2]⟩,
   ⟨.p (.H (.store 4 zl1 zl3)),[]⟩])
 (.seq (.reg 536342495 [.p (.L (.aA 0 pE)),
   .p zo0,
   .p (.L (.aA 0 vE)),
   .p zo0,
   .p Ci,
   .g zl0 false (.L (.aA 1 pE)),
   .g zl1 false zo0,
   .g zl2 false (.L (.aA 1 vE)),
   .g zl3 false zo0,
   .g zl4 false Ci,
   .p Cj,
   .g zl0 false (.L (.aA 2 pE)),
   .g zl1 false zo0,
   .g zl2 false (.L (.aA 2 vE)),
   .g zl3 false zo0,
   .g zl4 false NI,
   .p Cj,
   .g zl0 false vF,
   .g zl1 false o8,
   .g zl0 true (.L (.aA 3 pE)),
   .g zl1 true zo0,
   .g zl2 true (.L (.aA 3 vE)),
   .g zl3 true zo0,
   .g zl4 true NI,
   .g zl7 false HY,
   .s .d1 .d6 Ri])
 (.cond JV (.seq (.reg 1 [.s .d0 .d3 zo4])
 .ret) .skip))))
 (.reg 2 [.s .d1 .d2 (.L (.bin .add r9 zc2))]))))))
 (.seq (.seq (.reg 1 [.s .d1 .d7 zo1])
 (.block 4 (.loop (.seq (.seq (.reg 30 [.p (.L (.aA 4 fH)),
   .p zo0,
   .p pF,
   .s .d2 .d0 (.L (.bin .lss JU zl0))])
 (.cond (.t .d2 .d0) .skip (.exit 4)))
 (.seq (.block 5 (.seq (.draw [0,1,2,3,4,5,6,7,8,9,10,11,12,13] [⟨.p (.L (.aA 4 fH)),[]⟩,
   ⟨.p zo0,[]⟩,
   ⟨.p zo90,[]⟩,
   ⟨.p (.L (.bT 8 zl1 zl0)),[]⟩,
   ⟨.p (.L (.aY 8 zl0)),[]⟩,
   ⟨.p (.L (.aA 4 fB)),[]⟩,
   ⟨.p zo0,[]⟩,
   ⟨.p zo90,[]⟩,
   ⟨.p (.L (.bT 8 zl1 zl0)),[]⟩,
   ⟨.p (.L (.aY 8 zl0)),[]⟩,
   ⟨.s .d2 .d1 NK,[]⟩,
   ⟨.s .d2 .d2 NK,[]⟩,
   ⟨.p (.H (.store 8 zl1 zl7)),[5,2]⟩,
   ⟨.p (.H (.store 8 zl1 zl3)),[]⟩])
 (.seq (.seq (.reg 4602661209739096031 [.p (.L (.aA 0 wT)),
   .p zo0,
   .p (.L (.aA 0 Dp)),
   .p zo0,
   .p Ci,
   .g zl0 false (.L (.aA 2 wT)),
   .g zl1 false zo0,
   .g zl2 false (.L (.aA 2 Dp)),
   .g zl3 false zo0,
   .g zl4 false (.L (.eq true .bool zl2 zl0)),
   .p Cj,
   .g zl0 false (.L (.aA 3 wT)),
   .g zl1 false zo0,
   .g zl2 false (.L (.aA 3 Dp)),
   .g zl3 false zo0,
   .g zl4 false Ci,
   .p Cj,
   .g zl0 false (.L (.aA 4 wT)),
   .g zl1 false zo0,
   .g zl2 false (.L (.aA 4 Dp)),
   .g zl3 false zo0,
   .g zl4 false Ci,
   .p Cj,
   .g zl0 false (.L (.aA 5 wT)),
   .g zl1 false zo0,
   .g zl2 false (.L (.aA 5 Dp)),
   .g zl3 false zo0,
   .g zl4 false (.H (.call 39 [zl2,zl0])),
   .g zl5 false pG,
   .p (.L (.pick zl6 zc3 zl0)),
   .g zl0 false vF,
   .g zl1 false o8,
   .g zl0 true (.L (.aA 7 wT)),
   .g zl1 true zo0,
   .g zl2 true (.L (.aA 7 Dp)),
   .g zl3 true zo0,
   .g zl4 true NI,
   .g zl7 false HY,
   .p Ri,
   .g zl0 false Rk,
   .g zl1 false zo0,
   .g zl2 false pF,
   .g zl3 false zo98,
   .g zl4 false zo0,
   .g zl5 false pF,
   .g zl6 false Rj,
   .p Ia,
   .g zl0 false (.L (.aA 6 wT)),
   .g zl1 false zo0,
   .g zl2 false (.L (.aA 6 Dp)),
   .g zl3 false zo0,
   .g zl4 false vF,
   .g zl5 false (.H (.call 40 [zl3,zl1,zl0])),
   .g zl6 false pG,
   .s .d2 .d3 Ia])
 (.cond Fq (.seq (.reg 1 [.s .d0 .d3 zo4])
 .ret) .skip))
 (.seq (.reg 1 [.s .d2 .d4 zo1])
 (.block 6 (.loop (.seq (.seq (.reg 30 [.p Rk,
   .p zo0,
   .p pF,
   .s .d2 .d5 (.L (.bin .lss zt24 zl0))])
 (.cond (.t .d2 .d5) .skip (.exit 6)))
 (.seq (.block 7 (.seq (.draw [0,1,2,3,4,5,6,7,8,9,10,11,12,13,14,15,16,17,18,19,20,21,22,23,24,25,26,27,28,29,30,31,32,33,34,35,36,37,38,39,40,41,42,43,44,45] [⟨.p Rk,[]⟩,
   ⟨.p zo0,[]⟩,
   ⟨.p NM,[]⟩,
   ⟨.p H6,[]⟩,
   ⟨.p zo8,[]⟩,
   ⟨.p zo0,[]⟩,
   ⟨.p zo98,[]⟩,
   ⟨.p zo0,[]⟩,
   ⟨.p NM,[]⟩,
   ⟨.p H6,[]⟩,
   ⟨.p zo8,[]⟩,
   ⟨.p zo0,[]⟩,
   ⟨.p Rz,[]⟩,
   ⟨.p o8,[]⟩,
   ⟨.g zl0 false Rk,[]⟩,
   ⟨.g zl1 false zo0,[]⟩,
   ⟨.g zl2 false NM,[]⟩,
   ⟨.g zl3 false H6,[]⟩,
   ⟨.g zl4 false zo6,[]⟩,
   ⟨.g zl5 false zo0,[]⟩,
   ⟨.g zl6 false zo98,[]⟩,
   ⟨.g zl7 false zo0,[]⟩,
   ⟨.g zl8 false NM,[]⟩,
   ⟨.g (.l 9) false H6,[]⟩,
   ⟨.g (.l 10) false zo6,[]⟩,
   ⟨.g (.l 11) false zo0,[]⟩,
   ⟨.g (.l 12) false Rz,[]⟩,
   ⟨.p (.L (.pick (.l 13) zc3 zl0)),[]⟩,
   ⟨.p o8,[]⟩,
   ⟨.g zl0 false vF,[]⟩,
   ⟨.g zl1 false o8,[]⟩,
   ⟨.g zl0 true Rk,[]⟩,
   ⟨.g zl1 true zo0,[]⟩,
   ⟨.g zl2 true NM,[]⟩,
   ⟨.g zl3 true H6,[]⟩,
   ⟨.g zl4 true o9,[]⟩,
   ⟨.g zl5 true zo0,[]⟩,
   ⟨.g zl6 true zo98,[]⟩,
   ⟨.g zl7 true zo0,[]⟩,
   ⟨.g zl8 true NM,[]⟩,
   ⟨.g (.l 9) true H6,[]⟩,
   ⟨.g (.l 10) true o9,[]⟩,
   ⟨.g (.l 11) true zo0,[]⟩,
   ⟨.g (.l 12) true (.L (.bin .neq zl6 zl0)),[]⟩,
   ⟨.g (.l 15) false (.L (.pick (.l 13) zl0 zc1)),[]⟩,
   ⟨.s .d2 .d6 Rw,[]⟩])
 (.cond (.t .d2 .d6) (.seq (.reg 1 [.s .d0 .d3 zo4])
 .ret) .skip)))
 (.reg 2 [.s .d2 .d4 (.L (.bin .add zt24 zc2))])))))))))
 (.reg 2 [.s .d1 .d7 (.L (.bin .add JU zc2))]))))))
 (.seq (.reg 1 [.s .d0 .d3 Ce])
 .ret))))))⟩
def i24:Fun:=
 ⟨1,[0,2,3,4,5,1,17,9,32,49,6,54,11,64,31,12,78,8,10,7],[.tmp .d0 .d1, .tmp .d0 .d2, .tmp .d0 .d3],(.seq (.reg 15 [.s .d0 .d5 (.L (.box 1 aN)),
   .s .d0 .d1 lH,
   .s .d0 .d2 zo1,
   .s .d0 .d3 zo1])
 (.seq (.reg 3 [.s .d0 .d4 Rl,
   .p (.H (.store 1 zl0 zc0))])
 (.seq (.reg 1 [.s .d1 .d2 (.L (.fn 41 [] [fH,fB]))])
 (.seq (.reg 1 [.s .d2 .d3 lH])
 (.seq (.block 0 (.loop (.seq (.seq (.reg 15 [.p Kk,
   .p Rm,
   .p Ke,
   .s .d0 .d6 Rv])
 (.cond iE .skip (.exit 0)))
 (.block 1 (.seq (.draw [0,1,2,3,4,5] [⟨.p Kk,[]⟩,
   ⟨.p Rm,[]⟩,
   ⟨.p Kk,[]⟩,
   ⟨.p FE,[]⟩,
   ⟨.s .d2 .d1 Fu,[]⟩,
   ⟨.s .d0 .d7 zo7,[]⟩])
 (.seq (.reg 7 [.s .d2 .d2 zo1,
   .s .d1 .d4 yu,
   .s .d1 .d7 zo1])
 (.seq (.block 2 (.seq (.reg 15290 [.p (.L (.bin .eql fJ (.c (.int .u8 32)))),
   .g zl0 false wY,
   .g zl1 false (.L (.bin .eql zl0 (.c (.int .u8 9)))),
   .p FD,
   .g zl0 false wY,
   .g zl1 false (.L (.bin .eql zl0 zc26)),
   .p FD,
   .g zl0 false wY,
   .g zl1 false (.L (.bin .eql zl0 (.c (.int .u8 13)))),
   .s .d1 .d0 FD])
 (.cond iZ (.seq (.reg 7 [.p Kk,
   .p ze,
   .p (.H (.store 1 fH zl0))])
 (.exit 1)) (.seq (.reg 2 [.s .d1 .d1 (.L (.bin .eql fJ (.c (.int .u8 35))))])
 (.cond qw (.seq (.reg 2 [.p (.H (.ji r9 [(.c (.fn 42 [] []))]))])
 (.exit 1)) (.seq (.reg 2 [.s .d1 .d3 (.H (.call 43 [fJ]))])
 (.cond yt (.seq (.reg 2 [.s .d1 .d4 (.H (.ji r9 [(.c (.fn 44 [] []))]))])
 (.reg 122 [.p (.H (.call 45 [pE])),
   .p mh,
   .p mo,
   .s .d2 .d2 zo7,
   .s .d1 .d7 zo7])) (.seq (.reg 2 [.s .d1 .d5 (.H (.call 46 [fJ]))])
 (.cond vE (.seq (.reg 2 [.s .d1 .d4 (.H (.ji r9 [(.c (.fn 46 [] []))]))])
 (.reg 990 [.p Rm,
   .p Kk,
   .p (.L (.sstr zl1 (some zl0) none)),
   .p (.H (.call 47 [pE,zl0])),
   .p mh,
   .p mo,
   .s .d2 .d2 zo7,
   .s .d1 .d7 zo7])) (.seq (.reg 63 [.p Rm,
   .p Kk,
   .p (.L (.sstr zl1 (some zl0) none)),
   .p (.H (.call 48 [zl0])),
   .s .d2 .d2 (.L (.mov Hy)),
   .s .d1 .d4 zo7])
 (.seq (.reg 29 [.p Kk,
   .p (.L (.len true pE)),
   .p (.L (.bin .add zl1 zl0)),
   .p (.H (.store 1 fH zl0))])
 (.seq (.reg 2 [.s .d1 .d6 (.L (.bins .eql pE zc5))])
 (.cond JV (.reg 1 [.s .d1 .d7 zo94]) .skip)))))))))))))
 (.seq (.seq (.reg 2 [.s .d2 .d0 (.L (.bin .neq JU zc0))])
 (.cond (.t .d2 .d0) (.seq (.reg 28 [.s .d0 .d1 lH,
   .s .d0 .d2 zo90,
   .s .d0 .d3 (.L (.mov wT))])
 .ret) .skip))
 (.reg 112 [.p (.L (.build [.int .i64 0, .str 0 0, .int .i64 0] [(0,1,Dp),(1,1,pE),(2,1,wT)])),
   .p NH,
   .s .d2 .d3 (.H (.append 3 32 Fq zl0))])))))))))
 (.seq (.reg 446 [.p Rm,
   .p Ke,
   .p (.L (.build [.int .i64 0, .str 0 0, .int .i64 0] [(0,1,zc0),(2,1,zl0)])),
   .p NH,
   .s .d0 .d1 (.H (.append 3 32 Fq zl0)),
   .s .d0 .d2 zo1,
   .s .d0 .d3 zo1])
 .ret))))))⟩
def i26:Fun:=
 ⟨1,[0,2,15,3,32,34],[.cell .d0 .d1 (some 5)],(.seq (.reg 1 [.s .d0 .d1 zW])
 (.seq (.reg 2 [.p (.H (.call 35 [aN,zc27]))])
 (.seq (.reg 246 [.p (.H (.call 36 [aN])),
   .p zZ,
   .p (.H (.call 37 [aN])),
   .p zo152,
   .s .d0 .d3 zW,
   .p (.H (.store 5 zl0 zl1))])
 (.seq (.reg 2 [.p (.H (.call 35 [aN,zc8]))])
 (.seq (.block 0 (.loop (.seq (.seq (.reg 2 [.s .d0 .d2 (.H (.call 38 [aN,zc28]))])
 (.cond fE .skip (.exit 0)))
 (.block 1 (.seq (.draw [0,1,2,5,3,4,6,7,8,9,10,11] [⟨.p H7,[]⟩,
   ⟨.p zo0,[]⟩,
   ⟨.p zo2,[]⟩,
   ⟨.p zo2,[]⟩,
   ⟨.p (.H (.call 36 [zl1])),[2]⟩,
   ⟨.p zZ,[]⟩,
   ⟨.p (.H (.call 37 [zl2])),[4]⟩,
   ⟨.p zo153,[]⟩,
   ⟨.p zo154,[]⟩,
   ⟨.p (.H (.append 2 24 zl7 zl0)),[]⟩,
   ⟨.p H7,[]⟩,
   ⟨.p (.H (.store 1 zl0 zl1)),[]⟩])
 (.reg 2 [.p (.H (.call 35 [aN,zc8]))]))))))
 (.seq (.block 2 (.loop (.seq (.seq (.reg 14 [.p (.H (.call 36 [aN])),
   .p Rx,
   .s .d0 .d4 FC])
 (.cond fH .skip (.exit 2)))
 (.block 3 (.seq (.reg 2 [.s .d0 .d5 (.H (.call 38 [aN,zc29]))])
 (.cond fB (.draw [0,1,2,3,4,5,6,7] [⟨.p zY,[]⟩,
   ⟨.p zo0,[]⟩,
   ⟨.p zo2,[]⟩,
   ⟨.p (.H (.call 50 [zl0])),[1]⟩,
   ⟨.p zo155,[]⟩,
   ⟨.p (.H (.append 4 48 zl3 zl0)),[]⟩,
   ⟨.p zY,[]⟩,
   ⟨.p (.H (.store 1 zl0 zl1)),[]⟩]) (.seq (.reg 2 [.p (.H (.call 35 [aN,zc30]))])
 (.draw [0,1,2,3,4,5,6,7] [⟨.p Ki,[]⟩,
   ⟨.p zo0,[]⟩,
   ⟨.p zo2,[]⟩,
   ⟨.p (.H (.call 51 [zl0])),[1]⟩,
   ⟨.p zo156,[]⟩,
   ⟨.p (.H (.append 8 136 zl3 zl0)),[]⟩,
   ⟨.p Ki,[]⟩,
   ⟨.p (.H (.store 1 zl0 zl1)),[]⟩]))))))))
 (.seq (.reg 3 [.p zo86,
   .p (.H (.store 5 dP zl0))])
 .ret)))))))⟩
def i27:Fun:=
 ⟨1,[0,2],[.tmp .d0 .d1],(.seq (.reg 1 [.s .d0 .d1 zo4])
 (.seq (.reg 58 [.p (.L (.bin .geq aN (.c (.int .u8 97)))),
   .g zl0 true zo2,
   .g zl1 true (.L (.bin .leq zl0 (.c (.int .u8 122)))),
   .s .d0 .d1 Kh])
 .ret))⟩
def i28:Fun:=
 ⟨1,[0,2],[.tmp .d0 .d1],(.seq (.reg 1 [.s .d0 .d1 zo4])
 (.seq (.reg 58 [.p (.L (.bin .geq aN Ny)),
   .g zl0 true zo2,
   .g zl1 true (.L (.bin .leq zl0 (.c (.int .u8 57)))),
   .s .d0 .d1 Kh])
 .ret))⟩
def i29:Fun:=
 ⟨1,[0,2,3,4],[.tmp .d0 .d1],(.seq (.reg 1 [.s .d0 .d1 zo4])
 (.seq (.seq (.reg 1 [.s .d0 .d2 zo2])
 (.block 0 (.seq (.seq (.reg 1 [.s .d0 .d3 (.L (.bins .eql fE zc27))])
 (.cond dO .skip (.seq (.reg 1 [.s .d0 .d3 (.L (.bins .eql fE zc28))])
 (.cond dO .skip (.seq (.reg 1 [.s .d0 .d3 (.L (.bins .eql fE zc29))])
 (.cond dO .skip (.seq (.reg 1 [.s .d0 .d3 (.L (.bins .eql fE zc30))])
 (.cond dO .skip (.seq (.reg 1 [.s .d0 .d3 (.L (.bins .eql fE zc31))])
 (.cond dO .skip (.seq (.reg 1 [.s .d0 .d3 (.L (.bins .eql fE zc32))])
 (.cond dO .skip (.seq (.reg 1 [.s .d0 .d3 (.L (.bins .eql fE zc33))])
 (.cond dO .skip (.seq (.reg 1 [.s .d0 .d3 (.L (.bins .eql fE zc34))])
 (.cond dO .skip (.seq (.reg 1 [.s .d0 .d3 (.L (.bins .eql fE zc35))])
 (.cond dO .skip (.seq (.reg 1 [.s .d0 .d3 (.L (.bins .eql fE zc36))])
 (.cond dO .skip (.seq (.reg 1 [.s .d0 .d3 (.L (.bins .eql fE zc37))])
 (.cond dO .skip (.seq (.reg 1 [.s .d0 .d3 (.L (.bins .eql fE zc38))])
 (.cond dO .skip (.seq (.reg 1 [.s .d0 .d3 (.L (.bins .eql fE zc39))])
 (.cond dO .skip (.seq (.reg 1 [.s .d0 .d3 (.L (.bins .eql fE zc40))])
 (.cond dO .skip (.reg 1 [.s .d0 .d3 (.L (.bins .eql fE zc25))])))))))))))))))))))))))))))))
 (.cond dO (.seq (.reg 1 [.s .d0 .d1 Ce])
 .ret) .skip))))
 (.seq (.reg 1 [.s .d0 .d1 zo4])
 .ret)))⟩
def i30:Fun:=
 ⟨2,[0,1,4,9,14,15,26,27],[.tmp .d0 .d2],(.seq (.reg 1 [.s .d0 .d2 yu])
 (.seq (.seq (.reg 26 [.p (.L (.bin .add dP zc2)),
   .p wV,
   .s .d0 .d3 (.L (.bin .lss zl1 zl0))])
 (.cond dO (.seq (.reg 24 [.p (.L (.bin .add dP zc6)),
   .s .d0 .d4 RA])
 (.block 0 (.seq (.seq (.reg 1 [.s .d0 .d5 (.L (.bins .eql fH zc41))])
 (.cond fB .skip (.seq (.reg 1 [.s .d0 .d5 (.L (.bins .eql fH zc42))])
 (.cond fB .skip (.reg 1 [.s .d0 .d5 (.L (.bins .eql fH zc43))])))))
 (.cond fB (.seq (.reg 24 [.p (.L (.bin .add dP zc6)),
   .s .d0 .d2 RA])
 .ret) .skip)))) .skip))
 (.seq (.seq (.reg 4 [.s .d0 .d6 (.L (.istr aN dP))])
 (.block 1 (.seq (.seq (.reg 1 [.s .d0 .d7 (.L (.bin .eql iE (.c (.int .u8 40))))])
 (.cond fJ .skip (.seq (.reg 1 [.s .d0 .d7 (.L (.bin .eql iE (.c (.int .u8 41))))])
 (.cond fJ .skip (.seq (.reg 1 [.s .d0 .d7 (.L (.bin .eql iE (.c (.int .u8 123))))])
 (.cond fJ .skip (.seq (.reg 1 [.s .d0 .d7 (.L (.bin .eql iE (.c (.int .u8 125))))])
 (.cond fJ .skip (.seq (.reg 1 [.s .d0 .d7 (.L (.bin .eql iE (.c (.int .u8 44))))])
 (.cond fJ .skip (.seq (.reg 1 [.s .d0 .d7 (.L (.bin .eql iE (.c (.int .u8 59))))])
 (.cond fJ .skip (.seq (.reg 1 [.s .d0 .d7 (.L (.bin .eql iE (.c (.int .u8 58))))])
 (.cond fJ .skip (.seq (.reg 1 [.s .d0 .d7 (.L (.bin .eql iE (.c (.int .u8 46))))])
 (.cond fJ .skip (.seq (.reg 1 [.s .d0 .d7 (.L (.bin .eql iE (.c (.int .u8 61))))])
 (.cond fJ .skip (.seq (.reg 1 [.s .d0 .d7 (.L (.bin .eql iE (.c (.int .u8 60))))])
 (.cond fJ .skip (.seq (.reg 1 [.s .d0 .d7 (.L (.bin .eql iE (.c (.int .u8 43))))])
 (.cond fJ .skip (.seq (.reg 1 [.s .d0 .d7 (.L (.bin .eql iE (.c (.int .u8 45))))])
 (.cond fJ .skip (.seq (.reg 1 [.s .d0 .d7 (.L (.bin .eql iE (.c (.int .u8 42))))])
 (.cond fJ .skip (.seq (.reg 1 [.s .d0 .d7 (.L (.bin .eql iE (.c (.int .u8 47))))])
 (.cond fJ .skip (.seq (.reg 1 [.s .d0 .d7 (.L (.bin .eql iE (.c (.int .u8 37))))])
 (.cond fJ .skip (.reg 1 [.s .d0 .d7 (.L (.bin .eql iE (.c (.int .u8 33))))])))))))))))))))))))))))))))))))
 (.cond fJ (.seq (.reg 24 [.p (.L (.bin .add dP zc2)),
   .s .d0 .d2 RA])
 .ret) .skip))))
 (.seq (.reg 1 [.s .d0 .d2 yu])
 .ret))))⟩
def i31:Fun:=
 ⟨1,[0,2,3,5,39,4,54],[.cell .d0 .d1 (some 4)],(.seq (.reg 1 [.s .d0 .d1 NJ])
 (.seq (.reg 122 [.p (.H (.call 19 [aN])),
   .p (.H (.call 20 [aN])),
   .p zo179,
   .s .d0 .d2 NJ,
   .p (.H (.store 4 zl0 zl1))])
 (.seq (.reg 2 [.p (.H (.call 18 [aN,Nz]))])
 (.seq (.reg 14 [.p (.H (.call 20 [aN])),
   .p zo95,
   .p (.H (.store 1 zl0 zl1))])
 (.seq (.reg 2 [.p (.H (.call 18 [aN,Dr]))])
 (.seq (.reg 2 [.s .d0 .d5 (.H (.call 22 [aN,NA]))])
 (.seq (.draw [0,1,2,3,4,5,6,7,8,9,10,11] [⟨.p zo2,[]⟩,
   ⟨.p zo5,[]⟩,
   ⟨.p zo8,[]⟩,
   ⟨.p zo0,[]⟩,
   ⟨.p zo2,[]⟩,
   ⟨.p zo5,[]⟩,
   ⟨.p zo6,[]⟩,
   ⟨.p zo0,[]⟩,
   ⟨.p Dt,[]⟩,
   ⟨.p Kg,[]⟩,
   ⟨.s .d0 .d3 H9,[]⟩,
   ⟨.p (.H (.store 3 zl0 zl1)),[]⟩])
 (.seq (.seq (.reg 990 [.p zo3,
   .p qO,
   .p zo0,
   .p FC,
   .g zl0 false pI,
   .g zl1 false zo0,
   .g zl2 false (.L (.bin .neq zl0 zc6)),
   .s .d0 .d4 Rh])
 (.cond fH (.seq (.reg 2 [.p (.H (.call 33 [aN,Dq]))])
 (.seq (.reg 3 [.p (.L (.aY 4 fE)),
   .p (.H (.store 4 dP zl0))])
 .ret)) .skip))
 (.seq (.reg 254 [.p zo3,
   .p zo6,
   .p zo0,
   .p ze,
   .p zo3,
   .p zo6,
   .p (.H (.store 1 zl0 zl2))])
 (.seq (.reg 31 [.p (.L (.aA 1 dO)),
   .p zo0,
   .p (.H (.call 52 [zl0])),
   .p NN,
   .p (.H (.store 1 zl0 zl1))])
 (.seq (.seq (.reg 1 [.s .d0 .d6 wX])
 (.cond iE (.reg 31 [.p NN,
   .p zo0,
   .p (.L (.neg zl0)),
   .p NN,
   .p (.H (.store 1 zl0 zl1))]) .skip))
 (.seq (.reg 2 [.p (.H (.call 18 [aN,zc8]))])
 (.seq (.reg 3 [.p (.L (.aY 4 fE)),
   .p (.H (.store 4 dP zl0))])
 .ret)))))))))))))⟩
def i32:Fun:=
 ⟨1,[0,2,14,19,4,3,38,42,58,63,73],[.cell .d0 .d1 (some 8)],(.seq (.reg 1 [.s .d0 .d1 NK])
 (.seq (.reg 122 [.p (.H (.call 19 [aN])),
   .p (.H (.call 20 [aN])),
   .p zo181,
   .s .d0 .d5 NK,
   .p (.H (.store 8 zl0 zl1))])
 (.seq (.reg 2 [.p (.H (.call 18 [aN,Ka]))])
 (.seq (.seq (.reg 6 [.p (.H (.call 21 [aN,Hz])),
   .s .d0 .d2 pG])
 (.cond fE (.block 0 (.loop (.seq (.seq (.reg 30 [.p zo3,
   .p qO,
   .p zo0,
   .s .d0 .d3 zX])
 (.cond dO .skip (.exit 0)))
 (.block 1 (.seq (.reg 122 [.p (.H (.call 19 [aN])),
   .p (.H (.call 20 [aN])),
   .p zo182,
   .s .d0 .d4 Ry,
   .p (.H (.store 3 zl0 zl1))])
 (.seq (.reg 2 [.p (.H (.call 18 [aN,Nz]))])
 (.seq (.reg 14 [.p (.H (.call 20 [aN])),
   .p (.L (.aA 1 fH)),
   .p (.H (.store 1 zl0 zl1))])
 (.seq (.reg 127 [.p H8,
   .p zo0,
   .p (.L (.aY 3 fH)),
   .p NE,
   .p (.H (.append 3 40 zl2 zl0)),
   .p H8,
   .p (.H (.store 1 zl0 zl1))])
 (.seq (.reg 6 [.p (.H (.call 22 [aN,Q9])),
   .s .d0 .d6 pG])
 (.cond iE (.exit 0) .skip)))))))))) .skip))
 (.seq (.reg 2 [.p (.H (.call 18 [aN,Hz]))])
 (.seq (.seq (.reg 2 [.s .d0 .d7 (.H (.call 22 [aN,zc43]))])
 (.cond fJ (.seq (.reg 3 [.p Kj,
   .p (.H (.store 1 zl0 zc3))])
 (.reg 14 [.p (.H (.call 20 [aN])),
   .p (.L (.aA 3 fB)),
   .p (.H (.store 1 zl0 zl1))])) .skip))
 (.seq (.reg 2 [.p (.H (.call 18 [aN,zc31]))])
 (.seq (.reg 14 [.p (.H (.call 20 [aN])),
   .p (.L (.aA 4 fB)),
   .p (.H (.store 1 zl0 zl1))])
 (.seq (.reg 2 [.p (.H (.call 18 [aN,zc32]))])
 (.seq (.reg 2 [.p (.H (.call 18 [aN,zc44]))])
 (.seq (.seq (.reg 6 [.p (.H (.call 21 [aN,NC])),
   .s .d1 .d0 pG])
 (.cond iZ (.block 2 (.loop (.seq (.seq (.reg 30 [.p zo3,
   .p qO,
   .p zo0,
   .s .d1 .d1 zX])
 (.cond qw .skip (.exit 2)))
 (.block 3 (.seq (.draw [0,1,2,3,4,5,6,7] [⟨.p (.L (.aA 5 fB)),[]⟩,
   ⟨.p zo0,[]⟩,
   ⟨.p zo2,[]⟩,
   ⟨.p (.H (.call 20 [zl0])),[1]⟩,
   ⟨.p (.L (.bsl 1 1 [.str 0 0] [(0,1,zl0)])),[]⟩,
   ⟨.p (.H (.append 1 16 zl3 zl0)),[]⟩,
   ⟨.p (.L (.aA 5 fB)),[]⟩,
   ⟨.p (.H (.store 1 zl0 zl1)),[]⟩])
 (.seq (.reg 6 [.p (.H (.call 22 [aN,Q9])),
   .s .d1 .d2 pG])
 (.cond r9 (.exit 2) .skip))))))) .skip))
 (.seq (.reg 2 [.p (.H (.call 18 [aN,NC]))])
 (.seq (.reg 14 [.p (.H (.call 53 [aN])),
   .p (.L (.aA 6 fB)),
   .p (.H (.store 1 zl0 zl1))])
 (.seq (.reg 3 [.p (.L (.aY 8 fB)),
   .p (.H (.store 8 dP zl0))])
 .ret))))))))))))))⟩
def i33:Fun:=
 ⟨2,[0,1,8],[],(.seq (.reg 30 [.p zo3,
   .p qO,
   .p zo0,
   .s .d0 .d2 zX])
 (.cond fE (.seq (.reg 28 [.p zo3,
   .p qO,
   .p (.H (.store 1 zl0 dP))])
 (.draw [0,1,2,3,4,5,6,7,8,9,10,11,12,13,14] [⟨.p zo2,[]⟩,
   ⟨.p zo2,[]⟩,
   ⟨.p zo5,[]⟩,
   ⟨.p zo8,[]⟩,
   ⟨.p zo0,[]⟩,
   ⟨.p zo2,[]⟩,
   ⟨.p zo5,[]⟩,
   ⟨.p zo6,[]⟩,
   ⟨.p zo0,[]⟩,
   ⟨.p Dt,[]⟩,
   ⟨.p o9,[]⟩,
   ⟨.p zo0,[]⟩,
   ⟨.p (.L (.nilck (.l 11))),[]⟩,
   ⟨.p (.L (.aA 4 zl0)),[]⟩,
   ⟨.p (.H (.store 1 zl0 zl2)),[]⟩])) .skip))⟩
def i35:Fun:=
 ⟨2,[0,1,4,12,5],[.tmp .d0 .d2],(.seq (.reg 1 [.s .d0 .d2 zo1])
 (.seq (.reg 6 [.p (.H (.call 36 [aN])),
   .s .d0 .d4 zZ])
 (.seq (.seq (.reg 12 [.p (.H (.call 38 [aN,dP])),
   .s .d0 .d3 pG])
 (.cond dO (.reg 2 [.p (.H (.call 54 [aN,Dq]))]) .skip))
 (.seq (.reg 2 [.s .d0 .d2 vG])
 .ret))))⟩
def i36:Fun:=
 ⟨1,[0,2],[.cell .d0 .d1 (some 3)],(.seq (.reg 1 [.s .d0 .d1 H9])
 (.seq (.draw [0,1,2,3,4,5,6,7,8,9,10] [⟨.p zo2,[]⟩,
   ⟨.p zo5,[]⟩,
   ⟨.p zo8,[]⟩,
   ⟨.p zo0,[]⟩,
   ⟨.p zo2,[]⟩,
   ⟨.p zo5,[]⟩,
   ⟨.p zo6,[]⟩,
   ⟨.p zo0,[]⟩,
   ⟨.p Dt,[]⟩,
   ⟨.p Kg,[]⟩,
   ⟨.p (.H (.store 3 dP zl0)),[]⟩])
 .ret))⟩
def i37:Fun:=
 ⟨1,[0,2],[.tmp .d0 .d1],(.seq (.reg 1 [.s .d0 .d1 yu])
 (.seq (.reg 6 [.p (.H (.call 55 [aN,zc2])),
   .s .d0 .d1 (.L (.field 1 1 false zl0))])
 .ret))⟩
def i38:Fun:=
 ⟨2,[0,1,4,5,9],[.tmp .d0 .d2],(.seq (.reg 1 [.s .d0 .d2 zo4])
 (.seq (.reg 4 [.s .d0 .d3 (.H (.call 56 [aN,dP]))])
 (.seq (.seq (.reg 1 [.s .d0 .d4 Ck])
 (.cond fH (.reg 254 [.p zo3,
   .p zo6,
   .p zo0,
   .p ze,
   .p zo3,
   .p zo6,
   .p (.H (.store 1 zl0 zl2))]) .skip))
 (.seq (.reg 2 [.s .d0 .d2 Ck])
 .ret))))⟩
def i39:Fun:=
 ⟨2,[0,1,4,10,5,14,25],[.tmp .d0 .d2],(.seq (.reg 1 [.s .d0 .d2 zo4])
 (.seq (.seq (.reg 26 [.p Cc,
   .p HZ,
   .s .d0 .d3 zo91])
 (.cond dO (.seq (.reg 1 [.s .d0 .d2 zo4])
 .ret) .skip))
 (.seq (.seq (.reg 1 [.s .d0 .d4 zo1])
 (.block 0 (.loop (.seq (.seq (.reg 12 [.p Cc,
   .s .d0 .d5 zo92])
 (.cond fB .skip (.exit 0)))
 (.seq (.block 1 (.seq (.draw [0,1,2,3,4,5,6,7,8] [⟨.p zo2,[]⟩,
   ⟨.p vG,[]⟩,
   ⟨.p zo99,[]⟩,
   ⟨.p zo0,[]⟩,
   ⟨.p nK,[]⟩,
   ⟨.p vG,[]⟩,
   ⟨.p zo99,[]⟩,
   ⟨.p zo0,[]⟩,
   ⟨.s .d0 .d6 (.L (.bins .neq zl4 zl0)),[]⟩])
 (.cond iE (.seq (.reg 1 [.s .d0 .d2 zo4])
 .ret) .skip)))
 (.reg 2 [.s .d0 .d4 Rb]))))))
 (.seq (.reg 1 [.s .d0 .d2 Ce])
 .ret))))⟩
def i40:Fun:=
 ⟨3,[0,1,2,6,15,7,19,8,9,95,120,10,125,140],[.tmp .d0 .d3],(.seq (.reg 1 [.s .d0 .d3 zo4])
 (.seq (.seq (.reg 26 [.p Cc,
   .p HZ,
   .s .d0 .d4 zo91])
 (.cond fH (.seq (.reg 1 [.s .d0 .d3 zo4])
 .ret) .skip))
 (.seq (.seq (.reg 1 [.s .d0 .d5 zo1])
 (.block 0 (.loop (.seq (.seq (.reg 12 [.p Cc,
   .s .d0 .d6 zo93])
 (.cond iE .skip (.exit 0)))
 (.seq (.block 1 (.seq (.draw [0,1,2,3,4,5,6,7,8,9,10,11] [⟨.p zo2,[]⟩,
   ⟨.p wX,[]⟩,
   ⟨.p (.L (.bT 12 zl1 zl0)),[]⟩,
   ⟨.p (.L (.aY 12 zl0)),[]⟩,
   ⟨.p nK,[]⟩,
   ⟨.p wX,[]⟩,
   ⟨.p (.L (.bT 12 zl1 zl0)),[]⟩,
   ⟨.p (.L (.aY 12 zl0)),[]⟩,
   ⟨.s .d0 .d7 Kl,[]⟩,
   ⟨.s .d1 .d0 Kl,[]⟩,
   ⟨.p (.H (.store 12 zl1 zl6)),[2]⟩,
   ⟨.p (.H (.store 12 zl1 zl3)),[]⟩])
 (.seq (.seq (.reg 73641726341501911007 [.p (.L (.aA 0 fJ)),
   .p zo0,
   .p (.L (.aA 0 iZ)),
   .p zo0,
   .p NI,
   .g zl0 false vF,
   .g zl1 false o8,
   .g zl0 true (.L (.aA 1 fJ)),
   .g zl1 true zo0,
   .g zl2 true (.L (.aA 1 iZ)),
   .g zl3 true zo0,
   .g zl4 true NI,
   .g zl7 false HY,
   .p Ri,
   .g zl0 false (.L (.aA 2 fJ)),
   .g zl1 false zo0,
   .g zl2 false (.L (.aA 2 iZ)),
   .g zl3 false zo0,
   .g zl4 false Ci,
   .p Cj,
   .g zl0 false (.L (.aA 3 fJ)),
   .g zl1 false zo0,
   .g zl2 false (.L (.aA 3 iZ)),
   .g zl3 false zo0,
   .g zl4 false Ci,
   .p Cj,
   .g zl0 false (.L (.aA 4 fJ)),
   .g zl1 false zo0,
   .g zl2 false (.L (.aA 4 iZ)),
   .g zl3 false zo0,
   .g zl4 false Ci,
   .p Cj,
   .g zl0 false (.L (.aA 5 fJ)),
   .g zl1 false zo0,
   .g zl2 false (.L (.aA 5 iZ)),
   .g zl3 false zo0,
   .g zl4 false (.L (.eq true .bool zl2 zl0)),
   .p Cj,
   .g zl0 false (.L (.aA 6 fJ)),
   .g zl1 false zo0,
   .g zl2 false (.L (.aA 6 iZ)),
   .g zl3 false zo0,
   .g zl4 false Ci,
   .p Cj,
   .g zl0 false (.L (.aA 7 fJ)),
   .g zl1 false zo0,
   .g zl2 false (.L (.aA 7 iZ)),
   .g zl3 false zo0,
   .g zl4 false Ci,
   .p Cj,
   .g zl0 false (.L (.aA 9 fJ)),
   .g zl1 false zo0,
   .g zl2 false pF,
   .g zl3 false (.L (.aA 9 iZ)),
   .g zl4 false zo0,
   .g zl5 false pF,
   .g zl6 false Rj,
   .s .d1 .d1 Ia])
 (.cond qw (.seq (.reg 1 [.s .d0 .d3 zo4])
 .ret) .skip))
 (.seq (.seq (.reg 33488751 [.p (.L (.aA 8 fJ)),
   .p zo0,
   .p (.L (.aA 8 iZ)),
   .p zo0,
   .p (.H (.call 57 [zl2,zl0,fE])),
   .p pG,
   .g zl0 false (.L (.aA 10 fJ)),
   .g zl1 false zo0,
   .g zl2 false (.L (.aA 10 iZ)),
   .g zl3 false zo0,
   .g zl4 false vF,
   .g zl5 false (.H (.call 40 [zl3,zl1,zl0])),
   .g zl6 false pG,
   .p Ia,
   .g zl0 false (.L (.aA 11 fJ)),
   .g zl1 false zo0,
   .g zl2 false (.L (.aA 11 iZ)),
   .g zl3 false zo0,
   .g zl4 false vF,
   .g zl5 false (.H (.call 40 [zl3,zl1,zl0])),
   .g zl6 false pG,
   .s .d1 .d2 Ia])
 (.cond r9 (.seq (.reg 1 [.s .d0 .d3 zo4])
 .ret) .skip))
 (.seq (.reg 1 [.s .d1 .d3 zo1])
 (.block 2 (.loop (.seq (.seq (.reg 30 [.p (.L (.aA 9 fJ)),
   .p zo0,
   .p pF,
   .s .d1 .d4 (.L (.bin .lss yt zl0))])
 (.cond pE .skip (.exit 2)))
 (.seq (.block 3 (.seq (.draw [0,1,2,3,4,5,6,7,8,9,10,11,12] [⟨.p (.L (.aA 9 fJ)),[]⟩,
   ⟨.p zo0,[]⟩,
   ⟨.p zo88,[]⟩,
   ⟨.p zo99,[]⟩,
   ⟨.p zo0,[]⟩,
   ⟨.p (.L (.aA 9 iZ)),[]⟩,
   ⟨.p zo0,[]⟩,
   ⟨.p zo88,[]⟩,
   ⟨.p zo99,[]⟩,
   ⟨.p zo0,[]⟩,
   ⟨.p vF,[]⟩,
   ⟨.p (.H (.call 57 [zl6,zl1,zl0])),[]⟩,
   ⟨.s .d1 .d5 pG,[]⟩])
 (.cond vE (.seq (.reg 1 [.s .d0 .d3 zo4])
 .ret) .skip)))
 (.reg 2 [.s .d1 .d3 (.L (.bin .add yt zc2))]))))))))))
 (.reg 2 [.s .d0 .d5 Rc]))))))
 (.seq (.reg 1 [.s .d0 .d3 Ce])
 .ret))))⟩
def i41:Fun:=
 ⟨3,[0,1,2,4,17,5],[.tmp .d0 .d3],(.seq (.reg 1 [.s .d0 .d3 yu])
 (.seq (.reg 1 [.s .d0 .d5 NQ])
 (.seq (.block 0 (.loop (.seq (.seq (.reg 2031 [.p NQ,
   .p wZ,
   .p Ke,
   .p Rv,
   .g zl0 true zo2,
   .g zl1 true wZ,
   .g zl2 true NQ,
   .g zl3 true FE,
   .g zl4 true (.H (.ji zl3 [zl0])),
   .s .d0 .d4 HY])
 (.cond fH .skip (.exit 0)))
 (.block 1 (.reg 7 [.p NQ,
   .p ze,
   .p (.H (.store 1 dP zl0))])))))
 (.seq (.reg 13 [.p wZ,
   .p NQ,
   .s .d0 .d3 (.L (.sstr zl1 (some fB) (some zl0)))])
 .ret))))⟩
def i42:Fun:=
 ⟨1,[0,2],[.tmp .d0 .d1],(.seq (.reg 1 [.s .d0 .d1 zo4])
 (.seq (.reg 2 [.s .d0 .d1 (.L (.bin .neq aN zc26))])
 .ret))⟩
def i43:Fun:=
 ⟨1,[0,2],[.tmp .d0 .d1],(.seq (.reg 1 [.s .d0 .d1 zo4])
 (.seq (.reg 58 [.p (.L (.bin .geq aN (.c (.int .u8 97)))),
   .g zl0 true zo2,
   .g zl1 true (.L (.bin .leq zl0 (.c (.int .u8 122)))),
   .s .d0 .d1 Kh])
 .ret))⟩
def i44:Fun:=
 ⟨1,[0,2],[.tmp .d0 .d1],(.seq (.reg 1 [.s .d0 .d1 zo4])
 (.seq (.reg 954 [.p (.H (.call 43 [aN])),
   .g zl0 false zo2,
   .g zl1 false (.H (.call 46 [zl0])),
   .p FD,
   .g zl0 false zo2,
   .g zl1 false (.L (.bin .eql zl0 (.c (.int .u8 95)))),
   .s .d0 .d1 FD])
 .ret))⟩
def i45:Fun:=
 ⟨1,[0,2,3,4,7],[.tmp .d0 .d1, .tmp .d0 .d2],(.seq (.reg 3 [.s .d0 .d1 zo1,
   .s .d0 .d2 zo1])
 (.seq (.block 0 (.seq (.reg 2 [.s .d0 .d3 (.H (.call 58 [aN]))])
 (.cond dO (.seq (.reg 3 [.s .d0 .d1 (.L (.mov Hw)),
   .s .d0 .d2 zo1])
 .ret) (.seq (.reg 6 [.p wV,
   .s .d0 .d4 (.L (.bin .gtr zl0 (.c (.int .i64 20))))])
 (.cond fH (.seq (.reg 3 [.s .d0 .d1 zo1,
   .s .d0 .d2 NG])
 .ret) .skip)))))
 (.seq (.reg 3 [.s .d0 .d1 (.L (.mov zc2)),
   .s .d0 .d2 zo1])
 .ret)))⟩
def i46:Fun:=
 ⟨1,[0,2],[.tmp .d0 .d1],(.seq (.reg 1 [.s .d0 .d1 zo4])
 (.seq (.reg 58 [.p (.L (.bin .geq aN Ny)),
   .g zl0 true zo2,
   .g zl1 true (.L (.bin .leq zl0 (.c (.int .u8 57)))),
   .s .d0 .d1 Kh])
 .ret))⟩
def i47:Fun:=
 ⟨2,[0,1,4,5,6,10],[.tmp .d0 .d2, .tmp .d0 .d3],(.seq (.reg 3 [.s .d0 .d2 zo1,
   .s .d0 .d3 zo1])
 (.seq (.block 0 (.seq (.reg 6 [.p wV,
   .s .d0 .d4 (.L (.bin .gtr zl0 zc9))])
 (.cond fH (.seq (.reg 3 [.s .d0 .d2 zo1,
   .s .d0 .d3 NG])
 .ret) (.seq (.seq (.reg 246 [.p (.L (.istr aN zc0)),
   .p (.L (.bin .eql zl0 Ny)),
   .g zl0 true zo2,
   .g zl1 true Ke,
   .g zl2 true (.L (.bin .gtr zl0 zc2)),
   .s .d0 .d5 HV])
 (.cond fB .skip (.reg 122 [.p (.L (.bins .neq dP zc5)),
   .g zl0 true nK,
   .g zl1 true (.L (.istr zl0 zc0)),
   .g zl2 true (.H (.call 44 [zl0])),
   .s .d0 .d5 HV])))
 (.cond fB (.seq (.reg 3 [.s .d0 .d2 zo1,
   .s .d0 .d3 zo94])
 .ret) .skip)))))
 (.seq (.reg 3 [.s .d0 .d2 (.L (.mov zc6)),
   .s .d0 .d3 zo1])
 .ret)))⟩
def i48:Fun:=
 ⟨1,[0,2,7,6,8,5,4,13,23],[.tmp .d0 .d1],(.seq (.reg 1 [.s .d0 .d1 yu])
 (.seq (.seq (.reg 7 [.s .d0 .d5 (.L (.bsl 1 3 [.str 0 0] [(0,1,zc41),(1,1,zc42),(2,1,zc43)])),
   .s .d0 .d3 pF,
   .s .d0 .d2 zo1])
 (.block 0 (.loop (.seq (.reg 1 [.s .d0 .d4 (.L (.bin .lss fE dO))])
 (.seq (.cond fH .skip (.exit 0))
 (.seq (.block 1 (.seq (.reg 3 [.p (.L (.bT 1 fB fE)),
   .s .d0 .d6 zo0])
 (.seq (.reg 4 [.s .d0 .d7 (.H (.call 59 [aN,iE]))])
 (.cond fJ (.seq (.reg 2 [.s .d0 .d1 Fv])
 .ret) .skip))))
 (.reg 1 [.s .d0 .d2 RB])))))))
 (.seq (.seq (.reg 250 [.p (.L (.bins .neq aN zc5)),
   .g zl0 true zo2,
   .g zl1 true (.L (.istr zl0 zc0)),
   .g zl2 true (.H (.call 60 [(.c (.str 16 44057595459481303378468723561875581224)),zl0])),
   .g zl3 true (.L (.bin .geq zl0 zc0)),
   .s .d1 .d0 ND])
 (.cond iZ (.seq (.reg 2 [.s .d0 .d1 (.L (.sstr aN none (some zc2)))])
 .ret) .skip))
 (.seq (.reg 1 [.s .d0 .d1 yu])
 .ret))))⟩
def i50:Fun:=
 ⟨1,[0,2,3,4,23],[.cell .d0 .d1 (some 4)],(.seq (.reg 1 [.s .d0 .d1 NJ])
 (.seq (.reg 246 [.p (.H (.call 36 [aN])),
   .p zZ,
   .p (.H (.call 37 [aN])),
   .p zo179,
   .s .d0 .d2 NJ,
   .p (.H (.store 4 zl0 zl1))])
 (.seq (.reg 2 [.p (.H (.call 35 [aN,Nz]))])
 (.seq (.reg 14 [.p (.H (.call 37 [aN])),
   .p zo95,
   .p (.H (.store 1 zl0 zl1))])
 (.seq (.reg 2 [.p (.H (.call 35 [aN,Dr]))])
 (.seq (.reg 2 [.s .d0 .d3 (.H (.call 38 [aN,NA]))])
 (.seq (.reg 14 [.p (.H (.call 61 [aN])),
   .p NN,
   .p (.H (.store 1 zl0 zl1))])
 (.seq (.seq (.reg 1 [.s .d0 .d4 Ck])
 (.cond fH (.reg 31 [.p NN,
   .p zo0,
   .p (.L (.neg zl0)),
   .p NN,
   .p (.H (.store 1 zl0 zl1))]) .skip))
 (.seq (.reg 2 [.p (.H (.call 35 [aN,zc8]))])
 (.seq (.reg 3 [.p (.L (.aY 4 fE)),
   .p (.H (.store 4 dP zl0))])
 .ret))))))))))⟩
def i51:Fun:=
 ⟨1,[0,2,1,3,16],[.cell .d0 .d1 (some 8)],(.seq (.reg 3 [.s .d0 .d2 (.L (.box 1 aN)),
   .s .d0 .d1 NK])
 (.seq (.draw [0,3,6,1,2,4,5,7] [⟨.p wZ,[]⟩,
   ⟨.p wZ,[]⟩,
   ⟨.s .d0 .d3 NK,[]⟩,
   ⟨.p (.H (.call 36 [zl2])),[1,0]⟩,
   ⟨.p zZ,[]⟩,
   ⟨.p (.H (.call 37 [zl3])),[2]⟩,
   ⟨.p zo181,[]⟩,
   ⟨.p (.H (.store 8 zl4 zl0)),[]⟩])
 (.seq (.reg 3 [.p wZ,
   .p (.H (.call 35 [zl0,Ka]))])
 (.seq (.reg 7 [.p wZ,
   .p (.L (.fn 63 [] [fE,dO])),
   .p (.H (.call 62 [zl1,Hz,zl0]))])
 (.seq (.seq (.reg 3 [.p wZ,
   .s .d0 .d4 (.H (.call 38 [zl0,zc43]))])
 (.cond fH (.reg 63 [.p wZ,
   .p (.H (.call 37 [zl0])),
   .p H7,
   .p (.H (.store 1 zl0 zc3)),
   .p zY,
   .p (.H (.store 1 zl0 zl3))]) .skip))
 (.seq (.reg 3 [.p wZ,
   .p (.H (.call 35 [zl0,zc31]))])
 (.seq (.reg 15 [.p wZ,
   .p (.H (.call 37 [zl0])),
   .p Ki,
   .p (.H (.store 1 zl0 zl1))])
 (.seq (.reg 3 [.p wZ,
   .p (.H (.call 35 [zl0,zc32]))])
 (.seq (.reg 3 [.p wZ,
   .p (.H (.call 35 [zl0,zc44]))])
 (.seq (.reg 7 [.p wZ,
   .p (.L (.fn 64 [] [dO,fE])),
   .p (.H (.call 62 [zl1,NC,zl0]))])
 (.seq (.reg 15 [.p wZ,
   .p (.H (.call 65 [zl0])),
   .p (.L (.aA 6 dO)),
   .p (.H (.store 1 zl0 zl1))])
 (.seq (.reg 3 [.p (.L (.aY 8 dO)),
   .p (.H (.store 8 dP zl0))])
 .ret))))))))))))⟩
def i52:Fun:=
 ⟨1,[0,2,4,8,3],[.tmp .d0 .d1],(.seq (.reg 1 [.s .d0 .d1 zo1])
 (.seq (.reg 1 [.s .d0 .d4 zo1])
 (.seq (.seq (.reg 1 [.s .d0 .d2 zo1])
 (.block 0 (.loop (.seq (.seq (.reg 12 [.p wV,
   .s .d0 .d3 (.L (.bin .lss fE zl0))])
 (.cond dO .skip (.exit 0)))
 (.seq (.block 1 (.reg 242 [.p (.L (.bin .mul J7 fH)),
   .p (.L (.istr aN fE)),
   .p (.L (.bin .sub zl0 Ny)),
   .p (.L (.conv .i64 zl0)),
   .s .d0 .d4 (.L (.bin .add zl3 zl0))]))
 (.reg 2 [.s .d0 .d2 RB]))))))
 (.seq (.reg 2 [.s .d0 .d1 vG])
 .ret))))⟩
def i53:Fun:=
 ⟨1,[0,2,15,3],[.tmp .d0 .d1],(.seq (.reg 1 [.s .d0 .d1 lH])
 (.seq (.reg 1 [.s .d0 .d3 lH])
 (.seq (.reg 2 [.p (.H (.call 66 [aN,zc44]))])
 (.seq (.block 0 (.loop (.seq (.seq (.reg 990 [.p zo3,
   .p qO,
   .p zo0,
   .p zX,
   .g zl0 true zo2,
   .g zl1 true (.H (.call 21 [zl0,NC])),
   .g zl2 true pG,
   .s .d0 .d2 HV])
 (.cond fE .skip (.exit 0)))
 (.block 1 (.reg 28 [.p (.H (.call 67 [aN])),
   .p zo195,
   .s .d0 .d3 (.H (.append 12 200 dO zl0))])))))
 (.seq (.reg 2 [.p (.H (.call 18 [aN,NC]))])
 (.seq (.reg 254 [.p zo3,
   .p o9,
   .p zo0,
   .p Aa,
   .p zo3,
   .p o9,
   .p (.H (.store 1 zl0 zl2))])
 (.seq (.reg 2 [.s .d0 .d1 Ck])
 .ret)))))))⟩
def i54:Fun:=
 ⟨2,[0,1],[],(.reg 124 [.p (.H (.call 36 [aN])),
   .p zZ,
   .p (.L (.build [.int .i64 0, .int .i64 0] [(0,1,dP),(1,1,zl0)])),
   .p (.L (.ifc 80 zl0)),
   .p (.H (.panic zl0))])⟩
def i55:Fun:=
 ⟨2,[0,1,4,5,11],[.cell .d0 .d2 (some 3)],(.seq (.reg 1 [.s .d0 .d2 H9])
 (.seq (.reg 14 [.p (.H (.call 36 [aN])),
   .s .d0 .d3 H9,
   .p (.H (.store 3 zl0 zl1))])
 (.seq (.seq (.reg 11 [.p pI,
   .p zo0,
   .s .d0 .d4 (.L (.bin .neq zl0 dP))])
 (.cond fH (.reg 2 [.p (.H (.call 54 [aN,Dq]))]) .skip))
 (.seq (.reg 254 [.p zo3,
   .p zo6,
   .p zo0,
   .p ze,
   .p zo3,
   .p zo6,
   .p (.H (.store 1 zl0 zl2))])
 (.seq (.reg 3 [.p (.L (.aY 3 dO)),
   .p (.H (.store 3 fE zl0))])
 .ret)))))⟩
def i56:Fun:=
 ⟨2,[0,1,4,5],[.tmp .d0 .d2],(.seq (.reg 1 [.s .d0 .d2 zo4])
 (.seq (.reg 14 [.p (.H (.call 36 [aN])),
   .s .d0 .d3 H9,
   .p (.H (.store 3 zl0 zl1))])
 (.seq (.reg 16363 [.p (.L (.aA 1 dO)),
   .p zo0,
   .p (.L (.bins .eql zl0 dP)),
   .g zl0 true pI,
   .g zl1 true zo0,
   .g zl2 true (.L (.bin .eql zl0 Hy)),
   .g zl3 true o8,
   .g zl0 false pI,
   .g zl1 false zo0,
   .g zl2 false (.L (.bin .eql zl0 Hw)),
   .g zl7 true Rh,
   .s .d0 .d2 (.L (.pick zl8 zl0 zc1))])
 .ret)))⟩
def i57:Fun:=
 ⟨3,[0,1,2,6,11,7,18,31],[.tmp .d0 .d3],(.seq (.reg 1 [.s .d0 .d3 zo4])
 (.seq (.seq (.reg 12 [.p (.H (.call 68 [aN,dP])),
   .s .d0 .d4 pG])
 (.cond fH (.seq (.reg 1 [.s .d0 .d3 zo4])
 .ret) .skip))
 (.seq (.seq (.reg 1 [.s .d0 .d5 zo1])
 (.block 0 (.loop (.seq (.seq (.reg 108 [.p Cc,
   .p zo93,
   .g zl0 true vF,
   .s .d0 .d6 (.L (.pick zl1 zl0 zc1))])
 (.cond iE .skip (.exit 0)))
 (.seq (.block 1 (.seq (.draw [0,1,2,3,4,5,6,7,8,9,10] [⟨.p zo2,[]⟩,
   ⟨.p wX,[]⟩,
   ⟨.p Lm,[]⟩,
   ⟨.p Rn,[]⟩,
   ⟨.p zo0,[]⟩,
   ⟨.p nK,[]⟩,
   ⟨.p wX,[]⟩,
   ⟨.p Lm,[]⟩,
   ⟨.p Rn,[]⟩,
   ⟨.p zo0,[]⟩,
   ⟨.s .d0 .d7 (.L (.bin .neq zl5 zl0)),[]⟩])
 (.cond fJ (.seq (.reg 1 [.s .d0 .d3 zo4])
 .ret) .skip)))
 (.reg 2 [.s .d0 .d5 Rc]))))))
 (.seq (.reg 1 [.s .d0 .d3 Ce])
 .ret))))⟩
def i58:Fun:=
 ⟨1,[0,2],[.tmp .d0 .d1],(.seq (.reg 1 [.s .d0 .d1 zo4])
 (.seq (.reg 5 [.p (.L (.bsl 1 15 [.str 0 0] [(0,1,zc27),(1,1,zc28),(2,1,zc29),(3,1,zc30),(4,1,zc31),(5,1,zc32),(6,1,zc33),(7,1,zc34),(8,1,zc35),(9,1,zc36),(10,1,zc37),(11,1,zc38),(12,1,zc39),(13,1,zc40),(14,1,zc25)])),
   .s .d0 .d1 (.H (.call 69 [zl0,aN]))])
 .ret))⟩
def i59:Fun:=
 ⟨2,[0,1,4],[.tmp .d0 .d2],(.seq (.reg 1 [.s .d0 .d2 zo4])
 (.seq (.reg 4 [.s .d0 .d2 (.H (.call 70 [aN,dP]))])
 .ret))⟩
def i60:Fun:=
 ⟨2,[0,1,4],[.tmp .d0 .d2],(.seq (.reg 1 [.s .d0 .d2 zo1])
 (.seq (.reg 4 [.s .d0 .d2 (.H (.call 71 [aN,dP]))])
 .ret))⟩
def i61:Fun:=
 ⟨1,[0,2,3],[.tmp .d0 .d1],(.seq (.reg 1 [.s .d0 .d1 zo1])
 (.seq (.reg 238 [.p (.H (.call 55 [aN,zc6])),
   .p (.L (.field 1 1 false zl0)),
   .p (.H (.call 72 [zl0])),
   .p mh,
   .p mo,
   .s .d0 .d2 zo7])
 (.seq (.reg 2 [.s .d0 .d1 vF])
 .ret)))⟩
def i62:Fun:=
 ⟨3,[0,1,2,10,6,14],[],(.seq (.reg 1 [.s .d0 .d4 zo1])
 (.block 0 (.loop (.seq (.seq (.reg 12 [.p (.H (.call 38 [aN,dP])),
   .s .d0 .d3 pG])
 (.cond dO .skip (.exit 0)))
 (.seq (.block 1 (.seq (.seq (.reg 2 [.s .d0 .d5 (.L (.bin .gtr fH zc0))])
 (.cond fB (.reg 2 [.p (.H (.call 35 [aN,Q9]))]) .skip))
 (.reg 2 [.p (.H (.ji fE []))])))
 (.reg 2 [.s .d0 .d4 Rb]))))))⟩
def i63:Fun:=
 ⟨2,[0,1,2],[],(.seq (.draw [0,3,6,1,2,4,5,7] [⟨.p (.L (.load aN)),[]⟩,
   ⟨.p (.L (.load aN)),[]⟩,
   ⟨.s .d0 .d2 Ry,[]⟩,
   ⟨.p (.H (.call 36 [zl2])),[1,0]⟩,
   ⟨.p zZ,[]⟩,
   ⟨.p (.H (.call 37 [zl3])),[2]⟩,
   ⟨.p zo182,[]⟩,
   ⟨.p (.H (.store 3 zl4 zl0)),[]⟩])
 (.seq (.reg 3 [.p (.L (.load aN)),
   .p (.H (.call 35 [zl0,Nz]))])
 (.seq (.reg 15 [.p (.L (.load aN)),
   .p (.H (.call 37 [zl0])),
   .p zo95,
   .p (.H (.store 1 zl0 zl1))])
 (.reg 127 [.p (.L (.aA 1 dP)),
   .p zo0,
   .p (.L (.aY 3 fE)),
   .p NE,
   .p (.H (.append 3 40 zl2 zl0)),
   .p (.L (.aA 1 dP)),
   .p (.H (.store 1 zl0 zl1))]))))⟩
def i64:Fun:=
 ⟨2,[0,1],[],(.draw [0,1,2,3,4,5,6,7] [⟨.p (.L (.aA 5 aN)),[]⟩,
   ⟨.p zo0,[]⟩,
   ⟨.p NQ,[]⟩,
   ⟨.p (.H (.call 37 [zl0])),[1]⟩,
   ⟨.p (.L (.bsl 1 1 [.str 0 0] [(0,1,zl0)])),[]⟩,
   ⟨.p (.H (.append 1 16 zl3 zl0)),[]⟩,
   ⟨.p (.L (.aA 5 aN)),[]⟩,
   ⟨.p (.H (.store 1 zl0 zl1)),[]⟩])⟩
def i65:Fun:=
 ⟨1,[0,2,6,20,3],[.tmp .d0 .d1],(.seq (.reg 1 [.s .d0 .d1 lH])
 (.seq (.seq (.reg 6 [.p (.H (.call 56 [aN,zc44])),
   .s .d0 .d2 pG])
 (.cond fE (.reg 2 [.p (.H (.call 54 [aN,Dq]))]) .skip))
 (.seq (.reg 2 [.p (.H (.call 73 [aN]))])
 (.seq (.reg 254 [.p zo3,
   .p zo6,
   .p zo0,
   .p ze,
   .p zo3,
   .p zo6,
   .p (.H (.store 1 zl0 zl2))])
 (.seq (.reg 1 [.s .d0 .d4 lH])
 (.seq (.block 0 (.loop (.seq (.seq (.reg 6 [.p (.H (.call 38 [aN,NC])),
   .s .d0 .d3 pG])
 (.cond dO .skip (.exit 0)))
 (.block 1 (.reg 28 [.p (.H (.call 74 [aN])),
   .p zo195,
   .s .d0 .d4 (.H (.append 12 200 fH zl0))])))))
 (.seq (.reg 254 [.p zo3,
   .p o9,
   .p zo0,
   .p Aa,
   .p zo3,
   .p o9,
   .p (.H (.store 1 zl0 zl2))])
 (.seq (.reg 2 [.s .d0 .d1 vG])
 .ret))))))))⟩
def i66:Fun:=
 ⟨2,[0,1,13],[],(.seq (.seq (.reg 1012 [.p (.H (.call 21 [aN,dP])),
   .g zl0 true zo2,
   .g zl1 true zo5,
   .g zl2 true o9,
   .g zl3 true zo0,
   .g zl4 true (.L (.bin .geq zl0 (.c (.int .i64 40)))),
   .s .d0 .d2 HY])
 (.cond fE (.reg 2 [.p (.H (.call 33 [aN,(.c (.int .i64 12))]))]) .skip))
 (.seq (.reg 4 [.p (.H (.call 18 [aN,dP]))])
 (.reg 254 [.p zo3,
   .p o9,
   .p zo0,
   .p ze,
   .p zo3,
   .p o9,
   .p (.H (.store 1 zl0 zl2))])))⟩
def i67:Fun:=
 ⟨1,[0,2,12,3,4,5,47,64,73,79,86,90,101,106],[.cell .d0 .d1 (some 12)],(.seq (.reg 1 [.s .d0 .d1 Kl])
 (.seq (.reg 30 [.p (.H (.call 19 [aN])),
   .p zo198,
   .s .d0 .d3 Kl,
   .p (.H (.store 12 zl0 zl1))])
 (.seq (.block 0 (.seq (.draw [0,1,2,3,4,5,6,7,8,9,10,11,12,13,14,15,16,17,18,19] [⟨.p zo2,[]⟩,
   ⟨.p zo5,[]⟩,
   ⟨.p qO,[]⟩,
   ⟨.p zo0,[]⟩,
   ⟨.p zX,[]⟩,
   ⟨.p o8,[]⟩,
   ⟨.g zl0 true zo2,[]⟩,
   ⟨.g zl1 true zo5,[]⟩,
   ⟨.g zl2 true zo8,[]⟩,
   ⟨.g zl3 true zo0,[]⟩,
   ⟨.g zl4 true zo2,[]⟩,
   ⟨.g zl5 true zo5,[]⟩,
   ⟨.g zl6 true zo6,[]⟩,
   ⟨.g zl7 true zo0,[]⟩,
   ⟨.g zl8 true Dt,[]⟩,
   ⟨.g (.l 9) true zo8,[]⟩,
   ⟨.g (.l 10) true zo0,[]⟩,
   ⟨.g (.l 11) true (.L (.bin .eql zl0 zc2)),[]⟩,
   ⟨.p Rt,[]⟩,
   ⟨.s .d0 .d2 o8,[]⟩])
 (.cond fE (.seq (.reg 122 [.p (.H (.call 75 [aN])),
   .p mh,
   .p mo,
   .s .d0 .d4 zo7,
   .s .d0 .d5 zo7])
 (.seq (.reg 3 [.p pI,
   .p (.H (.store 1 zl0 zc6))])
 (.seq (.reg 6 [.p H7,
   .p (.H (.store 1 zl0 fH))])
 (.seq (.reg 6 [.p zY,
   .p (.H (.store 1 zl0 fB))])
 (.seq (.reg 2 [.p (.H (.call 18 [aN,Dr]))])
 (.reg 14 [.p (.H (.call 76 [aN,zc4])),
   .p Du,
   .p (.H (.store 1 zl0 zl1))])))))) (.seq (.reg 2 [.s .d0 .d6 (.H (.call 22 [aN,zc33]))])
 (.cond iE (.seq (.reg 3 [.p pI,
   .p (.H (.store 1 zl0 zc2))])
 (.seq (.reg 14 [.p (.H (.call 20 [aN])),
   .p zY,
   .p (.H (.store 1 zl0 zl1))])
 (.seq (.reg 2 [.p (.H (.call 18 [aN,Nz]))])
 (.seq (.reg 14 [.p (.H (.call 20 [aN])),
   .p Ki,
   .p (.H (.store 1 zl0 zl1))])
 (.seq (.reg 2 [.p (.H (.call 18 [aN,Dr]))])
 (.reg 14 [.p (.H (.call 76 [aN,zc4])),
   .p Du,
   .p (.H (.store 1 zl0 zl1))])))))) (.seq (.reg 2 [.s .d0 .d7 (.H (.call 22 [aN,zc39]))])
 (.cond fJ (.seq (.reg 3 [.p pI,
   .p (.H (.store 1 zl0 Hw))])
 (.seq (.reg 2 [.p (.H (.call 18 [aN,Dr]))])
 (.reg 14 [.p (.H (.call 76 [aN,zc4])),
   .p Du,
   .p (.H (.store 1 zl0 zl1))]))) (.seq (.reg 2 [.s .d1 .d0 (.H (.call 22 [aN,zc34]))])
 (.cond iZ (.reg 14 [.p FH,
   .p (.H (.call 77 [aN,zl0])),
   .p (.H (.store 12 dO zl0))]) (.seq (.reg 2 [.s .d1 .d1 (.H (.call 22 [aN,zc38]))])
 (.cond qw (.seq (.reg 3 [.p pI,
   .p (.H (.store 1 zl0 zc45))])
 (.reg 14 [.p (.H (.call 20 [aN])),
   .p zY,
   .p (.H (.store 1 zl0 zl1))])) (.seq (.reg 2 [.s .d1 .d2 (.H (.call 22 [aN,zc40]))])
 (.cond r9 (.reg 3 [.p pI,
   .p (.H (.store 1 zl0 zc46))]) (.seq (.reg 2 [.s .d1 .d3 (.H (.call 22 [aN,zc35]))])
 (.cond yt (.seq (.reg 3 [.p pI,
   .p (.H (.store 1 zl0 zc47))])
 (.seq (.reg 14 [.p (.H (.call 76 [aN,zc4])),
   .p Du,
   .p (.H (.store 1 zl0 zl1))])
 (.seq (.reg 14 [.p (.H (.call 53 [aN])),
   .p Lp,
   .p (.H (.store 1 zl0 zl1))])
 (.seq (.seq (.reg 2 [.s .d1 .d4 (.H (.call 22 [aN,zc36]))])
 (.cond pE (.reg 14 [.p (.H (.call 53 [aN])),
   .p (.L (.aA 11 dO)),
   .p (.H (.store 1 zl0 zl1))]) .skip))
 (.seq (.reg 3 [.p FH,
   .p (.H (.store 12 dP zl0))])
 .ret))))) (.seq (.reg 2 [.s .d1 .d5 (.H (.call 22 [aN,zc37]))])
 (.cond vE (.seq (.reg 3 [.p pI,
   .p (.H (.store 1 zl0 zc48))])
 (.seq (.reg 14 [.p (.H (.call 76 [aN,zc4])),
   .p Du,
   .p (.H (.store 1 zl0 zl1))])
 (.seq (.reg 14 [.p (.H (.call 53 [aN])),
   .p Lp,
   .p (.H (.store 1 zl0 zl1))])
 (.seq (.reg 3 [.p FH,
   .p (.H (.store 12 dP zl0))])
 .ret)))) (.seq (.reg 2 [.p (.H (.call 33 [aN,Dq]))])
 (.seq (.reg 3 [.p FH,
   .p (.H (.store 12 dP zl0))])
 .ret)))))))))))))))))))
 (.seq (.reg 2 [.p (.H (.call 18 [aN,zc8]))])
 (.seq (.reg 3 [.p FH,
   .p (.H (.store 12 dP zl0))])
 .ret)))))⟩
def i68:Fun:=
 ⟨2,[0,1,4,12,5,16,6,7,31],[.tmp .d0 .d2],(.seq (.reg 1 [.s .d0 .d2 zo4])
 (.seq (.seq (.reg 26 [.p Cc,
   .p HZ,
   .s .d0 .d3 zo91])
 (.cond dO (.seq (.reg 1 [.s .d0 .d2 zo4])
 .ret) .skip))
 (.seq (.seq (.reg 1 [.s .d0 .d4 zo1])
 (.block 0 (.loop (.seq (.seq (.reg 12 [.p Cc,
   .s .d0 .d5 zo92])
 (.cond fB .skip (.exit 0)))
 (.seq (.block 1 (.seq (.draw [0,1,2,3,4,5,6,7,8,9,10,11] [⟨.p zo2,[]⟩,
   ⟨.p vG,[]⟩,
   ⟨.p Lm,[]⟩,
   ⟨.p (.L (.aY 7 zl0)),[]⟩,
   ⟨.p nK,[]⟩,
   ⟨.p vG,[]⟩,
   ⟨.p Lm,[]⟩,
   ⟨.p (.L (.aY 7 zl0)),[]⟩,
   ⟨.s .d0 .d6 zo202,[]⟩,
   ⟨.s .d0 .d7 zo202,[]⟩,
   ⟨.p (.H (.store 7 zl1 zl6)),[2]⟩,
   ⟨.p (.H (.store 7 zl1 zl3)),[]⟩])
 (.seq (.reg 3 [.p (.L (.aA 6 iE)),
   .p (.H (.store 1 zl0 zc0))])
 (.seq (.reg 3 [.p (.L (.aA 6 fJ)),
   .p (.H (.store 1 zl0 zc0))])
 (.seq (.reg 7 [.p (.L (.aY 7 iE)),
   .p (.L (.aY 7 fJ)),
   .s .d1 .d0 (.L (.eq true (.st [(0, .int),(1, .int),(2, .str),(3, .str),(4, .int),(5, .int),(6, .int)]) zl1 zl0))])
 (.cond iZ (.seq (.reg 1 [.s .d0 .d2 zo4])
 .ret) .skip))))))
 (.reg 2 [.s .d0 .d4 Rb]))))))
 (.seq (.reg 1 [.s .d0 .d2 Ce])
 .ret))))⟩
def i69:Fun:=
 ⟨2,[0,1,4],[.tmp .d0 .d2],(.seq (.reg 1 [.s .d0 .d2 zo4])
 (.seq (.reg 12 [.p (.H (.call 78 [aN,dP])),
   .s .d0 .d2 (.L (.bin .geq zl0 zc0))])
 .ret))⟩
def i70:Fun:=
 ⟨2,[0,1,4],[.tmp .d0 .d2],(.seq (.reg 1 [.s .d0 .d2 zo4])
 (.seq (.reg 8154 [.p wV,
   .p (.L (.len true dP)),
   .p (.L (.bin .geq zl1 zl0)),
   .g zl0 true zo2,
   .g zl1 true nK,
   .g zl2 true Ke,
   .g zl3 true (.L (.sstr zl2 none (some zl0))),
   .g zl4 true nK,
   .g zl5 true (.L (.bins .eql zl1 zl0)),
   .s .d0 .d2 (.L (.pick zl6 zl0 zc1))])
 .ret))⟩
def i72:Fun:=
 ⟨1,[0,2,3,5,12,4],[.tmp .d0 .d1, .tmp .d0 .d2],(.seq (.reg 3 [.s .d0 .d1 zo1,
   .s .d0 .d2 (.L (.mov Kc))])
 (.seq (.reg 122 [.p (.H (.call 80 [aN])),
   .p mh,
   .p mo,
   .s .d0 .d5 zo7,
   .s .d0 .d3 zo7])
 (.seq (.seq (.reg 2 [.s .d0 .d4 (.L (.eq true .ifc dO Kc))])
 (.cond fH (.seq (.reg 56 [.p (.H (.call 81 [(.c (.str 4 1768911937)),aN,zc0,zc0,dO])),
   .s .d0 .d1 wX,
   .s .d0 .d2 zo7])
 .ret) .skip))
 (.seq (.reg 6 [.s .d0 .d1 wX,
   .s .d0 .d2 (.L (.mov Kc))])
 .ret))))⟩
def i73:Fun:=
 ⟨1,[0,6],[],(.seq (.seq (.reg 30 [.p zo3,
   .p o9,
   .p zo0,
   .s .d0 .d1 (.L (.bin .geq zl0 (.c (.int .i64 40))))])
 (.cond dP (.reg 2 [.p (.H (.call 54 [aN,(.c (.int .i64 12))]))]) .skip))
 (.reg 254 [.p zo3,
   .p o9,
   .p zo0,
   .p ze,
   .p zo3,
   .p o9,
   .p (.H (.store 1 zl0 zl2))]))⟩
def i74:Fun:=
 ⟨1,[0,2,21,3,32,37,48,65,74,80,87],[.cell .d0 .d1 (some 12)],(.seq (.reg 1 [.s .d0 .d1 Kl])
 (.seq (.reg 62 [.p (.H (.call 36 [aN])),
   .p zZ,
   .p zo198,
   .s .d0 .d3 Kl,
   .p (.H (.store 12 zl0 zl1))])
 (.seq (.block 0 (.seq (.reg 2 [.s .d0 .d2 (.H (.call 38 [aN,zc35]))])
 (.cond fE (.seq (.reg 62 [.p (.H (.call 82 [aN])),
   .p pI,
   .p (.H (.store 1 zl0 zc47)),
   .p Du,
   .p (.H (.store 1 zl0 zl3))])
 (.seq (.reg 14 [.p (.H (.call 65 [aN])),
   .p Lp,
   .p (.H (.store 1 zl0 zl1))])
 (.seq (.seq (.reg 2 [.s .d0 .d4 (.H (.call 38 [aN,zc36]))])
 (.cond fH (.reg 14 [.p (.H (.call 65 [aN])),
   .p (.L (.aA 11 dO)),
   .p (.H (.store 1 zl0 zl1))]) .skip))
 (.seq (.reg 3 [.p FH,
   .p (.H (.store 12 dP zl0))])
 .ret)))) (.seq (.reg 2 [.s .d0 .d5 (.H (.call 38 [aN,zc37]))])
 (.cond fB (.seq (.reg 62 [.p (.H (.call 82 [aN])),
   .p pI,
   .p (.H (.store 1 zl0 zc48)),
   .p Du,
   .p (.H (.store 1 zl0 zl3))])
 (.seq (.reg 14 [.p (.H (.call 65 [aN])),
   .p Lp,
   .p (.H (.store 1 zl0 zl1))])
 (.seq (.reg 3 [.p FH,
   .p (.H (.store 12 dP zl0))])
 .ret))) (.seq (.reg 2 [.s .d0 .d6 (.H (.call 38 [aN,zc33]))])
 (.cond iE (.seq (.reg 62 [.p (.H (.call 37 [aN])),
   .p pI,
   .p (.H (.store 1 zl0 zc2)),
   .p zY,
   .p (.H (.store 1 zl0 zl3))])
 (.seq (.reg 2 [.p (.H (.call 35 [aN,Nz]))])
 (.seq (.reg 14 [.p (.H (.call 37 [aN])),
   .p Ki,
   .p (.H (.store 1 zl0 zl1))])
 (.seq (.reg 2 [.p (.H (.call 35 [aN,Dr]))])
 (.reg 14 [.p (.H (.call 82 [aN])),
   .p Du,
   .p (.H (.store 1 zl0 zl1))]))))) (.seq (.reg 2 [.s .d0 .d7 (.H (.call 38 [aN,zc39]))])
 (.cond fJ (.seq (.reg 3 [.p pI,
   .p (.H (.store 1 zl0 Hw))])
 (.seq (.reg 2 [.p (.H (.call 35 [aN,Dr]))])
 (.reg 14 [.p (.H (.call 82 [aN])),
   .p Du,
   .p (.H (.store 1 zl0 zl1))]))) (.seq (.reg 2 [.s .d1 .d0 (.H (.call 38 [aN,zc34]))])
 (.cond iZ (.seq (.reg 3 [.p pI,
   .p (.H (.store 1 zl0 Hy))])
 (.reg 2 [.p (.H (.call 83 [aN,dO]))])) (.seq (.reg 2 [.s .d1 .d1 (.H (.call 38 [aN,zc38]))])
 (.cond qw (.reg 62 [.p (.H (.call 37 [aN])),
   .p pI,
   .p (.H (.store 1 zl0 zc45)),
   .p zY,
   .p (.H (.store 1 zl0 zl3))]) (.seq (.reg 2 [.s .d1 .d2 (.H (.call 38 [aN,zc40]))])
 (.cond r9 (.reg 3 [.p pI,
   .p (.H (.store 1 zl0 zc46))]) (.seq (.reg 3 [.p pI,
   .p (.H (.store 1 zl0 zc6))])
 (.seq (.reg 506 [.p (.H (.call 84 [aN])),
   .p mh,
   .p mo,
   .p H7,
   .p (.H (.store 1 zl0 zl2)),
   .p zY,
   .p (.H (.store 1 zl0 zl3))])
 (.seq (.reg 2 [.p (.H (.call 35 [aN,Dr]))])
 (.reg 14 [.p (.H (.call 82 [aN])),
   .p Du,
   .p (.H (.store 1 zl0 zl1))])))))))))))))))))))
 (.seq (.reg 2 [.p (.H (.call 35 [aN,zc8]))])
 (.seq (.reg 3 [.p FH,
   .p (.H (.store 12 dP zl0))])
 .ret)))))⟩
def i75:Fun:=
 ⟨1,[0,2,3,8,4],[.tmp .d0 .d1, .tmp .d0 .d2],(.seq (.reg 3 [.s .d0 .d1 yu,
   .s .d0 .d2 yu])
 (.seq (.reg 2 [.s .d0 .d4 (.H (.call 20 [aN]))])
 (.seq (.seq (.reg 2 [.s .d0 .d3 (.H (.call 22 [aN,(.c (.str 1 46))]))])
 (.cond dO (.seq (.reg 28 [.p (.H (.call 20 [aN])),
   .s .d0 .d1 vG,
   .s .d0 .d2 zo7])
 .ret) .skip))
 (.seq (.reg 6 [.s .d0 .d1 yu,
   .s .d0 .d2 vG])
 .ret))))⟩
def i76:Fun:=
 ⟨2,[0,1,4,5,6,16,29,7,8],[.tmp .d0 .d2],(.seq (.reg 1 [.s .d0 .d2 lH])
 (.seq (.reg 4 [.s .d0 .d1 (.H (.call 85 [aN,dP]))])
 (.seq (.reg 1 [.s .d0 .d3 (.L (.bsl 1 3 [.str 0 0] [(0,1,zc41),(1,1,Q8),(2,1,zc42)]))])
 (.seq (.seq (.reg 1 [.s .d0 .d4 zo1])
 (.block 0 (.loop (.seq (.seq (.reg 12 [.p (.L (.len false dO)),
   .s .d0 .d5 zo92])
 (.cond fB .skip (.exit 0)))
 (.seq (.block 1 (.seq (.reg 118 [.p HZ,
   .p Aa,
   .p (.H (.call 19 [aN])),
   .s .d0 .d7 zo7,
   .s .d1 .d0 zo7])
 (.seq (.reg 56 [.p (.L (.bT 1 dO fH)),
   .p zo0,
   .s .d0 .d6 (.H (.call 22 [aN,zl0]))])
 (.cond iE (.seq (.reg 164 [.p (.H (.call 85 [aN,dP])),
   .p (.L (.bin .add J7 fH)),
   .s .d0 .d2 (.H (.call 86 [zl1,fJ,zl0,iZ]))])
 .ret) .skip))))
 (.reg 2 [.s .d0 .d4 Rb]))))))
 (.seq (.reg 2 [.s .d0 .d2 nK])
 .ret)))))⟩
def i77:Fun:=
 ⟨2,[0,1,4,3,16,5,6,7,8,37,42,52],[.cell .d0 .d2 (some 12)],(.seq (.reg 3 [.s .d0 .d3 (.L (.box 12 dP)),
   .s .d0 .d2 Kl])
 (.seq (.reg 3 [.p pI,
   .p (.H (.store 1 zl0 Hy))])
 (.seq (.reg 122 [.p (.H (.call 75 [aN])),
   .p mh,
   .p mo,
   .s .d0 .d5 zo7,
   .s .d0 .d6 zo7])
 (.seq (.seq (.reg 2 [.s .d0 .d4 (.H (.call 22 [aN,Dr]))])
 (.cond fH (.seq (.reg 3 [.p (.L (.aA 5 dO)),
   .p (.H (.store 1 zl0 zc3))])
 (.seq (.reg 6 [.p H7,
   .p (.H (.store 1 zl0 fB))])
 (.seq (.reg 6 [.p zY,
   .p (.H (.store 1 zl0 iE))])
 (.seq (.reg 122 [.p (.H (.call 75 [aN])),
   .p mh,
   .p mo,
   .s .d0 .d7 zo7,
   .s .d1 .d0 zo7])
 (.seq (.reg 2 [.s .d0 .d5 wY])
 (.reg 2 [.s .d0 .d6 Fx])))))) .skip))
 (.seq (.reg 6 [.p (.L (.aA 6 dO)),
   .p (.H (.store 1 zl0 fB))])
 (.seq (.reg 6 [.p (.L (.aA 7 dO)),
   .p (.H (.store 1 zl0 iE))])
 (.seq (.reg 2 [.p (.H (.call 18 [aN,Ka]))])
 (.seq (.seq (.reg 6 [.p (.H (.call 21 [aN,Hz])),
   .s .d1 .d1 pG])
 (.cond qw (.block 0 (.loop (.seq (.seq (.reg 30 [.p zo3,
   .p qO,
   .p zo0,
   .s .d1 .d2 zX])
 (.cond r9 .skip (.exit 0)))
 (.block 1 (.seq (.draw [0,1,2,3,4,5,6,7] [⟨.p (.L (.aA 9 dO)),[]⟩,
   ⟨.p zo0,[]⟩,
   ⟨.p zo2,[]⟩,
   ⟨.p (.H (.call 76 [zl0,zc4])),[1]⟩,
   ⟨.p (.L (.bsl 1 1 [.slN] [(0,1,zl0)])),[]⟩,
   ⟨.p (.H (.append 1 24 zl3 zl0)),[]⟩,
   ⟨.p (.L (.aA 9 dO)),[]⟩,
   ⟨.p (.H (.store 1 zl0 zl1)),[]⟩])
 (.seq (.reg 6 [.p (.H (.call 22 [aN,Q9])),
   .s .d1 .d3 pG])
 (.cond yt (.exit 0) .skip))))))) .skip))
 (.seq (.reg 2 [.p (.H (.call 18 [aN,Hz]))])
 (.seq (.reg 3 [.p FH,
   .p (.H (.store 12 fE zl0))])
 .ret))))))))))⟩
def i78:Fun:=
 ⟨2,[0,1,4,8,7,9,5,16],[.tmp .d0 .d2],(.seq (.reg 1 [.s .d0 .d2 zo1])
 (.seq (.seq (.reg 6 [.s .d0 .d4 Cc,
   .s .d0 .d3 zo1])
 (.block 0 (.loop (.seq (.reg 1 [.s .d0 .d5 (.L (.bin .lss dO fH))])
 (.seq (.cond fB .skip (.exit 0))
 (.seq (.block 1 (.seq (.reg 2 [.s .d0 .d6 Ck])
 (.seq (.reg 56 [.p (.L (.bT 1 aN iE)),
   .p zo0,
   .s .d0 .d7 (.L (.bins .eql dP zl0))])
 (.cond fJ (.seq (.reg 2 [.s .d0 .d2 Fv])
 .ret) .skip))))
 (.reg 1 [.s .d0 .d3 (.L (.bin .add dO zc2))])))))))
 (.seq (.reg 1 [.s .d0 .d2 (.L (.mov zc7))])
 .ret)))⟩
def i80:Fun:=
 ⟨1,[0,2,3,4,30,39,44,49,48,50,47,8,56,6,5,66,9,10],[.tmp .d0 .d1, .tmp .d0 .d2],(.seq (.reg 3 [.s .d0 .d1 zo1,
   .s .d0 .d2 (.L (.mov Kc))])
 (.seq (.reg 2 [.s .d0 .d3 wV])
 (.seq (.seq (.reg 261886 [.g zc1 true Ck,
   .g zc1 true (.L (.bin .lss zc0 zl0)),
   .g zc1 true o8,
   .g zl0 true Ck,
   .g zl1 true (.L (.bin .lss zl0 J7)),
   .g zc1 true Kh,
   .p (.L (.pick zc1 zl0 zc1)),
   .g zl0 false Ce,
   .g zl0 true Ck,
   .g zl1 true (.L (.bin .lss zc0 zl0)),
   .g zl2 true o8,
   .g zl0 true Ck,
   .g zl1 true (.L (.bin .lss zl0 (.c (.int .i64 19)))),
   .g zl5 true Kh,
   .g zl7 false (.L (.pick zl6 zl0 zc1)),
   .s .d0 .d4 Ri])
 (.cond fH (.seq (.reg 2 [.s .d1 .d6 zo2])
 (.seq (.seq (.reg 246 [.p (.L (.istr aN zc0)),
   .p (.L (.bin .eql zl0 (.c (.int .u8 45)))),
   .g zl0 false zo2,
   .g zl1 false (.L (.istr zl0 zc0)),
   .g zl2 false (.L (.bin .eql zl0 (.c (.int .u8 43)))),
   .s .d0 .d5 Rh])
 (.cond fB (.seq (.reg 2 [.s .d0 .d0 (.L (.sstr aN (some zc2) none))])
 (.seq (.reg 6 [.p wV,
   .s .d0 .d6 (.L (.bin .lss zl0 zc2))])
 (.cond iE (.seq (.reg 7 [.p (.L (.ifc 122 zc6)),
   .s .d0 .d1 zo1,
   .s .d0 .d2 zo7])
 .ret) .skip))) .skip))
 (.seq (.reg 1 [.s .d1 .d5 zo1])
 (.seq (.seq (.reg 14 [.s .d1 .d2 (.L (.nU aN)),
   .s .d1 .d0 pF,
   .s .d0 .d7 zo1])
 (.block 0 (.loop (.seq (.reg 1 [.s .d1 .d1 (.L (.bin .lss fJ iZ))])
 (.seq (.cond qw .skip (.exit 0))
 (.seq (.block 1 (.seq (.reg 3 [.p (.L (.bT 1 r9 fJ)),
   .s .d1 .d3 zo0])
 (.seq (.reg 2 [.s .d1 .d3 (.L (.bin .sub yt Ny))])
 (.seq (.seq (.reg 2 [.s .d1 .d4 (.L (.bin .gtr yt (.c (.int .u8 9))))])
 (.cond pE (.seq (.reg 7 [.p (.L (.ifc 122 zc6)),
   .s .d0 .d1 zo1,
   .s .d0 .d2 zo7])
 .ret) .skip))
 (.reg 26 [.p (.L (.bin .mul vE J7)),
   .p (.L (.conv .i64 yt)),
   .s .d1 .d5 (.L (.bin .add zl1 zl0))])))))
 (.reg 1 [.s .d0 .d7 (.L (.bin .add fJ zc2))])))))))
 (.seq (.seq (.reg 6 [.p (.L (.istr JV zc0)),
   .s .d1 .d7 (.L (.bin .eql zl0 (.c (.int .u8 45))))])
 (.cond JU (.reg 2 [.s .d1 .d5 (.L (.neg vE))]) .skip))
 (.seq (.reg 6 [.s .d0 .d1 (.L (.mov vE)),
   .s .d0 .d2 (.L (.mov Kc))])
 .ret)))))) .skip))
 (.seq (.reg 122 [.p (.H (.call 87 [aN,J7,zc0])),
   .p mh,
   .p mo,
   .s .d2 .d0 zo7,
   .s .d2 .d1 zo7])
 (.seq (.reg 12 [.s .d0 .d1 (.L (.mov (.t .d2 .d0))),
   .s .d0 .d2 (.L (.mov wT))])
 .ret)))))⟩
def i82:Fun:=
 ⟨1,[0,2,3],[.tmp .d0 .d1],(.seq (.reg 1 [.s .d0 .d1 lH])
 (.seq (.reg 6 [.p (.L (.build [.ptrN, .slN] [(0,1,aN)])),
   .s .d0 .d2 (.L (.box 2 zl0))])
 (.seq (.reg 2 [.p (.H (.call 92 [fE]))])
 (.seq (.reg 14 [.p (.L (.nilck fE)),
   .p zo6,
   .s .d0 .d1 zo0])
 .ret))))⟩
def i83:Fun:=
 ⟨2,[0,1,16,49,55],[],(.seq (.reg 8168 [.p (.H (.call 84 [aN])),
   .p mh,
   .p mo,
   .p Ro,
   .p Rn,
   .p (.H (.store 1 zl0 zl3)),
   .p Ro,
   .p (.L (.aA 7 zl0)),
   .p (.H (.store 1 zl0 zl5))])
 (.seq (.seq (.reg 2 [.s .d0 .d2 (.H (.call 38 [aN,Dr]))])
 (.cond fE (.seq (.draw [0,1,2,3,4,5,6,7,8,9,10,11,12,13,14,15,16,17,18,19] [⟨.p nK,[]⟩,
   ⟨.p nK,[]⟩,
   ⟨.p nK,[]⟩,
   ⟨.p nK,[]⟩,
   ⟨.p zo5,[]⟩,
   ⟨.p Rn,[]⟩,
   ⟨.p zo0,[]⟩,
   ⟨.p nK,[]⟩,
   ⟨.p zo5,[]⟩,
   ⟨.p (.L (.aA 7 zl0)),[]⟩,
   ⟨.p zo0,[]⟩,
   ⟨.p (.L (.nilck (.l 10))),[]⟩,
   ⟨.p (.L (.aA 5 zl0)),[]⟩,
   ⟨.p (.H (.store 1 zl0 zc3)),[]⟩,
   ⟨.p (.L (.nilck (.l 12))),[]⟩,
   ⟨.p o9,[]⟩,
   ⟨.p (.H (.store 1 zl0 (.l 9))),[]⟩,
   ⟨.p (.L (.nilck (.l 14))),[]⟩,
   ⟨.p qO,[]⟩,
   ⟨.p (.H (.store 1 zl0 zl8)),[]⟩])
 (.reg 8168 [.p (.H (.call 84 [aN])),
   .p mh,
   .p mo,
   .p Ro,
   .p Rn,
   .p (.H (.store 1 zl0 zl3)),
   .p Ro,
   .p (.L (.aA 7 zl0)),
   .p (.H (.store 1 zl0 zl5))])) .skip))
 (.seq (.reg 2 [.p (.H (.call 35 [aN,Ka]))])
 (.block 0 (.loop (.seq (.seq (.reg 6 [.p (.H (.call 38 [aN,Hz])),
   .s .d0 .d3 pG])
 (.cond dO .skip (.exit 0)))
 (.block 1 (.seq (.seq (.reg 62 [.p Ro,
   .p (.L (.aA 9 zl0)),
   .p zo0,
   .p pF,
   .s .d0 .d4 (.L (.bin .gtr zl0 zc0))])
 (.cond fH (.reg 2 [.p (.H (.call 35 [aN,Q9]))]) .skip))
 (.draw [0,1,2,3,4,5,6,7,8,9,10,11] [⟨.p nK,[]⟩,
   ⟨.p nK,[]⟩,
   ⟨.p zo5,[]⟩,
   ⟨.p (.L (.aA 9 zl0)),[]⟩,
   ⟨.p zo0,[]⟩,
   ⟨.p zo2,[]⟩,
   ⟨.p (.H (.call 82 [zl0])),[1]⟩,
   ⟨.p (.L (.bsl 1 1 [.slN] [(0,1,zl0)])),[]⟩,
   ⟨.p (.H (.append 1 24 zl3 zl0)),[]⟩,
   ⟨.p (.L (.nilck zl8)),[]⟩,
   ⟨.p (.L (.aA 9 zl0)),[]⟩,
   ⟨.p (.H (.store 1 zl0 zl2)),[]⟩])))))))))⟩
def i84:Fun:=
 ⟨1,[0,2,3,7],[.tmp .d0 .d1, .tmp .d0 .d2],(.seq (.reg 3 [.s .d0 .d1 yu,
   .s .d0 .d2 yu])
 (.seq (.reg 2 [.s .d0 .d2 (.H (.call 37 [aN]))])
 (.seq (.seq (.reg 2 [.s .d0 .d3 (.H (.call 38 [aN,(.c (.str 1 46))]))])
 (.cond dO (.reg 28 [.p (.H (.call 37 [aN])),
   .s .d0 .d1 vF,
   .s .d0 .d2 zo7]) .skip))
 (.seq (.reg 0 [])
 .ret))))⟩
def i85:Fun:=
 ⟨2,[0,1,4,14,21,5,6,30],[.tmp .d0 .d2],(.seq (.reg 1 [.s .d0 .d2 lH])
 (.seq (.reg 4 [.s .d0 .d1 (.H (.call 93 [aN,dP]))])
 (.seq (.block 0 (.loop (.seq (.seq (.reg 30 [.p zo3,
   .p qO,
   .p zo0,
   .s .d0 .d3 zX])
 (.cond dO .skip (.exit 0)))
 (.block 1 (.seq (.reg 118 [.p HZ,
   .p Aa,
   .p (.H (.call 19 [aN])),
   .s .d0 .d5 zo7,
   .s .d0 .d6 zo7])
 (.block 2 (.seq (.reg 2 [.s .d0 .d4 (.H (.call 22 [aN,(.c (.str 1 43))]))])
 (.cond fH (.reg 36 [.p (.H (.call 93 [aN,dP])),
   .s .d0 .d1 (.H (.call 86 [zl0,fB,zc47,iE]))]) (.seq (.reg 2 [.s .d0 .d7 (.H (.call 22 [aN,NA]))])
 (.cond fJ (.reg 36 [.p (.H (.call 93 [aN,dP])),
   .s .d0 .d1 (.H (.call 86 [zl0,fB,zc48,iE]))]) (.seq (.reg 2 [.s .d0 .d2 nK])
 .ret)))))))))))
 (.seq (.reg 2 [.s .d0 .d2 nK])
 .ret))))⟩
def i86:Fun:=
 ⟨4,[0,1,2,3,8],[.tmp .d0 .d4],(.seq (.reg 1 [.s .d0 .d4 lH])
 (.seq (.reg 944 [.p Cc,
   .p Aa,
   .p (.L (.build [.int .i64 0, .int .i64 0, .str 0 0, .str 0 0, .int .i64 0, .int .i64 0, .int .i64 0] [(0,1,fE),(4,1,dP),(5,1,zl0),(6,1,dO)])),
   .p Rp,
   .s .d0 .d4 (.H (.append 7 72 aN zl0))])
 .ret))⟩
def i92:Fun:=
 ⟨1,[0,2,6,21,3,4,7,5],[.tmp .d0 .d1],(.seq (.reg 1 [.s .d0 .d1 zo1])
 (.seq (.reg 2 [.s .d0 .d4 (.H (.call 98 [aN]))])
 (.seq (.reg 16318 [.p (.L (.build [.str 0 0, .int .i64 0] [(0,1,zc41),(1,1,J7)])),
   .p (.L (.build [.str 0 0, .int .i64 0] [(0,1,zc42),(1,1,(.c (.int .i64 12)))])),
   .p (.L (.build [.str 0 0, .int .i64 0] [(0,1,Q8),(1,1,Dq)])),
   .p zo208,
   .p (.H (.call 99 [aN,zl0])),
   .p mh,
   .p mo,
   .p wW,
   .s .d0 .d5 Lr,
   .p (.H (.store 2 zl0 zl3)),
   .s .d0 .d7 Fu,
   .s .d0 .d2 Fu])
 (.seq (.seq (.reg 2 [.s .d0 .d3 (.L (.not fE))])
 (.cond dO (.seq (.reg 2 [.s .d0 .d1 vG])
 .ret) .skip))
 (.seq (.reg 2 [.s .d0 .d6 (.H (.call 98 [aN]))])
 (.seq (.reg 198 [.p H8,
   .p zo0,
   .p (.L (.build [.int .i64 0, .int .i64 0, .str 0 0, .str 0 0, .int .i64 0, .int .i64 0, .int .i64 0] [(0,1,zl0),(4,1,fH),(5,1,iE),(6,1,fJ)])),
   .s .d0 .d1 (.H (.call 100 [aN,zl0]))])
 .ret))))))⟩
def i93:Fun:=
 ⟨2,[0,1,4,14,21,5,6,30,39],[.tmp .d0 .d2],(.seq (.reg 1 [.s .d0 .d2 lH])
 (.seq (.reg 4 [.s .d0 .d1 (.H (.call 101 [aN,dP]))])
 (.seq (.block 0 (.loop (.seq (.seq (.reg 30 [.p zo3,
   .p qO,
   .p zo0,
   .s .d0 .d3 zX])
 (.cond dO .skip (.exit 0)))
 (.block 1 (.seq (.reg 118 [.p HZ,
   .p Aa,
   .p (.H (.call 19 [aN])),
   .s .d0 .d5 zo7,
   .s .d0 .d6 zo7])
 (.block 2 (.seq (.reg 2 [.s .d0 .d4 (.H (.call 22 [aN,(.c (.str 1 42))]))])
 (.cond fH (.reg 36 [.p (.H (.call 101 [aN,dP])),
   .s .d0 .d1 (.H (.call 86 [zl0,fB,zc45,iE]))]) (.seq (.reg 2 [.s .d0 .d7 (.H (.call 22 [aN,(.c (.str 1 47))]))])
 (.cond fJ (.reg 36 [.p (.H (.call 101 [aN,dP])),
   .s .d0 .d1 (.H (.call 86 [zl0,fB,zc46,iE]))]) (.seq (.reg 2 [.s .d1 .d0 (.H (.call 22 [aN,(.c (.str 1 37))]))])
 (.cond iZ (.reg 36 [.p (.H (.call 101 [aN,dP])),
   .s .d0 .d1 (.H (.call 86 [zl0,fB,zc9,iE]))]) (.seq (.reg 2 [.s .d0 .d2 nK])
 .ret)))))))))))))
 (.seq (.reg 2 [.s .d0 .d2 nK])
 .ret))))⟩
def i98:Fun:=
 ⟨1,[0,2],[.tmp .d0 .d1],(.seq (.reg 1 [.s .d0 .d1 zo1])
 (.seq (.reg 124 [.p (.L (.fn 106 [aN] [])),
   .p (.L (.build [.str 0 0, .int .i64 0] [(0,1,(.c (.str 1 43))),(1,1,zc47)])),
   .p (.L (.build [.str 0 0, .int .i64 0] [(0,1,NA),(1,1,zc48)])),
   .p zo209,
   .s .d0 .d1 (.H (.call 105 [aN,zl3,zl0]))])
 .ret))⟩
def i99:Fun:=
 ⟨2,[0,1,4,5,6,15,14,16,13,25],[.cell .d0 .d2 (some 2), .tmp .d0 .d3, .tmp .d0 .d4],(.seq (.reg 7 [.s .d0 .d2 Lr,
   .s .d0 .d3 zo1,
   .s .d0 .d4 zo4])
 (.seq (.reg 62 [.p zo3,
   .p zo8,
   .p zo0,
   .p (.H (.call 36 [zl0])),
   .s .d0 .d3 zZ])
 (.seq .skip
 (.seq (.seq (.reg 7 [.s .d1 .d0 nK,
   .s .d0 .d6 pF,
   .s .d0 .d5 zo1])
 (.block 0 (.loop (.seq (.reg 1 [.s .d0 .d7 (.L (.bin .lss fB iE))])
 (.seq (.cond fJ .skip (.exit 0))
 (.seq (.block 1 (.seq (.reg 7 [.p (.L (.bT 2 iZ fB)),
   .p (.L (.aY 2 zl0)),
   .p (.H (.store 2 fE zl0))])
 (.seq (.draw [0,1,2,3,4,5,6] [⟨.p zo2,[]⟩,
   ⟨.p zo5,[]⟩,
   ⟨.p zo8,[]⟩,
   ⟨.p zo0,[]⟩,
   ⟨.p (.L (.aA 0 fE)),[]⟩,
   ⟨.p zo0,[]⟩,
   ⟨.s .d1 .d1 (.H (.call 38 [zl2,zl0])),[]⟩])
 (.cond qw (.seq (.reg 1 [.s .d0 .d4 Ce])
 (.exit 0)) .skip))))
 (.reg 1 [.s .d0 .d5 Rc])))))))
 (.seq (.reg 9 [.p (.L (.aY 2 fE)),
   .p (.H (.store 2 fE zl0))])
 .ret)))))⟩
def i100:Fun:=
 ⟨2,[0,1,4,3],[.tmp .d0 .d2],(.seq (.reg 3 [.s .d0 .d3 (.L (.box 7 dP)),
   .s .d0 .d2 zo1])
 (.seq (.draw [0,1,2,3,4,5,6,7,8,9,10] [⟨.p zo2,[]⟩,
   ⟨.p zo2,[]⟩,
   ⟨.p zo5,[]⟩,
   ⟨.p zo6,[]⟩,
   ⟨.p zo0,[]⟩,
   ⟨.p (.L (.aY 7 dO)),[]⟩,
   ⟨.p Rp,[]⟩,
   ⟨.p (.H (.append 7 72 zl2 zl0)),[]⟩,
   ⟨.p (.L (.nilck zl7)),[]⟩,
   ⟨.p zo6,[]⟩,
   ⟨.p (.H (.store 1 zl0 zl2)),[]⟩])
 (.seq (.reg 62 [.p zo3,
   .p zo6,
   .p zo0,
   .p pF,
   .s .d0 .d2 Aa])
 .ret)))⟩
def i101:Fun:=
 ⟨2,[0,1,4,13,25,5,34,6,59,77,97,7,8],[.tmp .d0 .d2],(.seq (.reg 1 [.s .d0 .d2 lH])
 (.seq (.seq (.reg 30 [.p zo3,
   .p qO,
   .p zo0,
   .s .d0 .d3 FC])
 (.cond dO (.seq (.reg 2 [.s .d0 .d2 nK])
 .ret) .skip))
 (.seq (.draw [0,1,2,3,4,5,6,7,8,9,10,11] [⟨.p zo2,[]⟩,
   ⟨.p zo5,[]⟩,
   ⟨.p zo8,[]⟩,
   ⟨.p zo0,[]⟩,
   ⟨.p zo2,[]⟩,
   ⟨.p zo5,[]⟩,
   ⟨.p zo6,[]⟩,
   ⟨.p zo0,[]⟩,
   ⟨.p Dt,[]⟩,
   ⟨.p Kg,[]⟩,
   ⟨.s .d0 .d5 H9,[]⟩,
   ⟨.p (.H (.store 3 zl0 zl1)),[]⟩])
 (.seq (.block 0 (.seq (.reg 58 [.p (.H (.call 21 [aN,NA])),
   .g zl0 false zo2,
   .g zl1 false (.H (.call 21 [zl0,(.c (.str 1 33))])),
   .s .d0 .d4 FD])
 (.cond fH (.seq (.reg 1 [.s .d0 .d7 (.L (.mov Hw))])
 (.seq (.seq (.reg 7 [.p H8,
   .p zo0,
   .s .d0 .d6 (.L (.bins .eql zl0 (.c (.str 1 33))))])
 (.cond iE (.reg 1 [.s .d0 .d7 (.L (.mov Hy))]) .skip))
 (.seq (.reg 14 [.p H8,
   .p zo0,
   .p (.H (.call 66 [aN,zl0]))])
 (.seq (.reg 4 [.s .d0 .d1 (.H (.call 101 [aN,dP]))])
 (.seq (.reg 254 [.p zo3,
   .p o9,
   .p zo0,
   .p Aa,
   .p zo3,
   .p o9,
   .p (.H (.store 1 zl0 zl2))])
 (.seq (.reg 1016 [.p HZ,
   .p Aa,
   .p Kj,
   .p zo0,
   .p (.L (.build [.int .i64 0, .int .i64 0, .str 0 0, .str 0 0, .int .i64 0, .int .i64 0, .int .i64 0] [(0,1,fJ),(4,1,zl2),(5,1,zc7),(6,1,zl0)])),
   .p Rp,
   .s .d0 .d2 (.H (.append 7 72 dP zl0))])
 .ret)))))) (.seq (.reg 2 [.s .d1 .d0 (.H (.call 21 [aN,Ka]))])
 (.cond iZ (.seq (.reg 2 [.p (.H (.call 66 [aN,Ka]))])
 (.seq (.reg 4 [.s .d0 .d1 (.H (.call 76 [aN,dP]))])
 (.seq (.reg 2 [.p (.H (.call 18 [aN,Hz]))])
 (.seq (.reg 254 [.p zo3,
   .p o9,
   .p zo0,
   .p Aa,
   .p zo3,
   .p o9,
   .p (.H (.store 1 zl0 zl2))])
 (.seq (.reg 2 [.s .d0 .d2 nK])
 .ret))))) (.seq (.reg 7 [.p (.L (.aA 0 fB)),
   .p zo0,
   .s .d1 .d1 Rq])
 (.cond qw (.seq (.reg 254 [.p zo3,
   .p zo6,
   .p zo0,
   .p ze,
   .p zo3,
   .p zo6,
   .p (.H (.store 1 zl0 zl2))])
 (.seq (.draw [0,1,2,4,5,3,6,7,8,9] [⟨.p nK,[]⟩,
   ⟨.p H8,[]⟩,
   ⟨.p zo0,[]⟩,
   ⟨.p Kj,[]⟩,
   ⟨.p zo0,[]⟩,
   ⟨.p (.H (.call 52 [zl2])),[0]⟩,
   ⟨.p (.L (.build [.int .i64 0, .int .i64 0, .str 0 0, .str 0 0, .int .i64 0, .int .i64 0, .int .i64 0] [(0,1,zc2),(1,1,zl0),(4,1,zc7),(5,1,zc7),(6,1,zl1)])),[]⟩,
   ⟨.p Rp,[]⟩,
   ⟨.p (.H (.append 7 72 zl7 zl0)),[]⟩,
   ⟨.s .d0 .d2 o8,[]⟩])
 .ret)) (.seq (.reg 7 [.p (.L (.aA 0 fB)),
   .p zo0,
   .s .d1 .d2 (.L (.bin .eql zl0 zc2))])
 (.cond r9 (.seq (.reg 122 [.p (.H (.call 75 [aN])),
   .p mh,
   .p mo,
   .s .d1 .d3 zo7,
   .s .d1 .d4 zo7])
 (.seq (.reg 248 [.p Kj,
   .p zo0,
   .p (.L (.build [.int .i64 0, .int .i64 0, .str 0 0, .str 0 0, .int .i64 0, .int .i64 0, .int .i64 0] [(0,1,zc6),(2,1,yt),(3,1,pE),(4,1,zc7),(5,1,zc7),(6,1,zl0)])),
   .p Rp,
   .s .d0 .d2 (.H (.append 7 72 dP zl0))])
 .ret)) .skip)))))))))
 (.seq (.reg 2 [.p (.H (.call 33 [aN,Dq]))])
 (.seq (.reg 2 [.s .d0 .d2 nK])
 .ret))))))⟩
def i105:Fun:=
 ⟨3,[0,1,2,6,10,22,7,8,11,9],[.tmp .d0 .d3],(.seq (.reg 1 [.s .d0 .d3 zo1])
 (.seq (.reg 2 [.s .d0 .d6 (.H (.ji dP []))])
 (.block 0 (.loop (.block 1 (.seq (.reg 2036 [.p (.H (.call 99 [aN,fE])),
   .p mh,
   .p mo,
   .p wW,
   .s .d0 .d7 Lr,
   .p (.H (.store 2 zl0 zl3)),
   .s .d1 .d1 Fu,
   .s .d0 .d4 Fu])
 (.seq (.seq (.reg 2 [.s .d0 .d5 (.L (.not fH))])
 (.cond fB (.seq (.reg 2 [.s .d0 .d3 Fv])
 .ret) .skip))
 (.seq (.reg 2 [.s .d1 .d0 (.H (.ji dP []))])
 (.reg 198 [.p (.L (.aA 1 fJ)),
   .p zo0,
   .p (.L (.build [.int .i64 0, .int .i64 0, .str 0 0, .str 0 0, .int .i64 0, .int .i64 0, .int .i64 0] [(0,1,zl0),(4,1,iE),(5,1,iZ),(6,1,qw)])),
   .s .d0 .d6 (.H (.call 100 [aN,zl0]))])))))))))⟩
def i106:Fun:=
 ⟨1,[0,2],[.tmp .d0 .d1],(.seq (.reg 1 [.s .d0 .d1 zo1])
 (.seq (.reg 252 [.p (.L (.fn 108 [aN] [])),
   .p (.L (.build [.str 0 0, .int .i64 0] [(0,1,(.c (.str 1 42))),(1,1,zc45)])),
   .p (.L (.build [.str 0 0, .int .i64 0] [(0,1,(.c (.str 1 47))),(1,1,zc46)])),
   .p (.L (.build [.str 0 0, .int .i64 0] [(0,1,(.c (.str 1 37))),(1,1,zc9)])),
   .p zo208,
   .s .d0 .d1 (.H (.call 105 [aN,zl4,zl0]))])
 .ret))⟩
def i108:Fun:=
 ⟨1,[0,2,20,19,21,18,5,30,6,3,70,7,110,8,9],[.tmp .d0 .d1],(.seq (.reg 1 [.s .d0 .d1 zo1])
 (.seq (.reg 62 [.p zo3,
   .p zo8,
   .p zo0,
   .p (.H (.call 36 [zl0])),
   .s .d1 .d1 zZ])
 (.seq (.seq (.reg 31 [.p (.L (.build [.str 0 0, .int .i64 0] [(0,1,NA),(1,1,Hw)])),
   .p (.L (.build [.str 0 0, .int .i64 0] [(0,1,(.c (.str 1 33))),(1,1,Hy)])),
   .s .d0 .d5 zo209,
   .s .d0 .d3 pF,
   .s .d0 .d2 zo1])
 (.block 0 (.loop (.seq (.reg 1 [.s .d0 .d4 (.L (.bin .lss fE dO))])
 (.seq (.cond fH .skip (.exit 0))
 (.seq (.block 1 (.seq (.reg 15 [.p (.L (.bT 2 fB fE)),
   .p (.L (.aY 2 zl0)),
   .s .d0 .d6 Lr,
   .p (.H (.store 2 zl0 zl1))])
 (.seq (.draw [0,1,2,3,4,5,6] [⟨.p zo2,[]⟩,
   ⟨.p zo5,[]⟩,
   ⟨.p zo8,[]⟩,
   ⟨.p zo0,[]⟩,
   ⟨.p (.L (.aA 0 iE)),[]⟩,
   ⟨.p zo0,[]⟩,
   ⟨.s .d0 .d7 (.H (.call 56 [zl2,zl0])),[]⟩])
 (.cond fJ (.seq (.reg 30 [.p zo3,
   .p zo8,
   .p zo0,
   .p (.H (.call 73 [zl0]))])
 (.seq (.reg 2046 [.p zo3,
   .p zo8,
   .p zo0,
   .p zo5,
   .p zo6,
   .p zo0,
   .p ze,
   .p (.L (.nilck zl4)),
   .p zo6,
   .p (.H (.store 1 zl0 zl2))])
 (.seq (.reg 2 [.s .d1 .d0 (.H (.call 108 [aN]))])
 (.seq (.reg 2046 [.p zo3,
   .p zo8,
   .p zo0,
   .p zo5,
   .p o9,
   .p zo0,
   .p Aa,
   .p (.L (.nilck zl4)),
   .p o9,
   .p (.H (.store 1 zl0 zl2))])
 (.seq (.reg 102 [.p (.L (.aA 1 iE)),
   .p zo0,
   .p (.L (.build [.int .i64 0, .int .i64 0, .str 0 0, .str 0 0, .int .i64 0, .int .i64 0, .int .i64 0] [(0,1,zl0),(4,1,iZ),(5,1,zc7),(6,1,qw)])),
   .s .d0 .d1 (.H (.call 100 [aN,zl0]))])
 .ret))))) .skip))))
 (.reg 1 [.s .d0 .d2 RB])))))))
 (.seq (.seq (.reg 30 [.p zo3,
   .p zo8,
   .p zo0,
   .s .d1 .d2 (.H (.call 56 [zl0,Ka]))])
 (.cond r9 (.seq (.reg 30 [.p zo3,
   .p zo8,
   .p zo0,
   .p (.H (.call 73 [zl0]))])
 (.seq (.reg 2046 [.p zo3,
   .p zo8,
   .p zo0,
   .p zo5,
   .p zo6,
   .p zo0,
   .p ze,
   .p (.L (.nilck zl4)),
   .p zo6,
   .p (.H (.store 1 zl0 zl2))])
 (.seq (.reg 2 [.s .d1 .d3 (.H (.call 92 [aN]))])
 (.seq (.reg 30 [.p zo3,
   .p zo8,
   .p zo0,
   .p (.H (.call 35 [zl0,Hz]))])
 (.seq (.reg 2046 [.p zo3,
   .p zo8,
   .p zo0,
   .p zo5,
   .p o9,
   .p zo0,
   .p Aa,
   .p (.L (.nilck zl4)),
   .p o9,
   .p (.H (.store 1 zl0 zl2))])
 (.seq (.reg 2 [.s .d0 .d1 zo88])
 .ret)))))) .skip))
 (.seq (.seq (.reg 126 [.p zo3,
   .p zo8,
   .p zo0,
   .p (.H (.call 36 [zl0])),
   .p Rx,
   .s .d1 .d4 Rq])
 (.cond pE (.seq (.reg 444 [.p zo3,
   .p zo8,
   .p zo0,
   .p (.H (.call 61 [zl0])),
   .p (.L (.build [.int .i64 0, .int .i64 0, .str 0 0, .str 0 0, .int .i64 0, .int .i64 0, .int .i64 0] [(0,1,zc2),(1,1,zl0),(4,1,zc7),(5,1,zc7),(6,1,qw)])),
   .s .d0 .d1 (.H (.call 100 [aN,zl0]))])
 .ret) .skip))
 (.seq (.reg 990 [.p zo3,
   .p zo8,
   .p zo0,
   .p (.H (.call 84 [zl0])),
   .p mh,
   .p mo,
   .s .d1 .d5 zo7,
   .s .d1 .d6 zo7])
 (.seq (.reg 48 [.p (.L (.build [.int .i64 0, .int .i64 0, .str 0 0, .str 0 0, .int .i64 0, .int .i64 0, .int .i64 0] [(0,1,zc6),(2,1,vE),(3,1,JV),(4,1,zc7),(5,1,zc7),(6,1,qw)])),
   .s .d0 .d1 (.H (.call 100 [aN,zl0]))])
 .ret)))))))⟩
def d16:mJ:=
 ⟨2,[0,1,4,5,6],(.reg 7 [.s .d0 .d2 (.L (.alloc [.slN])),
   .s .d0 .d3 Rl,
   .s .d0 .d4 Rl]),34,[fE,dO,fH],252,[.p zo211,
   .p (.L (.box 3 zl0)),
   .p (.H (.ji dP [zl0])),
   .p (.H (.store 1 fE zl0)),
   .p (.H (.store 1 dO zc0)),
   .p (.H (.store 1 fH zc0))],[],[.cell .d0 .d2 none, .cell .d0 .d3 none, .cell .d0 .d4 none],[0,1,2,7,9,11,12,5,4,6],3,(.block 0 (.seq (.reg 1 [.s .d0 .d4 (.L (.eq false .ifc dO Kc))])
 (.cond fH (.reg 0 []) (.seq (.reg 7 [.p zo214,
   .s .d0 .d5 (.L (.ext 1 zl0)),
   .s .d0 .d6 (.L (.ext 0 zl1))])
 (.cond fB (.seq (.reg 3 [.s .d1 .d0 (.L (.alloc [.int .i64 0, .int .i64 0])),
   .p (.H (.store 2 zl0 iE))])
 (.seq (.reg 1 [.s .d0 .d7 lH])
 (.draw [0,1,2,3,4,5,6,7] [⟨.p wY,[]⟩,
   ⟨.p (.L (.aA 0 iZ)),[]⟩,
   ⟨.p zo0,[]⟩,
   ⟨.p (.L (.aA 1 iZ)),[]⟩,
   ⟨.p zo0,[]⟩,
   ⟨.p (.H (.store 1 aN zl4)),[2,0]⟩,
   ⟨.p (.H (.store 1 dP zl3)),[1]⟩,
   ⟨.p (.H (.store 1 fE zl2)),[]⟩]))) (.seq (.reg 1 [.s .d1 .d1 Ck])
 (.reg 2 [.p (.H (.panic qw))])))))))⟩
def d25:mJ:=
 ⟨2,[0,1,4,5,6],(.reg 7 [.s .d0 .d2 zW,
   .s .d0 .d3 Rl,
   .s .d0 .d4 Rl]),49,[fE,dO,fH],252,[.p zo211,
   .p (.L (.box 3 zl0)),
   .p (.H (.ji dP [zl0])),
   .p (.H (.store 5 fE zl0)),
   .p (.H (.store 1 dO zc0)),
   .p (.H (.store 1 fH zc0))],[],[.cell .d0 .d2 (some 5), .cell .d0 .d3 none, .cell .d0 .d4 none],[0,1,2,7,9,11,12,5,4,6],3,(.block 0 (.seq (.reg 1 [.s .d0 .d4 (.L (.eq false .ifc dO Kc))])
 (.cond fH (.reg 0 []) (.seq (.reg 7 [.p zo214,
   .s .d0 .d5 (.L (.ext 1 zl0)),
   .s .d0 .d6 (.L (.ext 0 zl1))])
 (.cond fB (.seq (.reg 3 [.s .d1 .d0 (.L (.alloc [.int .i64 0, .int .i64 0])),
   .p (.H (.store 2 zl0 iE))])
 (.seq (.reg 1 [.s .d0 .d7 zW])
 (.draw [0,1,2,3,4,5,6,7] [⟨.p (.L (.aY 5 fJ)),[]⟩,
   ⟨.p (.L (.aA 0 iZ)),[]⟩,
   ⟨.p zo0,[]⟩,
   ⟨.p (.L (.aA 1 iZ)),[]⟩,
   ⟨.p zo0,[]⟩,
   ⟨.p (.H (.store 5 aN zl4)),[2,0]⟩,
   ⟨.p (.H (.store 1 dP zl3)),[1]⟩,
   ⟨.p (.H (.store 1 fE zl2)),[]⟩]))) (.seq (.reg 1 [.s .d1 .d1 Ck])
 (.reg 2 [.p (.H (.panic qw))])))))))⟩
def n1 {α:Type}:R8 (Option α):=R8.all none
def n2 {α:Type}:R8 (R8 (Option α)):=R8.all n1
def bf:T Fun:=⟨⟨⟨⟨none,none,none,(some i3),(some i4),(some i5),(some i6),(some i7)⟩,⟨(some i8),(some i9),(some i10),(some i11),(some i12),(some i13),(some i14),(some i15)⟩,⟨none,(some i17),(some i18),(some i19),(some i20),(some i21),(some i22),(some i23)⟩,⟨(some i24),none,(some i26),(some i27),(some i28),(some i29),(some i30),(some i31)⟩,⟨(some i32),(some i33),none,(some i35),(some i36),(some i37),(some i38),(some i39)⟩,⟨(some i40),(some i41),(some i42),(some i43),(some i44),(some i45),(some i46),(some i47)⟩,⟨(some i48),none,(some i50),(some i51),(some i52),(some i53),(some i54),(some i55)⟩,⟨(some i56),(some i57),(some i58),(some i59),(some i60),(some i61),(some i62),(some i63)⟩⟩,⟨⟨(some i64),(some i65),(some i66),(some i67),(some i68),(some i69),(some i70),none⟩,⟨(some i72),(some i73),(some i74),(some i75),(some i76),(some i77),(some i78),none⟩,⟨(some i80),none,(some i82),(some i83),(some i84),(some i85),(some i86),none⟩,⟨none,none,none,none,(some i92),(some i93),none,none⟩,⟨none,none,(some i98),(some i99),(some i100),(some i101),none,none⟩,⟨none,(some i105),(some i106),none,(some i108),none,none,none⟩,⟨none,none,none,none,none,none,none,none⟩,n1⟩,⟨n1,n1,⟨none,none,none,none,none,none,none,none⟩,n1,n1,n1,n1,n1⟩,n2,n2,n2,n2,n2⟩,none, .mt⟩
def jA:T mJ:=⟨⟨⟨n1,n1,⟨(some d16),none,none,none,none,none,none,none⟩,⟨none,(some d25),none,none,none,none,none,none⟩,n1,n1,n1,n1⟩,n2,n2,n2,n2,n2,n2,n2⟩,none, .mt⟩
end
end Go.Eng.YtjobofnpmmjeoaaGreatDoor
