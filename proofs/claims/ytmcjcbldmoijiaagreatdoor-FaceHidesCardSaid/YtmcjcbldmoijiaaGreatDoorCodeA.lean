/- Part of a proof of a law: rules of an evaluator, contracts, plain laws. No condition of its own. -/
import Derived.Test.YtmcjcbldmoijiaaGreatDoorEngB
set_option linter.unusedVariables false
set_option linter.unusedSimpArgs false
set_option maxRecDepth 100000
namespace Go.Eng.YtmcjcbldmoijiaaGreatDoor
open Go.Eng
noncomputable section
abbrev bb:A:= .t .d0 .d0
abbrev cP:A:= .t .d0 .d3
abbrev cm:A:= .t .d0 .d1
abbrev cT:A:= .t .d0 .d2
abbrev c3:A:= .t .d0 .d5
abbrev dx:A:= .t .d0 .d7
abbrev eg:A:= .t .d0 .d4
abbrev c9:A:= .t .d0 .d6
abbrev eh:A:= .t .d1 .d0
abbrev fE:A:= .t .d1 .d4
abbrev gn:A:= .t .d1 .d5
abbrev hP:A:= .t .d1 .d6
abbrev iL:A:= .t .d1 .d1
abbrev iV:A:= .t .d1 .d2
abbrev hq:A:= .t .d1 .d3
abbrev ml:A:= .t .d1 .d7
abbrev lE:A:= .t .d2 .d1
abbrev rE:A:= .t .d2 .d3
abbrev ou:A:= .t .d2 .d0
abbrev qw:A:= .t .d2 .d2
abbrev vC:A:= .t .d2 .d4
abbrev xr:A:= .t .d2 .d6
abbrev ai:A:= .l 0
abbrev bo:A:= .l 1
abbrev b6:A:= .l 2
abbrev cU:A:= .l 3
abbrev fT:A:= .l 4
abbrev hs:A:= .l 5
abbrev nK:A:= .l 7
abbrev kG:A:= .l 6
abbrev px:A:= .l 8
abbrev xt:A:= .l 9
abbrev xu:A:= .l 10
abbrev gY:A:= .c (.int .i64 0)
abbrev fi:A:= .c (.int .i64 1)
abbrev j7:A:= .c (.bool false)
abbrev sV:A:= .c (.U)
abbrev mm:A:= .c (.bool true)
abbrev k3:A:= .c (.int .i64 2)
abbrev Fh:A:= .c (.str 0 0)
abbrev O1:A:= .c (.str 200 9938655150514779720929161263213647789093395803754561035662628441001274968862597953692946393464194303251501229616933063375291039650253924995779037586872666250072396106842829501851083234932712366962979930255066872747696324303968523733872590022915936937156789320557469720923390131174387415513794469201054844961267015441141542819553679203788501627738430154234325528792480477051962324423099068299719245009424585859096469223093538032153047611602695245052081125123941502624659711709950000)
abbrev sW:A:= .c (.int .i64 4)
abbrev rF:A:= .c (.int .i64 10)
abbrev uq:A:= .c (.int .i64 (-1))
abbrev vD:A:= .c (.int .u32 100)
abbrev xv:A:= .c (.int .i64 8)
abbrev xw:A:= .c (.int .i64 3)
abbrev YA:A:= .c (.int .u32 2)
abbrev YB:A:= .c (.int .u32 1)
abbrev zv:A:= .c (.int .i64 9)
abbrev zw:A:= .c (.int .i64 11)
abbrev zx:A:= .c (.jG)
abbrev B7:A:= .c (.str 1 59)
abbrev B8:A:= .c (.int .u8 45)
abbrev B9:A:= .c (.str 1 61)
abbrev Ca:A:= .c (.str 1 41)
abbrev Cb:A:= .c (.str 36 237927390410950444456928663707796224754864904193074819559483181009558347043374296609072)
abbrev Fi:A:= .c (.int .u8 48)
abbrev Fj:A:= .c (.str 1 40)
abbrev Fk:A:= .c (.str 1 125)
abbrev Fl:A:= .c (.int .i64 6)
abbrev Fm:A:= .c (.int .i64 7)
abbrev Fo:A:= .c (.int .u32 10000)
abbrev aV:Op:= .L (.load ai)
abbrev cj:Op:= .L (.cV gY)
abbrev cw:Op:= .L (.cV bb)
abbrev eE:Op:= .L (.cV sV)
abbrev fa:Op:= .L (.cV bo)
abbrev fO:Op:= .L (.len false ai)
abbrev fU:Op:= .L (.oY bb)
abbrev gE:Op:= .L (.cV j7)
abbrev gP:Op:= .L (.oY ai)
abbrev ic:Op:= .L (.bK 1 ai)
abbrev iM:Op:= .L (.ext 0 ai)
abbrev iN:Op:= .L (.ext 1 bo)
abbrev iO:Op:= .L (.len false bb)
abbrev iP:Op:= .L (.bK 0 ai)
abbrev iW:Op:= .L (.cV cm)
abbrev iX:Op:= .L (.bY 1 bo ai)
abbrev jq:Op:= .L (.cV ai)
abbrev j8:Op:= .L (.not ai)
abbrev j9:Op:= .L (.cV cT)
abbrev kH:Op:= .L (.cV cP)
abbrev k4:Op:= .L (.bK 3 ai)
abbrev lF:Op:= .L (.cV b6)
abbrev lG:Op:= .L (.cV eg)
abbrev mn:Op:= .L (.bK 0 cP)
abbrev mo:Op:= .L (.cV dx)
abbrev mS:Op:= .L (.bin .eql ai gY)
abbrev mT:Op:= .L (.bin .sub ai fi)
abbrev mU:Op:= .L (.cV c3)
abbrev ov:Op:= .L (.cV Fh)
abbrev ow:Op:= .L (.kT O1 ai)
abbrev py:Op:= .L (.cV c9)
abbrev pz:Op:= .L (.bin .add cP fi)
abbrev qx:Op:= .L (.cV eh)
abbrev rG:Op:= .L (.bK 2 ai)
abbrev sX:Op:= .L (.cV mm)
abbrev sY:Op:= .L (.len true bb)
abbrev ur:Op:= .L (.pick cU mm ai)
abbrev uu:Op:= .L (.bY 3 fT ai)
abbrev vE:Op:= .L (.alloc [.U, .U])
abbrev vF:Op:= .L (.da 4 ai)
abbrev vG:Op:= .L (.alloc [.U, .U, .U, .U, .int .i64 0, .int .i64 0])
abbrev vH:Op:= .L (.len false cm)
abbrev vI:Op:= .L (.eS 1 1 [.str 0 0] [(0,1,ai)])
abbrev vJ:Op:= .L (.cV ml)
abbrev vK:Op:= .L (.pick b6 mm ai)
abbrev vL:Op:= .L (.conv .i64 ai)
abbrev xx:Op:= .L (.bin .neq ai gY)
abbrev xy:Op:= .L (.build [.U, .U, .U, .U, .int .i64 0, .int .i64 0] [])
abbrev xA:Op:= .L (.cV gn)
abbrev xB:Op:= .L (.pick b6 ai j7)
abbrev xC:Op:= .L (.kT bo ai)
abbrev xD:Op:= .L (.da 3 ai)
abbrev xE:Op:= .L (.bin .lss cP ai)
abbrev xF:Op:= .L (.cV hP)
abbrev xG:Op:= .L (.bin .mul ai YA)
abbrev xH:Op:= .L (.bin .add ai YB)
abbrev xI:Op:= .L (.bY 1 xu px)
abbrev xJ:Op:= .L (.bY 1 xt nK)
abbrev zy:Op:= .L (.ext 2 b6)
abbrev zz:Op:= .L (.alloc [.str 0 0, .int .i64 0, .U, .U, .U])
abbrev zA:Op:= .L (.bin .add dx fi)
abbrev zB:Op:= .L (.bK 0 eg)
abbrev zC:Op:= .L (.bK 7 ai)
abbrev zD:Op:= .L (.alloc [.str 0 0, .str 0 0, .int .i64 0, .int .i64 0])
abbrev zE:Op:= .L (.alloc [.str 0 0, .U, .bool false, .str 0 0, .str 0 0, .U, .U, .int .i64 0])
abbrev zF:Op:= .L (.alloc [.str 0 0, .U, .bool false, .str 0 0, .str 0 0, .U])
abbrev zG:Op:= .L (.bin .lss cP eg)
abbrev zH:Op:= .L (.bK 3 cP)
abbrev zI:Op:= .L (.bY 1 b6 ai)
abbrev zJ:Op:= .L (.bin .add ai fi)
abbrev zK:Op:= .L (.da 12 cP)
abbrev Cc:Op:= .L (.cV fE)
abbrev Cd:Op:= .L (.pick fT ai j7)
abbrev Ce:Op:= .L (.oY c9)
abbrev Cf:Op:= .L (.bK 1 fE)
abbrev Cg:Op:= .L (.bK 1 cP)
abbrev Ch:Op:= .L (.cV iL)
abbrev Ci:Op:= .L (.pick hs mm ai)
abbrev Cj:Op:= .L (.bin .add iL fi)
abbrev Ck:Op:= .L (.bin .add eg fi)
abbrev Cl:Op:= .L (.cV k3)
abbrev Cm:Op:= .L (.pick fT mm ai)
abbrev Cn:Op:= .L (.bK 0 cT)
abbrev Co:Op:= .L (.bK 1 dx)
abbrev Cp:Op:= .L (.cV fi)
abbrev Cq:Op:= .L (.cV rE)
abbrev Cr:Op:= .L (.bK 2 cT)
abbrev Cs:Op:= .L (.load eg)
abbrev Ct:Op:= .L (.bin .add cT fi)
abbrev Cu:Op:= .L (.bK 1 c3)
abbrev Cv:Op:= .L (.bK 8 cP)
abbrev Cw:Op:= .L (.bin .sub fE fi)
abbrev Cx:Op:= .L (.si 65 1 hP fE)
abbrev Fp:Op:= .L (.pick cU ai j7)
abbrev Fq:Op:= .L (.bK 0 fE)
abbrev Fs:Op:= .L (.da 8 ai)
abbrev Ft:Op:= .L (.bY 4 bo ai)
abbrev Fu:Op:= .L (.da 6 ai)
abbrev Fv:Op:= .L (.pick kG mm ai)
abbrev Fw:Op:= .L (.bin .lss eg ai)
abbrev Fx:Op:= .L (.bK 0 iV)
abbrev Fy:Op:= .L (.bK 1 cT)
abbrev Fz:Op:= .L (.bin .lss iL iV)
abbrev FA:Op:= .L (.bin .lss c3 ai)
abbrev FB:Op:= .L (.bin .add c3 fi)
abbrev FC:Op:= .L (.eS 3 1 [.int .i64 0, .str 0 0, .int .i64 0] [(0,3,ai)])
abbrev FD:Op:= .L (.bK 2 cP)
abbrev FE:Op:= .L (.bK 4 cT)
abbrev FF:Op:= .L (.alloc [.str 0 0, .str 0 0, .int .i64 0])
abbrev FG:Op:= .L (.bY 1 bb cP)
abbrev FH:Op:= .L (.alloc [.int .i64 0, .str 0 0, .int .i64 0])
abbrev FI:Op:= .L (.bK 2 c3)
abbrev FJ:Op:= .L (.pick nK ai j7)
abbrev FK:Op:= .L (.conv .u8 ai)
abbrev FL:Op:= .L (.conv .u64 cT)
abbrev FM:Op:= .L (.eS 7 1 [.int .i64 0, .int .i64 0, .str 0 0, .str 0 0, .int .i64 0, .int .i64 0, .int .i64 0] [(0,7,ai)])
abbrev JP:Op:= .L (.bin .lss dx ai)
abbrev JQ:Op:= .L (.bin .neq eg gY)
abbrev JR:Op:= .L (.pick hs ai j7)
abbrev JS:Op:= .L (.build [.U, .U] [])
abbrev JT:Op:= .L (.eS 4 1 [.str 0 0, .str 0 0, .int .i64 0, .int .i64 0] [(0,4,ai)])
abbrev JU:Op:= .L (.pick nK mm ai)
abbrev JV:Op:= .L (.e8 .neq b6 ai)
abbrev JW:Op:= .L (.e8 .neq ai Fh)
abbrev JX:Op:= .L (.pick (.l 12) ai j7)
abbrev JY:Op:= .L (.bin .lss cT ai)
abbrev JZ:Op:= .L (.pick kG ai j7)
abbrev J0:Op:= .L (.bY 1 bb c9)
abbrev J1:Op:= .L (.n3 bb (some cm) (some ai))
abbrev J2:Op:= .L (.eS 3 1 [.str 0 0, .str 0 0, .int .i64 0] [(0,3,ai)])
abbrev J3:Op:= .L (.bY 3 bb cP)
abbrev J4:Op:= .L (.bin .sub ai sW)
abbrev J5:Op:= .L (.bin .lss bb gY)
abbrev J6:Op:= .L (.bin .add fi dx)
abbrev J7:Op:= .L (.alloc [.int .i64 0, .int .i64 0, .str 0 0, .str 0 0, .str 0 0, .bool false, .str 0 0, .str 0 0, .U, .U, .U, .U])
abbrev J8:Op:= .L (.bin .sub ai k3)
abbrev J9:Op:= .L (.bin .and bb ai)
abbrev O2:Op:= .L (.eS 12 1 [.int .i64 0, .int .i64 0, .str 0 0, .str 0 0, .str 0 0, .bool false, .str 0 0, .str 0 0, .U, .U, .U, .U] [(0,12,ai)])
abbrev O3:Op:= .L (.build [.str 0 0, .int .i64 0, .U, .U, .U] [])
abbrev O4:Op:= .L (.build [.U, .int .i64 0, .int .i64 0, .int .i64 0, .int .i64 0] [(0,1,dx)])
abbrev O5:Op:= .L (.eS 6 1 [.str 0 0, .U, .bool false, .str 0 0, .str 0 0, .U] [(0,6,ai)])
abbrev O6:Op:= .L (.eS 4 1 [.str 0 0, .int .i64 0, .int .i64 0, .str 0 0] [(0,4,ai)])
abbrev O7:Op:= .L (.u0 24 1 eh (some fi) (some ai) none)
abbrev O8:Op:= .L (.u0 65 1 hP (some fE) none none)
def i6:cd:=
 ⟨2,[0,1,4,6,26,5,10,11,45,8,12,9,13],[.tmp .d0 .d2],(.seq (.ad 1 [.s .d0 .d2 gE])
 (.seq (.ad 506 [.p (.H (.call 7 [bb])),
   .p iM,
   .p iN,
   .p zy,
   .s .d0 .d5 zz,
   .p (.H (.store 5 ai cU)),
   .s .d0 .d3 (.L (.cV cU))])
 (.seq (.seq (.ad 122 [.p (.L (.bin .neq cP gY)),
   .g ai false cw,
   .g bo false (.L (.len true ai)),
   .g b6 false (.L (.bin .gtr ai (.c (.int .i64 1500)))),
   .s .d0 .d4 ur])
 (.cond eg (.seq (.ad 1 [.s .d0 .d2 (.H (.call 8 []))])
 .ret) .skip))
 (.seq (.draw [0,1,7,2,3,4,5,6,8,9] [⟨.p (.L (.da 5 c3)),[]⟩,
   ⟨.p iW,[]⟩,
   ⟨.s .d1 .d1 vE,[]⟩,
   ⟨.p (.H (.call 10 [bo])),[2,0]⟩,
   ⟨.p (.H (.call 9 [cU,ai])),[1]⟩,
   ⟨.p jq,[]⟩,
   ⟨.p iM,[]⟩,
   ⟨.p iN,[]⟩,
   ⟨.p (.H (.store 2 hs bo)),[]⟩,
   ⟨.s .d1 .d3 fa,[]⟩])
 (.seq (.ad 7 [.p (.L (.da 5 c3)),
   .s .d0 .d6 zz,
   .p (.H (.store 5 ai bo))])
 (.seq (.ad 63 [.p (.L (.eS 8 0 [.str 0 0, .U, .bool false, .str 0 0, .str 0 0, .U, .U, .int .i64 0] [])),
   .p (.L (.bK 4 c3)),
   .p aV,
   .p (.H (.append 8 136 b6 ai)),
   .p (.L (.bK 4 c9)),
   .p (.H (.store 1 ai bo))])
 (.seq (.seq (.ad 1 [.s .d0 .d7 cj])
 (.block 0 (.loop (.seq (.seq (.ad 30 [.p (.L (.bK 4 c9)),
   .p aV,
   .p fO,
   .s .d1 .d0 JP])
 (.cond eh .skip (.exit 0)))
 (.seq (.block 1 (.ad 251 [.p (.L (.bK 4 c9)),
   .p aV,
   .p (.L (.build [.int .i64 0, .int .i64 0, .str 0 0, .str 0 0, .str 0 0, .bool false, .str 0 0, .str 0 0, .U, .U, .U, .U] [(0,1,xv)])),
   .p O2,
   .p (.L (.bY 8 b6 dx)),
   .p (.L (.bK 6 ai)),
   .p (.H (.store 1 ai b6))]))
 (.ad 2 [.s .d0 .d7 zA]))))))
 (.seq (.draw [0,1,7,2,3,4,5,6,8,9] [⟨.p (.L (.da 5 c9)),[]⟩,
   ⟨.p iW,[]⟩,
   ⟨.s .d1 .d2 vE,[]⟩,
   ⟨.p (.H (.call 10 [bo])),[2,0]⟩,
   ⟨.p (.H (.call 9 [cU,ai])),[1]⟩,
   ⟨.p jq,[]⟩,
   ⟨.p iM,[]⟩,
   ⟨.p iN,[]⟩,
   ⟨.p (.H (.store 2 hs bo)),[]⟩,
   ⟨.s .d1 .d4 fa,[]⟩])
 (.seq (.ad 1783 [.p (.L (.da 2 iL)),
   .p (.L (.da 2 iV)),
   .p (.H (.call 12 [bo,ai])),
   .g ai true (.L (.cV hq)),
   .g bo true Cc,
   .g b6 true (.H (.call 13 [bo,ai])),
   .p Fp,
   .g ai true (.H (.call 8 [])),
   .s .d0 .d2 (.L (.pick bo ai j7))])
 .ret)))))))))⟩
def i7:cd:=
 ⟨1,[0,2,3,4,6,17,7,5,8,30,9],[.cell .d0 .d1 (some 5), .tmp .d0 .d2, .tmp .d0 .d3],(.seq (.ad 7 [.s .d0 .d1 zz,
   .s .d0 .d2 cj,
   .s .d0 .d3 cj])
 (.seq (.ad 506 [.p (.H (.call 23 [bb])),
   .p iM,
   .p iN,
   .p zy,
   .s .d0 .d7 lF,
   .s .d0 .d4 lF,
   .s .d0 .d6 lF])
 (.seq (.seq (.ad 2 [.s .d0 .d5 JQ])
 (.cond c3 (.seq (.ad 57 [.p O3,
   .p (.H (.store 5 cm ai)),
   .s .d0 .d2 lG,
   .s .d0 .d3 py])
 .ret) .skip))
 (.seq (.ad 6 [.p O4,
   .s .d1 .d0 (.L (.box 5 ai))])
 (.seq (.ad 14 [.p (.H (.call 24 [eh])),
   .s .d1 .d2 zz,
   .p (.H (.store 5 ai bo))])
 (.seq (.seq (.ad 30 [.p (.L (.oY eh)),
   .p k4,
   .p aV,
   .s .d1 .d1 xx])
 (.cond iL (.seq (.draw [0,1,2,3,4,5,6,7,8,9,10,11] [⟨.p O3,[]⟩,
   ⟨.p qx,[]⟩,
   ⟨.p gP,[]⟩,
   ⟨.p k4,[]⟩,
   ⟨.p aV,[]⟩,
   ⟨.p qx,[]⟩,
   ⟨.p gP,[]⟩,
   ⟨.p (.L (.bK 4 ai)),[]⟩,
   ⟨.p aV,[]⟩,
   ⟨.p (.H (.store 5 cm px)),[4,0]⟩,
   ⟨.s .d0 .d2 (.L (.cV hs)),[]⟩,
   ⟨.s .d0 .d3 lF,[]⟩])
 .ret) .skip))
 (.seq (.ad 15 [.p (.L (.da 5 iV)),
   .p (.H (.store 5 cm ai)),
   .s .d0 .d2 cj,
   .s .d0 .d3 cj])
 .ret)))))))⟩
def i8:cd:=
 ⟨0,[0,1,2,4,3],[.tmp .d0 .d0],(.seq (.ad 1 [.s .d0 .d0 gE])
 (.seq (.ad 503 [.p (.L (.build [.str 0 0, .int .i64 0, .U, .U, .U] [(0,1,(.c (.str 1 109)))])),
   .p xy,
   .p (.H (.call 9 [bo,ai])),
   .p iM,
   .p iN,
   .s .d0 .d1 vE,
   .p (.H (.store 2 ai b6)),
   .s .d0 .d2 lF])
 (.seq (.ad 503 [.p (.L (.da 2 cm)),
   .p (.H (.call 15 [ai])),
   .p (.H (.call 14 [ai])),
   .p iM,
   .p iN,
   .s .d0 .d4 vE,
   .p (.H (.store 2 ai b6)),
   .s .d0 .d3 lF])
 (.seq (.ad 133152502 [.p (.L (.len false cT)),
   .p mS,
   .g ai true kH,
   .g bo true (.H (.call 16 [ai])),
   .g b6 true mS,
   .p Fp,
   .g ai true zB,
   .g bo true aV,
   .g b6 true fO,
   .g cU true mS,
   .p Cd,
   .g ai true (.L (.da 2 cm)),
   .g bo true (.H (.call 15 [ai])),
   .g b6 true fO,
   .g cU true (.L (.bin .eql ai zv)),
   .p Cd,
   .g ai true (.L (.eS 1 1 [.str 0 0] [(0,1,(.c (.str 1 97)))])),
   .g bo true (.L (.eS 1 1 [.str 0 0] [(0,1,(.c (.str 1 98)))])),
   .g b6 true (.L (.eS 1 1 [.str 0 0] [(0,1,(.c (.str 1 97)))])),
   .g cU true (.H (.call 17 [bo,ai])),
   .g fT true (.H (.call 21 [cU,ai])),
   .s .d0 .d0 JR])
 .ret))))⟩
def i9:cd:=
 ⟨2,[0,1,4,5,2,3,6,28,37,36,38,35,7,9,55,54,56,53,11],[.cell .d0 .d2 (some 2), .tmp .d0 .d3],(.seq (.ad 15 [.s .d0 .d4 (.L (.box 5 bb)),
   .s .d0 .d5 (.L (.box 6 cm)),
   .s .d0 .d2 vE,
   .s .d0 .d3 eE])
 (.seq (.ad 31 [.p zB,
   .p aV,
   .p (.L (.da 6 c3)),
   .p (.L (.build [.str 0 0, .U, .U, .U, .U, .int .i64 0, .int .i64 0, .U] [(0,1,bo),(1,6,ai)])),
   .s .d0 .d6 (.L (.box 8 ai))])
 (.seq (.ad 6 [.p (.L (.da 5 eg)),
   .p (.H (.call 25 [c9,ai]))])
 (.seq (.ad 6 [.p (.L (.da 5 eg)),
   .p (.H (.call 26 [c9,ai]))])
 (.seq (.seq (.ad 62 [.p Ce,
   .p zC,
   .p aV,
   .p fO,
   .s .d0 .d7 (.L (.bin .gtr ai gY))])
 (.cond dx (.seq (.draw [0,1,2,3,4,5,6] [⟨.p JS,[]⟩,
   ⟨.p py,[]⟩,
   ⟨.p gP,[]⟩,
   ⟨.p zC,[]⟩,
   ⟨.p aV,[]⟩,
   ⟨.p (.H (.store 2 cT fT)),[0]⟩,
   ⟨.s .d0 .d3 fa,[]⟩])
 .ret) .skip))
 (.seq (.ad 1 [.s .d1 .d4 vE])
 (.seq (.seq (.ad 15 [.p (.L (.bK 3 eg)),
   .s .d1 .d3 aV,
   .s .d1 .d1 fO,
   .s .d1 .d0 cj])
 (.block 0 (.loop (.seq (.ad 1 [.s .d1 .d2 (.L (.bin .lss eh iL))])
 (.seq (.cond iV .skip (.exit 0))
 (.seq (.block 1 (.seq (.ad 15 [.p (.L (.bY 4 hq eh)),
   .p vF,
   .s .d1 .d5 zD,
   .p (.H (.store 4 ai bo))])
 (.ad 2047 [.p Fq,
   .p aV,
   .p (.L (.bK 0 gn)),
   .p aV,
   .p (.L (.bK 1 gn)),
   .p aV,
   .p (.L (.build [.str 0 0, .str 0 0, .int .i64 0, .int .i64 0] [(0,1,b6),(1,1,ai)])),
   .p JT,
   .p (.H (.append 4 48 kG ai)),
   .p Fq,
   .p (.H (.store 1 ai bo))])))
 (.ad 1 [.s .d1 .d0 (.L (.bin .add eh fi))])))))))
 (.seq (.seq (.ad 15 [.p (.L (.bK 4 eg)),
   .s .d2 .d1 aV,
   .s .d1 .d7 fO,
   .s .d1 .d6 cj])
 (.block 2 (.loop (.seq (.ad 1 [.s .d2 .d0 (.L (.bin .lss hP ml))])
 (.seq (.cond ou .skip (.exit 2))
 (.seq (.block 3 (.seq (.ad 15 [.p (.L (.bY 8 lE hP)),
   .p Fs,
   .s .d2 .d2 zE,
   .p (.H (.store 8 ai bo))])
 (.draw [0,1,2,3,4,5,6,7] [⟨.p Cf,[]⟩,
   ⟨.p aV,[]⟩,
   ⟨.p (.L (.da 8 qw)),[]⟩,
   ⟨.p (.H (.call 27 [ai])),[1]⟩,
   ⟨.p O5,[]⟩,
   ⟨.p (.H (.append 6 104 cU ai)),[]⟩,
   ⟨.p Cf,[]⟩,
   ⟨.p (.H (.store 1 ai bo)),[]⟩])))
 (.ad 1 [.s .d1 .d6 (.L (.bin .add hP fi))])))))))
 (.seq (.ad 7 [.p Fq,
   .p aV,
   .p (.H (.call 28 [ai,(.c (.fn 29 [] []))]))])
 (.seq (.ad 7 [.p Cf,
   .p aV,
   .p (.H (.call 31 [ai,(.c (.fn 32 [] []))]))])
 (.seq (.ad 7 [.p (.L (.da 2 fE)),
   .p (.H (.store 2 cT ai)),
   .s .d0 .d3 eE])
 .ret)))))))))))⟩
def i10:cd:=
 ⟨1,[0,2,4,18,3],[.cell .d0 .d1 (some 6)],(.seq (.ad 1 [.s .d0 .d1 vG])
 (.seq (.ad 506 [.p (.H (.call 33 [bb])),
   .p iM,
   .p iN,
   .p zy,
   .s .d0 .d4 vG,
   .p (.H (.store 6 ai cU)),
   .s .d0 .d2 (.L (.cV cU))])
 (.seq (.seq (.ad 122 [.p (.L (.bin .neq cT gY)),
   .g ai false cw,
   .g bo false (.L (.len true ai)),
   .g b6 false (.L (.bin .gtr ai (.c (.int .i64 500)))),
   .s .d0 .d3 ur])
 (.cond cP (.ad 61 [.p (.H (.call 33 [(.c (.str 18 5175151693920292653173273800325353307267436))])),
   .p iM,
   .p iN,
   .p zy,
   .p (.H (.store 6 eg b6))]) .skip))
 (.seq (.ad 3 [.p (.L (.da 6 eg)),
   .p (.H (.store 6 cm ai))])
 .ret))))⟩
def i12:cd:=
 ⟨2,[0,1,4,2,3,24,5,29,42,6,47,7,8,101],[.tmp .d0 .d2],(.seq (.ad 7 [.s .d0 .d3 (.L (.box 2 bb)),
   .s .d0 .d4 (.L (.box 2 cm)),
   .s .d0 .d2 gE])
 (.seq (.seq (.ad 65407 [.p mn,
   .p aV,
   .p fO,
   .p zB,
   .p aV,
   .p fO,
   .p (.L (.bin .neq cU ai)),
   .g ai false Cg,
   .g bo false aV,
   .g b6 false fO,
   .g cU false (.L (.bK 1 eg)),
   .g fT false aV,
   .g hs false fO,
   .g kG false (.L (.bin .neq cU ai)),
   .s .d0 .d5 JU])
 (.cond c3 (.seq (.ad 1 [.s .d0 .d2 gE])
 .ret) .skip))
 (.seq (.seq (.ad 1 [.s .d0 .d6 cj])
 (.block 0 (.loop (.seq (.seq (.ad 30 [.p mn,
   .p aV,
   .p fO,
   .s .d0 .d7 (.L (.bin .lss c9 ai))])
 (.cond dx .skip (.exit 0)))
 (.seq (.block 1 (.seq (.draw [0,1,2,3,4,5,6,7,8,9,10] [⟨.p mn,[]⟩,
   ⟨.p aV,[]⟩,
   ⟨.p py,[]⟩,
   ⟨.p Ft,[]⟩,
   ⟨.p vF,[]⟩,
   ⟨.p zB,[]⟩,
   ⟨.p aV,[]⟩,
   ⟨.p py,[]⟩,
   ⟨.p Ft,[]⟩,
   ⟨.p vF,[]⟩,
   ⟨.s .d1 .d0 (.L (.eq true (.st [(0, .str),(1, .str),(2, .int),(3, .int)]) hs ai)),[]⟩])
 (.cond eh (.seq (.ad 1 [.s .d0 .d2 gE])
 .ret) .skip)))
 (.ad 2 [.s .d0 .d6 (.L (.bin .add c9 fi))]))))))
 (.seq (.seq (.ad 1 [.s .d1 .d1 cj])
 (.block 2 (.loop (.seq (.seq (.ad 30 [.p Cg,
   .p aV,
   .p fO,
   .s .d1 .d2 (.L (.bin .lss iL ai))])
 (.cond iV .skip (.exit 2)))
 (.seq (.block 3 (.seq (.draw [0,1,2,3,4,5,6,7,8,9,10,11,12,13] [⟨.p Cg,[]⟩,
   ⟨.p aV,[]⟩,
   ⟨.p Ch,[]⟩,
   ⟨.p (.L (.bY 6 bo ai)),[]⟩,
   ⟨.p Fu,[]⟩,
   ⟨.p (.L (.bK 1 eg)),[]⟩,
   ⟨.p aV,[]⟩,
   ⟨.p Ch,[]⟩,
   ⟨.p (.L (.bY 6 bo ai)),[]⟩,
   ⟨.p Fu,[]⟩,
   ⟨.s .d1 .d3 zF,[]⟩,
   ⟨.s .d1 .d4 zF,[]⟩,
   ⟨.p (.H (.store 6 bo nK)),[5,2]⟩,
   ⟨.p (.H (.store 6 bo cU)),[]⟩])
 (.seq (.ad 4380731367391 [.p (.L (.bK 0 hq)),
   .p aV,
   .p Fq,
   .p aV,
   .p JV,
   .g ai false (.L (.bK 1 hq)),
   .g bo false aV,
   .g b6 false Cf,
   .g cU false aV,
   .g fT false (.H (.call 19 [b6,ai])),
   .g hs false j8,
   .p Fv,
   .g ai false (.L (.bK 2 hq)),
   .g bo false aV,
   .g b6 false (.L (.bK 2 fE)),
   .g cU false aV,
   .g fT false (.L (.eq true .bool b6 ai)),
   .p Ci,
   .g ai false (.L (.bK 3 hq)),
   .g bo false aV,
   .g b6 false (.L (.bK 3 fE)),
   .g cU false aV,
   .g fT false JV,
   .p Ci,
   .g ai false (.L (.bK 4 hq)),
   .g bo false aV,
   .g b6 false (.L (.bK 4 fE)),
   .g cU false aV,
   .g fT false JV,
   .p Ci,
   .g ai false (.L (.bK 5 hq)),
   .g bo false aV,
   .g b6 false (.L (.bK 5 fE)),
   .g cU false aV,
   .g fT false (.H (.call 19 [b6,ai])),
   .g hs false j8,
   .s .d1 .d5 Fv])
 (.cond gn (.seq (.ad 1 [.s .d0 .d2 gE])
 .ret) .skip))))
 (.ad 2 [.s .d1 .d1 Cj]))))))
 (.seq (.ad 1 [.s .d0 .d2 sX])
 .ret)))))⟩
def i13:cd:=
 ⟨2,[0,1,4,10,5,14,25],[.tmp .d0 .d2],(.seq (.ad 1 [.s .d0 .d2 gE])
 (.seq (.seq (.ad 26 [.p iO,
   .p vH,
   .s .d0 .d3 (.L (.bin .neq bo ai))])
 (.cond cP (.seq (.ad 1 [.s .d0 .d2 gE])
 .ret) .skip))
 (.seq (.seq (.ad 1 [.s .d0 .d4 cj])
 (.block 0 (.loop (.seq (.seq (.ad 12 [.p iO,
   .s .d0 .d5 Fw])
 (.cond c3 .skip (.exit 0)))
 (.seq (.block 1 (.seq (.draw [0,1,2,3,4,5,6,7,8] [⟨.p cw,[]⟩,
   ⟨.p lG,[]⟩,
   ⟨.p Ft,[]⟩,
   ⟨.p vF,[]⟩,
   ⟨.p iW,[]⟩,
   ⟨.p lG,[]⟩,
   ⟨.p Ft,[]⟩,
   ⟨.p vF,[]⟩,
   ⟨.s .d0 .d6 (.L (.eq true (.st [(0, .str),(1, .int),(2, .int),(3, .str)]) fT ai)),[]⟩])
 (.cond c9 (.seq (.ad 1 [.s .d0 .d2 gE])
 .ret) .skip)))
 (.ad 2 [.s .d0 .d4 Ck]))))))
 (.seq (.ad 1 [.s .d0 .d2 sX])
 .ret))))⟩
def i14:cd:=
 ⟨1,[0,2,3,5,18,4,6,25,24,26,7,8,62,11,10,9,138],[.cell .d0 .d1 (some 2), .tmp .d0 .d2],(.seq (.ad 3 [.s .d0 .d1 vE,
   .s .d0 .d2 cj])
 (.seq (.ad 122 [.p (.H (.call 37 [bb])),
   .p iM,
   .p iN,
   .s .d0 .d5 fa,
   .s .d0 .d3 fa])
 (.seq (.seq (.ad 2 [.s .d0 .d4 (.L (.bin .neq cP gY))])
 (.cond eg (.seq (.ad 7 [.p JS,
   .p (.H (.store 2 cm ai)),
   .s .d0 .d2 Cl])
 .ret) .skip))
 (.seq (.ad 6 [.p (.L (.build [.U, .bool false] [(0,1,c3)])),
   .s .d0 .d6 (.L (.box 2 ai))])
 (.seq (.ad 1 [.s .d1 .d2 vE])
 (.seq (.ad 3 [.s .d1 .d3 eE,
   .s .d1 .d7 eE])
 (.seq (.seq (.ad 6 [.s .d1 .d0 (.H (.call 38 [c9])),
   .s .d0 .d7 cj])
 (.block 0 (.loop (.seq (.ad 1 [.s .d1 .d1 (.L (.bin .lss dx eh))])
 (.seq (.cond iL .skip (.exit 0))
 (.seq (.block 1 (.seq (.draw [0,1,2,4,3,5,6,7,8,9,10] [⟨.p Fx,[]⟩,
   ⟨.p aV,[]⟩,
   ⟨.p py,[]⟩,
   ⟨.p py,[]⟩,
   ⟨.p (.H (.call 39 [bo])),[2]⟩,
   ⟨.p (.H (.call 39 [bo])),[3]⟩,
   ⟨.p (.L (.build [.str 0 0, .str 0 0, .int .i64 0, .int .i64 0] [(0,1,bo),(1,1,ai)])),[]⟩,
   ⟨.p JT,[]⟩,
   ⟨.p (.H (.append 4 48 kG ai)),[]⟩,
   ⟨.p Fx,[]⟩,
   ⟨.p (.H (.store 1 ai bo)),[]⟩])
 (.ad 4094 [.p Fx,
   .p aV,
   .p Fx,
   .p aV,
   .p fO,
   .p mT,
   .p (.L (.bY 4 fT ai)),
   .p iP,
   .p aV,
   .p vI,
   .s .d1 .d3 (.H (.append 1 16 hq ai))])))
 (.ad 1 [.s .d0 .d7 zA])))))))
 (.seq (.block 2 (.loop (.seq (.seq (.ad 8126 [.p Ce,
   .p iP,
   .p aV,
   .p fO,
   .p (.L (.bin .gtr ai gY)),
   .g ai true py,
   .g bo true gP,
   .g b6 true ic,
   .g cU true aV,
   .g fT true j8,
   .s .d1 .d4 JR])
 (.cond fE .skip (.exit 2)))
 (.block 3 (.seq (.ad 30 [.p (.H (.call 39 [c9])),
   .p (.L (.build [.str 0 0, .U, .bool false, .str 0 0, .str 0 0, .U] [(0,1,ai)])),
   .s .d1 .d6 zF,
   .p (.H (.store 6 ai bo))])
 (.seq (.ad 2 [.s .d1 .d5 (.H (.call 39 [c9]))])
 (.seq (.ad 4074 [.p (.L (.e8 .eql gn (.c (.str 1 49)))),
   .p (.H (.call 39 [c9])),
   .p (.H (.call 39 [c9])),
   .p (.L (.bK 2 hP)),
   .p (.H (.store 1 ai cU)),
   .p (.L (.bK 3 hP)),
   .p (.H (.store 1 ai fT)),
   .p (.L (.bK 4 hP)),
   .p (.H (.store 1 ai hs))])
 (.seq (.ad 250 [.p (.H (.call 40 [c9])),
   .p (.H (.call 40 [c9])),
   .p (.L (.bK 1 hP)),
   .p (.H (.store 1 ai b6)),
   .p (.L (.bK 5 hP)),
   .p (.H (.store 1 ai cU))])
 (.seq (.ad 4286570460 [.p Ce,
   .p ic,
   .p aV,
   .g ai false xA,
   .g bo false (.L (.e8 .neq ai (.c (.str 1 48)))),
   .g b6 false jq,
   .g ai true xA,
   .g bo true (.L (.e8 .neq ai (.c (.str 1 49)))),
   .g hs false xB,
   .p Fv,
   .g ai false (.L (.bK 2 hP)),
   .g bo false aV,
   .g b6 false j8,
   .g cU false jq,
   .g ai true (.L (.bK 3 hP)),
   .g bo true aV,
   .g b6 true JW,
   .g nK false Fp,
   .p (.L (.pick px mm ai)),
   .g ai false (.L (.bK 5 hP)),
   .g bo false aV,
   .g b6 false (.H (.call 41 [ai])),
   .g cU false j8,
   .p Cm,
   .p Ce,
   .p ic,
   .p (.H (.store 1 ai b6))])
 (.seq (.ad 127 [.p (.L (.bK 1 iV)),
   .p aV,
   .p (.L (.da 6 hP)),
   .p O5,
   .p (.H (.append 6 104 b6 ai)),
   .p (.L (.bK 1 iV)),
   .p (.H (.store 1 ai bo))])
 (.ad 30 [.p (.L (.bK 0 hP)),
   .p aV,
   .p vI,
   .s .d1 .d7 (.H (.append 1 16 ml ai))])))))))))))
 (.seq (.seq (.ad 15854 [.p Ce,
   .p ic,
   .p aV,
   .g ai false (.L (.cV hq)),
   .g bo false (.H (.call 41 [ai])),
   .g b6 false j8,
   .p ur,
   .g ai false vJ,
   .g bo false (.H (.call 41 [ai])),
   .g b6 false j8,
   .s .d2 .d0 ur])
 (.cond ou (.seq (.ad 7 [.p JS,
   .p (.H (.store 2 cm ai)),
   .s .d0 .d2 Cl])
 .ret) .skip))
 (.seq (.ad 7 [.p (.L (.da 2 iV)),
   .p (.H (.store 2 cm ai)),
   .s .d0 .d2 cj])
 .ret))))))))))⟩
def i15:cd:=
 ⟨1,[0,2,1,17,16,18,15,5,3,32,31,33,30,7,37,8],[.tmp .d0 .d1],(.seq (.ad 3 [.s .d0 .d2 (.L (.box 2 bb)),
   .s .d0 .d1 eE])
 (.seq (.ad 31 [.p Cn,
   .p aV,
   .p fO,
   .p (.H (.call 42 [ai])),
   .s .d1 .d0 vI])
 (.seq (.seq (.ad 15 [.p Cn,
   .s .d0 .d6 aV,
   .s .d0 .d4 fO,
   .s .d0 .d3 cj])
 (.block 0 (.loop (.seq (.ad 1 [.s .d0 .d5 zG])
 (.seq (.cond c3 .skip (.exit 0))
 (.seq (.block 1 (.seq (.ad 15 [.p (.L (.bY 4 c9 cP)),
   .p vF,
   .s .d0 .d7 zD,
   .p (.H (.store 4 ai bo))])
 (.ad 126 [.p (.L (.bK 0 dx)),
   .p aV,
   .p Co,
   .p aV,
   .p (.L (.eS 1 2 [.str 0 0] [(0,1,b6),(1,1,ai)])),
   .s .d1 .d0 (.H (.append 1 16 eh ai))])))
 (.ad 1 [.s .d0 .d3 pz])))))))
 (.seq (.seq (.ad 15 [.p Fy,
   .s .d1 .d4 aV,
   .s .d1 .d2 fO,
   .s .d1 .d1 cj])
 (.block 2 (.loop (.seq (.ad 1 [.s .d1 .d3 Fz])
 (.seq (.cond hq .skip (.exit 2))
 (.seq (.block 3 (.seq (.ad 15 [.p (.L (.bY 6 fE iL)),
   .p Fu,
   .s .d1 .d5 zF,
   .p (.H (.store 6 ai bo))])
 (.seq (.ad 1 [.s .d1 .d7 (.L (.cV (.c (.str 1 48))))])
 (.seq (.seq (.ad 3 [.p (.L (.bK 2 gn)),
   .s .d1 .d6 aV])
 (.cond hP (.ad 1 [.s .d1 .d7 (.L (.cV (.c (.str 1 49))))]) .skip))
 (.seq (.draw [0,1,2,3,4,5,6,7,8,9,10,11,12,13,14] [⟨.p qx,[]⟩,
   ⟨.p (.L (.bK 0 gn)),[]⟩,
   ⟨.p aV,[]⟩,
   ⟨.p vJ,[]⟩,
   ⟨.p (.L (.bK 3 gn)),[]⟩,
   ⟨.p aV,[]⟩,
   ⟨.p (.L (.bK 4 gn)),[]⟩,
   ⟨.p aV,[]⟩,
   ⟨.p (.L (.bK 1 gn)),[]⟩,
   ⟨.p aV,[]⟩,
   ⟨.p fO,[]⟩,
   ⟨.p (.H (.call 42 [ai])),[8,5,3]⟩,
   ⟨.p (.L (.eS 1 5 [.str 0 0] [(0,1,xt),(1,1,px),(2,1,kG),(3,1,fT),(4,1,ai)])),[]⟩,
   ⟨.p (.H (.append 1 16 (.l 12) ai)),[]⟩,
   ⟨.s .d1 .d0 jq,[]⟩])
 (.seq (.ad 14 [.p (.L (.bK 1 gn)),
   .p aV,
   .s .d1 .d0 (.H (.append 1 16 eh ai))])
 (.draw [0,1,2,3,7,8,4,5,6,9,10] [⟨.p qx,[]⟩,
   ⟨.p (.L (.bK 5 gn)),[]⟩,
   ⟨.p aV,[]⟩,
   ⟨.p fO,[]⟩,
   ⟨.p (.L (.bK 5 gn)),[]⟩,
   ⟨.p aV,[]⟩,
   ⟨.p (.H (.call 42 [b6])),[0]⟩,
   ⟨.p vI,[]⟩,
   ⟨.p (.H (.append 1 16 nK ai)),[2]⟩,
   ⟨.p (.H (.append 1 16 ai cU)),[]⟩,
   ⟨.s .d1 .d0 jq,[]⟩])))))))
 (.ad 1 [.s .d1 .d1 Cj])))))))
 (.seq (.ad 2 [.s .d0 .d1 (.H (.call 43 [eh]))])
 .ret)))))⟩
def i16:cd:=
 ⟨1,[0,2],[.tmp .d0 .d1],(.seq (.ad 1 [.s .d0 .d1 cj])
 (.seq (.ad 2 [.s .d0 .d1 cw])
 .ret))⟩
def i17:cd:=
 ⟨2,[0,1,4],[.tmp .d0 .d2],(.seq (.ad 1 [.s .d0 .d2 eE])
 (.seq (.ad 28 [.p (.L (.eS 1 2 [.U] [(0,1,bb),(1,1,cm)])),
   .p (.H (.call 45 [ai])),
   .s .d0 .d2 (.H (.call 44 [ai]))])
 .ret))⟩
def i19:cd:=
 ⟨2,[0,1,4,10,5,14,25],[.tmp .d0 .d2],(.seq (.ad 1 [.s .d0 .d2 gE])
 (.seq (.seq (.ad 26 [.p iO,
   .p vH,
   .s .d0 .d3 (.L (.bin .neq bo ai))])
 (.cond cP (.seq (.ad 1 [.s .d0 .d2 gE])
 .ret) .skip))
 (.seq (.seq (.ad 1 [.s .d0 .d4 cj])
 (.block 0 (.loop (.seq (.seq (.ad 12 [.p iO,
   .s .d0 .d5 Fw])
 (.cond c3 .skip (.exit 0)))
 (.seq (.block 1 (.seq (.draw [0,1,2,3,4,5,6,7,8] [⟨.p cw,[]⟩,
   ⟨.p lG,[]⟩,
   ⟨.p iX,[]⟩,
   ⟨.p aV,[]⟩,
   ⟨.p iW,[]⟩,
   ⟨.p lG,[]⟩,
   ⟨.p iX,[]⟩,
   ⟨.p aV,[]⟩,
   ⟨.s .d0 .d6 (.L (.e8 .neq fT ai)),[]⟩])
 (.cond c9 (.seq (.ad 1 [.s .d0 .d2 gE])
 .ret) .skip)))
 (.ad 2 [.s .d0 .d4 Ck]))))))
 (.seq (.ad 1 [.s .d0 .d2 sX])
 .ret))))⟩
def i21:cd:=
 ⟨2,[0,1,4,3],[.tmp .d0 .d2],(.seq (.ad 3 [.s .d0 .d3 (.L (.box 1 cm)),
   .s .d0 .d2 gE])
 (.seq (.ad 14 [.p (.L (.fn 49 [] [cP])),
   .p (.H (.call 48 [bb,ai])),
   .s .d0 .d2 j8])
 .ret))⟩
def i23:cd:=
 ⟨1,[0,2,3,4,14,6,18,7,38,55,67,70,8,95,102,106,9,5,119,10,132,138,165,11,26],[.tmp .d0 .d1, .tmp .d0 .d2, .tmp .d0 .d3],(.seq (.ad 7 [.s .d0 .d1 eE,
   .s .d0 .d2 cj,
   .s .d0 .d3 cj])
 (.seq (.seq (.ad 6 [.p sY,
   .s .d0 .d4 (.L (.bin .gtr ai (.c (.int .i64 8192))))])
 (.cond eg (.seq (.ad 7 [.s .d0 .d1 eE,
   .s .d0 .d2 (.L (.cV zv)),
   .s .d0 .d3 (.L (.cV (.c (.int .i64 8192))))])
 .ret) .skip))
 (.seq (.ad 1 [.s .d2 .d1 eE])
 (.seq (.seq (.ad 1 [.s .d0 .d5 cj])
 (.block 0 (.loop (.seq (.seq (.ad 12 [.p sY,
   .s .d0 .d6 FA])
 (.cond c9 .skip (.exit 0)))
 (.block 1 (.seq (.ad 4 [.s .d0 .d7 (.L (.kT bb c3))])
 (.block 2 (.seq (.ad 15290 [.p (.L (.bin .eql dx (.c (.int .u8 32)))),
   .g ai false mo,
   .g bo false (.L (.bin .eql ai (.c (.int .u8 9)))),
   .p vK,
   .g ai false mo,
   .g bo false (.L (.bin .eql ai (.c (.int .u8 10)))),
   .p vK,
   .g ai false mo,
   .g bo false (.L (.bin .eql ai (.c (.int .u8 13)))),
   .s .d1 .d0 vK])
 (.cond eh (.ad 2 [.s .d0 .d5 FB]) (.seq (.ad 2 [.s .d1 .d1 (.L (.bin .eql dx (.c (.int .u8 35))))])
 (.cond iL (.block 3 (.loop (.seq (.seq (.ad 1004 [.p sY,
   .p FA,
   .g ai true cw,
   .g bo true mU,
   .g b6 true xC,
   .g cU true (.L (.bin .neq ai (.c (.int .u8 10)))),
   .s .d1 .d2 Cd])
 (.cond iV .skip (.exit 3)))
 (.block 4 (.ad 2 [.s .d0 .d5 FB]))))) (.seq (.ad 2 [.s .d1 .d3 (.H (.call 51 [dx]))])
 (.cond hq (.seq (.ad 2 [.s .d1 .d4 mU])
 (.seq (.block 5 (.loop (.seq (.seq (.ad 4194284 [.p sY,
   .p (.L (.bin .lss fE ai)),
   .g ai true cw,
   .g bo true Cc,
   .g b6 true xC,
   .g cU true (.H (.call 51 [ai])),
   .g fT true jq,
   .g ai false cw,
   .g bo false Cc,
   .g b6 false xC,
   .g cU false (.H (.call 52 [ai])),
   .g xt true Cm,
   .g xu true jq,
   .g ai false cw,
   .g bo false Cc,
   .g b6 false xC,
   .g cU false (.L (.bin .eql ai (.c (.int .u8 95)))),
   .g (.l 15) true Cm,
   .s .d1 .d5 (.L (.pick (.l 16) ai j7))])
 (.cond gn .skip (.exit 5)))
 (.block 6 (.ad 2 [.s .d1 .d4 (.L (.bin .add fE fi))])))))
 (.seq (.ad 1 [.s .d2 .d0 Cp])
 (.seq (.seq (.ad 24 [.p (.L (.n3 bb (some c3) (some fE))),
   .s .d1 .d6 (.H (.call 53 [ai]))])
 (.cond hP (.ad 1 [.s .d2 .d0 (.L (.cV xw))]) .skip))
 (.seq (.seq (.ad 12 [.p (.L (.bin .sub fE c3)),
   .s .d1 .d7 (.L (.bin .gtr ai (.c (.int .i64 20))))])
 (.cond ml (.seq (.ad 14 [.s .d0 .d1 eE,
   .s .d0 .d2 (.L (.cV zv)),
   .s .d0 .d3 mU])
 .ret) .skip))
 (.seq (.ad 928 [.p (.L (.n3 bb (some c3) (some fE))),
   .p (.L (.build [.int .i64 0, .str 0 0, .int .i64 0] [(0,1,ou),(1,1,ai),(2,1,c3)])),
   .p FC,
   .s .d2 .d1 (.H (.append 3 32 lE ai))])
 (.ad 2 [.s .d0 .d5 Cc]))))))) (.seq (.ad 2 [.s .d2 .d2 (.H (.call 52 [dx]))])
 (.cond qw (.seq (.ad 2 [.s .d2 .d3 mU])
 (.seq (.block 7 (.loop (.seq (.seq (.ad 1004 [.p sY,
   .p (.L (.bin .lss rE ai)),
   .g ai true cw,
   .g bo true Cq,
   .g b6 true xC,
   .g cU true (.H (.call 52 [ai])),
   .s .d2 .d4 Cd])
 (.cond vC .skip (.exit 7)))
 (.block 8 (.ad 2 [.s .d2 .d3 (.L (.bin .add rE fi))])))))
 (.seq (.seq (.ad 12 [.p (.L (.bin .sub rE c3)),
   .s .d2 .d5 (.L (.bin .gtr ai zv))])
 (.cond (.t .d2 .d5) (.seq (.ad 14 [.s .d0 .d1 eE,
   .s .d0 .d2 (.L (.cV zv)),
   .s .d0 .d3 mU])
 .ret) .skip))
 (.seq (.seq (.ad 67108588 [.p (.L (.bin .sub rE c3)),
   .p (.L (.bin .gtr ai fi)),
   .g ai true mo,
   .g bo true (.L (.bin .eql ai Fi)),
   .p xB,
   .g ai false Cq,
   .g bo false cw,
   .g b6 false (.L (.len true ai)),
   .g cU false (.L (.bin .lss b6 ai)),
   .g fT false jq,
   .g ai true cw,
   .g bo true Cq,
   .g b6 true xC,
   .g cU true (.H (.call 51 [ai])),
   .g fT true jq,
   .g ai false cw,
   .g bo false Cq,
   .g b6 false xC,
   .g cU false (.L (.bin .eql ai (.c (.int .u8 95)))),
   .g xt true Cm,
   .g (.l 15) false (.L (.pick xu ai j7)),
   .s .d2 .d6 (.L (.pick (.l 16) mm ai))])
 (.cond xr (.seq (.ad 14 [.s .d0 .d1 eE,
   .s .d0 .d2 (.L (.cV rF)),
   .s .d0 .d3 mU])
 .ret) .skip))
 (.seq (.ad 464 [.p (.L (.n3 bb (some c3) (some rE))),
   .p (.L (.build [.int .i64 0, .str 0 0, .int .i64 0] [(0,1,k3),(1,1,ai),(2,1,c3)])),
   .p FC,
   .s .d2 .d1 (.H (.append 3 32 lE ai))])
 (.ad 2 [.s .d0 .d5 Cq])))))) (.seq (.ad 4 [.s .d2 .d7 (.H (.call 54 [bb,c3]))])
 (.seq (.seq (.ad 2 [.s .d3 .d0 (.L (.e8 .eql (.t .d2 .d7) Fh))])
 (.cond (.t .d3 .d0) (.seq (.ad 14 [.s .d0 .d1 eE,
   .s .d0 .d2 (.L (.cV rF)),
   .s .d0 .d3 mU])
 .ret) .skip))
 (.seq (.ad 56 [.p (.L (.build [.int .i64 0, .str 0 0, .int .i64 0] [(0,1,sW),(1,1,(.t .d2 .d7)),(2,1,c3)])),
   .p FC,
   .s .d2 .d1 (.H (.append 3 32 lE ai))])
 (.ad 12 [.p (.L (.len true (.t .d2 .d7))),
   .s .d0 .d5 (.L (.bin .add c3 ai))])))))))))))))))))))
 (.seq (.ad 444 [.p sY,
   .p (.L (.build [.int .i64 0, .str 0 0, .int .i64 0] [(2,1,ai)])),
   .p FC,
   .s .d0 .d1 (.H (.append 3 32 lE ai)),
   .s .d0 .d2 cj,
   .s .d0 .d3 cj])
 .ret)))))⟩
def i24:cd:=
 ⟨1,[0,2,14,3,45,47,56],[.cell .d0 .d1 (some 5)],(.seq (.ad 1 [.s .d0 .d1 zz])
 (.seq (.ad 2 [.p (.H (.call 55 [bb,(.c (.str 6 111516500389741))]))])
 (.seq (.ad 122 [.p (.H (.call 56 [bb])),
   .p (.H (.call 57 [bb])),
   .p (.L (.build [.str 0 0, .int .i64 0, .U, .U, .U] [(1,1,bo),(0,1,ai)])),
   .s .d0 .d3 zz,
   .p (.H (.store 5 ai bo))])
 (.seq (.ad 2 [.p (.H (.call 55 [bb,B7]))])
 (.seq (.block 0 (.loop (.seq (.seq (.ad 2 [.s .d0 .d2 (.H (.call 58 [bb,(.c (.str 6 128034844732777))]))])
 (.cond cT .skip (.exit 0)))
 (.block 1 (.seq (.draw [0,1,2,4,3,5,6,7,8,9,10] [⟨.p FD,[]⟩,
   ⟨.p aV,[]⟩,
   ⟨.p cw,[]⟩,
   ⟨.p cw,[]⟩,
   ⟨.p (.H (.call 56 [bo])),[2]⟩,
   ⟨.p (.H (.call 57 [bo])),[3]⟩,
   ⟨.p (.L (.build [.str 0 0, .int .i64 0] [(1,1,bo),(0,1,ai)])),[]⟩,
   ⟨.p (.L (.eS 2 1 [.str 0 0, .int .i64 0] [(0,2,ai)])),[]⟩,
   ⟨.p (.H (.append 2 24 kG ai)),[]⟩,
   ⟨.p FD,[]⟩,
   ⟨.p (.H (.store 1 ai bo)),[]⟩])
 (.ad 2 [.p (.H (.call 55 [bb,B7]))]))))))
 (.seq (.block 2 (.loop (.seq (.seq (.draw [0,1,2,3,4,5,6,7,8,9,10,11,12,13,14,15,16,17,18] [⟨.p cw,[]⟩,
   ⟨.p gP,[]⟩,
   ⟨.p k4,[]⟩,
   ⟨.p aV,[]⟩,
   ⟨.p mS,[]⟩,
   ⟨.p jq,[]⟩,
   ⟨.g ai true cw,[]⟩,
   ⟨.g bo true gP,[]⟩,
   ⟨.g b6 true iP,[]⟩,
   ⟨.g cU true aV,[]⟩,
   ⟨.g fT true cw,[]⟩,
   ⟨.g hs true gP,[]⟩,
   ⟨.g kG true ic,[]⟩,
   ⟨.g nK true aV,[]⟩,
   ⟨.g px true uu,[]⟩,
   ⟨.g xt true iP,[]⟩,
   ⟨.g xu true aV,[]⟩,
   ⟨.g (.l 11) true xx,[]⟩,
   ⟨.s .d0 .d4 JX,[]⟩])
 (.cond eg .skip (.exit 2)))
 (.block 3 (.seq (.ad 2 [.s .d0 .d5 (.H (.call 58 [bb,(.c (.str 3 7496054))]))])
 (.cond c3 (.draw [0,1,2,3,4,5,6,7] [⟨.p zH,[]⟩,
   ⟨.p aV,[]⟩,
   ⟨.p cw,[]⟩,
   ⟨.p (.H (.call 59 [ai])),[1]⟩,
   ⟨.p JT,[]⟩,
   ⟨.p (.H (.append 4 48 cU ai)),[]⟩,
   ⟨.p zH,[]⟩,
   ⟨.p (.H (.store 1 ai bo)),[]⟩]) (.seq (.ad 2 [.s .d0 .d6 (.H (.call 58 [bb,(.c (.str 4 1668248176))]))])
 (.cond c9 (.draw [0,1,2,3,4,5,6,7] [⟨.p (.L (.bK 4 cP)),[]⟩,
   ⟨.p aV,[]⟩,
   ⟨.p cw,[]⟩,
   ⟨.p (.H (.call 60 [ai])),[1]⟩,
   ⟨.p (.L (.eS 8 1 [.str 0 0, .U, .bool false, .str 0 0, .str 0 0, .U, .U, .int .i64 0] [(0,8,ai)])),[]⟩,
   ⟨.p (.H (.append 8 136 cU ai)),[]⟩,
   ⟨.p (.L (.bK 4 cP)),[]⟩,
   ⟨.p (.H (.store 1 ai bo)),[]⟩]) (.ad 2 [.p (.H (.call 61 [bb,zw]))])))))))))
 (.seq (.ad 3 [.p (.L (.da 5 cP)),
   .p (.H (.store 5 cm ai))])
 .ret)))))))⟩
def i25:cd:=
 ⟨2,[0,1,3,21,20,22,19,6,4,36,35,37,34,8,51,50,52,49,10,66,65,67,64,12,73,72,74,71,14],[],(.seq (.ad 1 [.s .d0 .d2 (.L (.box 5 cm))])
 (.seq (.ad 7 [.p Cn,
   .p aV,
   .s .d1 .d0 vI])
 (.seq (.seq (.ad 15 [.p Cr,
   .s .d0 .d6 aV,
   .s .d0 .d4 fO,
   .s .d0 .d3 cj])
 (.block 0 (.loop (.seq (.ad 1 [.s .d0 .d5 zG])
 (.seq (.cond c3 .skip (.exit 0))
 (.seq (.block 1 (.seq (.ad 15 [.p (.L (.bY 2 c9 cP)),
   .p (.L (.da 2 ai)),
   .s .d0 .d7 (.L (.alloc [.str 0 0, .int .i64 0])),
   .p (.H (.store 2 ai bo))])
 (.ad 124 [.p (.L (.bK 0 dx)),
   .p aV,
   .p Co,
   .p aV,
   .s .d1 .d0 (.H (.call 62 [bb,eh,b6,ai]))])))
 (.ad 1 [.s .d0 .d3 pz])))))))
 (.seq (.ad 1 [.s .d1 .d0 eE])
 (.seq (.seq (.ad 15 [.p (.L (.bK 3 cT)),
   .s .d1 .d4 aV,
   .s .d1 .d2 fO,
   .s .d1 .d1 cj])
 (.block 2 (.loop (.seq (.ad 1 [.s .d1 .d3 Fz])
 (.seq (.cond hq .skip (.exit 2))
 (.seq (.block 3 (.seq (.ad 15 [.p (.L (.bY 4 fE iL)),
   .p vF,
   .s .d1 .d5 zD,
   .p (.H (.store 4 ai bo))])
 (.ad 124 [.p (.L (.bK 0 gn)),
   .p aV,
   .p (.L (.bK 3 gn)),
   .p aV,
   .s .d1 .d0 (.H (.call 62 [bb,eh,b6,ai]))])))
 (.ad 1 [.s .d1 .d1 Cj])))))))
 (.seq (.seq (.ad 15 [.p FE,
   .s .d2 .d1 aV,
   .s .d1 .d7 fO,
   .s .d1 .d6 cj])
 (.block 4 (.loop (.seq (.ad 1 [.s .d2 .d0 (.L (.bin .lss hP ml))])
 (.seq (.cond ou .skip (.exit 4))
 (.seq (.block 5 (.seq (.ad 15 [.p (.L (.bY 8 lE hP)),
   .p Fs,
   .s .d2 .d2 zE,
   .p (.H (.store 8 ai bo))])
 (.ad 124 [.p (.L (.bK 0 qw)),
   .p aV,
   .p (.L (.bK 7 qw)),
   .p aV,
   .s .d1 .d0 (.H (.call 62 [bb,eh,b6,ai]))])))
 (.ad 1 [.s .d1 .d6 (.L (.bin .add hP fi))])))))))
 (.seq (.ad 15 [.p FE,
   .s .d2 .d6 aV,
   .s .d2 .d4 fO,
   .s .d2 .d3 cj])
 (.block 6 (.loop (.seq (.ad 1 [.s .d2 .d5 (.L (.bin .lss rE vC))])
 (.seq (.cond (.t .d2 .d5) .skip (.exit 6))
 (.seq (.block 7 (.seq (.ad 15 [.p (.L (.bY 8 xr rE)),
   .p Fs,
   .s .d2 .d7 zE,
   .p (.H (.store 8 ai bo))])
 (.seq (.ad 1 [.s .d1 .d0 eE])
 (.seq (.ad 15 [.p (.L (.bK 1 (.t .d2 .d7))),
   .s .d3 .d3 aV,
   .s .d3 .d1 fO,
   .s .d3 .d0 cj])
 (.block 8 (.loop (.seq (.ad 1 [.s .d3 .d2 (.L (.bin .lss (.t .d3 .d0) (.t .d3 .d1)))])
 (.seq (.cond (.t .d3 .d2) .skip (.exit 8))
 (.seq (.block 9 (.seq (.ad 15 [.p (.L (.bY 3 (.t .d3 .d3) (.t .d3 .d0))),
   .p xD,
   .s .d3 .d4 FF,
   .p (.H (.store 3 ai bo))])
 (.ad 124 [.p (.L (.bK 0 (.t .d3 .d4))),
   .p aV,
   .p (.L (.bK 2 (.t .d3 .d4))),
   .p aV,
   .s .d1 .d0 (.H (.call 62 [bb,eh,b6,ai]))])))
 (.ad 1 [.s .d3 .d0 (.L (.bin .add (.t .d3 .d0) fi))]))))))))))
 (.ad 1 [.s .d2 .d3 (.L (.bin .add rE fi))])))))))))))))⟩
def i26:cd:=
 ⟨2,[0,1,3,13,12,14,11,5,27,26,28,25,7,34,33,35,32,9,46],[],(.seq (.ad 1 [.s .d0 .d2 (.L (.box 5 cm))])
 (.seq (.seq (.ad 15 [.p (.L (.bK 3 cT)),
   .s .d0 .d6 aV,
   .s .d0 .d4 fO,
   .s .d0 .d3 cj])
 (.block 0 (.loop (.seq (.ad 1 [.s .d0 .d5 zG])
 (.seq (.cond c3 .skip (.exit 0))
 (.seq (.block 1 (.seq (.ad 15 [.p (.L (.bY 4 c9 cP)),
   .p vF,
   .s .d0 .d7 zD,
   .p (.H (.store 4 ai bo))])
 (.ad 62 [.p Co,
   .p aV,
   .p (.L (.bK 3 dx)),
   .p aV,
   .p (.H (.call 63 [bb,b6,ai]))])))
 (.ad 1 [.s .d0 .d3 pz])))))))
 (.seq (.ad 15 [.p FE,
   .s .d1 .d3 aV,
   .s .d1 .d1 fO,
   .s .d1 .d0 cj])
 (.block 2 (.loop (.seq (.ad 1 [.s .d1 .d2 (.L (.bin .lss eh iL))])
 (.seq (.cond iV .skip (.exit 2))
 (.seq (.block 3 (.seq (.ad 15 [.p (.L (.bY 8 hq eh)),
   .p Fs,
   .s .d1 .d4 zE,
   .p (.H (.store 8 ai bo))])
 (.seq (.seq (.ad 15 [.p Cf,
   .s .d2 .d0 aV,
   .s .d1 .d6 fO,
   .s .d1 .d5 cj])
 (.block 4 (.loop (.seq (.ad 1 [.s .d1 .d7 (.L (.bin .lss gn hP))])
 (.seq (.cond ml .skip (.exit 4))
 (.seq (.block 5 (.seq (.ad 15 [.p (.L (.bY 3 ou gn)),
   .p xD,
   .s .d2 .d1 FF,
   .p (.H (.store 3 ai bo))])
 (.ad 62 [.p (.L (.bK 1 lE)),
   .p aV,
   .p (.L (.bK 2 lE)),
   .p aV,
   .p (.H (.call 63 [bb,b6,ai]))])))
 (.ad 1 [.s .d1 .d5 (.L (.bin .add gn fi))])))))))
 (.seq (.seq (.ad 3 [.p (.L (.bK 2 fE)),
   .s .d2 .d2 aV])
 (.cond qw (.ad 62 [.p (.L (.bK 3 fE)),
   .p aV,
   .p (.L (.bK 7 fE)),
   .p aV,
   .p (.H (.call 63 [bb,b6,ai]))]) .skip))
 (.ad 62 [.p (.L (.bK 4 fE)),
   .p aV,
   .p (.L (.bK 7 fE)),
   .p aV,
   .p (.H (.call 63 [bb,b6,ai]))])))))
 (.ad 1 [.s .d1 .d0 (.L (.bin .add eh fi))])))))))))⟩
def i27:cd:=
 ⟨1,[0,2,1,21,20,22,19,3,5],[.cell .d0 .d1 (some 6)],(.seq (.ad 3 [.s .d0 .d2 (.L (.box 8 bb)),
   .s .d0 .d1 zF])
 (.seq (.draw [0,1,2,3,4,5,6,7,8,9,12,10,11,13] [⟨.p Cn,[]⟩,
   ⟨.p aV,[]⟩,
   ⟨.p Cr,[]⟩,
   ⟨.p aV,[]⟩,
   ⟨.p (.L (.bK 3 cT)),[]⟩,
   ⟨.p aV,[]⟩,
   ⟨.p FE,[]⟩,
   ⟨.p aV,[]⟩,
   ⟨.p (.L (.bK 5 cT)),[]⟩,
   ⟨.p aV,[]⟩,
   ⟨.s .d0 .d7 zF,[]⟩,
   ⟨.p (.H (.call 44 [bo])),[9,7,5,3,0]⟩,
   ⟨.p (.L (.build [.str 0 0, .U, .bool false, .str 0 0, .str 0 0, .U] [(0,1,xu),(2,1,px),(3,1,kG),(4,1,fT),(5,1,ai)])),[]⟩,
   ⟨.p (.H (.store 6 b6 ai)),[]⟩])
 (.seq (.seq (.ad 15 [.p Fy,
   .s .d0 .d6 aV,
   .s .d0 .d4 fO,
   .s .d0 .d3 cj])
 (.block 0 (.loop (.seq (.ad 1 [.s .d0 .d5 zG])
 (.seq (.cond c3 .skip (.exit 0))
 (.seq (.block 1 (.seq (.ad 15 [.p (.L (.bY 3 c9 cP)),
   .p xD,
   .s .d1 .d0 FF,
   .p (.H (.store 3 ai bo))])
 (.ad 255 [.p Co,
   .p aV,
   .p (.L (.bK 1 eh)),
   .p aV,
   .p vI,
   .p (.H (.append 1 16 cU ai)),
   .p Co,
   .p (.H (.store 1 ai bo))])))
 (.ad 1 [.s .d0 .d3 pz])))))))
 (.seq (.ad 3 [.p (.L (.da 6 dx)),
   .p (.H (.store 6 cm ai))])
 .ret))))⟩
def i29:cd:=
 ⟨2,[0,1,4,2,3],[.tmp .d0 .d2],(.seq (.ad 7 [.s .d0 .d3 (.L (.box 4 bb)),
   .s .d0 .d4 (.L (.box 4 cm)),
   .s .d0 .d2 cj])
 (.seq (.ad 31 [.p mn,
   .p aV,
   .p zB,
   .p aV,
   .s .d0 .d2 (.H (.call 30 [b6,ai]))])
 .ret))⟩
def i30:cd:=
 ⟨2,[0,1,4],[.tmp .d0 .d2],(.seq (.ad 1 [.s .d0 .d2 cj])
 (.seq (.ad 4 [.s .d0 .d2 (.H (.call 66 [bb,cm]))])
 .ret))⟩
def i32:cd:=
 ⟨2,[0,1,4,2,3],[.tmp .d0 .d2],(.seq (.ad 7 [.s .d0 .d3 (.L (.box 6 bb)),
   .s .d0 .d4 (.L (.box 6 cm)),
   .s .d0 .d2 cj])
 (.seq (.ad 31 [.p mn,
   .p aV,
   .p zB,
   .p aV,
   .s .d0 .d2 (.H (.call 30 [b6,ai]))])
 .ret))⟩
def i33:cd:=
 ⟨1,[0,2,3,4,6,17,7,5,8,9],[.cell .d0 .d1 (some 6), .tmp .d0 .d2, .tmp .d0 .d3],(.seq (.ad 7 [.s .d0 .d1 vG,
   .s .d0 .d2 cj,
   .s .d0 .d3 cj])
 (.seq (.ad 506 [.p (.H (.call 68 [bb])),
   .p iM,
   .p iN,
   .p zy,
   .s .d0 .d7 lF,
   .s .d0 .d4 lF,
   .s .d0 .d6 lF])
 (.seq (.seq (.ad 2 [.s .d0 .d5 JQ])
 (.cond c3 (.seq (.ad 57 [.p xy,
   .p (.H (.store 6 cm ai)),
   .s .d0 .d2 lG,
   .s .d0 .d3 py])
 .ret) .skip))
 (.seq (.ad 250 [.p (.H (.call 69 [dx])),
   .p iM,
   .p iN,
   .s .d1 .d0 vG,
   .p (.H (.store 6 ai b6)),
   .s .d1 .d1 lF])
 (.seq (.ad 29 [.p (.L (.da 6 eh)),
   .p (.H (.store 6 cm ai)),
   .s .d0 .d2 Ch,
   .s .d0 .d3 cj])
 .ret)))))⟩
def i37:cd:=
 ⟨1,[0,2,3,1,4,5,7,6,25,27,26,28,10,9,43,8,61],[.tmp .d0 .d1, .tmp .d0 .d2],(.seq (.ad 7 [.s .d0 .d3 (.L (.box 1 bb)),
   .s .d0 .d1 eE,
   .s .d0 .d2 cj])
 (.seq (.ad 3 [.s .d0 .d4 (.L (.alloc [.int .i64 0])),
   .p (.H (.store 1 ai gY))])
 (.seq (.ad 1 [.s .d0 .d5 (.L (.fn 71 [] [cP,eg]))])
 (.seq (.ad 122 [.p (.H (.q6 c3 [])),
   .p iM,
   .p iN,
   .s .d0 .d7 fa,
   .s .d0 .d6 fa])
 (.seq (.seq (.ad 506 [.p (.L (.not c9)),
   .g ai false mo,
   .g bo false (.L (.load cP)),
   .g b6 false fO,
   .g cU false (.L (.bin .quo ai sW)),
   .g fT false (.L (.bin .gtr cU ai)),
   .s .d1 .d0 Ci])
 (.cond eh (.seq (.ad 3 [.s .d0 .d1 eE,
   .s .d0 .d2 Cl])
 .ret) .skip))
 (.seq (.ad 1 [.s .d1 .d7 eE])
 (.seq (.seq (.ad 3 [.s .d1 .d2 mo,
   .s .d1 .d1 cj])
 (.block 0 (.loop (.seq (.ad 1 [.s .d1 .d3 Fz])
 (.seq (.cond hq .skip (.exit 0))
 (.seq (.block 1 (.seq (.ad 122 [.p (.H (.q6 c3 [])),
   .p iM,
   .p iN,
   .s .d1 .d5 fa,
   .s .d1 .d4 fa])
 (.seq (.seq (.ad 1018 [.p (.L (.not fE)),
   .g ai false xA,
   .g bo false (.L (.load cP)),
   .g b6 false fO,
   .g cU false Cs,
   .g fT false (.L (.bin .sub bo ai)),
   .g hs false (.L (.bin .gtr fT ai)),
   .s .d1 .d6 Fv])
 (.cond hP (.seq (.ad 3 [.s .d0 .d1 eE,
   .s .d0 .d2 Cl])
 .ret) .skip))
 (.seq (.ad 1006 [.p (.L (.load cP)),
   .p Cs,
   .p Cs,
   .p (.L (.bin .add ai gn)),
   .p (.L (.jU 1 cU (some b6) (some ai) none)),
   .p (.L (.q5 ai)),
   .p vI,
   .s .d1 .d7 (.H (.append 1 16 ml ai))])
 (.ad 13 [.p Cs,
   .p (.L (.bin .add ai gn)),
   .p (.H (.store 1 eg ai))])))))
 (.ad 1 [.s .d1 .d1 Cj])))))))
 (.seq (.seq (.ad 15 [.p Cs,
   .p (.L (.load cP)),
   .p fO,
   .s .d2 .d0 (.L (.bin .neq b6 ai))])
 (.cond ou (.seq (.ad 3 [.s .d0 .d1 eE,
   .s .d0 .d2 Cl])
 .ret) .skip))
 (.seq (.ad 6 [.s .d0 .d1 vJ,
   .s .d0 .d2 cj])
 .ret)))))))))⟩
def i38:cd:=
 ⟨1,[0,2,3,5,4,33],[.tmp .d0 .d1],(.seq (.ad 1 [.s .d0 .d1 cj])
 (.seq (.ad 2 [.s .d0 .d2 (.H (.call 39 [bb]))])
 (.seq (.ad 122 [.p (.H (.call 73 [cT])),
   .p iM,
   .p iN,
   .s .d0 .d4 fa,
   .s .d0 .d3 fa])
 (.seq (.seq (.ad 2092986 [.p (.L (.eq true .ez cP zx)),
   .g ai false lG,
   .g bo false (.L (.bin .lss ai gY)),
   .p vK,
   .g ai false lG,
   .g bo false (.H (.call 42 [ai])),
   .g b6 false j9,
   .g cU false (.L (.e8 .neq bo ai)),
   .p Cm,
   .g ai false lG,
   .g bo false cw,
   .g b6 false gP,
   .g cU false iP,
   .g fT false aV,
   .g hs false fO,
   .g kG false (.L (.bin .gtr hs ai)),
   .s .d0 .d5 JU])
 (.cond c3 (.seq (.ad 14 [.p fU,
   .p ic,
   .p (.H (.store 1 ai mm))])
 (.seq (.ad 1 [.s .d0 .d1 cj])
 .ret)) .skip))
 (.seq (.ad 2 [.s .d0 .d1 lG])
 .ret)))))⟩
def i39:cd:=
 ⟨1,[0,2,9,3],[.tmp .d0 .d1],(.seq (.ad 1 [.s .d0 .d1 ov])
 (.seq (.seq (.ad 62 [.p fU,
   .p iP,
   .p aV,
   .p fO,
   .s .d0 .d2 mS])
 (.cond cT (.seq (.ad 14 [.p fU,
   .p ic,
   .p (.H (.store 1 ai mm))])
 (.seq (.ad 1 [.s .d0 .d1 ov])
 .ret)) .skip))
 (.seq (.ad 62 [.p fU,
   .p iP,
   .p aV,
   .p (.L (.bY 1 ai gY)),
   .s .d0 .d3 aV])
 (.seq (.ad 508 [.p fU,
   .p iP,
   .p aV,
   .p (.L (.jU 1 ai (some fi) none none)),
   .p fU,
   .p iP,
   .p (.H (.store 1 ai b6))])
 (.seq (.ad 2 [.s .d0 .d1 kH])
 .ret)))))⟩
def i40:cd:=
 ⟨1,[0,2,3,4],[.tmp .d0 .d1],(.seq (.ad 1 [.s .d0 .d1 eE])
 (.seq (.ad 2 [.s .d0 .d2 (.H (.call 38 [bb]))])
 (.seq (.ad 110 [.p fU,
   .p iP,
   .p aV,
   .p (.L (.jU 1 ai none (some cT) none)),
   .s .d0 .d3 (.H (.call 74 [ai]))])
 (.seq (.ad 988 [.p fU,
   .p iP,
   .p aV,
   .p (.L (.jU 1 ai (some cT) none none)),
   .p fU,
   .p iP,
   .p (.H (.store 1 ai b6))])
 (.seq (.ad 2 [.s .d0 .d1 kH])
 .ret)))))⟩
def i41:cd:=
 ⟨1,[0,2,3,7,19],[.tmp .d0 .d1],(.seq (.ad 1 [.s .d0 .d1 gE])
 (.seq (.seq (.ad 1 [.s .d0 .d2 Cp])
 (.block 0 (.loop (.seq (.seq (.ad 12 [.p iO,
   .s .d0 .d3 JY])
 (.cond cP .skip (.exit 0)))
 (.seq (.block 1 (.seq (.draw [0,1,2,3,4,5,6,7,8,9] [⟨.p cw,[]⟩,
   ⟨.p j9,[]⟩,
   ⟨.p iX,[]⟩,
   ⟨.p aV,[]⟩,
   ⟨.p cw,[]⟩,
   ⟨.p j9,[]⟩,
   ⟨.p mT,[]⟩,
   ⟨.p zI,[]⟩,
   ⟨.p aV,[]⟩,
   ⟨.s .d0 .d4 (.L (.e8 .leq hs ai)),[]⟩])
 (.cond eg (.seq (.ad 1 [.s .d0 .d1 gE])
 .ret) .skip)))
 (.ad 2 [.s .d0 .d2 Ct]))))))
 (.seq (.ad 1 [.s .d0 .d1 sX])
 .ret)))⟩
def i42:cd:=
 ⟨1,[0,2],[.tmp .d0 .d1],(.seq (.ad 1 [.s .d0 .d1 ov])
 (.seq (.ad 2 [.s .d0 .d1 (.H (.call 75 [bb]))])
 .ret))⟩
def i43:cd:=
 ⟨1,[0,2,11,10,12,9,5,3],[.tmp .d0 .d1],(.seq (.ad 1 [.s .d0 .d1 eE])
 (.seq (.ad 6 [.p iO,
   .s .d0 .d7 (.H (.call 76 [ai]))])
 (.seq (.seq (.ad 7 [.s .d0 .d5 cw,
   .s .d0 .d3 fO,
   .s .d0 .d2 cj])
 (.block 0 (.loop (.seq (.ad 1 [.s .d0 .d4 (.L (.bin .lss cT cP))])
 (.seq (.cond eg .skip (.exit 0))
 (.seq (.block 1 (.seq (.ad 3 [.p (.L (.bY 1 c3 cT)),
   .s .d0 .d6 aV])
 (.ad 92 [.p (.L (.len true c9)),
   .p (.H (.call 76 [ai])),
   .p (.H (.append 1 1 dx ai)),
   .s .d0 .d7 (.H (.append 1 1 ai c9))])))
 (.ad 1 [.s .d0 .d2 Ct])))))))
 (.seq (.ad 2 [.s .d0 .d1 mo])
 .ret))))⟩
def i44:cd:=
 ⟨1,[0,2,3],[.tmp .d0 .d1],(.seq (.ad 1 [.s .d0 .d1 eE])
 (.seq (.ad 2 [.s .d0 .d2 (.H (.call 74 [bb]))])
 (.seq (.ad 2 [.p (.H (.call 77 [cT]))])
 (.seq (.ad 2 [.s .d0 .d2 (.H (.call 78 [cT]))])
 (.seq (.ad 52 [.p (.L (.len false cT)),
   .p (.L (.len false cT)),
   .s .d0 .d1 (.L (.jU 1 cT none (some bo) (some ai)))])
 .ret)))))⟩
def i45:cd:=
 ⟨1,[0,2,11,10,12,9,5,3,20,27,26,28,25,6,8],[.tmp .d0 .d1],(.seq (.ad 1 [.s .d0 .d1 eE])
 (.seq (.ad 1 [.s .d0 .d7 cj])
 (.seq (.seq (.ad 7 [.s .d0 .d5 cw,
   .s .d0 .d3 fO,
   .s .d0 .d2 cj])
 (.block 0 (.loop (.seq (.ad 1 [.s .d0 .d4 (.L (.bin .lss cT cP))])
 (.seq (.cond eg .skip (.exit 0))
 (.seq (.block 1 (.seq (.ad 3 [.p (.L (.bY 1 c3 cT)),
   .s .d0 .d6 aV])
 (.seq (.ad 12 [.p (.L (.len false c9)),
   .s .d0 .d7 (.L (.bin .add dx ai))])
 (.seq (.ad 2 [.s .d1 .d0 (.L (.bin .lss dx gY))])
 (.cond eh (.ad 3 [.p (.L (.ez 9 (.c (.str 16 134789072936214216453580009062074836332)))),
   .p (.H (.panic ai))]) .skip)))))
 (.ad 1 [.s .d0 .d2 Ct])))))))
 (.seq (.ad 2 [.s .d1 .d5 (.H (.call 79 [sV,dx]))])
 (.seq (.seq (.ad 7 [.s .d1 .d4 cw,
   .s .d1 .d2 fO,
   .s .d1 .d1 cj])
 (.block 2 (.loop (.seq (.ad 1 [.s .d1 .d3 Fz])
 (.seq (.cond hq .skip (.exit 2))
 (.seq (.block 3 (.seq (.ad 3 [.p (.L (.bY 1 fE iL)),
   .s .d1 .d6 aV])
 (.ad 4 [.s .d1 .d5 (.H (.append 1 16 gn hP))])))
 (.ad 1 [.s .d1 .d1 Cj])))))))
 (.seq (.ad 2 [.s .d0 .d1 xA])
 .ret))))))⟩
def i46:cd:=
 ⟨2,[0,1,4,5,9,17],[.tmp .d0 .d2],(.seq (.ad 1 [.s .d0 .d2 cj])
 (.seq (.seq (.ad 1 [.s .d0 .d3 cj])
 (.block 0 (.loop (.seq (.seq (.ad 12 [.p iO,
   .s .d0 .d4 xE])
 (.cond eg .skip (.exit 0)))
 (.seq (.block 1 (.seq (.ad 44 [.p FG,
   .p aV,
   .s .d0 .d5 (.L (.e8 .eql ai cm))])
 (.cond c3 (.seq (.ad 2 [.s .d0 .d2 kH])
 .ret) .skip)))
 (.ad 2 [.s .d0 .d3 pz]))))))
 (.seq (.ad 1 [.s .d0 .d2 (.L (.cV uq))])
 .ret)))⟩
def i47:cd:=
 ⟨2,[0,1,4,5,18,32,6,42],[.tmp .d0 .d2],(.seq (.ad 1 [.s .d0 .d2 eE])
 (.seq (.ad 1 [.s .d0 .d3 cj])
 (.seq (.block 0 (.loop (.seq (.seq (.ad 4076 [.p iO,
   .p xE,
   .g ai true cw,
   .g bo true kH,
   .g b6 true iX,
   .g cU true aV,
   .g fT true iW,
   .g hs true (.L (.e8 .lss bo ai)),
   .s .d0 .d4 JZ])
 (.cond eg .skip (.exit 0)))
 (.block 1 (.ad 2 [.s .d0 .d3 pz])))))
 (.seq (.seq (.ad 4076 [.p iO,
   .p xE,
   .g ai true cw,
   .g bo true kH,
   .g b6 true iX,
   .g cU true aV,
   .g fT true iW,
   .g hs true (.L (.e8 .eql bo ai)),
   .s .d0 .d5 JZ])
 (.cond c3 (.seq (.ad 2 [.s .d0 .d2 cw])
 .ret) .skip))
 (.seq (.ad 6 [.p (.L (.eS 1 1 [.str 0 0] [(0,1,Fh)])),
   .s .d0 .d0 (.H (.append 1 16 bb ai))])
 (.seq (.seq (.ad 6 [.p iO,
   .s .d0 .d6 mT])
 (.block 2 (.loop (.seq (.seq (.ad 4 [.s .d0 .d7 (.L (.bin .gtr c9 cP))])
 (.cond dx .skip (.exit 2)))
 (.seq (.block 3 (.ad 496 [.p (.L (.bin .sub c9 fi)),
   .p (.L (.bY 1 bb ai)),
   .p aV,
   .p J0,
   .p (.H (.store 1 ai bo))]))
 (.ad 2 [.s .d0 .d6 (.L (.bin .sub c9 fi))]))))))
 (.seq (.ad 24 [.p FG,
   .p (.H (.store 1 ai cm))])
 (.seq (.ad 2 [.s .d0 .d2 cw])
 .ret))))))))⟩
def i48:cd:=
 ⟨2,[0,1,4],[.tmp .d0 .d2],(.seq (.ad 1 [.s .d0 .d2 gE])
 (.seq (.ad 12 [.p (.H (.call 80 [bb,cm])),
   .s .d0 .d2 (.L (.bin .geq ai gY))])
 .ret))⟩
def i49:cd:=
 ⟨2,[0,1,3],[.tmp .d0 .d2],(.seq (.ad 1 [.s .d0 .d2 gE])
 (.seq (.ad 13 [.p (.L (.load cm)),
   .p (.H (.call 50 [ai,bb])),
   .s .d0 .d2 j8])
 .ret))⟩
def i50:cd:=
 ⟨2,[0,1,4],[.tmp .d0 .d2],(.seq (.ad 1 [.s .d0 .d2 gE])
 (.seq (.ad 12 [.p (.H (.call 81 [bb,cm])),
   .s .d0 .d2 (.L (.bin .geq ai gY))])
 .ret))⟩
def i51:cd:=
 ⟨1,[0,2],[.tmp .d0 .d1],(.seq (.ad 1 [.s .d0 .d1 gE])
 (.seq (.ad 58 [.p (.L (.bin .geq bb (.c (.int .u8 97)))),
   .g ai true cw,
   .g bo true (.L (.bin .leq ai (.c (.int .u8 122)))),
   .s .d0 .d1 xB])
 .ret))⟩
def i52:cd:=
 ⟨1,[0,2],[.tmp .d0 .d1],(.seq (.ad 1 [.s .d0 .d1 gE])
 (.seq (.ad 58 [.p (.L (.bin .geq bb Fi)),
   .g ai true cw,
   .g bo true (.L (.bin .leq ai (.c (.int .u8 57)))),
   .s .d0 .d1 xB])
 .ret))⟩
def i53:cd:=
 ⟨1,[0,2,3,4],[.tmp .d0 .d1],(.seq (.ad 1 [.s .d0 .d1 gE])
 (.seq (.seq (.ad 1 [.s .d0 .d2 cw])
 (.block 0 (.seq (.seq (.ad 1 [.s .d0 .d3 (.L (.e8 .eql cT (.c (.str 6 111516500389741))))])
 (.cond cP .skip (.seq (.ad 1 [.s .d0 .d3 (.L (.e8 .eql cT (.c (.str 6 128034844732777))))])
 (.cond cP .skip (.seq (.ad 1 [.s .d0 .d3 (.L (.e8 .eql cT (.c (.str 3 7496054))))])
 (.cond cP .skip (.seq (.ad 1 [.s .d0 .d3 (.L (.e8 .eql cT (.c (.str 4 1668248176))))])
 (.cond cP .skip (.seq (.ad 1 [.s .d0 .d3 (.L (.e8 .eql cT (.c (.str 2 25456))))])
 (.cond cP .skip (.seq (.ad 1 [.s .d0 .d3 (.L (.e8 .eql cT (.c (.str 4 1936028533))))])
 (.cond cP .skip (.seq (.ad 1 [.s .d0 .d3 (.L (.e8 .eql cT (.c (.str 3 7628140))))])
 (.cond cP .skip (.seq (.ad 1 [.s .d0 .d3 (.L (.e8 .eql cT (.c (.str 4 1819042147))))])
 (.cond cP .skip (.seq (.ad 1 [.s .d0 .d3 (.L (.e8 .eql cT (.c (.str 2 26217))))])
 (.cond cP .skip (.seq (.ad 1 [.s .d0 .d3 (.L (.e8 .eql cT (.c (.str 4 1702063205))))])
 (.cond cP .skip (.seq (.ad 1 [.s .d0 .d3 (.L (.e8 .eql cT (.c (.str 5 435610544247))))])
 (.cond cP .skip (.seq (.ad 1 [.s .d0 .d3 (.L (.e8 .eql cT (.c (.str 4 1953066341))))])
 (.cond cP .skip (.seq (.ad 1 [.s .d0 .d3 (.L (.e8 .eql cT (.c (.str 6 128009175786866))))])
 (.cond cP .skip (.seq (.ad 1 [.s .d0 .d3 (.L (.e8 .eql cT (.c (.str 4 1885956979))))])
 (.cond cP .skip (.ad 1 [.s .d0 .d3 (.L (.e8 .eql cT (.c (.str 6 126909394608492))))])))))))))))))))))))))))))))))
 (.cond cP (.seq (.ad 1 [.s .d0 .d1 sX])
 .ret) .skip))))
 (.seq (.ad 1 [.s .d0 .d1 gE])
 .ret)))⟩
def i54:cd:=
 ⟨2,[0,1,4,9,14,15,26,27],[.tmp .d0 .d2],(.seq (.ad 1 [.s .d0 .d2 ov])
 (.seq (.seq (.ad 26 [.p (.L (.bin .add cm fi)),
   .p sY,
   .s .d0 .d3 (.L (.bin .lss bo ai))])
 (.cond cP (.seq (.ad 24 [.p (.L (.bin .add cm k3)),
   .s .d0 .d4 J1])
 (.block 0 (.seq (.seq (.ad 1 [.s .d0 .d5 (.L (.e8 .eql eg (.c (.str 2 15677))))])
 (.cond c3 .skip (.seq (.ad 1 [.s .d0 .d5 (.L (.e8 .eql eg (.c (.str 2 15676))))])
 (.cond c3 .skip (.ad 1 [.s .d0 .d5 (.L (.e8 .eql eg (.c (.str 2 15917))))])))))
 (.cond c3 (.seq (.ad 24 [.p (.L (.bin .add cm k3)),
   .s .d0 .d2 J1])
 .ret) .skip)))) .skip))
 (.seq (.seq (.ad 4 [.s .d0 .d6 (.L (.kT bb cm))])
 (.block 1 (.seq (.seq (.ad 1 [.s .d0 .d7 (.L (.bin .eql c9 (.c (.int .u8 40))))])
 (.cond dx .skip (.seq (.ad 1 [.s .d0 .d7 (.L (.bin .eql c9 (.c (.int .u8 41))))])
 (.cond dx .skip (.seq (.ad 1 [.s .d0 .d7 (.L (.bin .eql c9 (.c (.int .u8 123))))])
 (.cond dx .skip (.seq (.ad 1 [.s .d0 .d7 (.L (.bin .eql c9 (.c (.int .u8 125))))])
 (.cond dx .skip (.seq (.ad 1 [.s .d0 .d7 (.L (.bin .eql c9 (.c (.int .u8 44))))])
 (.cond dx .skip (.seq (.ad 1 [.s .d0 .d7 (.L (.bin .eql c9 (.c (.int .u8 59))))])
 (.cond dx .skip (.seq (.ad 1 [.s .d0 .d7 (.L (.bin .eql c9 (.c (.int .u8 58))))])
 (.cond dx .skip (.seq (.ad 1 [.s .d0 .d7 (.L (.bin .eql c9 (.c (.int .u8 46))))])
 (.cond dx .skip (.seq (.ad 1 [.s .d0 .d7 (.L (.bin .eql c9 (.c (.int .u8 61))))])
 (.cond dx .skip (.seq (.ad 1 [.s .d0 .d7 (.L (.bin .eql c9 (.c (.int .u8 60))))])
 (.cond dx .skip (.seq (.ad 1 [.s .d0 .d7 (.L (.bin .eql c9 (.c (.int .u8 43))))])
 (.cond dx .skip (.seq (.ad 1 [.s .d0 .d7 (.L (.bin .eql c9 B8))])
 (.cond dx .skip (.seq (.ad 1 [.s .d0 .d7 (.L (.bin .eql c9 (.c (.int .u8 42))))])
 (.cond dx .skip (.seq (.ad 1 [.s .d0 .d7 (.L (.bin .eql c9 (.c (.int .u8 47))))])
 (.cond dx .skip (.seq (.ad 1 [.s .d0 .d7 (.L (.bin .eql c9 (.c (.int .u8 37))))])
 (.cond dx .skip (.ad 1 [.s .d0 .d7 (.L (.bin .eql c9 (.c (.int .u8 33))))])))))))))))))))))))))))))))))))
 (.cond dx (.seq (.ad 24 [.p (.L (.bin .add cm fi)),
   .s .d0 .d2 J1])
 .ret) .skip))))
 (.seq (.ad 1 [.s .d0 .d2 ov])
 .ret))))⟩
def i55:cd:=
 ⟨2,[0,1,7],[],(.seq (.ad 12 [.p (.H (.call 58 [bb,cm])),
   .s .d0 .d2 j8])
 (.cond cT (.ad 2 [.p (.H (.call 61 [bb,zw]))]) .skip))⟩
def i56:cd:=
 ⟨1,[0,2],[.tmp .d0 .d1],(.seq (.ad 1 [.s .d0 .d1 cj])
 (.seq (.draw [0,1,2,3,4,5,6,7,8,9,10,11] [⟨.p cw,[]⟩,
   ⟨.p gP,[]⟩,
   ⟨.p iP,[]⟩,
   ⟨.p aV,[]⟩,
   ⟨.p cw,[]⟩,
   ⟨.p gP,[]⟩,
   ⟨.p ic,[]⟩,
   ⟨.p aV,[]⟩,
   ⟨.p uu,[]⟩,
   ⟨.p rG,[]⟩,
   ⟨.p aV,[]⟩,
   ⟨.s .d0 .d1 jq,[]⟩])
 .ret))⟩
def i57:cd:=
 ⟨1,[0,2,3,23],[.tmp .d0 .d1],(.seq (.ad 1 [.s .d0 .d1 ov])
 (.seq (.draw [0,1,2,3,4,5,6,7,8,9,10,11] [⟨.p cw,[]⟩,
   ⟨.p gP,[]⟩,
   ⟨.p iP,[]⟩,
   ⟨.p aV,[]⟩,
   ⟨.p cw,[]⟩,
   ⟨.p gP,[]⟩,
   ⟨.p ic,[]⟩,
   ⟨.p aV,[]⟩,
   ⟨.p uu,[]⟩,
   ⟨.p xD,[]⟩,
   ⟨.s .d0 .d2 FH,[]⟩,
   ⟨.p (.H (.store 3 ai bo)),[]⟩])
 (.seq (.seq (.ad 990 [.p fU,
   .p k4,
   .p aV,
   .p xx,
   .g ai false Cn,
   .g bo false aV,
   .g b6 false (.L (.bin .neq ai fi)),
   .s .d0 .d3 ur])
 (.cond cP (.seq (.ad 2 [.p (.H (.call 61 [bb,zw]))])
 (.seq (.ad 1 [.s .d0 .d1 ov])
 .ret)) .skip))
 (.seq (.ad 254 [.p fU,
   .p ic,
   .p aV,
   .p zJ,
   .p fU,
   .p ic,
   .p (.H (.store 1 ai b6))])
 (.seq (.ad 3 [.p Fy,
   .s .d0 .d1 aV])
 .ret)))))⟩
def i58:cd:=
 ⟨2,[0,1,4,8],[.tmp .d0 .d2],(.seq (.ad 1 [.s .d0 .d2 gE])
 (.seq (.seq (.ad 12 [.p (.H (.call 82 [bb,cm])),
   .s .d0 .d3 j8])
 (.cond cP (.seq (.ad 1 [.s .d0 .d2 gE])
 .ret) .skip))
 (.seq (.ad 254 [.p fU,
   .p ic,
   .p aV,
   .p zJ,
   .p fU,
   .p ic,
   .p (.H (.store 1 ai b6))])
 (.seq (.ad 1 [.s .d0 .d2 sX])
 .ret))))⟩
def i59:cd:=
 ⟨1,[0,2,3,5,39,4,54],[.cell .d0 .d1 (some 4)],(.seq (.ad 1 [.s .d0 .d1 zD])
 (.seq (.ad 122 [.p (.H (.call 56 [bb])),
   .p (.H (.call 57 [bb])),
   .p (.L (.build [.str 0 0, .str 0 0, .int .i64 0, .int .i64 0] [(3,1,bo),(0,1,ai)])),
   .s .d0 .d2 zD,
   .p (.H (.store 4 ai bo))])
 (.seq (.ad 2 [.p (.H (.call 55 [bb,(.c (.str 1 58))]))])
 (.seq (.ad 14 [.p (.H (.call 57 [bb])),
   .p Fy,
   .p (.H (.store 1 ai bo))])
 (.seq (.ad 2 [.p (.H (.call 55 [bb,B9]))])
 (.seq (.ad 2 [.s .d0 .d5 (.H (.call 58 [bb,(.c (.str 1 45))]))])
 (.seq (.draw [0,1,2,3,4,5,6,7,8,9,10,11] [⟨.p cw,[]⟩,
   ⟨.p gP,[]⟩,
   ⟨.p iP,[]⟩,
   ⟨.p aV,[]⟩,
   ⟨.p cw,[]⟩,
   ⟨.p gP,[]⟩,
   ⟨.p ic,[]⟩,
   ⟨.p aV,[]⟩,
   ⟨.p uu,[]⟩,
   ⟨.p xD,[]⟩,
   ⟨.s .d0 .d3 FH,[]⟩,
   ⟨.p (.H (.store 3 ai bo)),[]⟩])
 (.seq (.seq (.ad 990 [.p fU,
   .p k4,
   .p aV,
   .p xx,
   .g ai false mn,
   .g bo false aV,
   .g b6 false (.L (.bin .neq ai k3)),
   .s .d0 .d4 ur])
 (.cond eg (.seq (.ad 2 [.p (.H (.call 61 [bb,zw]))])
 (.seq (.ad 3 [.p (.L (.da 4 cT)),
   .p (.H (.store 4 cm ai))])
 .ret)) .skip))
 (.seq (.ad 254 [.p fU,
   .p ic,
   .p aV,
   .p zJ,
   .p fU,
   .p ic,
   .p (.H (.store 1 ai b6))])
 (.seq (.ad 31 [.p Cg,
   .p aV,
   .p (.H (.call 83 [ai])),
   .p Cr,
   .p (.H (.store 1 ai bo))])
 (.seq (.seq (.ad 1 [.s .d0 .d6 mU])
 (.cond c9 (.ad 31 [.p Cr,
   .p aV,
   .p (.L (.neg ai)),
   .p Cr,
   .p (.H (.store 1 ai bo))]) .skip))
 (.seq (.ad 2 [.p (.H (.call 55 [bb,B7]))])
 (.seq (.ad 3 [.p (.L (.da 4 cT)),
   .p (.H (.store 4 cm ai))])
 .ret)))))))))))))⟩
def i60:cd:=
 ⟨1,[0,2,14,19,4,3,38,42,58,63,73],[.cell .d0 .d1 (some 8)],(.seq (.ad 1 [.s .d0 .d1 zE])
 (.seq (.ad 122 [.p (.H (.call 56 [bb])),
   .p (.H (.call 57 [bb])),
   .p (.L (.build [.str 0 0, .U, .bool false, .str 0 0, .str 0 0, .U, .U, .int .i64 0] [(7,1,bo),(0,1,ai)])),
   .s .d0 .d5 zE,
   .p (.H (.store 8 ai bo))])
 (.seq (.ad 2 [.p (.H (.call 55 [bb,Fj]))])
 (.seq (.seq (.ad 6 [.p (.H (.call 82 [bb,Ca])),
   .s .d0 .d2 j8])
 (.cond cT (.block 0 (.loop (.seq (.seq (.ad 30 [.p fU,
   .p k4,
   .p aV,
   .s .d0 .d3 mS])
 (.cond cP .skip (.exit 0)))
 (.block 1 (.seq (.ad 122 [.p (.H (.call 56 [bb])),
   .p (.H (.call 57 [bb])),
   .p (.L (.build [.str 0 0, .str 0 0, .int .i64 0] [(2,1,bo),(0,1,ai)])),
   .s .d0 .d4 FF,
   .p (.H (.store 3 ai bo))])
 (.seq (.ad 2 [.p (.H (.call 55 [bb,(.c (.str 1 58))]))])
 (.seq (.ad 14 [.p (.H (.call 57 [bb])),
   .p (.L (.bK 1 eg)),
   .p (.H (.store 1 ai bo))])
 (.seq (.ad 127 [.p Cu,
   .p aV,
   .p (.L (.da 3 eg)),
   .p J2,
   .p (.H (.append 3 40 b6 ai)),
   .p Cu,
   .p (.H (.store 1 ai bo))])
 (.seq (.ad 6 [.p (.H (.call 58 [bb,(.c (.str 1 44))])),
   .s .d0 .d6 j8])
 (.cond c9 (.exit 0) .skip)))))))))) .skip))
 (.seq (.ad 2 [.p (.H (.call 55 [bb,Ca]))])
 (.seq (.seq (.ad 2 [.s .d0 .d7 (.H (.call 58 [bb,(.c (.str 2 15917))]))])
 (.cond dx (.seq (.ad 3 [.p FI,
   .p (.H (.store 1 ai mm))])
 (.ad 14 [.p (.H (.call 57 [bb])),
   .p (.L (.bK 3 c3)),
   .p (.H (.store 1 ai bo))])) .skip))
 (.seq (.ad 2 [.p (.H (.call 55 [bb,(.c (.str 2 25456))]))])
 (.seq (.ad 14 [.p (.H (.call 57 [bb])),
   .p (.L (.bK 4 c3)),
   .p (.H (.store 1 ai bo))])
 (.seq (.ad 2 [.p (.H (.call 55 [bb,(.c (.str 4 1936028533))]))])
 (.seq (.ad 2 [.p (.H (.call 55 [bb,(.c (.str 1 123))]))])
 (.seq (.seq (.ad 6 [.p (.H (.call 82 [bb,Fk])),
   .s .d1 .d0 j8])
 (.cond eh (.block 2 (.loop (.seq (.seq (.ad 30 [.p fU,
   .p k4,
   .p aV,
   .s .d1 .d1 mS])
 (.cond iL .skip (.exit 2)))
 (.block 3 (.seq (.draw [0,1,2,3,4,5,6,7] [⟨.p (.L (.bK 5 c3)),[]⟩,
   ⟨.p aV,[]⟩,
   ⟨.p cw,[]⟩,
   ⟨.p (.H (.call 57 [ai])),[1]⟩,
   ⟨.p vI,[]⟩,
   ⟨.p (.H (.append 1 16 cU ai)),[]⟩,
   ⟨.p (.L (.bK 5 c3)),[]⟩,
   ⟨.p (.H (.store 1 ai bo)),[]⟩])
 (.seq (.ad 6 [.p (.H (.call 58 [bb,(.c (.str 1 44))])),
   .s .d1 .d2 j8])
 (.cond iV (.exit 2) .skip))))))) .skip))
 (.seq (.ad 2 [.p (.H (.call 55 [bb,Fk]))])
 (.seq (.ad 14 [.p (.H (.call 84 [bb])),
   .p (.L (.bK 6 c3)),
   .p (.H (.store 1 ai bo))])
 (.seq (.ad 3 [.p (.L (.da 8 c3)),
   .p (.H (.store 8 cm ai))])
 .ret))))))))))))))⟩
def i61:cd:=
 ⟨2,[0,1,8],[],(.seq (.ad 30 [.p fU,
   .p k4,
   .p aV,
   .s .d0 .d2 mS])
 (.cond cT (.seq (.ad 28 [.p fU,
   .p k4,
   .p (.H (.store 1 ai cm))])
 (.draw [0,1,2,3,4,5,6,7,8,9,10,11,12,13,14] [⟨.p cw,[]⟩,
   ⟨.p cw,[]⟩,
   ⟨.p gP,[]⟩,
   ⟨.p iP,[]⟩,
   ⟨.p aV,[]⟩,
   ⟨.p cw,[]⟩,
   ⟨.p gP,[]⟩,
   ⟨.p ic,[]⟩,
   ⟨.p aV,[]⟩,
   ⟨.p uu,[]⟩,
   ⟨.p rG,[]⟩,
   ⟨.p aV,[]⟩,
   ⟨.p (.L (.oY (.l 11))),[]⟩,
   ⟨.p (.L (.bK 4 ai)),[]⟩,
   ⟨.p (.H (.store 1 ai b6)),[]⟩])) .skip))⟩
def i62:cd:=
 ⟨4,[0,1,2,3,8,11],[.tmp .d0 .d4],(.seq (.ad 1 [.s .d0 .d4 eE])
 (.seq (.seq (.ad 4 [.s .d0 .d5 (.H (.call 50 [cm,cT]))])
 (.cond c3 (.draw [0,1,2,3,4,5,6,7,8,9,10,11,12,13,14,15,16] [⟨.p cw,[]⟩,
   ⟨.p cw,[]⟩,
   ⟨.p gP,[]⟩,
   ⟨.p zC,[]⟩,
   ⟨.p aV,[]⟩,
   ⟨.p cw,[]⟩,
   ⟨.p gP,[]⟩,
   ⟨.p iP,[]⟩,
   ⟨.p aV,[]⟩,
   ⟨.p kH,[]⟩,
   ⟨.p j9,[]⟩,
   ⟨.p (.L (.build [.str 0 0, .int .i64 0, .int .i64 0, .str 0 0] [(0,1,b6),(1,1,bo),(2,1,Fl),(3,1,ai)])),[]⟩,
   ⟨.p O6,[]⟩,
   ⟨.p (.H (.append 4 48 px ai)),[]⟩,
   ⟨.p (.L (.oY (.l 13))),[]⟩,
   ⟨.p zC,[]⟩,
   ⟨.p (.H (.store 1 ai b6)),[]⟩]) .skip))
 (.seq (.ad 12 [.p (.L (.eS 1 1 [.str 0 0] [(0,1,cT)])),
   .s .d0 .d4 (.H (.append 1 16 cm ai))])
 .ret)))⟩
def i63:cd:=
 ⟨3,[0,1,2,12],[],(.seq (.ad 110 [.p fU,
   .p ic,
   .p Fu,
   .p (.H (.call 85 [ai,cm])),
   .s .d0 .d3 (.L (.bin .lss ai gY))])
 (.cond cP (.draw [0,1,2,3,4,5,6,7,8,9,10,11,12,13,14,15,16] [⟨.p cw,[]⟩,
   ⟨.p cw,[]⟩,
   ⟨.p gP,[]⟩,
   ⟨.p zC,[]⟩,
   ⟨.p aV,[]⟩,
   ⟨.p cw,[]⟩,
   ⟨.p gP,[]⟩,
   ⟨.p iP,[]⟩,
   ⟨.p aV,[]⟩,
   ⟨.p j9,[]⟩,
   ⟨.p iW,[]⟩,
   ⟨.p (.L (.build [.str 0 0, .int .i64 0, .int .i64 0, .str 0 0] [(0,1,b6),(1,1,bo),(2,1,Fm),(3,1,ai)])),[]⟩,
   ⟨.p O6,[]⟩,
   ⟨.p (.H (.append 4 48 px ai)),[]⟩,
   ⟨.p (.L (.oY (.l 13))),[]⟩,
   ⟨.p zC,[]⟩,
   ⟨.p (.H (.store 1 ai b6)),[]⟩]) .skip))⟩
def i68:cd:=
 ⟨1,[0,2,3,4,6,20,7,5,8,46,53,11,10,9,61,12,80],[.tmp .d0 .d1, .tmp .d0 .d2, .tmp .d0 .d3],(.seq (.ad 7 [.s .d0 .d1 eE,
   .s .d0 .d2 cj,
   .s .d0 .d3 cj])
 (.seq (.ad 506 [.p (.H (.call 23 [bb])),
   .p iM,
   .p iN,
   .p zy,
   .s .d0 .d7 lF,
   .s .d0 .d4 lF,
   .s .d0 .d6 lF])
 (.seq (.seq (.ad 2 [.s .d0 .d5 JQ])
 (.cond c3 (.seq (.ad 28 [.s .d0 .d1 eE,
   .s .d0 .d2 lG,
   .s .d0 .d3 py])
 .ret) .skip))
 (.seq (.ad 6 [.p O4,
   .s .d1 .d0 (.L (.box 5 ai))])
 (.seq (.ad 1 [.s .d1 .d5 eE])
 (.seq (.ad 2 [.p (.H (.call 55 [eh,(.c (.str 6 126909394608492))]))])
 (.seq (.block 0 (.loop (.seq (.seq (.draw [0,1,2,3,4,5,6,7,8,9,10,11,12,13,14,15,16,17,18] [⟨.p qx,[]⟩,
   ⟨.p gP,[]⟩,
   ⟨.p k4,[]⟩,
   ⟨.p aV,[]⟩,
   ⟨.p mS,[]⟩,
   ⟨.p jq,[]⟩,
   ⟨.g ai true qx,[]⟩,
   ⟨.g bo true gP,[]⟩,
   ⟨.g b6 true iP,[]⟩,
   ⟨.g cU true aV,[]⟩,
   ⟨.g fT true qx,[]⟩,
   ⟨.g hs true gP,[]⟩,
   ⟨.g kG true ic,[]⟩,
   ⟨.g nK true aV,[]⟩,
   ⟨.g px true uu,[]⟩,
   ⟨.g xt true iP,[]⟩,
   ⟨.g xu true aV,[]⟩,
   ⟨.g (.l 11) true xx,[]⟩,
   ⟨.s .d1 .d1 JX,[]⟩])
 (.cond iL .skip (.exit 0)))
 (.block 1 (.seq (.ad 2 [.s .d1 .d4 (.H (.call 56 [eh]))])
 (.seq (.ad 2 [.s .d1 .d3 (.H (.call 57 [eh]))])
 (.seq (.seq (.ad 6 [.p (.H (.call 82 [eh,(.c (.str 1 60))])),
   .s .d1 .d2 j8])
 (.cond iV (.ad 56 [.p (.L (.build [.str 0 0, .str 0 0, .int .i64 0] [(0,1,hq),(2,1,fE)])),
   .p J2,
   .s .d1 .d5 (.H (.append 3 40 gn ai))]) .skip))
 (.seq (.block 2 (.loop (.seq (.seq (.ad 2 [.s .d1 .d6 (.H (.call 58 [eh,(.c (.str 1 60))]))])
 (.cond hP .skip (.exit 2)))
 (.block 3 (.seq (.ad 2 [.s .d1 .d4 (.H (.call 56 [eh]))])
 (.seq (.ad 2 [.s .d1 .d7 (.H (.call 57 [eh]))])
 (.seq (.ad 112 [.p (.L (.build [.str 0 0, .str 0 0, .int .i64 0] [(0,1,hq),(1,1,ml),(2,1,fE)])),
   .p J2,
   .s .d1 .d5 (.H (.append 3 40 gn ai))])
 (.ad 2 [.s .d1 .d3 vJ]))))))))
 (.ad 2 [.p (.H (.call 55 [eh,B7]))])))))))))
 (.seq (.seq (.ad 30 [.p (.L (.oY eh)),
   .p k4,
   .p aV,
   .s .d2 .d0 xx])
 (.cond ou (.seq (.draw [0,1,2,3,4,5,6,7,8,9,10] [⟨.p qx,[]⟩,
   ⟨.p gP,[]⟩,
   ⟨.p k4,[]⟩,
   ⟨.p aV,[]⟩,
   ⟨.p qx,[]⟩,
   ⟨.p gP,[]⟩,
   ⟨.p (.L (.bK 4 ai)),[]⟩,
   ⟨.p aV,[]⟩,
   ⟨.s .d0 .d1 eE,[]⟩,
   ⟨.s .d0 .d2 (.L (.cV hs)),[]⟩,
   ⟨.s .d0 .d3 lF,[]⟩])
 .ret) .skip))
 (.seq (.ad 14 [.s .d0 .d1 xA,
   .s .d0 .d2 cj,
   .s .d0 .d3 cj])
 .ret)))))))))⟩
def i69:cd:=
 ⟨1,[0,2,3,5,19,4,34,44,6,48,51,8,55,9,7,10,70,78,11,99,12,104,13,109,15,150,14],[.cell .d0 .d1 (some 6), .tmp .d0 .d2],(.seq (.ad 3 [.s .d0 .d1 vG,
   .s .d0 .d2 cj])
 (.seq (.ad 1 [.s .d0 .d5 eE])
 (.seq (.seq (.ad 1 [.s .d0 .d3 cj])
 (.block 0 (.loop (.seq (.seq (.ad 12 [.p iO,
   .s .d0 .d4 xE])
 (.cond eg .skip (.exit 0)))
 (.seq (.block 1 (.seq (.ad 120 [.p J3,
   .p iP,
   .p aV,
   .s .d0 .d5 (.H (.call 47 [c3,ai]))])
 (.seq (.seq (.ad 60 [.p J3,
   .p ic,
   .p aV,
   .s .d0 .d6 JW])
 (.cond c9 (.ad 120 [.p J3,
   .p ic,
   .p aV,
   .s .d0 .d5 (.H (.call 47 [c3,ai]))]) .skip))
 (.seq (.ad 6 [.p (.L (.len false c3)),
   .s .d0 .d7 (.L (.bin .gtr ai (.c (.int .i64 13))))])
 (.cond dx (.exit 0) .skip)))))
 (.ad 2 [.s .d0 .d3 pz]))))))
 (.seq (.ad 2 [.s .d1 .d0 (.L (.len false c3))])
 (.seq (.seq (.ad 2 [.s .d1 .d1 (.L (.bin .eql eh gY))])
 (.cond iL (.seq (.ad 7 [.p xy,
   .p (.H (.store 6 cm ai)),
   .s .d0 .d2 (.L (.cV (.c (.int .i64 13))))])
 .ret) .skip))
 (.seq (.seq (.ad 2 [.s .d1 .d2 (.L (.bin .gtr eh (.c (.int .i64 12))))])
 (.cond iV (.seq (.ad 7 [.p xy,
   .p (.H (.store 6 cm ai)),
   .s .d0 .d2 (.L (.cV (.c (.int .i64 14))))])
 .ret) .skip))
 (.seq (.ad 1 [.s .d1 .d6 eE])
 (.seq (.seq (.ad 1 [.s .d1 .d3 cj])
 (.block 2 (.loop (.seq (.seq (.ad 4 [.s .d1 .d4 (.L (.bin .lss hq eh))])
 (.cond fE .skip (.exit 2)))
 (.seq (.block 3 (.seq (.ad 2 [.s .d1 .d5 (.L (.n2 1 [.bool false] 1 eh eh))])
 (.seq (.ad 12 [.p (.L (.bY 1 gn hq)),
   .p (.H (.store 1 ai mm))])
 (.ad 12 [.p (.L (.eS 1 1 [.U] [(0,1,gn)])),
   .s .d1 .d6 (.H (.append 1 24 hP ai))]))))
 (.ad 2 [.s .d1 .d3 (.L (.bin .add hq fi))]))))))
 (.seq (.seq (.ad 1 [.s .d1 .d7 cj])
 (.block 4 (.loop (.seq (.seq (.ad 12 [.p iO,
   .s .d2 .d0 (.L (.bin .lss ml ai))])
 (.cond ou .skip (.exit 4)))
 (.seq (.block 5 (.seq (.ad 60 [.p (.L (.bY 3 bb ml)),
   .p ic,
   .p aV,
   .s .d2 .d1 JW])
 (.cond lE (.draw [0,1,2,3,4,5,6,10,11,12,13,14,15,7,8,9,16,17,18] [⟨.p xF,[]⟩,
   ⟨.p mU,[]⟩,
   ⟨.p cw,[]⟩,
   ⟨.p vJ,[]⟩,
   ⟨.p (.L (.bY 3 bo ai)),[]⟩,
   ⟨.p iP,[]⟩,
   ⟨.p aV,[]⟩,
   ⟨.p mU,[]⟩,
   ⟨.p cw,[]⟩,
   ⟨.p vJ,[]⟩,
   ⟨.p (.L (.bY 3 bo ai)),[]⟩,
   ⟨.p ic,[]⟩,
   ⟨.p aV,[]⟩,
   ⟨.p (.H (.call 46 [(.l 11),kG])),[0]⟩,
   ⟨.p (.L (.bY 1 (.l 13) ai)),[]⟩,
   ⟨.p aV,[]⟩,
   ⟨.p (.H (.call 46 [px,cU])),[0]⟩,
   ⟨.p iX,[]⟩,
   ⟨.p (.H (.store 1 ai mm)),[]⟩]) .skip)))
 (.ad 2 [.s .d1 .d7 (.L (.bin .add ml fi))]))))))
 (.seq (.seq (.ad 1 [.s .d2 .d2 cj])
 (.block 6 (.loop (.seq (.seq (.ad 4 [.s .d2 .d3 (.L (.bin .lss qw eh))])
 (.cond rE .skip (.exit 6)))
 (.seq (.block 7 (.seq (.ad 1 [.s .d2 .d4 cj])
 (.block 8 (.loop (.seq (.seq (.ad 4 [.s .d2 .d5 (.L (.bin .lss vC eh))])
 (.cond (.t .d2 .d5) .skip (.exit 8)))
 (.seq (.block 9 (.seq (.ad 1 [.s .d2 .d6 cj])
 (.block 10 (.loop (.seq (.seq (.ad 4 [.s .d2 .d7 (.L (.bin .lss xr eh))])
 (.cond (.t .d2 .d7) .skip (.exit 10)))
 (.seq (.block 11 (.draw [0,1,2,3,4,5,6,7,8,9,10,11,12,13,14,15,16,17,18,19,20,21,22,23,24,25,26,27,28,29,30,31] [⟨.p xF,[]⟩,
   ⟨.p (.L (.cV vC)),[]⟩,
   ⟨.p iX,[]⟩,
   ⟨.p aV,[]⟩,
   ⟨.p (.L (.cV xr)),[]⟩,
   ⟨.p xF,[]⟩,
   ⟨.p (.L (.cV vC)),[]⟩,
   ⟨.p iX,[]⟩,
   ⟨.p aV,[]⟩,
   ⟨.p (.L (.cV xr)),[]⟩,
   ⟨.p iX,[]⟩,
   ⟨.p aV,[]⟩,
   ⟨.p jq,[]⟩,
   ⟨.g ai false xF,[]⟩,
   ⟨.g bo false (.L (.cV vC)),[]⟩,
   ⟨.g b6 false iX,[]⟩,
   ⟨.g cU false aV,[]⟩,
   ⟨.g fT false (.L (.cV qw)),[]⟩,
   ⟨.g hs false iX,[]⟩,
   ⟨.g kG false aV,[]⟩,
   ⟨.g nK false jq,[]⟩,
   ⟨.g ai true xF,[]⟩,
   ⟨.g bo true (.L (.cV qw)),[]⟩,
   ⟨.g b6 true iX,[]⟩,
   ⟨.g cU true aV,[]⟩,
   ⟨.g fT true (.L (.cV xr)),[]⟩,
   ⟨.g hs true iX,[]⟩,
   ⟨.g kG true aV,[]⟩,
   ⟨.g (.l 15) false FJ,[]⟩,
   ⟨.p (.L (.pick (.l 16) mm ai)),[]⟩,
   ⟨.p (.L (.bY 1 (.l 26) (.l 25))),[]⟩,
   ⟨.p (.H (.store 1 ai bo)),[]⟩]))
 (.ad 2 [.s .d2 .d6 (.L (.bin .add xr fi))])))))))
 (.ad 2 [.s .d2 .d4 (.L (.bin .add vC fi))])))))))
 (.ad 2 [.s .d2 .d2 (.L (.bin .add qw fi))]))))))
 (.seq (.ad 500 [.p (.H (.call 105 [c3,hP])),
   .p iM,
   .p iN,
   .s .d3 .d2 vG,
   .p (.H (.store 6 ai b6)),
   .s .d3 .d0 lF])
 (.seq (.seq (.ad 2 [.s .d3 .d1 (.L (.not (.t .d3 .d0)))])
 (.cond (.t .d3 .d1) (.seq (.ad 7 [.p xy,
   .p (.H (.store 6 cm ai)),
   .s .d0 .d2 (.L (.cV (.c (.int .i64 13))))])
 .ret) .skip))
 (.seq (.ad 7 [.p (.L (.da 6 (.t .d3 .d2))),
   .p (.H (.store 6 cm ai)),
   .s .d0 .d2 cj])
 .ret)))))))))))))⟩
def i71:cd:=
 ⟨2,[0,1,2,3,4,5],[.tmp .d0 .d2, .tmp .d0 .d3],(.seq (.ad 3 [.s .d0 .d2 cj,
   .s .d0 .d3 gE])
 (.seq (.ad 247 [.p (.L (.load bb)),
   .p (.L (.load cm)),
   .p (.H (.call 72 [bo,ai])),
   .p iM,
   .p iN,
   .s .d0 .d4 fa,
   .s .d0 .d5 fa])
 (.seq (.ad 7 [.p (.L (.load cm)),
   .p (.L (.bin .add ai sW)),
   .p (.H (.store 1 cm ai))])
 (.seq (.ad 12 [.s .d0 .d2 lG,
   .s .d0 .d3 mU])
 .ret))))⟩
def i72:cd:=
 ⟨2,[0,1,4,5,19],[.tmp .d0 .d2, .tmp .d0 .d3],(.seq (.ad 3 [.s .d0 .d2 cj,
   .s .d0 .d3 gE])
 (.seq (.seq (.ad 16250 [.p (.L (.bin .lss cm gY)),
   .g ai false cw,
   .g bo false fO,
   .g b6 false (.L (.bin .lss ai sW)),
   .p ur,
   .g ai false iW,
   .g bo false cw,
   .g b6 false fO,
   .g cU false J4,
   .g fT false (.L (.bin .gtr cU ai)),
   .s .d0 .d4 Ci])
 (.cond eg (.seq (.ad 3 [.s .d0 .d2 cj,
   .s .d0 .d3 gE])
 .ret) .skip))
 (.seq (.draw [0,1,2,3,4,5,6,7,8,9,10,11,12,13,14,15,16,17,18,19,20,21,22,23,24,25,26,27,28,29,30] [⟨.p cw,[]⟩,
   ⟨.p iW,[]⟩,
   ⟨.p iX,[]⟩,
   ⟨.p aV,[]⟩,
   ⟨.p vL,[]⟩,
   ⟨.p (.L (.lp true ai (.c (.int .u64 24)))),[]⟩,
   ⟨.p cw,[]⟩,
   ⟨.p iW,[]⟩,
   ⟨.p zJ,[]⟩,
   ⟨.p zI,[]⟩,
   ⟨.p aV,[]⟩,
   ⟨.p vL,[]⟩,
   ⟨.p (.L (.lp true ai (.c (.int .u64 16)))),[]⟩,
   ⟨.p (.L (.bin .or nK ai)),[]⟩,
   ⟨.p cw,[]⟩,
   ⟨.p iW,[]⟩,
   ⟨.p (.L (.bin .add ai k3)),[]⟩,
   ⟨.p zI,[]⟩,
   ⟨.p aV,[]⟩,
   ⟨.p vL,[]⟩,
   ⟨.p (.L (.lp true ai (.c (.int .u64 8)))),[]⟩,
   ⟨.p (.L (.bin .or nK ai)),[]⟩,
   ⟨.p cw,[]⟩,
   ⟨.p iW,[]⟩,
   ⟨.p (.L (.bin .add ai xw)),[]⟩,
   ⟨.p zI,[]⟩,
   ⟨.p aV,[]⟩,
   ⟨.p vL,[]⟩,
   ⟨.p (.L (.bin .or kG ai)),[]⟩,
   ⟨.s .d0 .d2 jq,[]⟩,
   ⟨.s .d0 .d3 sX,[]⟩])
 .ret)))⟩
def i73:cd:=
 ⟨1,[0,2,3,5,12,4],[.tmp .d0 .d1, .tmp .d0 .d2],(.seq (.ad 3 [.s .d0 .d1 cj,
   .s .d0 .d2 (.L (.cV zx))])
 (.seq (.ad 122 [.p (.H (.call 106 [bb])),
   .p iM,
   .p iN,
   .s .d0 .d5 fa,
   .s .d0 .d3 fa])
 (.seq (.seq (.ad 2 [.s .d0 .d4 (.L (.eq true .ez cP zx))])
 (.cond eg (.seq (.ad 56 [.p (.H (.call 107 [(.c (.str 4 1768911937)),bb,gY,gY,cP])),
   .s .d0 .d1 mU,
   .s .d0 .d2 fa])
 .ret) .skip))
 (.seq (.ad 6 [.s .d0 .d1 mU,
   .s .d0 .d2 (.L (.cV zx))])
 .ret))))⟩
def i74:cd:=
 ⟨1,[0,2,4],[.tmp .d0 .d1],(.seq (.ad 1 [.s .d0 .d1 eE])
 (.seq (.seq (.ad 2 [.s .d0 .d2 (.L (.eq false .au bb sV))])
 (.cond cT (.seq (.ad 1 [.s .d0 .d1 eE])
 .ret) .skip))
 (.seq (.ad 5 [.p (.L (.eS 1 0 [.str 0 0] [])),
   .s .d0 .d1 (.H (.append 1 16 ai bb))])
 .ret)))⟩
def i75:cd:=
 ⟨1,[0,2],[.tmp .d0 .d1],(.seq (.ad 1 [.s .d0 .d1 ov])
 (.seq (.ad 2 [.s .d0 .d1 (.H (.call 108 [bb,rF]))])
 .ret))⟩
def i76:cd:=
 ⟨1,[0,2],[.tmp .d0 .d1],(.seq (.ad 1 [.s .d0 .d1 eE])
 (.seq (.ad 3510 [.p (.L (.lp false bb (.c (.int .u64 24)))),
   .p FK,
   .p (.L (.lp false bb (.c (.int .u64 16)))),
   .p FK,
   .p (.L (.lp false bb (.c (.int .u64 8)))),
   .p FK,
   .p (.L (.conv .u8 bb)),
   .s .d0 .d1 (.L (.eS 1 4 [.int .u8 0] [(0,1,hs),(1,1,cU),(2,1,bo),(3,1,ai)]))])
 .ret))⟩
def i78:cd:=
 ⟨1,[0,2,8,3,13,25,4,5,32,44],[.tmp .d0 .d1],(.seq (.ad 1 [.s .d0 .d1 eE])
 (.seq (.seq (.ad 6 [.p iO,
   .s .d0 .d2 (.L (.bin .lss ai k3))])
 (.cond cT (.seq (.ad 2 [.s .d0 .d1 cw])
 .ret) .skip))
 (.seq (.seq (.ad 1 [.s .d0 .d3 Cp])
 (.block 0 (.loop (.seq (.seq (.ad 12 [.p iO,
   .s .d0 .d4 xE])
 (.cond eg .skip (.exit 0)))
 (.seq (.block 1 (.seq (.draw [0,1,2,3,4,5,6,7,8,9] [⟨.p cw,[]⟩,
   ⟨.p kH,[]⟩,
   ⟨.p iX,[]⟩,
   ⟨.p aV,[]⟩,
   ⟨.p cw,[]⟩,
   ⟨.p kH,[]⟩,
   ⟨.p mT,[]⟩,
   ⟨.p zI,[]⟩,
   ⟨.p aV,[]⟩,
   ⟨.s .d0 .d5 (.L (.e8 .eql hs ai)),[]⟩])
 (.cond c3 (.seq (.ad 4 [.s .d0 .d6 (.L (.jU 1 bb (some cP) none none))])
 (.seq (.seq (.ad 1 [.s .d0 .d7 Cp])
 (.block 2 (.loop (.seq (.seq (.ad 12 [.p (.L (.len false c9)),
   .s .d1 .d0 JP])
 (.cond eh .skip (.exit 2)))
 (.seq (.block 3 (.seq (.draw [0,1,2,3,4,5,6,7,8,9] [⟨.p py,[]⟩,
   ⟨.p mo,[]⟩,
   ⟨.p iX,[]⟩,
   ⟨.p aV,[]⟩,
   ⟨.p py,[]⟩,
   ⟨.p mo,[]⟩,
   ⟨.p mT,[]⟩,
   ⟨.p zI,[]⟩,
   ⟨.p aV,[]⟩,
   ⟨.s .d1 .d1 (.L (.e8 .neq hs ai)),[]⟩])
 (.cond iL (.seq (.ad 240 [.p (.L (.bY 1 c9 dx)),
   .p aV,
   .p FG,
   .p (.H (.store 1 ai bo))])
 (.ad 2 [.s .d0 .d3 pz])) .skip)))
 (.ad 2 [.s .d0 .d7 zA]))))))
 (.seq (.ad 12 [.p (.L (.jU 1 bb (some cP) none none)),
   .p (.H (.clear [.str 0 0] ai))])
 (.seq (.ad 4 [.s .d0 .d1 (.L (.jU 1 bb none (some cP) none))])
 .ret)))) .skip)))
 (.ad 2 [.s .d0 .d3 pz]))))))
 (.seq (.ad 2 [.s .d0 .d1 cw])
 .ret))))⟩
def i80:cd:=
 ⟨2,[0,1,4,8,7,9,5,16],[.tmp .d0 .d2],(.seq (.ad 1 [.s .d0 .d2 cj])
 (.seq (.seq (.ad 6 [.s .d0 .d4 iO,
   .s .d0 .d3 cj])
 (.block 0 (.loop (.seq (.ad 1 [.s .d0 .d5 zG])
 (.seq (.cond c3 .skip (.exit 0))
 (.seq (.block 1 (.seq (.ad 2 [.s .d0 .d6 kH])
 (.seq (.ad 56 [.p J0,
   .p aV,
   .s .d0 .d7 (.H (.q6 cm [ai]))])
 (.cond dx (.seq (.ad 2 [.s .d0 .d2 py])
 .ret) .skip))))
 (.ad 1 [.s .d0 .d3 pz])))))))
 (.seq (.ad 1 [.s .d0 .d2 (.L (.cV uq))])
 .ret)))⟩
def i81:cd:=
 ⟨2,[0,1,4,8,7,9,5,16],[.tmp .d0 .d2],(.seq (.ad 1 [.s .d0 .d2 cj])
 (.seq (.seq (.ad 6 [.s .d0 .d4 iO,
   .s .d0 .d3 cj])
 (.block 0 (.loop (.seq (.ad 1 [.s .d0 .d5 zG])
 (.seq (.cond c3 .skip (.exit 0))
 (.seq (.block 1 (.seq (.ad 2 [.s .d0 .d6 kH])
 (.seq (.ad 56 [.p J0,
   .p aV,
   .s .d0 .d7 (.L (.e8 .eql cm ai))])
 (.cond dx (.seq (.ad 2 [.s .d0 .d2 py])
 .ret) .skip))))
 (.ad 1 [.s .d0 .d3 pz])))))))
 (.seq (.ad 1 [.s .d0 .d2 (.L (.cV uq))])
 .ret)))⟩
def i82:cd:=
 ⟨2,[0,1,4,5],[.tmp .d0 .d2],(.seq (.ad 1 [.s .d0 .d2 gE])
 (.seq (.draw [0,1,2,3,4,5,6,7,8,9,10,11] [⟨.p cw,[]⟩,
   ⟨.p gP,[]⟩,
   ⟨.p iP,[]⟩,
   ⟨.p aV,[]⟩,
   ⟨.p cw,[]⟩,
   ⟨.p gP,[]⟩,
   ⟨.p ic,[]⟩,
   ⟨.p aV,[]⟩,
   ⟨.p uu,[]⟩,
   ⟨.p xD,[]⟩,
   ⟨.s .d0 .d3 FH,[]⟩,
   ⟨.p (.H (.store 3 ai bo)),[]⟩])
 (.seq (.ad 2064350 [.p fU,
   .p k4,
   .p aV,
   .p mS,
   .g ai true mn,
   .g bo true aV,
   .g b6 true (.L (.bin .eql ai sW)),
   .g cU true jq,
   .g ai false mn,
   .g bo false aV,
   .g b6 false (.L (.bin .eql ai xw)),
   .g nK true ur,
   .p (.L (.pick px ai j7)),
   .g ai true Cg,
   .g bo true aV,
   .g b6 true iW,
   .g cU true (.L (.e8 .eql bo ai)),
   .s .d0 .d2 Cd])
 .ret)))⟩
def i83:cd:=
 ⟨1,[0,2,4,8,3],[.tmp .d0 .d1],(.seq (.ad 1 [.s .d0 .d1 cj])
 (.seq (.ad 1 [.s .d0 .d4 cj])
 (.seq (.seq (.ad 1 [.s .d0 .d2 cj])
 (.block 0 (.loop (.seq (.seq (.ad 12 [.p sY,
   .s .d0 .d3 JY])
 (.cond cP .skip (.exit 0)))
 (.seq (.block 1 (.ad 242 [.p (.L (.bin .mul rF eg)),
   .p (.L (.kT bb cT)),
   .p (.L (.bin .sub ai Fi)),
   .p vL,
   .s .d0 .d4 (.L (.bin .add cU ai))]))
 (.ad 2 [.s .d0 .d2 Ct]))))))
 (.seq (.ad 2 [.s .d0 .d1 lG])
 .ret))))⟩
def i84:cd:=
 ⟨1,[0,2,15,3],[.tmp .d0 .d1],(.seq (.ad 1 [.s .d0 .d1 eE])
 (.seq (.ad 1 [.s .d0 .d3 eE])
 (.seq (.ad 2 [.p (.H (.call 110 [bb,(.c (.str 1 123))]))])
 (.seq (.block 0 (.loop (.seq (.seq (.ad 990 [.p fU,
   .p k4,
   .p aV,
   .p mS,
   .g ai true cw,
   .g bo true (.H (.call 82 [ai,Fk])),
   .g b6 true j8,
   .s .d0 .d2 Fp])
 (.cond cT .skip (.exit 0)))
 (.block 1 (.ad 28 [.p (.H (.call 111 [bb])),
   .p O2,
   .s .d0 .d3 (.H (.append 12 200 cP ai))])))))
 (.seq (.ad 2 [.p (.H (.call 55 [bb,Fk]))])
 (.seq (.ad 254 [.p fU,
   .p rG,
   .p aV,
   .p mT,
   .p fU,
   .p rG,
   .p (.H (.store 1 ai b6))])
 (.seq (.ad 2 [.s .d0 .d1 kH])
 .ret)))))))⟩
def i85:cd:=
 ⟨2,[0,1,4,2],[.tmp .d0 .d2],(.seq (.ad 3 [.s .d0 .d3 (.L (.box 6 bb)),
   .s .d0 .d2 cj])
 (.seq (.ad 11 [.p mn,
   .p aV,
   .s .d0 .d2 (.H (.call 81 [ai,cm]))])
 .ret))⟩
def i95:cd:=
 ⟨1,[0,2,4,8,14],[.tmp .d0 .d1],(.seq (.ad 1 [.s .d0 .d1 cj])
 (.seq (.seq (.ad 2 [.s .d0 .d2 (.L (.bin .geq bb (.c (.int .u64 4294967296))))])
 (.cond cT (.seq (.ad 2 [.s .d0 .d0 (.L (.lp false bb (.c (.int .u64 32))))])
 (.ad 1 [.s .d0 .d1 (.L (.cV (.c (.int .i64 32))))])) .skip))
 (.seq (.seq (.ad 2 [.s .d0 .d3 (.L (.bin .geq bb (.c (.int .u64 65536))))])
 (.cond cP (.seq (.ad 2 [.s .d0 .d0 (.L (.lp false bb (.c (.int .u64 16))))])
 (.ad 2 [.s .d0 .d1 (.L (.bin .add cm (.c (.int .i64 16))))])) .skip))
 (.seq (.seq (.ad 2 [.s .d0 .d4 (.L (.bin .geq bb (.c (.int .u64 256))))])
 (.cond eg (.seq (.ad 2 [.s .d0 .d0 (.L (.lp false bb (.c (.int .u64 8))))])
 (.ad 2 [.s .d0 .d1 (.L (.bin .add cm xv))])) .skip))
 (.seq (.ad 60 [.p (.L (.conv .u8 bb)),
   .p (.L (.kT (.c (.str 256 1013866857139168856493015739252390649739422828853819106890363778118420553376247557433637691341895324351018602695588957474325319502760499485336098898398377509666851054660423406800006203933793007272033180812049178612605246075062580585469430410618860250057463399279570354286669047577758927328864388992123306212451509403152394148136105363817402562688186708175358218852349079190158732807302672745370040257219644697201681238697346923541678507645485296520536209706771857694240900605172937619415410180424934769249448772944216470541052485265558808433676546390051204254346932932316488017972311616136051587427851453983453479168)) ai)),
   .p vL,
   .s .d0 .d1 (.L (.bin .add cm ai))])
 .ret)))))⟩
def i105:cd:=
 ⟨2,[0,1,4,5,7,6,19,8,24,47,10,12,65,9,11,14,74,13],[.cell .d0 .d2 (some 6), .tmp .d0 .d3],(.seq (.ad 3 [.s .d0 .d2 vG,
   .s .d0 .d3 gE])
 (.seq (.ad 2 [.s .d0 .d5 iO])
 (.seq (.seq (.ad 1 [.s .d0 .d4 cj])
 (.block 0 (.loop (.seq (.seq (.ad 4 [.s .d0 .d6 (.L (.bin .lss eg c3))])
 (.cond c9 .skip (.exit 0)))
 (.seq (.block 1 (.seq (.ad 1 [.s .d0 .d7 cj])
 (.block 2 (.loop (.seq (.seq (.ad 4 [.s .d1 .d0 (.L (.bin .lss dx c3))])
 (.cond eh .skip (.exit 2)))
 (.seq (.block 3 (.seq (.ad 2093044 [.p (.L (.bin .neq eg dx)),
   .g ai true iW,
   .g bo true lG,
   .g b6 true iX,
   .g cU true aV,
   .g fT true mo,
   .g hs true iX,
   .g kG true aV,
   .p FJ,
   .g ai true iW,
   .g bo true mo,
   .g b6 true iX,
   .g cU true aV,
   .g fT true lG,
   .g hs true iX,
   .g kG true aV,
   .s .d1 .d1 FJ])
 (.cond iL (.seq (.ad 7 [.p xy,
   .p (.H (.store 6 cT ai)),
   .s .d0 .d3 gE])
 .ret) .skip)))
 (.ad 2 [.s .d0 .d7 zA])))))))
 (.ad 2 [.s .d0 .d4 Ck]))))))
 (.seq (.ad 122 [.p (.H (.call 120 [cm])),
   .p iM,
   .p iN,
   .s .d1 .d5 fa,
   .s .d1 .d2 fa])
 (.seq (.ad 246 [.p (.H (.call 121 [cm])),
   .p (.H (.call 120 [ai])),
   .p iM,
   .p iN,
   .s .d1 .d6 fa,
   .s .d1 .d3 fa])
 (.seq (.seq (.ad 58 [.p (.L (.not iV)),
   .g ai false (.L (.cV hq)),
   .g bo false j8,
   .s .d1 .d4 vK])
 (.cond fE (.seq (.ad 7 [.p xy,
   .p (.H (.store 6 cT ai)),
   .s .d0 .d3 gE])
 .ret) .skip))
 (.seq (.ad 112 [.p (.L (.build [.U, .U, .U, .U, .int .i64 0, .int .i64 0] [(0,1,bb),(1,1,cm),(2,1,gn),(3,1,hP)])),
   .s .d2 .d1 vG,
   .p (.H (.store 6 ai bo))])
 (.seq (.seq (.ad 1 [.s .d1 .d7 cj])
 (.block 4 (.loop (.seq (.seq (.ad 4 [.s .d2 .d0 (.L (.bin .lss ml c3))])
 (.cond ou .skip (.exit 4)))
 (.seq (.block 5 (.seq (.ad 990 [.p (.L (.bK 5 lE)),
   .p aV,
   .p (.L (.bY 1 gn ai)),
   .p aV,
   .p (.L (.bY 1 ai ml)),
   .p aV,
   .p (.L (.bK 5 lE)),
   .p (.H (.store 1 ai bo))])
 (.ad 990 [.p (.L (.bK 4 lE)),
   .p aV,
   .p (.L (.bY 1 hP ai)),
   .p aV,
   .p (.L (.bY 1 ai ml)),
   .p aV,
   .p (.L (.bK 4 lE)),
   .p (.H (.store 1 ai bo))])))
 (.ad 2 [.s .d1 .d7 (.L (.bin .add ml fi))]))))))
 (.seq (.ad 7 [.p (.L (.da 6 lE)),
   .p (.H (.store 6 cT ai)),
   .s .d0 .d3 sX])
 .ret)))))))))⟩
def i106:cd:=
 ⟨1,[0,2,3,4,30,39,44,49,48,50,47,8,56,6,5,66,9,10],[.tmp .d0 .d1, .tmp .d0 .d2],(.seq (.ad 3 [.s .d0 .d1 cj,
   .s .d0 .d2 (.L (.cV zx))])
 (.seq (.ad 2 [.s .d0 .d3 sY])
 (.seq (.seq (.ad 261886 [.g j7 true kH,
   .g j7 true (.L (.bin .lss gY ai)),
   .g j7 true jq,
   .g ai true kH,
   .g bo true (.L (.bin .lss ai rF)),
   .g j7 true xB,
   .p (.L (.pick j7 ai j7)),
   .g ai false sX,
   .g ai true kH,
   .g bo true (.L (.bin .lss gY ai)),
   .g b6 true jq,
   .g ai true kH,
   .g bo true (.L (.bin .lss ai (.c (.int .i64 19)))),
   .g hs true xB,
   .g nK false JZ,
   .s .d0 .d4 (.L (.pick px mm ai))])
 (.cond eg (.seq (.ad 2 [.s .d1 .d6 cw])
 (.seq (.seq (.ad 246 [.p (.L (.kT bb gY)),
   .p (.L (.bin .eql ai B8)),
   .g ai false cw,
   .g bo false (.L (.kT ai gY)),
   .g b6 false (.L (.bin .eql ai (.c (.int .u8 43)))),
   .s .d0 .d5 ur])
 (.cond c3 (.seq (.ad 2 [.s .d0 .d0 (.L (.n3 bb (some fi) none))])
 (.seq (.ad 6 [.p sY,
   .s .d0 .d6 (.L (.bin .lss ai fi))])
 (.cond c9 (.seq (.ad 7 [.p (.L (.ez 180 k3)),
   .s .d0 .d1 cj,
   .s .d0 .d2 fa])
 .ret) .skip))) .skip))
 (.seq (.ad 1 [.s .d1 .d5 cj])
 (.seq (.seq (.ad 14 [.s .d1 .d2 (.L (.uZ bb)),
   .s .d1 .d0 fO,
   .s .d0 .d7 cj])
 (.block 0 (.loop (.seq (.ad 1 [.s .d1 .d1 (.L (.bin .lss dx eh))])
 (.seq (.cond iL .skip (.exit 0))
 (.seq (.block 1 (.seq (.ad 3 [.p (.L (.bY 1 iV dx)),
   .s .d1 .d3 aV])
 (.seq (.ad 2 [.s .d1 .d3 (.L (.bin .sub hq Fi))])
 (.seq (.seq (.ad 2 [.s .d1 .d4 (.L (.bin .gtr hq (.c (.int .u8 9))))])
 (.cond fE (.seq (.ad 7 [.p (.L (.ez 180 k3)),
   .s .d0 .d1 cj,
   .s .d0 .d2 fa])
 .ret) .skip))
 (.ad 26 [.p (.L (.bin .mul gn rF)),
   .p (.L (.conv .i64 hq)),
   .s .d1 .d5 (.L (.bin .add bo ai))])))))
 (.ad 1 [.s .d0 .d7 zA])))))))
 (.seq (.seq (.ad 6 [.p (.L (.kT hP gY)),
   .s .d1 .d7 (.L (.bin .eql ai B8))])
 (.cond ml (.ad 2 [.s .d1 .d5 (.L (.neg gn))]) .skip))
 (.seq (.ad 6 [.s .d0 .d1 xA,
   .s .d0 .d2 (.L (.cV zx))])
 .ret)))))) .skip))
 (.seq (.ad 122 [.p (.H (.call 122 [bb,rF,gY])),
   .p iM,
   .p iN,
   .s .d2 .d0 fa,
   .s .d2 .d1 fa])
 (.seq (.ad 12 [.s .d0 .d1 (.L (.cV ou)),
   .s .d0 .d2 (.L (.cV lE))])
 .ret)))))⟩
def i108:cd:=
 ⟨2,[0,1,4,11,17,23,6,7,5,34,9],[.tmp .d0 .d2],(.seq (.ad 1 [.s .d0 .d2 ov])
 (.seq (.seq (.ad 2 [.s .d0 .d3 (.L (.bin .eql cm rF))])
 (.cond cP (.seq (.seq (.ad 58 [.p (.L (.bin .leq gY bb)),
   .g ai true cw,
   .g bo true (.L (.bin .lss ai (.c (.int .i64 100)))),
   .s .d0 .d4 xB])
 (.cond eg (.seq (.ad 2 [.s .d0 .d2 (.H (.call 127 [bb]))])
 .ret) .skip))
 (.seq (.ad 1 [.s .d1 .d0 (.L (.alloc [.int .u8 0, .int .u8 0, .int .u8 0, .int .u8 0, .int .u8 0, .int .u8 0, .int .u8 0, .int .u8 0, .int .u8 0, .int .u8 0, .int .u8 0, .int .u8 0, .int .u8 0, .int .u8 0, .int .u8 0, .int .u8 0, .int .u8 0, .int .u8 0, .int .u8 0, .int .u8 0, .int .u8 0, .int .u8 0, .int .u8 0, .int .u8 0]))])
 (.seq (.ad 2 [.s .d0 .d6 (.L (.conv .u64 bb))])
 (.seq (.seq (.ad 2 [.s .d0 .d5 J5])
 (.cond c3 (.ad 2 [.s .d0 .d6 (.L (.neg c9))]) .skip))
 (.seq (.ad 2 [.s .d0 .d7 (.H (.call 128 [c9]))])
 (.seq (.ad 22 [.p J6,
   .p O7,
   .p (.H (.call 129 [ai,c9]))])
 (.seq (.seq (.ad 2 [.s .d1 .d1 J5])
 (.cond iL (.seq (.ad 3 [.p (.L (.si 24 1 eh gY)),
   .p (.H (.store 1 ai B8))])
 (.seq (.ad 14 [.p J6,
   .p (.L (.u0 24 1 eh none (some ai) none)),
   .s .d0 .d2 (.L (.q5 ai))])
 .ret)) .skip))
 (.seq (.ad 14 [.p J6,
   .p O7,
   .s .d0 .d2 (.L (.q5 ai))])
 .ret)))))))) .skip))
 (.seq (.ad 1458 [.p (.L (.conv .u64 bb)),
   .p J5,
   .p (.H (.call 130 [sV,bo,cm,ai,j7])),
   .p iM,
   .p iN,
   .s .d1 .d2 jq])
 (.seq (.ad 2 [.s .d0 .d2 (.L (.cV iV))])
 .ret))))⟩
def i110:cd:=
 ⟨2,[0,1,13],[],(.seq (.seq (.ad 1012 [.p (.H (.call 82 [bb,cm])),
   .g ai true cw,
   .g bo true gP,
   .g b6 true rG,
   .g cU true aV,
   .g fT true (.L (.bin .geq ai (.c (.int .i64 40)))),
   .s .d0 .d2 JR])
 (.cond cT (.ad 2 [.p (.H (.call 61 [bb,(.c (.int .i64 12))]))]) .skip))
 (.seq (.ad 4 [.p (.H (.call 55 [bb,cm]))])
 (.ad 254 [.p fU,
   .p rG,
   .p aV,
   .p zJ,
   .p fU,
   .p rG,
   .p (.H (.store 1 ai b6))])))⟩
def i111:cd:=
 ⟨1,[0,2,12,3,4,5,47,64,73,79,86,90,101,106],[.cell .d0 .d1 (some 12)],(.seq (.ad 1 [.s .d0 .d1 J7])
 (.seq (.ad 30 [.p (.H (.call 56 [bb])),
   .p (.L (.build [.int .i64 0, .int .i64 0, .str 0 0, .str 0 0, .str 0 0, .bool false, .str 0 0, .str 0 0, .U, .U, .U, .U] [(1,1,ai)])),
   .s .d0 .d3 J7,
   .p (.H (.store 12 ai bo))])
 (.seq (.block 0 (.seq (.draw [0,1,2,3,4,5,6,7,8,9,10,11,12,13,14,15,16,17,18,19] [⟨.p cw,[]⟩,
   ⟨.p gP,[]⟩,
   ⟨.p k4,[]⟩,
   ⟨.p aV,[]⟩,
   ⟨.p mS,[]⟩,
   ⟨.p jq,[]⟩,
   ⟨.g ai true cw,[]⟩,
   ⟨.g bo true gP,[]⟩,
   ⟨.g b6 true iP,[]⟩,
   ⟨.g cU true aV,[]⟩,
   ⟨.g fT true cw,[]⟩,
   ⟨.g hs true gP,[]⟩,
   ⟨.g kG true ic,[]⟩,
   ⟨.g nK true aV,[]⟩,
   ⟨.g px true uu,[]⟩,
   ⟨.g xt true iP,[]⟩,
   ⟨.g xu true aV,[]⟩,
   ⟨.g (.l 11) true (.L (.bin .eql ai fi)),[]⟩,
   ⟨.p JX,[]⟩,
   ⟨.s .d0 .d2 jq,[]⟩])
 (.cond cT (.seq (.ad 122 [.p (.H (.call 140 [bb])),
   .p iM,
   .p iN,
   .s .d0 .d4 fa,
   .s .d0 .d5 fa])
 (.seq (.ad 3 [.p mn,
   .p (.H (.store 1 ai k3))])
 (.seq (.ad 6 [.p FD,
   .p (.H (.store 1 ai eg))])
 (.seq (.ad 6 [.p zH,
   .p (.H (.store 1 ai c3))])
 (.seq (.ad 2 [.p (.H (.call 55 [bb,B9]))])
 (.ad 14 [.p (.H (.call 141 [bb,sV])),
   .p Cv,
   .p (.H (.store 1 ai bo))])))))) (.seq (.ad 2 [.s .d0 .d6 (.H (.call 58 [bb,(.c (.str 3 7628140))]))])
 (.cond c9 (.seq (.ad 3 [.p mn,
   .p (.H (.store 1 ai fi))])
 (.seq (.ad 14 [.p (.H (.call 57 [bb])),
   .p zH,
   .p (.H (.store 1 ai bo))])
 (.seq (.ad 2 [.p (.H (.call 55 [bb,(.c (.str 1 58))]))])
 (.seq (.ad 14 [.p (.H (.call 57 [bb])),
   .p (.L (.bK 4 cP)),
   .p (.H (.store 1 ai bo))])
 (.seq (.ad 2 [.p (.H (.call 55 [bb,B9]))])
 (.ad 14 [.p (.H (.call 141 [bb,sV])),
   .p Cv,
   .p (.H (.store 1 ai bo))])))))) (.seq (.ad 2 [.s .d0 .d7 (.H (.call 58 [bb,(.c (.str 6 128009175786866))]))])
 (.cond dx (.seq (.ad 3 [.p mn,
   .p (.H (.store 1 ai xw))])
 (.seq (.ad 2 [.p (.H (.call 55 [bb,B9]))])
 (.ad 14 [.p (.H (.call 141 [bb,sV])),
   .p Cv,
   .p (.H (.store 1 ai bo))]))) (.seq (.ad 2 [.s .d1 .d0 (.H (.call 58 [bb,(.c (.str 4 1819042147))]))])
 (.cond eh (.ad 14 [.p zK,
   .p (.H (.call 142 [bb,ai])),
   .p (.H (.store 12 cP ai))]) (.seq (.ad 2 [.s .d1 .d1 (.H (.call 58 [bb,(.c (.str 4 1953066341))]))])
 (.cond iL (.seq (.ad 3 [.p mn,
   .p (.H (.store 1 ai Fm))])
 (.ad 14 [.p (.H (.call 57 [bb])),
   .p zH,
   .p (.H (.store 1 ai bo))])) (.seq (.ad 2 [.s .d1 .d2 (.H (.call 58 [bb,(.c (.str 4 1885956979))]))])
 (.cond iV (.ad 3 [.p mn,
   .p (.H (.store 1 ai xv))]) (.seq (.ad 2 [.s .d1 .d3 (.H (.call 58 [bb,(.c (.str 2 26217))]))])
 (.cond hq (.seq (.ad 3 [.p mn,
   .p (.H (.store 1 ai (.c (.int .i64 5))))])
 (.seq (.ad 14 [.p (.H (.call 141 [bb,sV])),
   .p Cv,
   .p (.H (.store 1 ai bo))])
 (.seq (.ad 14 [.p (.H (.call 84 [bb])),
   .p (.L (.bK 10 cP)),
   .p (.H (.store 1 ai bo))])
 (.seq (.seq (.ad 2 [.s .d1 .d4 (.H (.call 58 [bb,(.c (.str 4 1702063205))]))])
 (.cond fE (.ad 14 [.p (.H (.call 84 [bb])),
   .p (.L (.bK 11 cP)),
   .p (.H (.store 1 ai bo))]) .skip))
 (.seq (.ad 3 [.p zK,
   .p (.H (.store 12 cm ai))])
 .ret))))) (.seq (.ad 2 [.s .d1 .d5 (.H (.call 58 [bb,(.c (.str 5 435610544247))]))])
 (.cond gn (.seq (.ad 3 [.p mn,
   .p (.H (.store 1 ai Fl))])
 (.seq (.ad 14 [.p (.H (.call 141 [bb,sV])),
   .p Cv,
   .p (.H (.store 1 ai bo))])
 (.seq (.ad 14 [.p (.H (.call 84 [bb])),
   .p (.L (.bK 10 cP)),
   .p (.H (.store 1 ai bo))])
 (.seq (.ad 3 [.p zK,
   .p (.H (.store 12 cm ai))])
 .ret)))) (.seq (.ad 2 [.p (.H (.call 61 [bb,zw]))])
 (.seq (.ad 3 [.p zK,
   .p (.H (.store 12 cm ai))])
 .ret)))))))))))))))))))
 (.seq (.ad 2 [.p (.H (.call 55 [bb,B7]))])
 (.seq (.ad 3 [.p zK,
   .p (.H (.store 12 cm ai))])
 .ret)))))⟩
def i120:cd:=
 ⟨1,[0,2,3,5,14,7,20,9,29,8,10,55,6,4],[.tmp .d0 .d1, .tmp .d0 .d2],(.seq (.ad 3 [.s .d0 .d1 eE,
   .s .d0 .d2 gE])
 (.seq (.ad 1 [.s .d1 .d5 eE])
 (.seq (.seq (.ad 1 [.s .d0 .d3 cj])
 (.block 0 (.loop (.seq (.seq (.ad 12 [.p iO,
   .s .d0 .d4 xE])
 (.cond eg .skip (.exit 0)))
 (.seq (.block 1 (.seq (.ad 1 [.s .d1 .d4 eE])
 (.seq (.seq (.ad 1 [.s .d0 .d5 cj])
 (.block 2 (.loop (.seq (.seq (.ad 12 [.p iO,
   .s .d0 .d6 FA])
 (.cond c9 .skip (.exit 2)))
 (.seq (.block 3 (.seq (.ad 6 [.p iO,
   .s .d1 .d1 (.L (.n2 1 [.bool false] 1 ai ai))])
 (.seq (.seq (.ad 1 [.s .d0 .d7 cj])
 (.block 4 (.loop (.seq (.seq (.ad 12 [.p iO,
   .s .d1 .d0 JP])
 (.cond eh .skip (.exit 4)))
 (.seq (.block 5 (.ad 1047984 [.p FG,
   .p aV,
   .p (.L (.bY 1 ai dx)),
   .p aV,
   .g ai true cw,
   .g bo true mU,
   .g b6 true iX,
   .g cU true aV,
   .g fT true mo,
   .g hs true iX,
   .g kG true aV,
   .p FJ,
   .p (.L (.bY 1 iL dx)),
   .p (.H (.store 1 ai bo))]))
 (.ad 2 [.s .d0 .d7 zA]))))))
 (.seq (.ad 4 [.s .d1 .d2 (.H (.call 145 [bb,iL]))])
 (.seq (.seq (.ad 2 [.s .d1 .d3 (.L (.bin .lss iV gY))])
 (.cond hq (.seq (.ad 3 [.s .d0 .d1 eE,
   .s .d0 .d2 gE])
 .ret) .skip))
 (.ad 12 [.p (.L (.eS 1 1 [.int .i64 0] [(0,1,iV)])),
   .s .d1 .d4 (.H (.append 1 8 fE ai))]))))))
 (.ad 2 [.s .d0 .d5 FB]))))))
 (.ad 12 [.p (.L (.eS 1 1 [.U] [(0,1,fE)])),
   .s .d1 .d5 (.H (.append 1 24 gn ai))]))))
 (.ad 2 [.s .d0 .d3 pz]))))))
 (.seq (.ad 6 [.s .d0 .d1 xA,
   .s .d0 .d2 sX])
 .ret))))⟩
def i121:cd:=
 ⟨1,[0,2,4,10,6,19,5,3],[.tmp .d0 .d1],(.seq (.ad 1 [.s .d0 .d1 eE])
 (.seq (.ad 1 [.s .d0 .d7 eE])
 (.seq (.seq (.ad 1 [.s .d0 .d2 cj])
 (.block 0 (.loop (.seq (.seq (.ad 12 [.p iO,
   .s .d0 .d3 JY])
 (.cond cP .skip (.exit 0)))
 (.seq (.block 1 (.seq (.ad 6 [.p iO,
   .s .d0 .d6 (.L (.n2 1 [.bool false] 1 ai ai))])
 (.seq (.seq (.ad 1 [.s .d0 .d4 cj])
 (.block 2 (.loop (.seq (.seq (.ad 12 [.p iO,
   .s .d0 .d5 Fw])
 (.cond c3 .skip (.exit 2)))
 (.seq (.block 3 (.ad 1968 [.p (.L (.bY 1 bb eg)),
   .p aV,
   .p (.L (.bY 1 ai cT)),
   .p aV,
   .p (.L (.bY 1 c9 eg)),
   .p (.H (.store 1 ai bo))]))
 (.ad 2 [.s .d0 .d4 Ck]))))))
 (.ad 12 [.p (.L (.eS 1 1 [.U] [(0,1,c9)])),
   .s .d0 .d7 (.H (.append 1 24 dx ai))]))))
 (.ad 2 [.s .d0 .d2 Ct]))))))
 (.seq (.ad 2 [.s .d0 .d1 mo])
 .ret))))⟩
def i127:cd:=
 ⟨1,[0,2,4],[.tmp .d0 .d1],(.seq (.ad 1 [.s .d0 .d1 ov])
 (.seq (.seq (.ad 2 [.s .d0 .d2 (.L (.bin .lss bb rF))])
 (.cond cT (.seq (.ad 12 [.p (.L (.bin .add bb fi)),
   .s .d0 .d1 (.L (.n3 Cb (some bb) (some ai)))])
 .ret) .skip))
 (.seq (.ad 58 [.p (.L (.bin .mul bb k3)),
   .p (.L (.bin .mul bb k3)),
   .p (.L (.bin .add ai k3)),
   .s .d0 .d1 (.L (.n3 O1 (some b6) (some ai)))])
 .ret)))⟩
def i128:cd:=
 ⟨1,[0,2,3],[.tmp .d0 .d1],(.seq (.ad 1 [.s .d0 .d1 cj])
 (.seq (.ad 6 [.p (.H (.call 95 [bb])),
   .s .d0 .d2 (.H (.call 149 [ai]))])
 (.seq (.ad 248 [.p (.L (.si 20 1 (.c .bot) cT)),
   .p aV,
   .p (.L (.bin .geq bb ai)),
   .p (.H (.call 150 [ai])),
   .s .d0 .d1 (.L (.bin .add cT ai))])
 .ret)))⟩
def i129:cd:=
 ⟨2,[0,1,4,20,5,7,6,9,8,11,10,99,12,13,15,14,139,16,161],[],(.seq (.ad 2 [.s .d0 .d2 iO])
 (.seq (.block 0 (.loop (.seq (.seq (.ad 2 [.s .d0 .d3 (.L (.bin .geq cT xv))])
 (.cond cP .skip (.exit 0)))
 (.block 1 (.seq (.ad 6 [.p (.L (.bin .rem cm (.c (.int .u64 100000000)))),
   .s .d0 .d4 (.L (.conv .u32 ai))])
 (.seq (.ad 2 [.s .d0 .d1 (.L (.bin .quo cm (.c (.int .u64 100000000))))])
 (.seq (.ad 58 [.p (.L (.bin .quo eg Fo)),
   .p (.L (.bin .rem eg Fo)),
   .s .d0 .d6 fa,
   .s .d0 .d5 fa])
 (.seq (.ad 246 [.p (.L (.bin .quo c3 vD)),
   .p xG,
   .p (.L (.bin .rem c3 vD)),
   .p xG,
   .s .d1 .d0 lF,
   .s .d0 .d7 fa])
 (.seq (.ad 246 [.p (.L (.bin .quo c9 vD)),
   .p xG,
   .p (.L (.bin .rem c9 vD)),
   .p xG,
   .s .d1 .d2 lF,
   .s .d1 .d1 fa])
 (.seq (.draw [0,1,2,3,4,5,6,7,8,9,10,11,12,13,14] [⟨.p cw,[]⟩,
   ⟨.p j9,[]⟩,
   ⟨.p mT,[]⟩,
   ⟨.p cw,[]⟩,
   ⟨.p j9,[]⟩,
   ⟨.p J8,[]⟩,
   ⟨.p mo,[]⟩,
   ⟨.p xH,[]⟩,
   ⟨.p ow,[]⟩,
   ⟨.p mo,[]⟩,
   ⟨.p ow,[]⟩,
   ⟨.p xI,[]⟩,
   ⟨.p (.H (.store 1 ai cU)),[]⟩,
   ⟨.p xJ,[]⟩,
   ⟨.p (.H (.store 1 ai cU)),[]⟩])
 (.seq (.draw [0,1,2,3,4,5,6,7,8,9,10,11,12,13,14] [⟨.p cw,[]⟩,
   ⟨.p j9,[]⟩,
   ⟨.p (.L (.bin .sub ai xw)),[]⟩,
   ⟨.p cw,[]⟩,
   ⟨.p j9,[]⟩,
   ⟨.p J4,[]⟩,
   ⟨.p qx,[]⟩,
   ⟨.p xH,[]⟩,
   ⟨.p ow,[]⟩,
   ⟨.p qx,[]⟩,
   ⟨.p ow,[]⟩,
   ⟨.p xI,[]⟩,
   ⟨.p (.H (.store 1 ai cU)),[]⟩,
   ⟨.p xJ,[]⟩,
   ⟨.p (.H (.store 1 ai cU)),[]⟩])
 (.seq (.draw [0,1,2,3,4,5,6,7,8,9,10,11,12,13,14] [⟨.p cw,[]⟩,
   ⟨.p j9,[]⟩,
   ⟨.p (.L (.bin .sub ai (.c (.int .i64 5)))),[]⟩,
   ⟨.p cw,[]⟩,
   ⟨.p j9,[]⟩,
   ⟨.p (.L (.bin .sub ai Fl)),[]⟩,
   ⟨.p Ch,[]⟩,
   ⟨.p xH,[]⟩,
   ⟨.p ow,[]⟩,
   ⟨.p Ch,[]⟩,
   ⟨.p ow,[]⟩,
   ⟨.p xI,[]⟩,
   ⟨.p (.H (.store 1 ai cU)),[]⟩,
   ⟨.p xJ,[]⟩,
   ⟨.p (.H (.store 1 ai cU)),[]⟩])
 (.seq (.draw [0,1,2,3,4,5,6,7,8,9,10,11,12,13,14] [⟨.p cw,[]⟩,
   ⟨.p j9,[]⟩,
   ⟨.p (.L (.bin .sub ai Fm)),[]⟩,
   ⟨.p cw,[]⟩,
   ⟨.p j9,[]⟩,
   ⟨.p (.L (.bin .sub ai xv)),[]⟩,
   ⟨.p (.L (.cV iV)),[]⟩,
   ⟨.p xH,[]⟩,
   ⟨.p ow,[]⟩,
   ⟨.p (.L (.cV iV)),[]⟩,
   ⟨.p ow,[]⟩,
   ⟨.p xI,[]⟩,
   ⟨.p (.H (.store 1 ai cU)),[]⟩,
   ⟨.p xJ,[]⟩,
   ⟨.p (.H (.store 1 ai cU)),[]⟩])
 (.ad 2 [.s .d0 .d2 (.L (.bin .sub cT xv))]))))))))))))))
 (.seq (.ad 2 [.s .d1 .d4 (.L (.conv .u32 cm))])
 (.seq (.seq (.ad 2 [.s .d1 .d3 (.L (.bin .geq cT sW))])
 (.cond hq (.seq (.ad 2 [.s .d1 .d5 (.L (.bin .rem fE Fo))])
 (.seq (.ad 2 [.s .d1 .d4 (.L (.bin .quo fE Fo))])
 (.seq (.ad 246 [.p (.L (.bin .quo gn vD)),
   .p xG,
   .p (.L (.bin .rem gn vD)),
   .p xG,
   .s .d1 .d7 lF,
   .s .d1 .d6 fa])
 (.seq (.draw [0,1,2,3,4,5,6,7,8,9,10,11,12,13,14] [⟨.p cw,[]⟩,
   ⟨.p j9,[]⟩,
   ⟨.p mT,[]⟩,
   ⟨.p cw,[]⟩,
   ⟨.p j9,[]⟩,
   ⟨.p J8,[]⟩,
   ⟨.p xF,[]⟩,
   ⟨.p xH,[]⟩,
   ⟨.p ow,[]⟩,
   ⟨.p xF,[]⟩,
   ⟨.p ow,[]⟩,
   ⟨.p xI,[]⟩,
   ⟨.p (.H (.store 1 ai cU)),[]⟩,
   ⟨.p xJ,[]⟩,
   ⟨.p (.H (.store 1 ai cU)),[]⟩])
 (.seq (.draw [0,1,2,3,4,5,6,7,8,9,10,11,12,13,14] [⟨.p cw,[]⟩,
   ⟨.p j9,[]⟩,
   ⟨.p (.L (.bin .sub ai xw)),[]⟩,
   ⟨.p cw,[]⟩,
   ⟨.p j9,[]⟩,
   ⟨.p J4,[]⟩,
   ⟨.p vJ,[]⟩,
   ⟨.p xH,[]⟩,
   ⟨.p ow,[]⟩,
   ⟨.p vJ,[]⟩,
   ⟨.p ow,[]⟩,
   ⟨.p xI,[]⟩,
   ⟨.p (.H (.store 1 ai cU)),[]⟩,
   ⟨.p xJ,[]⟩,
   ⟨.p (.H (.store 1 ai cU)),[]⟩])
 (.ad 2 [.s .d0 .d2 (.L (.bin .sub cT sW))])))))) .skip))
 (.seq (.seq (.ad 2 [.s .d2 .d0 (.L (.bin .geq cT k3))])
 (.cond ou (.seq (.ad 6 [.p (.L (.bin .rem fE vD)),
   .s .d2 .d1 xG])
 (.seq (.ad 2 [.s .d1 .d4 (.L (.bin .quo fE vD))])
 (.seq (.draw [0,1,2,3,4,5,6,7,8,9,10,11,12,13,14] [⟨.p cw,[]⟩,
   ⟨.p j9,[]⟩,
   ⟨.p mT,[]⟩,
   ⟨.p cw,[]⟩,
   ⟨.p j9,[]⟩,
   ⟨.p J8,[]⟩,
   ⟨.p (.L (.cV lE)),[]⟩,
   ⟨.p xH,[]⟩,
   ⟨.p ow,[]⟩,
   ⟨.p (.L (.cV lE)),[]⟩,
   ⟨.p ow,[]⟩,
   ⟨.p xI,[]⟩,
   ⟨.p (.H (.store 1 ai cU)),[]⟩,
   ⟨.p xJ,[]⟩,
   ⟨.p (.H (.store 1 ai cU)),[]⟩])
 (.ad 2 [.s .d0 .d2 (.L (.bin .sub cT k3))])))) .skip))
 (.seq (.ad 2 [.s .d2 .d2 (.L (.bin .gtr cT gY))])
 (.cond qw (.ad 60 [.p (.L (.bin .add (.c (.int .u32 48)) fE)),
   .p FK,
   .p (.L (.bY 1 bb gY)),
   .p (.H (.store 1 ai bo))]) .skip)))))))⟩
def i130:cd:=
 ⟨5,[0,1,2,3,4,10,11,28,30,34,15,46,13,16,12,14,17,68,18,89,94],[.tmp .d0 .d5, .tmp .d0 .d6],(.seq (.ad 3 [.s .d0 .d5 eE,
   .s .d0 .d6 ov])
 (.seq (.seq (.ad 954 [.p (.L (.bin .lss cT k3)),
   .g ai false j9,
   .g bo false (.L (.bin .eql ai rF)),
   .p vK,
   .g ai false j9,
   .g bo false (.L (.bin .gtr ai (.c (.int .i64 36)))),
   .s .d0 .d7 vK])
 (.cond dx (.ad 3 [.p (.L (.ez 9 (.c (.str 41 216697390027125670893655747107225825579143285394002440301576320671928898198549784051036142863283315)))),
   .p (.H (.panic ai))]) .skip))
 (.seq (.ad 1 [.s .d1 .d6 (.L (.alloc [.int .u8 0, .int .u8 0, .int .u8 0, .int .u8 0, .int .u8 0, .int .u8 0, .int .u8 0, .int .u8 0, .int .u8 0, .int .u8 0, .int .u8 0, .int .u8 0, .int .u8 0, .int .u8 0, .int .u8 0, .int .u8 0, .int .u8 0, .int .u8 0, .int .u8 0, .int .u8 0, .int .u8 0, .int .u8 0, .int .u8 0, .int .u8 0, .int .u8 0, .int .u8 0, .int .u8 0, .int .u8 0, .int .u8 0, .int .u8 0, .int .u8 0, .int .u8 0, .int .u8 0, .int .u8 0, .int .u8 0, .int .u8 0, .int .u8 0, .int .u8 0, .int .u8 0, .int .u8 0, .int .u8 0, .int .u8 0, .int .u8 0, .int .u8 0, .int .u8 0, .int .u8 0, .int .u8 0, .int .u8 0, .int .u8 0, .int .u8 0, .int .u8 0, .int .u8 0, .int .u8 0, .int .u8 0, .int .u8 0, .int .u8 0, .int .u8 0, .int .u8 0, .int .u8 0, .int .u8 0, .int .u8 0, .int .u8 0, .int .u8 0, .int .u8 0, .int .u8 0]))])
 (.seq (.ad 1 [.s .d1 .d4 (.L (.cV (.c (.int .i64 65))))])
 (.seq (.seq (.ad 1 [.s .d1 .d0 kH])
 (.cond eh (.ad 2 [.s .d0 .d1 (.L (.neg cm))]) .skip))
 (.seq (.seq (.ad 2 [.s .d1 .d1 (.H (.call 151 [cT]))])
 (.cond iL (.seq (.ad 14 [.p FL,
   .p (.H (.call 152 [ai])),
   .s .d1 .d7 (.L (.conv .u64 ai))])
 (.seq (.ad 2 [.s .d1 .d2 FL])
 (.seq (.ad 6 [.p FL,
   .s .d1 .d5 (.L (.bin .sub ai (.c (.int .u64 1))))])
 (.seq (.block 0 (.loop (.seq (.seq (.ad 4 [.s .d1 .d3 (.L (.bin .geq cm iV))])
 (.cond hq .skip (.exit 0)))
 (.block 1 (.seq (.ad 2 [.s .d1 .d4 Cw])
 (.seq (.ad 120 [.p (.L (.bin .and cm gn)),
   .p (.L (.kT Cb ai)),
   .p Cx,
   .p (.H (.store 1 ai bo))])
 (.ad 4 [.s .d0 .d1 (.L (.lp false cm ml))])))))))
 (.seq (.ad 2 [.s .d1 .d4 Cw])
 (.ad 28 [.p (.L (.kT Cb cm)),
   .p Cx,
   .p (.H (.store 1 ai bo))])))))) (.seq (.ad 2 [.s .d2 .d0 FL])
 (.seq (.block 2 (.loop (.seq (.seq (.ad 4 [.s .d2 .d1 (.L (.bin .geq cm ou))])
 (.cond lE .skip (.exit 2)))
 (.block 3 (.seq (.ad 2 [.s .d1 .d4 Cw])
 (.seq (.ad 4 [.s .d2 .d2 (.L (.bin .quo cm ou))])
 (.seq (.ad 496 [.p (.L (.bin .mul qw ou)),
   .p (.L (.bin .sub cm ai)),
   .p (.L (.kT Cb ai)),
   .p Cx,
   .p (.H (.store 1 ai bo))])
 (.ad 2 [.s .d0 .d1 (.L (.cV qw))]))))))))
 (.seq (.ad 2 [.s .d1 .d4 Cw])
 (.ad 28 [.p (.L (.kT Cb cm)),
   .p Cx,
   .p (.H (.store 1 ai bo))]))))))
 (.seq (.seq (.ad 1 [.s .d2 .d3 kH])
 (.cond rE (.seq (.ad 2 [.s .d1 .d4 Cw])
 (.ad 6 [.p Cx,
   .p (.H (.store 1 ai B8))])) .skip))
 (.seq (.seq (.ad 1 [.s .d2 .d4 lG])
 (.cond vC (.seq (.ad 12 [.p O8,
   .s .d0 .d5 (.H (.append 1 1 bb ai))])
 .ret) .skip))
 (.seq (.ad 6 [.p O8,
   .s .d0 .d6 (.L (.q5 ai))])
 .ret)))))))))⟩
def i140:cd:=
 ⟨1,[0,2,3,8,4],[.tmp .d0 .d1, .tmp .d0 .d2],(.seq (.ad 3 [.s .d0 .d1 ov,
   .s .d0 .d2 ov])
 (.seq (.ad 2 [.s .d0 .d4 (.H (.call 57 [bb]))])
 (.seq (.seq (.ad 2 [.s .d0 .d3 (.H (.call 58 [bb,(.c (.str 1 46))]))])
 (.cond cP (.seq (.ad 28 [.p (.H (.call 57 [bb])),
   .s .d0 .d1 lG,
   .s .d0 .d2 fa])
 .ret) .skip))
 (.seq (.ad 6 [.s .d0 .d1 ov,
   .s .d0 .d2 lG])
 .ret))))⟩
def i141:cd:=
 ⟨2,[0,1,4,5,6,16,29,7,8],[.tmp .d0 .d2],(.seq (.ad 1 [.s .d0 .d2 eE])
 (.seq (.ad 4 [.s .d0 .d1 (.H (.call 157 [bb,cm]))])
 (.seq (.ad 1 [.s .d0 .d3 (.L (.eS 1 3 [.str 0 0] [(0,1,(.c (.str 2 15677))),(1,1,(.c (.str 1 60))),(2,1,(.c (.str 2 15676)))]))])
 (.seq (.seq (.ad 1 [.s .d0 .d4 cj])
 (.block 0 (.loop (.seq (.seq (.ad 12 [.p (.L (.len false cP)),
   .s .d0 .d5 Fw])
 (.cond c3 .skip (.exit 0)))
 (.seq (.block 1 (.seq (.ad 118 [.p vH,
   .p mT,
   .p (.H (.call 56 [bb])),
   .s .d0 .d7 fa,
   .s .d1 .d0 fa])
 (.seq (.ad 56 [.p (.L (.bY 1 cP eg)),
   .p aV,
   .s .d0 .d6 (.H (.call 58 [bb,ai]))])
 (.cond c9 (.seq (.ad 164 [.p (.H (.call 157 [bb,cm])),
   .p (.L (.bin .add rF eg)),
   .s .d0 .d2 (.H (.call 158 [bo,dx,ai,eh]))])
 .ret) .skip))))
 (.ad 2 [.s .d0 .d4 Ck]))))))
 (.seq (.ad 2 [.s .d0 .d2 iW])
 .ret)))))⟩
def i142:cd:=
 ⟨2,[0,1,4,3,16,5,6,7,8,37,42,52],[.cell .d0 .d2 (some 12)],(.seq (.ad 3 [.s .d0 .d3 (.L (.box 12 cm)),
   .s .d0 .d2 J7])
 (.seq (.ad 3 [.p mn,
   .p (.H (.store 1 ai sW))])
 (.seq (.ad 122 [.p (.H (.call 140 [bb])),
   .p iM,
   .p iN,
   .s .d0 .d5 fa,
   .s .d0 .d6 fa])
 (.seq (.seq (.ad 2 [.s .d0 .d4 (.H (.call 58 [bb,B9]))])
 (.cond eg (.seq (.ad 3 [.p (.L (.bK 5 cP)),
   .p (.H (.store 1 ai mm))])
 (.seq (.ad 6 [.p FD,
   .p (.H (.store 1 ai c3))])
 (.seq (.ad 6 [.p zH,
   .p (.H (.store 1 ai c9))])
 (.seq (.ad 122 [.p (.H (.call 140 [bb])),
   .p iM,
   .p iN,
   .s .d0 .d7 fa,
   .s .d1 .d0 fa])
 (.seq (.ad 2 [.s .d0 .d5 mo])
 (.ad 2 [.s .d0 .d6 qx])))))) .skip))
 (.seq (.ad 6 [.p (.L (.bK 6 cP)),
   .p (.H (.store 1 ai c3))])
 (.seq (.ad 6 [.p (.L (.bK 7 cP)),
   .p (.H (.store 1 ai c9))])
 (.seq (.ad 2 [.p (.H (.call 55 [bb,Fj]))])
 (.seq (.seq (.ad 6 [.p (.H (.call 82 [bb,Ca])),
   .s .d1 .d1 j8])
 (.cond iL (.block 0 (.loop (.seq (.seq (.ad 30 [.p fU,
   .p k4,
   .p aV,
   .s .d1 .d2 mS])
 (.cond iV .skip (.exit 0)))
 (.block 1 (.seq (.draw [0,1,2,3,4,5,6,7] [⟨.p (.L (.bK 9 cP)),[]⟩,
   ⟨.p aV,[]⟩,
   ⟨.p cw,[]⟩,
   ⟨.p (.H (.call 141 [ai,sV])),[1]⟩,
   ⟨.p (.L (.eS 1 1 [.U] [(0,1,ai)])),[]⟩,
   ⟨.p (.H (.append 1 24 cU ai)),[]⟩,
   ⟨.p (.L (.bK 9 cP)),[]⟩,
   ⟨.p (.H (.store 1 ai bo)),[]⟩])
 (.seq (.ad 6 [.p (.H (.call 58 [bb,(.c (.str 1 44))])),
   .s .d1 .d3 j8])
 (.cond hq (.exit 0) .skip))))))) .skip))
 (.seq (.ad 2 [.p (.H (.call 55 [bb,Ca]))])
 (.seq (.ad 3 [.p zK,
   .p (.H (.store 12 cT ai))])
 .ret))))))))))⟩
def i145:cd:=
 ⟨2,[0,1,4,5,11,7,21,6,41],[.tmp .d0 .d2],(.seq (.ad 1 [.s .d0 .d2 cj])
 (.seq (.seq (.ad 1 [.s .d0 .d3 cj])
 (.block 0 (.loop (.seq (.seq (.ad 12 [.p vH,
   .s .d0 .d4 xE])
 (.cond eg .skip (.exit 0)))
 (.seq (.block 1 (.seq (.ad 12 [.p (.L (.bY 1 cm cP)),
   .s .d0 .d7 aV])
 (.seq (.seq (.ad 1 [.s .d0 .d5 cj])
 (.block 2 (.loop (.seq (.seq (.ad 12 [.p vH,
   .s .d0 .d6 FA])
 (.cond c9 .skip (.exit 2)))
 (.seq (.block 3 (.ad 131068 [.g dx true iW,
   .g dx true mU,
   .g dx true iX,
   .g dx true aV,
   .g dx true j8,
   .g dx true jq,
   .g ai false cw,
   .g bo false kH,
   .g b6 false iX,
   .g cU false aV,
   .g fT false mU,
   .g hs false iX,
   .g kG false aV,
   .g dx true JU,
   .s .d0 .d7 (.L (.pick dx ai j7))]))
 (.ad 2 [.s .d0 .d5 FB]))))))
 (.seq (.ad 1 [.s .d1 .d0 mo])
 (.cond eh (.seq (.ad 2 [.s .d0 .d2 kH])
 .ret) .skip)))))
 (.ad 2 [.s .d0 .d3 pz]))))))
 (.seq (.ad 1 [.s .d0 .d2 (.L (.cV uq))])
 .ret)))⟩
def i149:cd:=
 ⟨1,[0,2],[.tmp .d0 .d1],(.seq (.ad 1 [.s .d0 .d1 cj])
 (.seq (.ad 6 [.p (.L (.bin .mul bb (.c (.int .i64 78913)))),
   .s .d0 .d1 (.L (.lp false ai (.c (.int .u64 18))))])
 .ret))⟩
def i150:cd:=
 ⟨1,[0,2,3],[.tmp .d0 .d1],(.seq (.ad 1 [.s .d0 .d1 cj])
 (.seq (.seq (.ad 1 [.s .d0 .d2 cw])
 (.cond cT (.seq (.ad 1 [.s .d0 .d1 Cp])
 .ret) .skip))
 (.seq (.ad 1 [.s .d0 .d1 cj])
 .ret)))⟩
def i151:cd:=
 ⟨1,[0,2],[.tmp .d0 .d1],(.seq (.ad 1 [.s .d0 .d1 gE])
 (.seq (.ad 28 [.p (.L (.bin .sub bb fi)),
   .p J9,
   .s .d0 .d1 mS])
 .ret))⟩
def i152:cd:=
 ⟨1,[0,2],[.tmp .d0 .d1],(.seq (.ad 1 [.s .d0 .d1 cj])
 (.seq (.cond j7 (.seq (.ad 6 [.p (.L (.conv .u32 bb)),
   .s .d0 .d1 (.H (.call 161 [ai]))])
 .ret) .skip)
 (.seq (.ad 2 [.s .d0 .d1 (.H (.call 162 [bb]))])
 .ret)))⟩
def i157:cd:=
 ⟨2,[0,1,4,14,21,5,6,30],[.tmp .d0 .d2],(.seq (.ad 1 [.s .d0 .d2 eE])
 (.seq (.ad 4 [.s .d0 .d1 (.H (.call 164 [bb,cm]))])
 (.seq (.block 0 (.loop (.seq (.seq (.ad 30 [.p fU,
   .p k4,
   .p aV,
   .s .d0 .d3 mS])
 (.cond cP .skip (.exit 0)))
 (.block 1 (.seq (.ad 118 [.p vH,
   .p mT,
   .p (.H (.call 56 [bb])),
   .s .d0 .d5 fa,
   .s .d0 .d6 fa])
 (.block 2 (.seq (.ad 2 [.s .d0 .d4 (.H (.call 58 [bb,(.c (.str 1 43))]))])
 (.cond eg (.ad 36 [.p (.H (.call 164 [bb,cm])),
   .s .d0 .d1 (.H (.call 158 [ai,c3,(.c (.int .i64 5)),c9]))]) (.seq (.ad 2 [.s .d0 .d7 (.H (.call 58 [bb,(.c (.str 1 45))]))])
 (.cond dx (.ad 36 [.p (.H (.call 164 [bb,cm])),
   .s .d0 .d1 (.H (.call 158 [ai,c3,Fl,c9]))]) (.seq (.ad 2 [.s .d0 .d2 iW])
 .ret)))))))))))
 (.seq (.ad 2 [.s .d0 .d2 iW])
 .ret))))⟩
def i158:cd:=
 ⟨4,[0,1,2,3,8],[.tmp .d0 .d4],(.seq (.ad 1 [.s .d0 .d4 eE])
 (.seq (.ad 944 [.p iO,
   .p mT,
   .p (.L (.build [.int .i64 0, .int .i64 0, .str 0 0, .str 0 0, .int .i64 0, .int .i64 0, .int .i64 0] [(0,1,cT),(4,1,cm),(5,1,ai),(6,1,cP)])),
   .p FM,
   .s .d0 .d4 (.H (.append 7 72 bb ai))])
 .ret))⟩
def i161:cd:=
 ⟨1,[0,2,4],[.tmp .d0 .d1],(.seq (.ad 1 [.s .d0 .d1 cj])
 (.seq (.seq (.ad 2 [.s .d0 .d2 (.L (.bin .eql bb (.c (.int .u32 0))))])
 (.cond cT (.seq (.ad 1 [.s .d0 .d1 (.L (.cV (.c (.int .i64 32))))])
 .ret) .skip))
 (.seq (.ad 508 [.p (.L (.neg bb)),
   .p J9,
   .p (.L (.bin .mul ai (.c (.int .u32 125613361)))),
   .p (.L (.lp false ai (.c (.int .u64 27)))),
   .p (.L (.si 32 1 (.c .bot) ai)),
   .p aV,
   .s .d0 .d1 vL])
 .ret)))⟩
def i162:cd:=
 ⟨1,[0,2,4],[.tmp .d0 .d1],(.seq (.ad 1 [.s .d0 .d1 cj])
 (.seq (.seq (.ad 2 [.s .d0 .d2 (.L (.bin .eql bb (.c (.int .u64 0))))])
 (.cond cT (.seq (.ad 1 [.s .d0 .d1 (.L (.cV (.c (.int .i64 64))))])
 .ret) .skip))
 (.seq (.ad 508 [.p (.L (.neg bb)),
   .p J9,
   .p (.L (.bin .mul ai (.c (.int .u64 285870213051353865)))),
   .p (.L (.lp false ai (.c (.int .u64 58)))),
   .p (.L (.si 64 1 (.c .bot) ai)),
   .p aV,
   .s .d0 .d1 vL])
 .ret)))⟩
def i164:cd:=
 ⟨2,[0,1,4,14,21,5,6,30,39],[.tmp .d0 .d2],(.seq (.ad 1 [.s .d0 .d2 eE])
 (.seq (.ad 4 [.s .d0 .d1 (.H (.call 165 [bb,cm]))])
 (.seq (.block 0 (.loop (.seq (.seq (.ad 30 [.p fU,
   .p k4,
   .p aV,
   .s .d0 .d3 mS])
 (.cond cP .skip (.exit 0)))
 (.block 1 (.seq (.ad 118 [.p vH,
   .p mT,
   .p (.H (.call 56 [bb])),
   .s .d0 .d5 fa,
   .s .d0 .d6 fa])
 (.block 2 (.seq (.ad 2 [.s .d0 .d4 (.H (.call 58 [bb,(.c (.str 1 42))]))])
 (.cond eg (.ad 36 [.p (.H (.call 165 [bb,cm])),
   .s .d0 .d1 (.H (.call 158 [ai,c3,Fm,c9]))]) (.seq (.ad 2 [.s .d0 .d7 (.H (.call 58 [bb,(.c (.str 1 47))]))])
 (.cond dx (.ad 36 [.p (.H (.call 165 [bb,cm])),
   .s .d0 .d1 (.H (.call 158 [ai,c3,xv,c9]))]) (.seq (.ad 2 [.s .d1 .d0 (.H (.call 58 [bb,(.c (.str 1 37))]))])
 (.cond eh (.ad 36 [.p (.H (.call 165 [bb,cm])),
   .s .d0 .d1 (.H (.call 158 [ai,c3,zv,c9]))]) (.seq (.ad 2 [.s .d0 .d2 iW])
 .ret)))))))))))))
 (.seq (.ad 2 [.s .d0 .d2 iW])
 .ret))))⟩
def i165:cd:=
 ⟨2,[0,1,4,13,25,5,34,6,59,77,97,7,8],[.tmp .d0 .d2],(.seq (.ad 1 [.s .d0 .d2 eE])
 (.seq (.seq (.ad 30 [.p fU,
   .p k4,
   .p aV,
   .s .d0 .d3 xx])
 (.cond cP (.seq (.ad 2 [.s .d0 .d2 iW])
 .ret) .skip))
 (.seq (.draw [0,1,2,3,4,5,6,7,8,9,10,11] [⟨.p cw,[]⟩,
   ⟨.p gP,[]⟩,
   ⟨.p iP,[]⟩,
   ⟨.p aV,[]⟩,
   ⟨.p cw,[]⟩,
   ⟨.p gP,[]⟩,
   ⟨.p ic,[]⟩,
   ⟨.p aV,[]⟩,
   ⟨.p uu,[]⟩,
   ⟨.p xD,[]⟩,
   ⟨.s .d0 .d5 FH,[]⟩,
   ⟨.p (.H (.store 3 ai bo)),[]⟩])
 (.seq (.block 0 (.seq (.ad 58 [.p (.H (.call 82 [bb,(.c (.str 1 45))])),
   .g ai false cw,
   .g bo false (.H (.call 82 [ai,(.c (.str 1 33))])),
   .s .d0 .d4 vK])
 (.cond eg (.seq (.ad 1 [.s .d0 .d7 (.L (.cV xw))])
 (.seq (.seq (.ad 7 [.p Cu,
   .p aV,
   .s .d0 .d6 (.L (.e8 .eql ai (.c (.str 1 33))))])
 (.cond c9 (.ad 1 [.s .d0 .d7 (.L (.cV sW))]) .skip))
 (.seq (.ad 14 [.p Cu,
   .p aV,
   .p (.H (.call 110 [bb,ai]))])
 (.seq (.ad 4 [.s .d0 .d1 (.H (.call 165 [bb,cm]))])
 (.seq (.ad 254 [.p fU,
   .p rG,
   .p aV,
   .p mT,
   .p fU,
   .p rG,
   .p (.H (.store 1 ai b6))])
 (.seq (.ad 1016 [.p vH,
   .p mT,
   .p FI,
   .p aV,
   .p (.L (.build [.int .i64 0, .int .i64 0, .str 0 0, .str 0 0, .int .i64 0, .int .i64 0, .int .i64 0] [(0,1,dx),(4,1,b6),(5,1,uq),(6,1,ai)])),
   .p FM,
   .s .d0 .d2 (.H (.append 7 72 cm ai))])
 .ret)))))) (.seq (.ad 2 [.s .d1 .d0 (.H (.call 82 [bb,Fj]))])
 (.cond eh (.seq (.ad 2 [.p (.H (.call 110 [bb,Fj]))])
 (.seq (.ad 4 [.s .d0 .d1 (.H (.call 141 [bb,cm]))])
 (.seq (.ad 2 [.p (.H (.call 55 [bb,Ca]))])
 (.seq (.ad 254 [.p fU,
   .p rG,
   .p aV,
   .p mT,
   .p fU,
   .p rG,
   .p (.H (.store 1 ai b6))])
 (.seq (.ad 2 [.s .d0 .d2 iW])
 .ret))))) (.seq (.ad 7 [.p (.L (.bK 0 c3)),
   .p aV,
   .s .d1 .d1 (.L (.bin .eql ai k3))])
 (.cond iL (.seq (.ad 254 [.p fU,
   .p ic,
   .p aV,
   .p zJ,
   .p fU,
   .p ic,
   .p (.H (.store 1 ai b6))])
 (.seq (.draw [0,1,2,4,5,3,6,7,8,9] [⟨.p iW,[]⟩,
   ⟨.p Cu,[]⟩,
   ⟨.p aV,[]⟩,
   ⟨.p FI,[]⟩,
   ⟨.p aV,[]⟩,
   ⟨.p (.H (.call 83 [b6])),[0]⟩,
   ⟨.p (.L (.build [.int .i64 0, .int .i64 0, .str 0 0, .str 0 0, .int .i64 0, .int .i64 0, .int .i64 0] [(0,1,fi),(1,1,ai),(4,1,uq),(5,1,uq),(6,1,bo)])),[]⟩,
   ⟨.p FM,[]⟩,
   ⟨.p (.H (.append 7 72 nK ai)),[]⟩,
   ⟨.s .d0 .d2 jq,[]⟩])
 .ret)) (.seq (.ad 7 [.p (.L (.bK 0 c3)),
   .p aV,
   .s .d1 .d2 (.L (.bin .eql ai fi))])
 (.cond iV (.seq (.ad 122 [.p (.H (.call 140 [bb])),
   .p iM,
   .p iN,
   .s .d1 .d3 fa,
   .s .d1 .d4 fa])
 (.seq (.ad 248 [.p FI,
   .p aV,
   .p (.L (.build [.int .i64 0, .int .i64 0, .str 0 0, .str 0 0, .int .i64 0, .int .i64 0, .int .i64 0] [(0,1,k3),(2,1,hq),(3,1,fE),(4,1,uq),(5,1,uq),(6,1,ai)])),
   .p FM,
   .s .d0 .d2 (.H (.append 7 72 cm ai))])
 .ret)) .skip)))))))))
 (.seq (.ad 2 [.p (.H (.call 61 [bb,zw]))])
 (.seq (.ad 2 [.s .d0 .d2 iW])
 .ret))))))⟩
def kb {α:Type}:aF (Option α):=aF.all none
def kc {α:Type}:aF (aF (Option α)):=aF.all kb
def cE:T cd:=⟨⟨⟨⟨none,none,none,none,none,none,(some i6),(some i7)⟩,⟨(some i8),(some i9),(some i10),none,(some i12),(some i13),(some i14),(some i15)⟩,⟨(some i16),(some i17),none,(some i19),none,(some i21),none,(some i23)⟩,⟨(some i24),(some i25),(some i26),(some i27),none,(some i29),(some i30),none⟩,⟨(some i32),(some i33),none,none,none,(some i37),(some i38),(some i39)⟩,⟨(some i40),(some i41),(some i42),(some i43),(some i44),(some i45),(some i46),(some i47)⟩,⟨(some i48),(some i49),(some i50),(some i51),(some i52),(some i53),(some i54),(some i55)⟩,⟨(some i56),(some i57),(some i58),(some i59),(some i60),(some i61),(some i62),(some i63)⟩⟩,⟨⟨none,none,none,none,(some i68),(some i69),none,(some i71)⟩,⟨(some i72),(some i73),(some i74),(some i75),(some i76),none,(some i78),none⟩,⟨(some i80),(some i81),(some i82),(some i83),(some i84),(some i85),none,none⟩,⟨none,none,none,none,none,none,none,(some i95)⟩,⟨none,none,none,none,none,none,none,none⟩,⟨none,(some i105),(some i106),none,(some i108),none,(some i110),(some i111)⟩,⟨none,none,none,none,none,none,none,none⟩,⟨(some i120),(some i121),none,none,none,none,none,(some i127)⟩⟩,⟨⟨(some i128),(some i129),(some i130),none,none,none,none,none⟩,⟨none,none,none,none,(some i140),(some i141),(some i142),none⟩,⟨none,(some i145),none,none,none,(some i149),(some i150),(some i151)⟩,⟨(some i152),none,none,none,none,(some i157),(some i158),none⟩,⟨none,(some i161),(some i162),none,(some i164),(some i165),none,none⟩,kb,kb,kb⟩,⟨⟨none,none,none,none,none,none,none,none⟩,kb,kb,kb,kb,kb,kb,kb⟩,kc,kc,kc,kc⟩,none, .mt⟩
def j5:T pn:=⟨⟨kc,kc,kc,kc,kc,kc,kc,kc⟩,none, .mt⟩
end
end Go.Eng.YtmcjcbldmoijiaaGreatDoor
