/- Part of a proof of a law: rules of an evaluator, contracts, plain laws. No condition of its own. -/
import Derived.Test.YtmcjcbldmoijiaaGreatDoorEngB
set_option linter.unusedVariables false
set_option linter.unusedSimpArgs false
set_option maxRecDepth 100000
namespace Go.Eng.YtmcjcbldmoijiaaGreatDoor
open Go.Eng
noncomputable section
abbrev bd:A:= .t .d0 .d0
abbrev cY:A:= .t .d0 .d3
abbrev db:A:= .t .d0 .d2
abbrev cG:A:= .t .d0 .d1
abbrev c9:A:= .t .d0 .d5
abbrev ep:A:= .t .d0 .d4
abbrev dw:A:= .t .d0 .d7
abbrev de:A:= .t .d0 .d6
abbrev ew:A:= .t .d1 .d0
abbrev fq:A:= .t .d1 .d4
abbrev hl:A:= .t .d1 .d5
abbrev ho:A:= .t .d1 .d6
abbrev iO:A:= .t .d1 .d1
abbrev gE:A:= .t .d1 .d3
abbrev jx:A:= .t .d1 .d2
abbrev lq:A:= .t .d1 .d7
abbrev ko:A:= .t .d2 .d0
abbrev lr:A:= .t .d2 .d1
abbrev ni:A:= .t .d2 .d2
abbrev qs:A:= .t .d2 .d3
abbrev pn:A:= .t .d2 .d4
abbrev sI:A:= .t .d2 .d6
abbrev yz:A:= .t .d2 .d7
abbrev AY:A:= .t .d3 .d0
abbrev ai:A:= .l 0
abbrev br:A:= .l 1
abbrev cm:A:= .l 2
abbrev df:A:= .l 3
abbrev fP:A:= .l 4
abbrev hQ:A:= .l 5
abbrev j8:A:= .l 6
abbrev nQ:A:= .l 7
abbrev qt:A:= .l 8
abbrev yA:A:= .l 10
abbrev yB:A:= .l 9
abbrev iC:A:= .c (.int .i64 0)
abbrev fK:A:= .c (.int .i64 1)
abbrev kT:A:= .c (.bool false)
abbrev sJ:A:= .c (.U)
abbrev nj:A:= .c (.bool true)
abbrev lW:A:= .c (.int .i64 2)
abbrev Ha:A:= .c (.str 0 0)
abbrev Q0:A:= .c (.str 200 9938655150514779720929161263213647789093395803754561035662628441001274968862597953692946393464194303251501229616933063375291039650253924995779037586872666250072396106842829501851083234932712366962979930255066872747696324303968523733872590022915936937156789320557469720923390131174387415513794469201054844961267015441141542819553679203788501627738430154234325528792480477051962324423099068299719245009424585859096469223093538032153047611602695245052081125123941502624659711709950000)
abbrev tT:A:= .c (.int .i64 4)
abbrev sK:A:= .c (.int .i64 10)
abbrev vr:A:= .c (.int .i64 (-1))
abbrev Du:A:= .c (.int .i64 6)
abbrev wW:A:= .c (.int .u32 100)
abbrev yC:A:= .c (.int .i64 3)
abbrev Z9:A:= .c (.int .u32 2)
abbrev aac:A:= .c (.int .u32 1)
abbrev AZ:A:= .c (.int .i64 9)
abbrev A0:A:= .c (.int .i64 11)
abbrev A1:A:= .c (.kj)
abbrev A2:A:= .c (.int .i64 8)
abbrev Dv:A:= .c (.str 1 59)
abbrev Dw:A:= .c (.int .i64 7)
abbrev Dx:A:= .c (.int .u8 45)
abbrev Dy:A:= .c (.str 1 61)
abbrev Dz:A:= .c (.str 1 41)
abbrev DA:A:= .c (.str 36 237927390410950444456928663707796224754864904193074819559483181009558347043374296609072)
abbrev Hb:A:= .c (.int .u8 48)
abbrev Hc:A:= .c (.str 1 40)
abbrev Hd:A:= .c (.str 1 125)
abbrev He:A:= .c (.int .u32 10000)
abbrev aN:Op:= .L (.load ai)
abbrev cg:Op:= .L (.dm iC)
abbrev cQ:Op:= .L (.dm bd)
abbrev ed:Op:= .L (.dm sJ)
abbrev e0:Op:= .L (.len false ai)
abbrev fL:Op:= .L (.dm br)
abbrev gy:Op:= .L (.pY bd)
abbrev hq:Op:= .L (.dm kT)
abbrev hs:Op:= .L (.b3 1 ai)
abbrev hR:Op:= .L (.pY ai)
abbrev iD:Op:= .L (.b3 0 ai)
abbrev iP:Op:= .L (.bQ 1 br ai)
abbrev jf:Op:= .L (.len false bd)
abbrev jy:Op:= .L (.ext 0 ai)
abbrev jz:Op:= .L (.ext 1 br)
abbrev jA:Op:= .L (.dm ai)
abbrev jI:Op:= .L (.dm cG)
abbrev kp:Op:= .L (.dm c9)
abbrev kU:Op:= .L (.not ai)
abbrev kV:Op:= .L (.dm db)
abbrev lu:Op:= .L (.b3 3 ai)
abbrev lv:Op:= .L (.dm cY)
abbrev lx:Op:= .L (.dm dw)
abbrev mr:Op:= .L (.dm cm)
abbrev mu:Op:= .L (.dm ep)
abbrev mv:Op:= .L (.b3 0 cY)
abbrev nk:Op:= .L (.dm ew)
abbrev nR:Op:= .L (.bin .eql ai iC)
abbrev nS:Op:= .L (.bin .sub ai fK)
abbrev oJ:Op:= .L (.bin .add cY fK)
abbrev po:Op:= .L (.fA 1 1 [.str 0 0] [(0,1,ai)])
abbrev pq:Op:= .L (.dm Ha)
abbrev pr:Op:= .L (.lM Q0 ai)
abbrev qu:Op:= .L (.dm de)
abbrev qv:Op:= .L (.b3 4 db)
abbrev rD:Op:= .L (.b3 2 ai)
abbrev sL:Op:= .L (.alloc [.U, .U])
abbrev tU:Op:= .L (.dm nj)
abbrev tV:Op:= .L (.b3 0 db)
abbrev tX:Op:= .L (.len true bd)
abbrev tY:Op:= .L (.b3 3 db)
abbrev vt:Op:= .L (.pick df nj ai)
abbrev vu:Op:= .L (.dd 4 ai)
abbrev vv:Op:= .L (.alloc [.str 0 0, .U, .bool false, .str 0 0, .str 0 0, .U, .U, .int .i64 0])
abbrev vw:Op:= .L (.len false cG)
abbrev vx:Op:= .L (.bin .lss cY ai)
abbrev vy:Op:= .L (.bQ 3 fP ai)
abbrev wX:Op:= .L (.dd 5 ep)
abbrev wY:Op:= .L (.alloc [.U, .U, .U, .U, .int .i64 0, .int .i64 0])
abbrev wZ:Op:= .L (.bQ 4 br ai)
abbrev w2:Op:= .L (.dm lq)
abbrev w3:Op:= .L (.pick cm nj ai)
abbrev w4:Op:= .L (.dd 3 ai)
abbrev w5:Op:= .L (.conv .i64 ai)
abbrev yD:Op:= .L (.bin .neq ai iC)
abbrev yE:Op:= .L (.build [.U, .U, .U, .U, .int .i64 0, .int .i64 0] [])
abbrev yF:Op:= .L (.alloc [.str 0 0, .str 0 0, .int .i64 0, .int .i64 0])
abbrev yG:Op:= .L (.dd 8 ai)
abbrev yH:Op:= .L (.bin .add iO fK)
abbrev yI:Op:= .L (.alloc [.str 0 0, .U, .bool false, .str 0 0, .str 0 0, .U])
abbrev yJ:Op:= .L (.dm hl)
abbrev yK:Op:= .L (.pick cm ai kT)
abbrev yL:Op:= .L (.lM br ai)
abbrev yM:Op:= .L (.b3 2 db)
abbrev yN:Op:= .L (.fA 4 1 [.str 0 0, .int .i64 0, .int .i64 0, .str 0 0] [(0,4,ai)])
abbrev yO:Op:= .L (.dm ho)
abbrev yP:Op:= .L (.bin .mul ai Z9)
abbrev yQ:Op:= .L (.bin .add ai aac)
abbrev yR:Op:= .L (.bQ 1 yA qt)
abbrev yS:Op:= .L (.bQ 1 yB nQ)
abbrev A3:Op:= .L (.ext 2 cm)
abbrev A4:Op:= .L (.dm iO)
abbrev A5:Op:= .L (.b3 0 ep)
abbrev A6:Op:= .L (.b3 7 ai)
abbrev A7:Op:= .L (.dm fq)
abbrev A8:Op:= .L (.bin .add ep fK)
abbrev A9:Op:= .L (.bin .lss cY ep)
abbrev Ba:Op:= .L (.b3 3 cY)
abbrev Bb:Op:= .L (.bin .geq ai iC)
abbrev Bc:Op:= .L (.bQ 1 cm ai)
abbrev Bd:Op:= .L (.bin .add ai fK)
abbrev Be:Op:= .L (.dd 12 cY)
abbrev DB:Op:= .L (.alloc [.str 0 0, .int .i64 0, .U, .U, .U])
abbrev DC:Op:= .L (.pick fP ai kT)
abbrev DD:Op:= .L (.box 5 bd)
abbrev DE:Op:= .L (.pY de)
abbrev DF:Op:= .L (.build [.U, .U] [])
abbrev DG:Op:= .L (.b3 0 hl)
abbrev DH:Op:= .L (.b3 1 hl)
abbrev DI:Op:= .L (.b3 1 fq)
abbrev DJ:Op:= .L (.bin .lss c9 ai)
abbrev DK:Op:= .L (.dd 6 ew)
abbrev DL:Op:= .L (.bin .add c9 fK)
abbrev DM:Op:= .L (.bQ 3 br ai)
abbrev DN:Op:= .L (.b3 1 cY)
abbrev DP:Op:= .L (.pick hQ nj ai)
abbrev DQ:Op:= .L (.bin .lss ep ai)
abbrev DR:Op:= .L (.dm lW)
abbrev DT:Op:= .L (.bin .add dw fK)
abbrev DU:Op:= .L (.pick fP nj ai)
abbrev DV:Op:= .L (.b3 1 dw)
abbrev DW:Op:= .L (.bQ 1 bd cY)
abbrev DX:Op:= .L (.dm fK)
abbrev DY:Op:= .L (.dm qs)
abbrev DZ:Op:= .L (.alloc [.str 0 0, .str 0 0, .int .i64 0])
abbrev D0:Op:= .L (.b3 0 ko)
abbrev D1:Op:= .L (.dm jx)
abbrev D2:Op:= .L (.load ep)
abbrev D3:Op:= .L (.bin .add db fK)
abbrev D4:Op:= .L (.b3 1 c9)
abbrev D5:Op:= .L (.b3 8 cY)
abbrev D6:Op:= .L (.bin .sub fq fK)
abbrev D7:Op:= .L (.tl 65 1 ho fq)
abbrev Hf:Op:= .L (.pick df ai kT)
abbrev Hg:Op:= .L (.box 6 cG)
abbrev Hh:Op:= .L (.b3 3 ep)
abbrev Hi:Op:= .L (.b3 0 fq)
abbrev Hj:Op:= .L (.fA 4 1 [.str 0 0, .str 0 0, .int .i64 0, .int .i64 0] [(0,4,ai)])
abbrev Hk:Op:= .L (.bin .add ho fK)
abbrev Hl:Op:= .L (.b3 1 gE)
abbrev Hm:Op:= .L (.dd 6 ai)
abbrev Hn:Op:= .L (.b3 0 gE)
abbrev Ho:Op:= .L (.pick j8 nj ai)
abbrev Hp:Op:= .L (.b3 0 jx)
abbrev Hq:Op:= .L (.b3 1 db)
abbrev Hr:Op:= .L (.bin .lss iO jx)
abbrev Hs:Op:= .L (.fA 3 1 [.int .i64 0, .str 0 0, .int .i64 0] [(0,3,ai)])
abbrev Ht:Op:= .L (.b3 2 cY)
abbrev Hu:Op:= .L (.build [.str 0 0, .int .i64 0, .int .i64 0, .str 0 0] [(0,1,fP),(1,1,cm),(2,1,Du),(3,1,ai)])
abbrev Hv:Op:= .L (.alloc [.int .i64 0, .str 0 0, .int .i64 0])
abbrev Hw:Op:= .L (.b3 2 c9)
abbrev Hx:Op:= .L (.pick nQ ai kT)
abbrev Hy:Op:= .L (.conv .u8 ai)
abbrev Hz:Op:= .L (.conv .u64 db)
abbrev HA:Op:= .L (.fA 7 1 [.int .i64 0, .int .i64 0, .str 0 0, .str 0 0, .int .i64 0, .int .i64 0, .int .i64 0] [(0,7,ai)])
abbrev LH:Op:= .L (.bin .neq ep iC)
abbrev LI:Op:= .L (.pick hQ ai kT)
abbrev LJ:Op:= .L (.bin .gtr ai iC)
abbrev LK:Op:= .L (.bin .add ew fK)
abbrev LL:Op:= .L (.fA 6 1 [.str 0 0, .U, .bool false, .str 0 0, .str 0 0, .U] [(0,6,ai)])
abbrev LM:Op:= .L (.bin .lss iO ai)
abbrev LN:Op:= .L (.pick nQ nj ai)
abbrev LO:Op:= .L (.bin .lss de ai)
abbrev LP:Op:= .L (.bin .add de fK)
abbrev LQ:Op:= .L (.fu .neq cm ai)
abbrev LR:Op:= .L (.fu .neq ai Ha)
abbrev LS:Op:= .L (.pick (.l 12) ai kT)
abbrev LU:Op:= .L (.bin .add ni fK)
abbrev LV:Op:= .L (.bin .lss ai iC)
abbrev LW:Op:= .L (.bin .lss db ai)
abbrev LX:Op:= .L (.pick j8 ai kT)
abbrev LY:Op:= .L (.bQ 1 bd de)
abbrev LZ:Op:= .L (.o2 bd (some cG) (some ai))
abbrev L0:Op:= .L (.fA 3 1 [.str 0 0, .str 0 0, .int .i64 0] [(0,3,ai)])
abbrev L1:Op:= .L (.bQ 3 bd cY)
abbrev L2:Op:= .L (.bin .sub ai tT)
abbrev L3:Op:= .L (.bin .lss bd iC)
abbrev L4:Op:= .L (.bin .add fK dw)
abbrev L5:Op:= .L (.alloc [.int .i64 0, .int .i64 0, .str 0 0, .str 0 0, .str 0 0, .bool false, .str 0 0, .str 0 0, .U, .U, .U, .U])
abbrev L6:Op:= .L (.bin .sub ai lW)
abbrev L7:Op:= .L (.bin .and bd ai)
abbrev Q1:Op:= .L (.build [.str 0 0, .int .i64 0, .U, .U, .U] [])
abbrev Q2:Op:= .L (.build [.U, .int .i64 0, .int .i64 0, .int .i64 0, .int .i64 0] [(0,1,dw)])
abbrev Q3:Op:= .L (.build [.str 0 0, .U, .bool false, .str 0 0, .str 0 0, .U] [(0,1,yA),(2,1,qt),(3,1,j8),(4,1,fP),(5,1,ai)])
abbrev Q4:Op:= .L (.wc 24 1 ew (some fK) (some ai) none)
abbrev Q5:Op:= .L (.wc 65 1 ho (some fq) none none)
abbrev ad (n:Nat) (l:List dp) (b:C):C:= .seq (.aG n l) b
abbrev aR (f:Nat) (l:List A):Op:= .H (.call f l)
abbrev bE (n:Nat) (a x:A):Op:= .H (.store n a x)
abbrev ar (o:Op):eA:=⟨.p o,[]⟩
abbrev yT:Op→dp:= .s .d0 .d0
abbrev b5:Op→dp:= .s .d0 .d1
abbrev bB:Op→dp:= .s .d0 .d2
abbrev cd:Op→dp:= .s .d0 .d3
abbrev dJ:Op→dp:= .s .d0 .d4
abbrev dN:Op→dp:= .s .d0 .d5
abbrev eV:Op→dp:= .s .d0 .d6
abbrev dK:Op→dp:= .s .d0 .d7
abbrev fc:Op→dp:= .s .d1 .d0
abbrev gU:Op→dp:= .s .d1 .d1
abbrev jB:Op→dp:= .s .d1 .d2
abbrev jC:Op→dp:= .s .d1 .d3
abbrev hv:Op→dp:= .s .d1 .d4
abbrev jg:Op→dp:= .s .d1 .d5
abbrev kq:Op→dp:= .s .d1 .d6
abbrev kW:Op→dp:= .s .d1 .d7
abbrev oK:Op→dp:= .s .d2 .d0
abbrev ps:Op→dp:= .s .d2 .d1
abbrev rE:Op→dp:= .s .d2 .d2
abbrev w6:Op→dp:= .s .d2 .d3
abbrev w7:Op→dp:= .s .d2 .d4
abbrev HB:Op→dp:= .s .d2 .d5
abbrev D8:Op→dp:= .s .d2 .d6
abbrev D9:Op→dp:= .s .d2 .d7
abbrev Ea:Op→dp:= .s .d3 .d0
abbrev Q6:Op→dp:= .s .d3 .d1
abbrev Q7:Op→dp:= .s .d3 .d2
abbrev aad:Op→dp:= .s .d3 .d3
abbrev aae:Op→dp:= .s .d3 .d4
def i3:ct:=
 ⟨2,[0,1,4,6,24,5,8,10,9,11],[.tmp .d0 .d2],(ad 1 [bB hq]
 (ad 506 [.p (aR 7 [bd]),
 .p jy,
 .p jz,
 .p A3,
 dN DB,
 .p (bE 5 ai df),
 cd (.L (.dm df))]
 (.seq (ad 122 [.p (.L (.bin .neq cY iC)),
 .g ai false cQ,
 .g br false (.L (.len true ai)),
 .g cm false (.L (.bin .gtr ai (.c (.int .i64 1500)))),
 dJ vt]
 (.cond ep (ad 1 [bB (aR 8 [])]
 .ret) .skip))
 (.seq (.draw [0,1,7,2,3,4,5,6,8,9] [ar (.L (.dd 5 c9)),
 ar jI,
 ⟨eV sL,[]⟩,
 ⟨.p (aR 10 [br]),[2,0]⟩,
 ⟨.p (aR 9 [df,ai]),[1]⟩,
 ar jA,
 ar jy,
 ar jz,
 ar (bE 2 hQ br),
 ⟨fc fL,[]⟩])
 (.seq (.draw [0,1,7,2,3,4,5,6,8,9] [ar (.L (.dd 5 c9)),
 ar jI,
 ⟨dK sL,[]⟩,
 ⟨.p (aR 10 [br]),[2,0]⟩,
 ⟨.p (aR 11 [df,ai]),[1]⟩,
 ar jA,
 ar jy,
 ar jz,
 ar (bE 2 hQ br),
 ⟨gU fL,[]⟩])
 (ad 1783 [.p (.L (.dd 2 de)),
 .p (.L (.dd 2 dw)),
 .p (aR 12 [br,ai]),
 .g ai true nk,
 .g br true A4,
 .g cm true (aR 13 [br,ai]),
 .p Hf,
 .g ai true (aR 8 []),
 bB (.L (.pick br ai kT))]
 .ret))))))⟩
def i7:ct:=
 ⟨1,[0,2,3,4,6,17,7,5,8,30,9],[.cell .d0 .d1 (some 5), .tmp .d0 .d2, .tmp .d0 .d3],(ad 7 [b5 DB,
 bB cg,
 cd cg]
 (ad 506 [.p (aR 23 [bd]),
 .p jy,
 .p jz,
 .p A3,
 dK mr,
 dJ mr,
 eV mr]
 (.seq (ad 2 [dN LH]
 (.cond c9 (ad 57 [.p Q1,
 .p (bE 5 cG ai),
 bB mu,
 cd qu]
 .ret) .skip))
 (ad 6 [.p Q2,
 fc (.L (.box 5 ai))]
 (ad 14 [.p (aR 24 [ew]),
 jB DB,
 .p (bE 5 ai br)]
 (.seq (ad 30 [.p (.L (.pY ew)),
 .p lu,
 .p aN,
 gU yD]
 (.cond iO (.seq (.draw [0,1,2,3,4,5,6,7,8,9,10,11] [ar Q1,
 ar nk,
 ar hR,
 ar lu,
 ar aN,
 ar nk,
 ar hR,
 ar (.L (.b3 4 ai)),
 ar aN,
 ⟨.p (bE 5 cG qt),[4,0]⟩,
 ⟨bB (.L (.dm hQ)),[]⟩,
 ⟨cd mr,[]⟩])
 .ret) .skip))
 (ad 15 [.p (.L (.dd 5 jx)),
 .p (bE 5 cG ai),
 bB cg,
 cd cg]
 .ret)))))))⟩
def i8:ct:=
 ⟨0,[0,1,2,4,3],[.tmp .d0 .d0],(ad 1 [yT hq]
 (ad 503 [.p (.L (.build [.str 0 0, .int .i64 0, .U, .U, .U] [(0,1,(.c (.str 1 109)))])),
 .p yE,
 .p (aR 9 [br,ai]),
 .p jy,
 .p jz,
 b5 sL,
 .p (bE 2 ai cm),
 bB mr]
 (ad 503 [.p (.L (.dd 2 cG)),
 .p (aR 15 [ai]),
 .p (aR 14 [ai]),
 .p jy,
 .p jz,
 dJ sL,
 .p (bE 2 ai cm),
 cd mr]
 (ad 133152502 [.p (.L (.len false db)),
 .p nR,
 .g ai true lv,
 .g br true (aR 16 [ai]),
 .g cm true nR,
 .p Hf,
 .g ai true A5,
 .g br true aN,
 .g cm true e0,
 .g df true nR,
 .p DC,
 .g ai true (.L (.dd 2 cG)),
 .g br true (aR 15 [ai]),
 .g cm true e0,
 .g df true (.L (.bin .eql ai AZ)),
 .p DC,
 .g ai true (.L (.fA 1 1 [.str 0 0] [(0,1,(.c (.str 1 97)))])),
 .g br true (.L (.fA 1 1 [.str 0 0] [(0,1,(.c (.str 1 98)))])),
 .g cm true (.L (.fA 1 1 [.str 0 0] [(0,1,(.c (.str 1 97)))])),
 .g df true (aR 17 [br,ai]),
 .g fP true (aR 21 [df,ai]),
 yT LI]
 .ret))))⟩
def i9:ct:=
 ⟨2,[0,1,4,5,2,3,6,28,37,36,38,35,7,9,55,54,56,53,11],[.cell .d0 .d2 (some 2), .tmp .d0 .d3],(ad 15 [dJ DD,
 dN Hg,
 bB sL,
 cd ed]
 (ad 31 [.p A5,
 .p aN,
 .p (.L (.dd 6 c9)),
 .p (.L (.build [.str 0 0, .U, .U, .U, .U, .int .i64 0, .int .i64 0, .U] [(0,1,br),(1,6,ai)])),
 eV (.L (.box 8 ai))]
 (ad 6 [.p wX,
 .p (aR 25 [de,ai])]
 (ad 6 [.p wX,
 .p (aR 26 [de,ai])]
 (.seq (ad 62 [.p DE,
 .p A6,
 .p aN,
 .p e0,
 dK LJ]
 (.cond dw (.seq (.draw [0,1,2,3,4,5,6] [ar DF,
 ar qu,
 ar hR,
 ar A6,
 ar aN,
 ⟨.p (bE 2 db fP),[0]⟩,
 ⟨cd fL,[]⟩])
 .ret) .skip))
 (ad 1 [hv sL]
 (.seq (ad 15 [.p Hh,
 jC aN,
 gU e0,
 fc cg]
 (.block 0 (.loop (ad 1 [jB (.L (.bin .lss ew iO))]
 (.seq (.cond jx .skip (.exit 0))
 (.seq (.block 1 (ad 15 [.p (.L (.bQ 4 gE ew)),
 .p vu,
 jg yF,
 .p (bE 4 ai br)]
 (.aG 2047 [.p Hi,
 .p aN,
 .p DG,
 .p aN,
 .p DH,
 .p aN,
 .p (.L (.build [.str 0 0, .str 0 0, .int .i64 0, .int .i64 0] [(0,1,cm),(1,1,ai)])),
 .p Hj,
 .p (.H (.append 4 48 j8 ai)),
 .p Hi,
 .p (bE 1 ai br)])))
 (.aG 1 [fc LK])))))))
 (.seq (ad 15 [.p (.L (.b3 4 ep)),
 ps aN,
 kW e0,
 kq cg]
 (.block 2 (.loop (ad 1 [oK (.L (.bin .lss ho lq))]
 (.seq (.cond ko .skip (.exit 2))
 (.seq (.block 3 (ad 15 [.p (.L (.bQ 8 lr ho)),
 .p yG,
 rE vv,
 .p (bE 8 ai br)]
 (.draw [0,1,2,3,4,5,6,7] [ar DI,
 ar aN,
 ar (.L (.dd 8 ni)),
 ⟨.p (aR 27 [ai]),[1]⟩,
 ar LL,
 ar (.H (.append 6 104 df ai)),
 ar DI,
 ar (bE 1 ai br)])))
 (.aG 1 [kq Hk])))))))
 (ad 7 [.p Hi,
 .p aN,
 .p (aR 28 [ai,(.c (.fn 29 [] []))])]
 (ad 7 [.p DI,
 .p aN,
 .p (aR 31 [ai,(.c (.fn 32 [] []))])]
 (ad 7 [.p (.L (.dd 2 fq)),
 .p (bE 2 db ai),
 cd ed]
 .ret)))))))))))⟩
def i10:ct:=
 ⟨1,[0,2,4,18,3],[.cell .d0 .d1 (some 6)],(ad 1 [b5 wY]
 (ad 506 [.p (aR 33 [bd]),
 .p jy,
 .p jz,
 .p A3,
 dJ wY,
 .p (bE 6 ai df),
 bB (.L (.dm df))]
 (.seq (ad 122 [.p (.L (.bin .neq db iC)),
 .g ai false cQ,
 .g br false (.L (.len true ai)),
 .g cm false (.L (.bin .gtr ai (.c (.int .i64 500)))),
 cd vt]
 (.cond cY (.aG 61 [.p (aR 33 [(.c (.str 18 5175151693920292653173273800325353307267436))]),
 .p jy,
 .p jz,
 .p A3,
 .p (bE 6 ep cm)]) .skip))
 (ad 3 [.p (.L (.dd 6 ep)),
 .p (bE 6 cG ai)]
 .ret))))⟩
def i11:ct:=
 ⟨2,[0,1,4,5,2,7,17,6,3,8,41,9,10,53,74,95],[.cell .d0 .d2 (some 2), .tmp .d0 .d3],(ad 15 [dJ DD,
 fc Hg,
 bB sL,
 cd ed]
 (ad 3 [.p wX,
 dK (aR 34 [ai])]
 (.seq (ad 1 [dN cg]
 (.block 0 (.loop (.seq (ad 30 [.p Hh,
 .p aN,
 .p e0,
 eV DJ]
 (.cond de .skip (.exit 0)))
 (.seq (.block 1 (.draw [0,1,2,3,4,5,6,7,8,9,10,11,12,13,14,15,16,17] [ar lx,
 ar wX,
 ar DK,
 ar Hh,
 ar aN,
 ar kp,
 ar wZ,
 ar hs,
 ar aN,
 ar Hh,
 ar aN,
 ar kp,
 ar wZ,
 ar lu,
 ar aN,
 ar (aR 35 [(.l 13),(.l 12),j8,ai]),
 ar (.H (.append 4 48 (.l 15) ai)),
 ⟨dK jA,[]⟩]))
 (.aG 2 [dN DL]))))))
 (.seq (ad 1 [gU cg]
 (.block 2 (.loop (.seq (ad 30 [.p (.L (.b3 4 ep)),
 .p aN,
 .p e0,
 jB LM]
 (.cond jx .skip (.exit 2)))
 (.seq (.block 3 (ad 123 [.p (.L (.b3 4 ep)),
 .p aN,
 .p (.L (.bQ 8 ai iO)),
 .p yG,
 jC vv,
 .p (bE 8 ai br)]
 (.seq (ad 1 [hv cg]
 (.block 4 (.loop (.seq (ad 30 [.p Hl,
 .p aN,
 .p e0,
 jg (.L (.bin .lss fq ai))]
 (.cond hl .skip (.exit 4)))
 (.seq (.block 5 (.draw [0,1,2,3,4,5,6,7,8,9,10,11,12,13,14,15,16,17] [ar lx,
 ar wX,
 ar DK,
 ar Hl,
 ar aN,
 ar A7,
 ar DM,
 ar hs,
 ar aN,
 ar Hl,
 ar aN,
 ar A7,
 ar DM,
 ar rD,
 ar aN,
 ar (aR 35 [(.l 13),(.l 12),j8,ai]),
 ar (.H (.append 4 48 (.l 15) ai)),
 ⟨dK jA,[]⟩]))
 (.aG 2 [hv (.L (.bin .add fq fK))]))))))
 (.seq (ad 3 [.p (.L (.b3 2 gE)),
 kq aN]
 (.cond ho (.aG 510 [.p wX,
 .p DK,
 .p (.L (.b3 3 gE)),
 .p aN,
 .p (.L (.b3 7 gE)),
 .p aN,
 .p (aR 35 [hQ,fP,cm,ai]),
 dK (.H (.append 4 48 dw ai))]) .skip))
 (.aG 510 [.p wX,
 .p DK,
 .p (.L (.b3 4 gE)),
 .p aN,
 .p (.L (.b3 7 gE)),
 .p aN,
 .p (aR 35 [hQ,fP,cm,ai]),
 dK (.H (.append 4 48 dw ai))])))))
 (.aG 2 [gU yH]))))))
 (.seq (ad 6 [.p (.L (.len false dw)),
 kW LJ]
 (.cond lq (ad 13 [.p DF,
 .p (bE 2 db ai),
 cd lx]
 .ret) .skip))
 (ad 15 [.p wX,
 .p (aR 36 [ai]),
 .p (bE 2 db ai),
 cd ed]
 .ret))))))⟩
def i12:ct:=
 ⟨2,[0,1,4,2,3,24,5,29,42,6,47,7,8,101],[.tmp .d0 .d2],(ad 7 [cd (.L (.box 2 bd)),
 dJ (.L (.box 2 cG)),
 bB hq]
 (.seq (ad 65407 [.p mv,
 .p aN,
 .p e0,
 .p A5,
 .p aN,
 .p e0,
 .p (.L (.bin .neq df ai)),
 .g ai false DN,
 .g br false aN,
 .g cm false e0,
 .g df false (.L (.b3 1 ep)),
 .g fP false aN,
 .g hQ false e0,
 .g j8 false (.L (.bin .neq df ai)),
 dN LN]
 (.cond c9 (ad 1 [bB hq]
 .ret) .skip))
 (.seq (ad 1 [eV cg]
 (.block 0 (.loop (.seq (ad 30 [.p mv,
 .p aN,
 .p e0,
 dK LO]
 (.cond dw .skip (.exit 0)))
 (.seq (.block 1 (.seq (.draw [0,1,2,3,4,5,6,7,8,9,10] [ar mv,
 ar aN,
 ar qu,
 ar wZ,
 ar vu,
 ar A5,
 ar aN,
 ar qu,
 ar wZ,
 ar vu,
 ⟨fc (.L (.eq true (.st [(0, .str),(1, .str),(2, .int),(3, .int)]) hQ ai)),[]⟩])
 (.cond ew (ad 1 [bB hq]
 .ret) .skip)))
 (.aG 2 [eV LP]))))))
 (.seq (ad 1 [gU cg]
 (.block 2 (.loop (.seq (ad 30 [.p DN,
 .p aN,
 .p e0,
 jB LM]
 (.cond jx .skip (.exit 2)))
 (.seq (.block 3 (.seq (.draw [0,1,2,3,4,5,6,7,8,9,10,11,12,13] [ar DN,
 ar aN,
 ar A4,
 ar (.L (.bQ 6 br ai)),
 ar Hm,
 ar (.L (.b3 1 ep)),
 ar aN,
 ar A4,
 ar (.L (.bQ 6 br ai)),
 ar Hm,
 ⟨jC yI,[]⟩,
 ⟨hv yI,[]⟩,
 ⟨.p (bE 6 br nQ),[5,2]⟩,
 ar (bE 6 br df)])
 (ad 4380731367391 [.p Hn,
 .p aN,
 .p Hi,
 .p aN,
 .p LQ,
 .g ai false Hl,
 .g br false aN,
 .g cm false DI,
 .g df false aN,
 .g fP false (aR 19 [cm,ai]),
 .g hQ false kU,
 .p Ho,
 .g ai false (.L (.b3 2 gE)),
 .g br false aN,
 .g cm false (.L (.b3 2 fq)),
 .g df false aN,
 .g fP false (.L (.eq true .bool cm ai)),
 .p DP,
 .g ai false (.L (.b3 3 gE)),
 .g br false aN,
 .g cm false (.L (.b3 3 fq)),
 .g df false aN,
 .g fP false LQ,
 .p DP,
 .g ai false (.L (.b3 4 gE)),
 .g br false aN,
 .g cm false (.L (.b3 4 fq)),
 .g df false aN,
 .g fP false LQ,
 .p DP,
 .g ai false (.L (.b3 5 gE)),
 .g br false aN,
 .g cm false (.L (.b3 5 fq)),
 .g df false aN,
 .g fP false (aR 19 [cm,ai]),
 .g hQ false kU,
 jg Ho]
 (.cond hl (ad 1 [bB hq]
 .ret) .skip))))
 (.aG 2 [gU yH]))))))
 (ad 1 [bB tU]
 .ret)))))⟩
def i13:ct:=
 ⟨2,[0,1,4,10,5,14,25],[.tmp .d0 .d2],(ad 1 [bB hq]
 (.seq (ad 26 [.p jf,
 .p vw,
 cd (.L (.bin .neq br ai))]
 (.cond cY (ad 1 [bB hq]
 .ret) .skip))
 (.seq (ad 1 [dJ cg]
 (.block 0 (.loop (.seq (ad 12 [.p jf,
 dN DQ]
 (.cond c9 .skip (.exit 0)))
 (.seq (.block 1 (.seq (.draw [0,1,2,3,4,5,6,7,8] [ar cQ,
 ar mu,
 ar wZ,
 ar vu,
 ar jI,
 ar mu,
 ar wZ,
 ar vu,
 ⟨eV (.L (.eq true (.st [(0, .str),(1, .int),(2, .int),(3, .str)]) fP ai)),[]⟩])
 (.cond de (ad 1 [bB hq]
 .ret) .skip)))
 (.aG 2 [dJ A8]))))))
 (ad 1 [bB tU]
 .ret))))⟩
def i14:ct:=
 ⟨1,[0,2,3,5,18,4,6,25,24,26,7,8,62,11,10,9,138],[.cell .d0 .d1 (some 2), .tmp .d0 .d2],(ad 3 [b5 sL,
 bB cg]
 (ad 122 [.p (aR 37 [bd]),
 .p jy,
 .p jz,
 dN fL,
 cd fL]
 (.seq (ad 2 [dJ (.L (.bin .neq cY iC))]
 (.cond ep (ad 7 [.p DF,
 .p (bE 2 cG ai),
 bB DR]
 .ret) .skip))
 (ad 6 [.p (.L (.build [.U, .bool false] [(0,1,c9)])),
 eV (.L (.box 2 ai))]
 (ad 1 [jB sL]
 (ad 3 [jC ed,
 kW ed]
 (.seq (ad 6 [fc (aR 38 [de]),
 dK cg]
 (.block 0 (.loop (ad 1 [gU (.L (.bin .lss dw ew))]
 (.seq (.cond iO .skip (.exit 0))
 (.seq (.block 1 (.seq (.draw [0,1,2,4,3,5,6,7,8,9,10] [ar Hp,
 ar aN,
 ar qu,
 ar qu,
 ⟨.p (aR 39 [br]),[2]⟩,
 ⟨.p (aR 39 [br]),[3]⟩,
 ar (.L (.build [.str 0 0, .str 0 0, .int .i64 0, .int .i64 0] [(0,1,br),(1,1,ai)])),
 ar Hj,
 ar (.H (.append 4 48 j8 ai)),
 ar Hp,
 ar (bE 1 ai br)])
 (.aG 4094 [.p Hp,
 .p aN,
 .p Hp,
 .p aN,
 .p e0,
 .p nS,
 .p (.L (.bQ 4 fP ai)),
 .p iD,
 .p aN,
 .p po,
 jC (.H (.append 1 16 gE ai))])))
 (.aG 1 [dK DT])))))))
 (.seq (.block 2 (.loop (.seq (ad 8126 [.p DE,
 .p iD,
 .p aN,
 .p e0,
 .p LJ,
 .g ai true qu,
 .g br true hR,
 .g cm true hs,
 .g df true aN,
 .g fP true kU,
 hv LI]
 (.cond fq .skip (.exit 2)))
 (.block 3 (ad 30 [.p (aR 39 [de]),
 .p (.L (.build [.str 0 0, .U, .bool false, .str 0 0, .str 0 0, .U] [(0,1,ai)])),
 kq yI,
 .p (bE 6 ai br)]
 (ad 2 [jg (aR 39 [de])]
 (ad 4074 [.p (.L (.fu .eql hl (.c (.str 1 49)))),
 .p (aR 39 [de]),
 .p (aR 39 [de]),
 .p (.L (.b3 2 ho)),
 .p (bE 1 ai df),
 .p (.L (.b3 3 ho)),
 .p (bE 1 ai fP),
 .p (.L (.b3 4 ho)),
 .p (bE 1 ai hQ)]
 (ad 250 [.p (aR 40 [de]),
 .p (aR 40 [de]),
 .p (.L (.b3 1 ho)),
 .p (bE 1 ai cm),
 .p (.L (.b3 5 ho)),
 .p (bE 1 ai df)]
 (ad 4286570460 [.p DE,
 .p hs,
 .p aN,
 .g ai false yJ,
 .g br false (.L (.fu .neq ai (.c (.str 1 48)))),
 .g cm false jA,
 .g ai true yJ,
 .g br true (.L (.fu .neq ai (.c (.str 1 49)))),
 .g hQ false yK,
 .p Ho,
 .g ai false (.L (.b3 2 ho)),
 .g br false aN,
 .g cm false kU,
 .g df false jA,
 .g ai true (.L (.b3 3 ho)),
 .g br true aN,
 .g cm true LR,
 .g nQ false Hf,
 .p (.L (.pick qt nj ai)),
 .g ai false (.L (.b3 5 ho)),
 .g br false aN,
 .g cm false (aR 41 [ai]),
 .g df false kU,
 .p DU,
 .p DE,
 .p hs,
 .p (bE 1 ai cm)]
 (ad 127 [.p (.L (.b3 1 jx)),
 .p aN,
 .p (.L (.dd 6 ho)),
 .p LL,
 .p (.H (.append 6 104 cm ai)),
 .p (.L (.b3 1 jx)),
 .p (bE 1 ai br)]
 (.aG 30 [.p (.L (.b3 0 ho)),
 .p aN,
 .p po,
 kW (.H (.append 1 16 lq ai))])))))))))))
 (.seq (ad 15854 [.p DE,
 .p hs,
 .p aN,
 .g ai false (.L (.dm gE)),
 .g br false (aR 41 [ai]),
 .g cm false kU,
 .p vt,
 .g ai false w2,
 .g br false (aR 41 [ai]),
 .g cm false kU,
 oK vt]
 (.cond ko (ad 7 [.p DF,
 .p (bE 2 cG ai),
 bB DR]
 .ret) .skip))
 (ad 7 [.p (.L (.dd 2 jx)),
 .p (bE 2 cG ai),
 bB cg]
 .ret))))))))))⟩
def i15:ct:=
 ⟨1,[0,2,1,17,16,18,15,5,3,32,31,33,30,7,37,8],[.tmp .d0 .d1],(ad 3 [bB (.L (.box 2 bd)),
 b5 ed]
 (ad 31 [.p tV,
 .p aN,
 .p e0,
 .p (aR 42 [ai]),
 fc po]
 (.seq (ad 15 [.p tV,
 eV aN,
 dJ e0,
 cd cg]
 (.block 0 (.loop (ad 1 [dN A9]
 (.seq (.cond c9 .skip (.exit 0))
 (.seq (.block 1 (ad 15 [.p (.L (.bQ 4 de cY)),
 .p vu,
 dK yF,
 .p (bE 4 ai br)]
 (.aG 126 [.p (.L (.b3 0 dw)),
 .p aN,
 .p DV,
 .p aN,
 .p (.L (.fA 1 2 [.str 0 0] [(0,1,cm),(1,1,ai)])),
 fc (.H (.append 1 16 ew ai))])))
 (.aG 1 [cd oJ])))))))
 (.seq (ad 15 [.p Hq,
 hv aN,
 jB e0,
 gU cg]
 (.block 2 (.loop (ad 1 [jC Hr]
 (.seq (.cond gE .skip (.exit 2))
 (.seq (.block 3 (ad 15 [.p (.L (.bQ 6 fq iO)),
 .p Hm,
 jg yI,
 .p (bE 6 ai br)]
 (ad 1 [kW (.L (.dm (.c (.str 1 48))))]
 (.seq (ad 3 [.p (.L (.b3 2 hl)),
 kq aN]
 (.cond ho (.aG 1 [kW (.L (.dm (.c (.str 1 49))))]) .skip))
 (.seq (.draw [0,1,2,3,4,5,6,7,8,9,10,11,12,13,14] [ar nk,
 ar DG,
 ar aN,
 ar w2,
 ar (.L (.b3 3 hl)),
 ar aN,
 ar (.L (.b3 4 hl)),
 ar aN,
 ar DH,
 ar aN,
 ar e0,
 ⟨.p (aR 42 [ai]),[8,5,3]⟩,
 ar (.L (.fA 1 5 [.str 0 0] [(0,1,yB),(1,1,qt),(2,1,j8),(3,1,fP),(4,1,ai)])),
 ar (.H (.append 1 16 (.l 12) ai)),
 ⟨fc jA,[]⟩])
 (ad 14 [.p DH,
 .p aN,
 fc (.H (.append 1 16 ew ai))]
 (.draw [0,1,2,3,7,8,4,5,6,9,10] [ar nk,
 ar (.L (.b3 5 hl)),
 ar aN,
 ar e0,
 ar (.L (.b3 5 hl)),
 ar aN,
 ⟨.p (aR 42 [cm]),[0]⟩,
 ar po,
 ⟨.p (.H (.append 1 16 nQ ai)),[2]⟩,
 ar (.H (.append 1 16 ai df)),
 ⟨fc jA,[]⟩])))))))
 (.aG 1 [gU yH])))))))
 (ad 2 [b5 (aR 43 [ew])]
 .ret)))))⟩
def i16:ct:=
 ⟨1,[0,2],[.tmp .d0 .d1],(ad 1 [b5 cg]
 (ad 2 [b5 cQ]
 .ret))⟩
def i17:ct:=
 ⟨2,[0,1,4],[.tmp .d0 .d2],(ad 1 [bB ed]
 (ad 28 [.p (.L (.fA 1 2 [.U] [(0,1,bd),(1,1,cG)])),
 .p (aR 45 [ai]),
 bB (aR 44 [ai])]
 .ret))⟩
def i19:ct:=
 ⟨2,[0,1,4,10,5,14,25],[.tmp .d0 .d2],(ad 1 [bB hq]
 (.seq (ad 26 [.p jf,
 .p vw,
 cd (.L (.bin .neq br ai))]
 (.cond cY (ad 1 [bB hq]
 .ret) .skip))
 (.seq (ad 1 [dJ cg]
 (.block 0 (.loop (.seq (ad 12 [.p jf,
 dN DQ]
 (.cond c9 .skip (.exit 0)))
 (.seq (.block 1 (.seq (.draw [0,1,2,3,4,5,6,7,8] [ar cQ,
 ar mu,
 ar iP,
 ar aN,
 ar jI,
 ar mu,
 ar iP,
 ar aN,
 ⟨eV (.L (.fu .neq fP ai)),[]⟩])
 (.cond de (ad 1 [bB hq]
 .ret) .skip)))
 (.aG 2 [dJ A8]))))))
 (ad 1 [bB tU]
 .ret))))⟩
def i20:ct:=
 ⟨2,[0,1,4,6,11,5,7,23],[.tmp .d0 .d2],(ad 1 [bB ed]
 (ad 1 [dN ed]
 (.seq (ad 1 [cd cg]
 (.block 0 (.loop (.seq (ad 12 [.p jf,
 dJ vx]
 (.cond ep .skip (.exit 0)))
 (.seq (.block 1 (.aG 56 [.p DW,
 .p aN,
 dN (aR 47 [c9,ai])]))
 (.aG 2 [cd oJ]))))))
 (.seq (ad 1 [eV cg]
 (.block 2 (.loop (.seq (ad 12 [.p vw,
 dK LO]
 (.cond dw .skip (.exit 2)))
 (.seq (.block 3 (.aG 56 [.p (.L (.bQ 1 cG de)),
 .p aN,
 dN (aR 47 [c9,ai])]))
 (.aG 2 [eV LP]))))))
 (ad 2 [bB kp]
 .ret)))))⟩
def i21:ct:=
 ⟨2,[0,1,4,3],[.tmp .d0 .d2],(ad 3 [cd (.L (.box 1 cG)),
 bB hq]
 (ad 14 [.p (.L (.fn 49 [] [cY])),
 .p (aR 48 [bd,ai]),
 bB kU]
 .ret))⟩
def i23:ct:=
 ⟨1,[0,2,3,4,14,6,18,7,38,55,67,70,8,95,102,106,9,5,119,10,132,138,165,11,26],[.tmp .d0 .d1, .tmp .d0 .d2, .tmp .d0 .d3],(ad 7 [b5 ed,
 bB cg,
 cd cg]
 (.seq (ad 6 [.p tX,
 dJ (.L (.bin .gtr ai (.c (.int .i64 8192))))]
 (.cond ep (ad 7 [b5 ed,
 bB (.L (.dm AZ)),
 cd (.L (.dm (.c (.int .i64 8192))))]
 .ret) .skip))
 (ad 1 [ps ed]
 (.seq (ad 1 [dN cg]
 (.block 0 (.loop (.seq (ad 12 [.p tX,
 eV DJ]
 (.cond de .skip (.exit 0)))
 (.block 1 (ad 4 [dK (.L (.lM bd c9))]
 (.block 2 (ad 15290 [.p (.L (.bin .eql dw (.c (.int .u8 32)))),
 .g ai false lx,
 .g br false (.L (.bin .eql ai (.c (.int .u8 9)))),
 .p w3,
 .g ai false lx,
 .g br false (.L (.bin .eql ai (.c (.int .u8 10)))),
 .p w3,
 .g ai false lx,
 .g br false (.L (.bin .eql ai (.c (.int .u8 13)))),
 fc w3]
 (.cond ew (.aG 2 [dN DL]) (ad 2 [gU (.L (.bin .eql dw (.c (.int .u8 35))))]
 (.cond iO (.block 3 (.loop (.seq (ad 1004 [.p tX,
 .p DJ,
 .g ai true cQ,
 .g br true kp,
 .g cm true yL,
 .g df true (.L (.bin .neq ai (.c (.int .u8 10)))),
 jB DC]
 (.cond jx .skip (.exit 3)))
 (.block 4 (.aG 2 [dN DL]))))) (ad 2 [jC (aR 51 [dw])]
 (.cond gE (ad 2 [hv kp]
 (.seq (.block 5 (.loop (.seq (ad 4194284 [.p tX,
 .p (.L (.bin .lss fq ai)),
 .g ai true cQ,
 .g br true A7,
 .g cm true yL,
 .g df true (aR 51 [ai]),
 .g fP true jA,
 .g ai false cQ,
 .g br false A7,
 .g cm false yL,
 .g df false (aR 52 [ai]),
 .g yB true DU,
 .g yA true jA,
 .g ai false cQ,
 .g br false A7,
 .g cm false yL,
 .g df false (.L (.bin .eql ai (.c (.int .u8 95)))),
 .g (.l 15) true DU,
 jg (.L (.pick (.l 16) ai kT))]
 (.cond hl .skip (.exit 5)))
 (.block 6 (.aG 2 [hv (.L (.bin .add fq fK))])))))
 (ad 1 [oK DX]
 (.seq (ad 24 [.p (.L (.o2 bd (some c9) (some fq))),
 kq (aR 53 [ai])]
 (.cond ho (.aG 1 [oK (.L (.dm yC))]) .skip))
 (.seq (ad 12 [.p (.L (.bin .sub fq c9)),
 kW (.L (.bin .gtr ai (.c (.int .i64 20))))]
 (.cond lq (ad 14 [b5 ed,
 bB (.L (.dm AZ)),
 cd kp]
 .ret) .skip))
 (ad 928 [.p (.L (.o2 bd (some c9) (some fq))),
 .p (.L (.build [.int .i64 0, .str 0 0, .int .i64 0] [(0,1,ko),(1,1,ai),(2,1,c9)])),
 .p Hs,
 ps (.H (.append 3 32 lr ai))]
 (.aG 2 [dN A7]))))))) (ad 2 [rE (aR 52 [dw])]
 (.cond ni (ad 2 [w6 kp]
 (.seq (.block 7 (.loop (.seq (ad 1004 [.p tX,
 .p (.L (.bin .lss qs ai)),
 .g ai true cQ,
 .g br true DY,
 .g cm true yL,
 .g df true (aR 52 [ai]),
 w7 DC]
 (.cond pn .skip (.exit 7)))
 (.block 8 (.aG 2 [w6 (.L (.bin .add qs fK))])))))
 (.seq (ad 12 [.p (.L (.bin .sub qs c9)),
 HB (.L (.bin .gtr ai AZ))]
 (.cond (.t .d2 .d5) (ad 14 [b5 ed,
 bB (.L (.dm AZ)),
 cd kp]
 .ret) .skip))
 (.seq (ad 67108588 [.p (.L (.bin .sub qs c9)),
 .p (.L (.bin .gtr ai fK)),
 .g ai true lx,
 .g br true (.L (.bin .eql ai Hb)),
 .p yK,
 .g ai false DY,
 .g br false cQ,
 .g cm false (.L (.len true ai)),
 .g df false (.L (.bin .lss cm ai)),
 .g fP false jA,
 .g ai true cQ,
 .g br true DY,
 .g cm true yL,
 .g df true (aR 51 [ai]),
 .g fP true jA,
 .g ai false cQ,
 .g br false DY,
 .g cm false yL,
 .g df false (.L (.bin .eql ai (.c (.int .u8 95)))),
 .g yB true DU,
 .g (.l 15) false (.L (.pick yA ai kT)),
 D8 (.L (.pick (.l 16) nj ai))]
 (.cond sI (ad 14 [b5 ed,
 bB (.L (.dm sK)),
 cd kp]
 .ret) .skip))
 (ad 464 [.p (.L (.o2 bd (some c9) (some qs))),
 .p (.L (.build [.int .i64 0, .str 0 0, .int .i64 0] [(0,1,lW),(1,1,ai),(2,1,c9)])),
 .p Hs,
 ps (.H (.append 3 32 lr ai))]
 (.aG 2 [dN DY])))))) (ad 4 [D9 (aR 54 [bd,c9])]
 (.seq (ad 2 [Ea (.L (.fu .eql yz Ha))]
 (.cond AY (ad 14 [b5 ed,
 bB (.L (.dm sK)),
 cd kp]
 .ret) .skip))
 (ad 56 [.p (.L (.build [.int .i64 0, .str 0 0, .int .i64 0] [(0,1,tT),(1,1,yz),(2,1,c9)])),
 .p Hs,
 ps (.H (.append 3 32 lr ai))]
 (.aG 12 [.p (.L (.len true yz)),
 dN (.L (.bin .add c9 ai))])))))))))))))))))))
 (ad 444 [.p tX,
 .p (.L (.build [.int .i64 0, .str 0 0, .int .i64 0] [(2,1,ai)])),
 .p Hs,
 b5 (.H (.append 3 32 lr ai)),
 bB cg,
 cd cg]
 .ret)))))⟩
def i24:ct:=
 ⟨1,[0,2,14,3,45,47,56],[.cell .d0 .d1 (some 5)],(ad 1 [b5 DB]
 (ad 2 [.p (aR 55 [bd,(.c (.str 6 111516500389741))])]
 (ad 122 [.p (aR 56 [bd]),
 .p (aR 57 [bd]),
 .p (.L (.build [.str 0 0, .int .i64 0, .U, .U, .U] [(1,1,br),(0,1,ai)])),
 cd DB,
 .p (bE 5 ai br)]
 (ad 2 [.p (aR 55 [bd,Dv])]
 (.seq (.block 0 (.loop (.seq (ad 2 [bB (aR 58 [bd,(.c (.str 6 128034844732777))])]
 (.cond db .skip (.exit 0)))
 (.block 1 (.seq (.draw [0,1,2,4,3,5,6,7,8,9,10] [ar Ht,
 ar aN,
 ar cQ,
 ar cQ,
 ⟨.p (aR 56 [br]),[2]⟩,
 ⟨.p (aR 57 [br]),[3]⟩,
 ar (.L (.build [.str 0 0, .int .i64 0] [(1,1,br),(0,1,ai)])),
 ar (.L (.fA 2 1 [.str 0 0, .int .i64 0] [(0,2,ai)])),
 ar (.H (.append 2 24 j8 ai)),
 ar Ht,
 ar (bE 1 ai br)])
 (.aG 2 [.p (aR 55 [bd,Dv])]))))))
 (.seq (.block 2 (.loop (.seq (.seq (.draw [0,1,2,3,4,5,6,7,8,9,10,11,12,13,14,15,16,17,18] [ar cQ,
 ar hR,
 ar lu,
 ar aN,
 ar nR,
 ar jA,
 ⟨.g ai true cQ,[]⟩,
 ⟨.g br true hR,[]⟩,
 ⟨.g cm true iD,[]⟩,
 ⟨.g df true aN,[]⟩,
 ⟨.g fP true cQ,[]⟩,
 ⟨.g hQ true hR,[]⟩,
 ⟨.g j8 true hs,[]⟩,
 ⟨.g nQ true aN,[]⟩,
 ⟨.g qt true vy,[]⟩,
 ⟨.g yB true iD,[]⟩,
 ⟨.g yA true aN,[]⟩,
 ⟨.g (.l 11) true yD,[]⟩,
 ⟨dJ LS,[]⟩])
 (.cond ep .skip (.exit 2)))
 (.block 3 (ad 2 [dN (aR 58 [bd,(.c (.str 3 7496054))])]
 (.cond c9 (.draw [0,1,2,3,4,5,6,7] [ar Ba,
 ar aN,
 ar cQ,
 ⟨.p (aR 59 [ai]),[1]⟩,
 ar Hj,
 ar (.H (.append 4 48 df ai)),
 ar Ba,
 ar (bE 1 ai br)]) (ad 2 [eV (aR 58 [bd,(.c (.str 4 1668248176))])]
 (.cond de (.draw [0,1,2,3,4,5,6,7] [ar (.L (.b3 4 cY)),
 ar aN,
 ar cQ,
 ⟨.p (aR 60 [ai]),[1]⟩,
 ar (.L (.fA 8 1 [.str 0 0, .U, .bool false, .str 0 0, .str 0 0, .U, .U, .int .i64 0] [(0,8,ai)])),
 ar (.H (.append 8 136 df ai)),
 ar (.L (.b3 4 cY)),
 ar (bE 1 ai br)]) (.aG 2 [.p (aR 61 [bd,A0])])))))))))
 (ad 3 [.p (.L (.dd 5 cY)),
 .p (bE 5 cG ai)]
 .ret)))))))⟩
def i25:ct:=
 ⟨2,[0,1,3,21,20,22,19,6,4,36,35,37,34,8,51,50,52,49,10,66,65,67,64,12,73,72,74,71,14],[],(ad 1 [bB (.L (.box 5 cG))]
 (ad 7 [.p tV,
 .p aN,
 fc po]
 (.seq (ad 15 [.p yM,
 eV aN,
 dJ e0,
 cd cg]
 (.block 0 (.loop (ad 1 [dN A9]
 (.seq (.cond c9 .skip (.exit 0))
 (.seq (.block 1 (ad 15 [.p (.L (.bQ 2 de cY)),
 .p (.L (.dd 2 ai)),
 dK (.L (.alloc [.str 0 0, .int .i64 0])),
 .p (bE 2 ai br)]
 (.aG 124 [.p (.L (.b3 0 dw)),
 .p aN,
 .p DV,
 .p aN,
 fc (aR 62 [bd,ew,cm,ai])])))
 (.aG 1 [cd oJ])))))))
 (ad 1 [fc ed]
 (.seq (ad 15 [.p tY,
 hv aN,
 jB e0,
 gU cg]
 (.block 2 (.loop (ad 1 [jC Hr]
 (.seq (.cond gE .skip (.exit 2))
 (.seq (.block 3 (ad 15 [.p (.L (.bQ 4 fq iO)),
 .p vu,
 jg yF,
 .p (bE 4 ai br)]
 (.aG 124 [.p DG,
 .p aN,
 .p (.L (.b3 3 hl)),
 .p aN,
 fc (aR 62 [bd,ew,cm,ai])])))
 (.aG 1 [gU yH])))))))
 (.seq (ad 15 [.p qv,
 ps aN,
 kW e0,
 kq cg]
 (.block 4 (.loop (ad 1 [oK (.L (.bin .lss ho lq))]
 (.seq (.cond ko .skip (.exit 4))
 (.seq (.block 5 (ad 15 [.p (.L (.bQ 8 lr ho)),
 .p yG,
 rE vv,
 .p (bE 8 ai br)]
 (.aG 124 [.p (.L (.b3 0 ni)),
 .p aN,
 .p (.L (.b3 7 ni)),
 .p aN,
 fc (aR 62 [bd,ew,cm,ai])])))
 (.aG 1 [kq Hk])))))))
 (ad 15 [.p qv,
 D8 aN,
 w7 e0,
 w6 cg]
 (.block 6 (.loop (ad 1 [HB (.L (.bin .lss qs pn))]
 (.seq (.cond (.t .d2 .d5) .skip (.exit 6))
 (.seq (.block 7 (ad 15 [.p (.L (.bQ 8 sI qs)),
 .p yG,
 D9 vv,
 .p (bE 8 ai br)]
 (ad 1 [fc ed]
 (ad 15 [.p (.L (.b3 1 yz)),
 aad aN,
 Q6 e0,
 Ea cg]
 (.block 8 (.loop (ad 1 [Q7 (.L (.bin .lss AY (.t .d3 .d1)))]
 (.seq (.cond (.t .d3 .d2) .skip (.exit 8))
 (.seq (.block 9 (ad 15 [.p (.L (.bQ 3 (.t .d3 .d3) AY)),
 .p w4,
 aae DZ,
 .p (bE 3 ai br)]
 (.aG 124 [.p (.L (.b3 0 (.t .d3 .d4))),
 .p aN,
 .p (.L (.b3 2 (.t .d3 .d4))),
 .p aN,
 fc (aR 62 [bd,ew,cm,ai])])))
 (.aG 1 [Ea (.L (.bin .add AY fK))]))))))))))
 (.aG 1 [w6 (.L (.bin .add qs fK))])))))))))))))⟩
def i26:ct:=
 ⟨2,[0,1,3,13,12,14,11,5,27,26,28,25,7,34,33,35,32,9,46],[],(ad 1 [bB (.L (.box 5 cG))]
 (.seq (ad 15 [.p tY,
 eV aN,
 dJ e0,
 cd cg]
 (.block 0 (.loop (ad 1 [dN A9]
 (.seq (.cond c9 .skip (.exit 0))
 (.seq (.block 1 (ad 15 [.p (.L (.bQ 4 de cY)),
 .p vu,
 dK yF,
 .p (bE 4 ai br)]
 (.aG 62 [.p DV,
 .p aN,
 .p (.L (.b3 3 dw)),
 .p aN,
 .p (aR 63 [bd,cm,ai])])))
 (.aG 1 [cd oJ])))))))
 (ad 15 [.p qv,
 jC aN,
 gU e0,
 fc cg]
 (.block 2 (.loop (ad 1 [jB (.L (.bin .lss ew iO))]
 (.seq (.cond jx .skip (.exit 2))
 (.seq (.block 3 (ad 15 [.p (.L (.bQ 8 gE ew)),
 .p yG,
 hv vv,
 .p (bE 8 ai br)]
 (.seq (ad 15 [.p DI,
 oK aN,
 kq e0,
 jg cg]
 (.block 4 (.loop (ad 1 [kW (.L (.bin .lss hl ho))]
 (.seq (.cond lq .skip (.exit 4))
 (.seq (.block 5 (ad 15 [.p (.L (.bQ 3 ko hl)),
 .p w4,
 ps DZ,
 .p (bE 3 ai br)]
 (.aG 62 [.p (.L (.b3 1 lr)),
 .p aN,
 .p (.L (.b3 2 lr)),
 .p aN,
 .p (aR 63 [bd,cm,ai])])))
 (.aG 1 [jg (.L (.bin .add hl fK))])))))))
 (.seq (ad 3 [.p (.L (.b3 2 fq)),
 rE aN]
 (.cond ni (.aG 62 [.p (.L (.b3 3 fq)),
 .p aN,
 .p (.L (.b3 7 fq)),
 .p aN,
 .p (aR 63 [bd,cm,ai])]) .skip))
 (.aG 62 [.p (.L (.b3 4 fq)),
 .p aN,
 .p (.L (.b3 7 fq)),
 .p aN,
 .p (aR 63 [bd,cm,ai])])))))
 (.aG 1 [fc LK])))))))))⟩
def i27:ct:=
 ⟨1,[0,2,1,21,20,22,19,3,5],[.cell .d0 .d1 (some 6)],(ad 3 [bB (.L (.box 8 bd)),
 b5 yI]
 (.seq (.draw [0,1,2,3,4,5,6,7,8,9,12,10,11,13] [ar tV,
 ar aN,
 ar yM,
 ar aN,
 ar tY,
 ar aN,
 ar qv,
 ar aN,
 ar (.L (.b3 5 db)),
 ar aN,
 ⟨dK yI,[]⟩,
 ⟨.p (aR 44 [br]),[9,7,5,3,0]⟩,
 ar Q3,
 ar (bE 6 cm ai)])
 (.seq (ad 15 [.p Hq,
 eV aN,
 dJ e0,
 cd cg]
 (.block 0 (.loop (ad 1 [dN A9]
 (.seq (.cond c9 .skip (.exit 0))
 (.seq (.block 1 (ad 15 [.p (.L (.bQ 3 de cY)),
 .p w4,
 fc DZ,
 .p (bE 3 ai br)]
 (.aG 255 [.p DV,
 .p aN,
 .p (.L (.b3 1 ew)),
 .p aN,
 .p po,
 .p (.H (.append 1 16 df ai)),
 .p DV,
 .p (bE 1 ai br)])))
 (.aG 1 [cd oJ])))))))
 (ad 3 [.p (.L (.dd 6 dw)),
 .p (bE 6 cG ai)]
 .ret))))⟩
def i29:ct:=
 ⟨2,[0,1,4,2,3],[.tmp .d0 .d2],(ad 7 [cd (.L (.box 4 bd)),
 dJ (.L (.box 4 cG)),
 bB cg]
 (ad 31 [.p mv,
 .p aN,
 .p A5,
 .p aN,
 bB (aR 30 [cm,ai])]
 .ret))⟩
def i30:ct:=
 ⟨2,[0,1,4],[.tmp .d0 .d2],(ad 1 [bB cg]
 (ad 4 [bB (aR 66 [bd,cG])]
 .ret))⟩
def i32:ct:=
 ⟨2,[0,1,4,2,3],[.tmp .d0 .d2],(ad 7 [cd (.L (.box 6 bd)),
 dJ Hg,
 bB cg]
 (ad 31 [.p mv,
 .p aN,
 .p A5,
 .p aN,
 bB (aR 30 [cm,ai])]
 .ret))⟩
def i33:ct:=
 ⟨1,[0,2,3,4,6,17,7,5,8,9],[.cell .d0 .d1 (some 6), .tmp .d0 .d2, .tmp .d0 .d3],(ad 7 [b5 wY,
 bB cg,
 cd cg]
 (ad 506 [.p (aR 68 [bd]),
 .p jy,
 .p jz,
 .p A3,
 dK mr,
 dJ mr,
 eV mr]
 (.seq (ad 2 [dN LH]
 (.cond c9 (ad 57 [.p yE,
 .p (bE 6 cG ai),
 bB mu,
 cd qu]
 .ret) .skip))
 (ad 250 [.p (aR 69 [dw]),
 .p jy,
 .p jz,
 fc wY,
 .p (bE 6 ai cm),
 gU mr]
 (ad 29 [.p DK,
 .p (bE 6 cG ai),
 bB A4,
 cd cg]
 .ret)))))⟩
def i34:ct:=
 ⟨1,[0,2,1,4,5,25,6,37,3,8,57,9,7,69,10,89,11,101,12,121,14,132,15,13,148],[.tmp .d0 .d1],(ad 3 [bB DD,
 b5 ed]
 (ad 1 [fc ed]
 (ad 1 [cd ed]
 (ad 30 [.p tV,
 .p aN,
 .p po,
 cd (.H (.append 1 16 cY ai))]
 (.seq (ad 1 [dJ cg]
 (.block 0 (.loop (.seq (ad 30 [.p yM,
 .p aN,
 .p e0,
 dN DQ]
 (.cond c9 .skip (.exit 0)))
 (.seq (.block 1 (ad 123 [.p yM,
 .p aN,
 .p (.L (.bQ 2 ai ep)),
 .p (.L (.dd 2 ai)),
 eV (.L (.alloc [.str 0 0, .int .i64 0])),
 .p (bE 2 ai br)]
 (.seq (ad 30 [.p (.L (.b3 0 de)),
 .p aN,
 .p (aR 46 [cY,ai]),
 dK Bb]
 (.cond dw (.aG 1022 [.p tV,
 .p aN,
 .p (.L (.b3 1 de)),
 .p aN,
 .p (.L (.b3 0 de)),
 .p aN,
 .p Hu,
 .p yN,
 fc (.H (.append 4 48 ew ai))]) .skip))
 (.aG 30 [.p (.L (.b3 0 de)),
 .p aN,
 .p po,
 cd (.H (.append 1 16 cY ai))]))))
 (.aG 2 [dJ A8]))))))
 (ad 1 [hv ed]
 (.seq (ad 1 [gU cg]
 (.block 2 (.loop (.seq (ad 30 [.p tY,
 .p aN,
 .p e0,
 jB LM]
 (.cond jx .skip (.exit 2)))
 (.seq (.block 3 (ad 123 [.p tY,
 .p aN,
 .p (.L (.bQ 4 ai iO)),
 .p vu,
 jC yF,
 .p (bE 4 ai br)]
 (.seq (ad 30 [.p Hn,
 .p aN,
 .p (aR 46 [fq,ai]),
 jg Bb]
 (.cond hl (.aG 1022 [.p tV,
 .p aN,
 .p (.L (.b3 3 gE)),
 .p aN,
 .p Hn,
 .p aN,
 .p Hu,
 .p yN,
 fc (.H (.append 4 48 ew ai))]) .skip))
 (.aG 30 [.p Hn,
 .p aN,
 .p po,
 hv (.H (.append 1 16 fq ai))]))))
 (.aG 2 [gU yH]))))))
 (.seq (ad 1 [kq cg]
 (.block 4 (.loop (.seq (ad 30 [.p qv,
 .p aN,
 .p e0,
 kW (.L (.bin .lss ho ai))]
 (.cond lq .skip (.exit 4)))
 (.seq (.block 5 (ad 123 [.p qv,
 .p aN,
 .p (.L (.bQ 8 ai ho)),
 .p yG,
 oK vv,
 .p (bE 8 ai br)]
 (.seq (ad 30 [.p D0,
 .p aN,
 .p (aR 46 [fq,ai]),
 ps Bb]
 (.cond lr (.aG 1022 [.p tV,
 .p aN,
 .p (.L (.b3 7 ko)),
 .p aN,
 .p D0,
 .p aN,
 .p Hu,
 .p yN,
 fc (.H (.append 4 48 ew ai))]) .skip))
 (.aG 30 [.p D0,
 .p aN,
 .p po,
 hv (.H (.append 1 16 fq ai))]))))
 (.aG 2 [kq Hk]))))))
 (.seq (ad 1 [rE cg]
 (.block 6 (.loop (.seq (ad 30 [.p qv,
 .p aN,
 .p e0,
 w6 (.L (.bin .lss ni ai))]
 (.cond qs .skip (.exit 6)))
 (.seq (.block 7 (ad 1 [D9 ed]
 (ad 1 [w7 cg]
 (.block 8 (.loop (.seq (ad 502 [.p qv,
 .p aN,
 .p (.L (.bQ 8 ai ni)),
 .p hs,
 .p aN,
 .p e0,
 HB (.L (.bin .lss pn ai))]
 (.cond (.t .d2 .d5) .skip (.exit 8)))
 (.seq (.block 9 (ad 1979 [.p qv,
 .p aN,
 .p (.L (.bQ 8 ai ni)),
 .p hs,
 .p aN,
 .p (.L (.bQ 3 ai pn)),
 .p w4,
 D8 DZ,
 .p (bE 3 ai br)]
 (.seq (ad 30 [.p (.L (.b3 0 sI)),
 .p aN,
 .p (aR 46 [yz,ai]),
 Ea Bb]
 (.cond AY (.aG 1022 [.p tV,
 .p aN,
 .p (.L (.b3 2 sI)),
 .p aN,
 .p (.L (.b3 0 sI)),
 .p aN,
 .p Hu,
 .p yN,
 fc (.H (.append 4 48 ew ai))]) .skip))
 (.aG 30 [.p (.L (.b3 0 sI)),
 .p aN,
 .p po,
 D9 (.H (.append 1 16 yz ai))]))))
 (.aG 2 [w7 (.L (.bin .add pn fK))]))))))))
 (.aG 2 [rE LU]))))))
 (ad 2 [b5 nk]
 .ret))))))))))⟩
def i35:ct:=
 ⟨4,[0,1,2,3,8,5,12,4],[.tmp .d0 .d4],(ad 7 [dK DD,
 dN Hg,
 dJ ed]
 (.seq (ad 13 [.p (.L (.dd 6 c9)),
 .p (aR 70 [ai,db]),
 eV LV]
 (.cond de (ad 51 [.p (.L (.b3 0 dw)),
 .p aN,
 .p (.L (.build [.str 0 0, .int .i64 0, .int .i64 0, .str 0 0] [(0,1,ai),(1,1,cY),(2,1,Dw),(3,1,db)])),
 dJ yN]
 .ret) .skip))
 (ad 1 [dJ ed]
 .ret)))⟩
def i36:ct:=
 ⟨1,[0,2,1,5,18,4,6,33,7,47,8,54,67,3,9,88,10,102,12,119,11],[.cell .d0 .d1 (some 2)],(ad 3 [bB DD,
 b5 sL]
 (ad 7 [.p DF,
 jg sL,
 .p (bE 2 ai br)]
 (ad 1 [dN ed]
 (.seq (ad 1 [cd cg]
 (.block 0 (.loop (.seq (ad 30 [.p tY,
 .p aN,
 .p e0,
 dJ vx]
 (.cond ep .skip (.exit 0)))
 (.seq (.block 1 (.aG 246 [.p tY,
 .p aN,
 .p (.L (.bQ 4 ai cY)),
 .p iD,
 .p aN,
 dN (aR 47 [c9,ai])]))
 (.aG 2 [cd oJ]))))))
 (.seq (ad 1 [eV cg]
 (.block 2 (.loop (.seq (ad 30 [.p qv,
 .p aN,
 .p e0,
 dK LO]
 (.cond dw .skip (.exit 2)))
 (.seq (.block 3 (.aG 246 [.p qv,
 .p aN,
 .p (.L (.bQ 8 ai de)),
 .p iD,
 .p aN,
 dN (aR 47 [c9,ai])]))
 (.aG 2 [eV LP]))))))
 (.seq (ad 1 [fc cg]
 (.block 4 (.loop (.seq (ad 12 [.p (.L (.len false c9)),
 gU (.L (.bin .lss ew ai))]
 (.cond iO .skip (.exit 4)))
 (.seq (.block 5 (.seq (ad 1 [jB cg]
 (.block 6 (.loop (.seq (ad 30 [.p tY,
 .p aN,
 .p e0,
 jC (.L (.bin .lss jx ai))]
 (.cond gE .skip (.exit 6)))
 (.seq (.block 7 (.seq (.draw [0,1,2,3,4,5,6,7,8,9,10] [ar tY,
 ar aN,
 ar D1,
 ar wZ,
 ar iD,
 ar aN,
 ar kp,
 ar nk,
 ar iP,
 ar aN,
 ⟨hv (.L (.fu .eql fP ai)),[]⟩])
 (.cond fq (.draw [0,1,2,3,4,5,6,7,8,9,10,11,12,13,14,15,16] [ar DG,
 ar aN,
 ar kp,
 ar nk,
 ar iP,
 ar aN,
 ar tY,
 ar aN,
 ar D1,
 ar wZ,
 ar hs,
 ar aN,
 ar (.L (.build [.str 0 0, .str 0 0, .int .i64 0, .int .i64 0] [(0,1,j8),(1,1,ai)])),
 ar Hj,
 ar (.H (.append 4 48 (.l 12) ai)),
 ar DG,
 ar (bE 1 ai br)]) .skip)))
 (.aG 2 [jB (.L (.bin .add jx fK))]))))))
 (ad 1 [kq cg]
 (.block 8 (.loop (.seq (ad 30 [.p qv,
 .p aN,
 .p e0,
 kW (.L (.bin .lss ho ai))]
 (.cond lq .skip (.exit 8)))
 (.seq (.block 9 (ad 123 [.p qv,
 .p aN,
 .p (.L (.bQ 8 ai ho)),
 .p yG,
 oK vv,
 .p (bE 8 ai br)]
 (.seq (.seq (.draw [0,1,2,3,4,5,6] [ar D0,
 ar aN,
 ar kp,
 ar nk,
 ar iP,
 ar aN,
 ⟨ps (.L (.fu .neq fP ai)),[]⟩])
 (.cond lr (.exit 9) .skip))
 (.seq (.draw [0,1,2,3,4,5,6,7,8,9,12,10,11,13] [ar D0,
 ar aN,
 ar (.L (.b3 2 ko)),
 ar aN,
 ar (.L (.b3 3 ko)),
 ar aN,
 ar (.L (.b3 4 ko)),
 ar aN,
 ar (.L (.b3 5 ko)),
 ar aN,
 ⟨w7 yI,[]⟩,
 ⟨.p (aR 20 [br,sJ]),[9,7,5,3,0]⟩,
 ar Q3,
 ar (bE 6 cm ai)])
 (.seq (ad 1 [rE cg]
 (.block 10 (.loop (.seq (ad 30 [.p (.L (.b3 1 ko)),
 .p aN,
 .p e0,
 w6 (.L (.bin .lss ni ai))]
 (.cond qs .skip (.exit 10)))
 (.seq (.block 11 (.draw [0,1,2,3,4,5,6,7,8,9,10,11] [ar (.L (.b3 1 pn)),
 ar aN,
 ar (.L (.b3 1 ko)),
 ar aN,
 ar (.L (.dm ni)),
 ar DM,
 ar hs,
 ar aN,
 ar po,
 ar (.H (.append 1 16 nQ ai)),
 ar (.L (.b3 1 pn)),
 ar (bE 1 ai br)]))
 (.aG 2 [rE LU]))))))
 (.aG 127 [.p DH,
 .p aN,
 .p (.L (.dd 6 pn)),
 .p LL,
 .p (.H (.append 6 104 cm ai)),
 .p DH,
 .p (bE 1 ai br)]))))))
 (.aG 2 [kq Hk]))))))))
 (.aG 2 [fc LK]))))))
 (ad 3 [.p (.L (.dd 2 hl)),
 .p (bE 2 cG ai)]
 .ret)))))))⟩
def i37:ct:=
 ⟨1,[0,2,3,1,4,5,7,6,25,27,26,28,10,9,43,8,61],[.tmp .d0 .d1, .tmp .d0 .d2],(ad 7 [cd (.L (.box 1 bd)),
 b5 ed,
 bB cg]
 (ad 3 [dJ (.L (.alloc [.int .i64 0])),
 .p (bE 1 ai iC)]
 (ad 1 [dN (.L (.fn 71 [] [cY,ep]))]
 (ad 122 [.p (.H (.sb c9 [])),
 .p jy,
 .p jz,
 dK fL,
 eV fL]
 (.seq (ad 506 [.p (.L (.not de)),
 .g ai false lx,
 .g br false (.L (.load cY)),
 .g cm false e0,
 .g df false (.L (.bin .quo ai tT)),
 .g fP false (.L (.bin .gtr df ai)),
 fc DP]
 (.cond ew (ad 3 [b5 ed,
 bB DR]
 .ret) .skip))
 (ad 1 [kW ed]
 (.seq (ad 3 [jB lx,
 gU cg]
 (.block 0 (.loop (ad 1 [jC Hr]
 (.seq (.cond gE .skip (.exit 0))
 (.seq (.block 1 (ad 122 [.p (.H (.sb c9 [])),
 .p jy,
 .p jz,
 jg fL,
 hv fL]
 (.seq (ad 1018 [.p (.L (.not fq)),
 .g ai false yJ,
 .g br false (.L (.load cY)),
 .g cm false e0,
 .g df false D2,
 .g fP false (.L (.bin .sub br ai)),
 .g hQ false (.L (.bin .gtr fP ai)),
 kq Ho]
 (.cond ho (ad 3 [b5 ed,
 bB DR]
 .ret) .skip))
 (ad 1006 [.p (.L (.load cY)),
 .p D2,
 .p D2,
 .p (.L (.bin .add ai hl)),
 .p (.L (.kF 1 df (some cm) (some ai) none)),
 .p (.L (.sa ai)),
 .p po,
 kW (.H (.append 1 16 lq ai))]
 (.aG 13 [.p D2,
 .p (.L (.bin .add ai hl)),
 .p (bE 1 ep ai)])))))
 (.aG 1 [gU yH])))))))
 (.seq (ad 15 [.p D2,
 .p (.L (.load cY)),
 .p e0,
 oK (.L (.bin .neq cm ai))]
 (.cond ko (ad 3 [b5 ed,
 bB DR]
 .ret) .skip))
 (ad 6 [b5 w2,
 bB cg]
 .ret)))))))))⟩
def i38:ct:=
 ⟨1,[0,2,3,5,4,33],[.tmp .d0 .d1],(ad 1 [b5 cg]
 (ad 2 [bB (aR 39 [bd])]
 (ad 122 [.p (aR 73 [db]),
 .p jy,
 .p jz,
 dJ fL,
 cd fL]
 (.seq (ad 2092986 [.p (.L (.eq true .e8 cY A1)),
 .g ai false mu,
 .g br false LV,
 .p w3,
 .g ai false mu,
 .g br false (aR 42 [ai]),
 .g cm false kV,
 .g df false (.L (.fu .neq br ai)),
 .p DU,
 .g ai false mu,
 .g br false cQ,
 .g cm false hR,
 .g df false iD,
 .g fP false aN,
 .g hQ false e0,
 .g j8 false (.L (.bin .gtr hQ ai)),
 dN LN]
 (.cond c9 (ad 14 [.p gy,
 .p hs,
 .p (bE 1 ai nj)]
 (ad 1 [b5 cg]
 .ret)) .skip))
 (ad 2 [b5 mu]
 .ret)))))⟩
def i39:ct:=
 ⟨1,[0,2,9,3],[.tmp .d0 .d1],(ad 1 [b5 pq]
 (.seq (ad 62 [.p gy,
 .p iD,
 .p aN,
 .p e0,
 bB nR]
 (.cond db (ad 14 [.p gy,
 .p hs,
 .p (bE 1 ai nj)]
 (ad 1 [b5 pq]
 .ret)) .skip))
 (ad 62 [.p gy,
 .p iD,
 .p aN,
 .p (.L (.bQ 1 ai iC)),
 cd aN]
 (ad 508 [.p gy,
 .p iD,
 .p aN,
 .p (.L (.kF 1 ai (some fK) none none)),
 .p gy,
 .p iD,
 .p (bE 1 ai cm)]
 (ad 2 [b5 lv]
 .ret)))))⟩
def i40:ct:=
 ⟨1,[0,2,3,4],[.tmp .d0 .d1],(ad 1 [b5 ed]
 (ad 2 [bB (aR 38 [bd])]
 (ad 110 [.p gy,
 .p iD,
 .p aN,
 .p (.L (.kF 1 ai none (some db) none)),
 cd (aR 74 [ai])]
 (ad 988 [.p gy,
 .p iD,
 .p aN,
 .p (.L (.kF 1 ai (some db) none none)),
 .p gy,
 .p iD,
 .p (bE 1 ai cm)]
 (ad 2 [b5 lv]
 .ret)))))⟩
def i41:ct:=
 ⟨1,[0,2,3,7,19],[.tmp .d0 .d1],(ad 1 [b5 hq]
 (.seq (ad 1 [bB DX]
 (.block 0 (.loop (.seq (ad 12 [.p jf,
 cd LW]
 (.cond cY .skip (.exit 0)))
 (.seq (.block 1 (.seq (.draw [0,1,2,3,4,5,6,7,8,9] [ar cQ,
 ar kV,
 ar iP,
 ar aN,
 ar cQ,
 ar kV,
 ar nS,
 ar Bc,
 ar aN,
 ⟨dJ (.L (.fu .leq hQ ai)),[]⟩])
 (.cond ep (ad 1 [b5 hq]
 .ret) .skip)))
 (.aG 2 [bB D3]))))))
 (ad 1 [b5 tU]
 .ret)))⟩
def i42:ct:=
 ⟨1,[0,2],[.tmp .d0 .d1],(ad 1 [b5 pq]
 (ad 2 [b5 (aR 75 [bd])]
 .ret))⟩
def i43:ct:=
 ⟨1,[0,2,11,10,12,9,5,3],[.tmp .d0 .d1],(ad 1 [b5 ed]
 (ad 6 [.p jf,
 dK (aR 76 [ai])]
 (.seq (ad 7 [dN cQ,
 cd e0,
 bB cg]
 (.block 0 (.loop (ad 1 [dJ (.L (.bin .lss db cY))]
 (.seq (.cond ep .skip (.exit 0))
 (.seq (.block 1 (ad 3 [.p (.L (.bQ 1 c9 db)),
 eV aN]
 (.aG 92 [.p (.L (.len true de)),
 .p (aR 76 [ai]),
 .p (.H (.append 1 1 dw ai)),
 dK (.H (.append 1 1 ai de))])))
 (.aG 1 [bB D3])))))))
 (ad 2 [b5 lx]
 .ret))))⟩
def i44:ct:=
 ⟨1,[0,2,3],[.tmp .d0 .d1],(ad 1 [b5 ed]
 (ad 2 [bB (aR 74 [bd])]
 (ad 2 [.p (aR 77 [db])]
 (ad 2 [bB (aR 78 [db])]
 (ad 52 [.p (.L (.len false db)),
 .p (.L (.len false db)),
 b5 (.L (.kF 1 db none (some br) (some ai)))]
 .ret)))))⟩
def i45:ct:=
 ⟨1,[0,2,11,10,12,9,5,3,20,27,26,28,25,6,8],[.tmp .d0 .d1],(ad 1 [b5 ed]
 (ad 1 [dK cg]
 (.seq (ad 7 [dN cQ,
 cd e0,
 bB cg]
 (.block 0 (.loop (ad 1 [dJ (.L (.bin .lss db cY))]
 (.seq (.cond ep .skip (.exit 0))
 (.seq (.block 1 (ad 3 [.p (.L (.bQ 1 c9 db)),
 eV aN]
 (ad 12 [.p (.L (.len false de)),
 dK (.L (.bin .add dw ai))]
 (ad 2 [fc (.L (.bin .lss dw iC))]
 (.cond ew (.aG 3 [.p (.L (.e8 9 (.c (.str 16 134789072936214216453580009062074836332)))),
 .p (.H (.panic ai))]) .skip)))))
 (.aG 1 [bB D3])))))))
 (ad 2 [jg (aR 79 [sJ,dw])]
 (.seq (ad 7 [hv cQ,
 jB e0,
 gU cg]
 (.block 2 (.loop (ad 1 [jC Hr]
 (.seq (.cond gE .skip (.exit 2))
 (.seq (.block 3 (ad 3 [.p (.L (.bQ 1 fq iO)),
 kq aN]
 (.aG 4 [jg (.H (.append 1 16 hl ho))])))
 (.aG 1 [gU yH])))))))
 (ad 2 [b5 yJ]
 .ret))))))⟩
def i46:ct:=
 ⟨2,[0,1,4,5,9,17],[.tmp .d0 .d2],(ad 1 [bB cg]
 (.seq (ad 1 [cd cg]
 (.block 0 (.loop (.seq (ad 12 [.p jf,
 dJ vx]
 (.cond ep .skip (.exit 0)))
 (.seq (.block 1 (ad 44 [.p DW,
 .p aN,
 dN (.L (.fu .eql ai cG))]
 (.cond c9 (ad 2 [bB lv]
 .ret) .skip)))
 (.aG 2 [cd oJ]))))))
 (ad 1 [bB (.L (.dm vr))]
 .ret)))⟩
def i47:ct:=
 ⟨2,[0,1,4,5,18,32,6,42],[.tmp .d0 .d2],(ad 1 [bB ed]
 (ad 1 [cd cg]
 (.seq (.block 0 (.loop (.seq (ad 4076 [.p jf,
 .p vx,
 .g ai true cQ,
 .g br true lv,
 .g cm true iP,
 .g df true aN,
 .g fP true jI,
 .g hQ true (.L (.fu .lss br ai)),
 dJ LX]
 (.cond ep .skip (.exit 0)))
 (.block 1 (.aG 2 [cd oJ])))))
 (.seq (ad 4076 [.p jf,
 .p vx,
 .g ai true cQ,
 .g br true lv,
 .g cm true iP,
 .g df true aN,
 .g fP true jI,
 .g hQ true (.L (.fu .eql br ai)),
 dN LX]
 (.cond c9 (ad 2 [bB cQ]
 .ret) .skip))
 (ad 6 [.p (.L (.fA 1 1 [.str 0 0] [(0,1,Ha)])),
 yT (.H (.append 1 16 bd ai))]
 (.seq (ad 6 [.p jf,
 eV nS]
 (.block 2 (.loop (.seq (ad 4 [dK (.L (.bin .gtr de cY))]
 (.cond dw .skip (.exit 2)))
 (.seq (.block 3 (.aG 496 [.p (.L (.bin .sub de fK)),
 .p (.L (.bQ 1 bd ai)),
 .p aN,
 .p LY,
 .p (bE 1 ai br)]))
 (.aG 2 [eV (.L (.bin .sub de fK))]))))))
 (ad 24 [.p DW,
 .p (bE 1 ai cG)]
 (ad 2 [bB cQ]
 .ret))))))))⟩
def i48:ct:=
 ⟨2,[0,1,4],[.tmp .d0 .d2],(ad 1 [bB hq]
 (ad 12 [.p (aR 80 [bd,cG]),
 bB Bb]
 .ret))⟩
def i49:ct:=
 ⟨2,[0,1,3],[.tmp .d0 .d2],(ad 1 [bB hq]
 (ad 13 [.p (.L (.load cG)),
 .p (aR 50 [ai,bd]),
 bB kU]
 .ret))⟩
def i50:ct:=
 ⟨2,[0,1,4],[.tmp .d0 .d2],(ad 1 [bB hq]
 (ad 12 [.p (aR 81 [bd,cG]),
 bB Bb]
 .ret))⟩
def i51:ct:=
 ⟨1,[0,2],[.tmp .d0 .d1],(ad 1 [b5 hq]
 (ad 58 [.p (.L (.bin .geq bd (.c (.int .u8 97)))),
 .g ai true cQ,
 .g br true (.L (.bin .leq ai (.c (.int .u8 122)))),
 b5 yK]
 .ret))⟩
def i52:ct:=
 ⟨1,[0,2],[.tmp .d0 .d1],(ad 1 [b5 hq]
 (ad 58 [.p (.L (.bin .geq bd Hb)),
 .g ai true cQ,
 .g br true (.L (.bin .leq ai (.c (.int .u8 57)))),
 b5 yK]
 .ret))⟩
def i53:ct:=
 ⟨1,[0,2,3,4],[.tmp .d0 .d1],(ad 1 [b5 hq]
 (.seq (ad 1 [bB cQ]
 (.block 0 (.seq (ad 1 [cd (.L (.fu .eql db (.c (.str 6 111516500389741))))]
 (.cond cY .skip (ad 1 [cd (.L (.fu .eql db (.c (.str 6 128034844732777))))]
 (.cond cY .skip (ad 1 [cd (.L (.fu .eql db (.c (.str 3 7496054))))]
 (.cond cY .skip (ad 1 [cd (.L (.fu .eql db (.c (.str 4 1668248176))))]
 (.cond cY .skip (ad 1 [cd (.L (.fu .eql db (.c (.str 2 25456))))]
 (.cond cY .skip (ad 1 [cd (.L (.fu .eql db (.c (.str 4 1936028533))))]
 (.cond cY .skip (ad 1 [cd (.L (.fu .eql db (.c (.str 3 7628140))))]
 (.cond cY .skip (ad 1 [cd (.L (.fu .eql db (.c (.str 4 1819042147))))]
 (.cond cY .skip (ad 1 [cd (.L (.fu .eql db (.c (.str 2 26217))))]
 (.cond cY .skip (ad 1 [cd (.L (.fu .eql db (.c (.str 4 1702063205))))]
 (.cond cY .skip (ad 1 [cd (.L (.fu .eql db (.c (.str 5 435610544247))))]
 (.cond cY .skip (ad 1 [cd (.L (.fu .eql db (.c (.str 4 1953066341))))]
 (.cond cY .skip (ad 1 [cd (.L (.fu .eql db (.c (.str 6 128009175786866))))]
 (.cond cY .skip (ad 1 [cd (.L (.fu .eql db (.c (.str 4 1885956979))))]
 (.cond cY .skip (.aG 1 [cd (.L (.fu .eql db (.c (.str 6 126909394608492))))])))))))))))))))))))))))))))))
 (.cond cY (ad 1 [b5 tU]
 .ret) .skip))))
 (ad 1 [b5 hq]
 .ret)))⟩
def i54:ct:=
 ⟨2,[0,1,4,9,14,15,26,27],[.tmp .d0 .d2],(ad 1 [bB pq]
 (.seq (ad 26 [.p (.L (.bin .add cG fK)),
 .p tX,
 cd (.L (.bin .lss br ai))]
 (.cond cY (ad 24 [.p (.L (.bin .add cG lW)),
 dJ LZ]
 (.block 0 (.seq (ad 1 [dN (.L (.fu .eql ep (.c (.str 2 15677))))]
 (.cond c9 .skip (ad 1 [dN (.L (.fu .eql ep (.c (.str 2 15676))))]
 (.cond c9 .skip (.aG 1 [dN (.L (.fu .eql ep (.c (.str 2 15917))))])))))
 (.cond c9 (ad 24 [.p (.L (.bin .add cG lW)),
 bB LZ]
 .ret) .skip)))) .skip))
 (.seq (ad 4 [eV (.L (.lM bd cG))]
 (.block 1 (.seq (ad 1 [dK (.L (.bin .eql de (.c (.int .u8 40))))]
 (.cond dw .skip (ad 1 [dK (.L (.bin .eql de (.c (.int .u8 41))))]
 (.cond dw .skip (ad 1 [dK (.L (.bin .eql de (.c (.int .u8 123))))]
 (.cond dw .skip (ad 1 [dK (.L (.bin .eql de (.c (.int .u8 125))))]
 (.cond dw .skip (ad 1 [dK (.L (.bin .eql de (.c (.int .u8 44))))]
 (.cond dw .skip (ad 1 [dK (.L (.bin .eql de (.c (.int .u8 59))))]
 (.cond dw .skip (ad 1 [dK (.L (.bin .eql de (.c (.int .u8 58))))]
 (.cond dw .skip (ad 1 [dK (.L (.bin .eql de (.c (.int .u8 46))))]
 (.cond dw .skip (ad 1 [dK (.L (.bin .eql de (.c (.int .u8 61))))]
 (.cond dw .skip (ad 1 [dK (.L (.bin .eql de (.c (.int .u8 60))))]
 (.cond dw .skip (ad 1 [dK (.L (.bin .eql de (.c (.int .u8 43))))]
 (.cond dw .skip (ad 1 [dK (.L (.bin .eql de Dx))]
 (.cond dw .skip (ad 1 [dK (.L (.bin .eql de (.c (.int .u8 42))))]
 (.cond dw .skip (ad 1 [dK (.L (.bin .eql de (.c (.int .u8 47))))]
 (.cond dw .skip (ad 1 [dK (.L (.bin .eql de (.c (.int .u8 37))))]
 (.cond dw .skip (.aG 1 [dK (.L (.bin .eql de (.c (.int .u8 33))))])))))))))))))))))))))))))))))))
 (.cond dw (ad 24 [.p (.L (.bin .add cG fK)),
 bB LZ]
 .ret) .skip))))
 (ad 1 [bB pq]
 .ret))))⟩
def i55:ct:=
 ⟨2,[0,1,7],[],(ad 12 [.p (aR 58 [bd,cG]),
 bB kU]
 (.cond db (.aG 2 [.p (aR 61 [bd,A0])]) .skip))⟩
def i56:ct:=
 ⟨1,[0,2],[.tmp .d0 .d1],(ad 1 [b5 cg]
 (.seq (.draw [0,1,2,3,4,5,6,7,8,9,10,11] [ar cQ,
 ar hR,
 ar iD,
 ar aN,
 ar cQ,
 ar hR,
 ar hs,
 ar aN,
 ar vy,
 ar rD,
 ar aN,
 ⟨b5 jA,[]⟩])
 .ret))⟩
def i57:ct:=
 ⟨1,[0,2,3,23],[.tmp .d0 .d1],(ad 1 [b5 pq]
 (.seq (.draw [0,1,2,3,4,5,6,7,8,9,10,11] [ar cQ,
 ar hR,
 ar iD,
 ar aN,
 ar cQ,
 ar hR,
 ar hs,
 ar aN,
 ar vy,
 ar w4,
 ⟨bB Hv,[]⟩,
 ar (bE 3 ai br)])
 (.seq (ad 990 [.p gy,
 .p lu,
 .p aN,
 .p yD,
 .g ai false tV,
 .g br false aN,
 .g cm false (.L (.bin .neq ai fK)),
 cd vt]
 (.cond cY (ad 2 [.p (aR 61 [bd,A0])]
 (ad 1 [b5 pq]
 .ret)) .skip))
 (ad 254 [.p gy,
 .p hs,
 .p aN,
 .p Bd,
 .p gy,
 .p hs,
 .p (bE 1 ai cm)]
 (ad 3 [.p Hq,
 b5 aN]
 .ret)))))⟩
def i58:ct:=
 ⟨2,[0,1,4,8],[.tmp .d0 .d2],(ad 1 [bB hq]
 (.seq (ad 12 [.p (aR 82 [bd,cG]),
 cd kU]
 (.cond cY (ad 1 [bB hq]
 .ret) .skip))
 (ad 254 [.p gy,
 .p hs,
 .p aN,
 .p Bd,
 .p gy,
 .p hs,
 .p (bE 1 ai cm)]
 (ad 1 [bB tU]
 .ret))))⟩
def i59:ct:=
 ⟨1,[0,2,3,5,39,4,54],[.cell .d0 .d1 (some 4)],(ad 1 [b5 yF]
 (ad 122 [.p (aR 56 [bd]),
 .p (aR 57 [bd]),
 .p (.L (.build [.str 0 0, .str 0 0, .int .i64 0, .int .i64 0] [(3,1,br),(0,1,ai)])),
 bB yF,
 .p (bE 4 ai br)]
 (ad 2 [.p (aR 55 [bd,(.c (.str 1 58))])]
 (ad 14 [.p (aR 57 [bd]),
 .p Hq,
 .p (bE 1 ai br)]
 (ad 2 [.p (aR 55 [bd,Dy])]
 (ad 2 [dN (aR 58 [bd,(.c (.str 1 45))])]
 (.seq (.draw [0,1,2,3,4,5,6,7,8,9,10,11] [ar cQ,
 ar hR,
 ar iD,
 ar aN,
 ar cQ,
 ar hR,
 ar hs,
 ar aN,
 ar vy,
 ar w4,
 ⟨cd Hv,[]⟩,
 ar (bE 3 ai br)])
 (.seq (ad 990 [.p gy,
 .p lu,
 .p aN,
 .p yD,
 .g ai false mv,
 .g br false aN,
 .g cm false (.L (.bin .neq ai lW)),
 dJ vt]
 (.cond ep (ad 2 [.p (aR 61 [bd,A0])]
 (ad 3 [.p (.L (.dd 4 db)),
 .p (bE 4 cG ai)]
 .ret)) .skip))
 (ad 254 [.p gy,
 .p hs,
 .p aN,
 .p Bd,
 .p gy,
 .p hs,
 .p (bE 1 ai cm)]
 (ad 31 [.p DN,
 .p aN,
 .p (aR 83 [ai]),
 .p yM,
 .p (bE 1 ai br)]
 (.seq (ad 1 [eV kp]
 (.cond de (.aG 31 [.p yM,
 .p aN,
 .p (.L (.neg ai)),
 .p yM,
 .p (bE 1 ai br)]) .skip))
 (ad 2 [.p (aR 55 [bd,Dv])]
 (ad 3 [.p (.L (.dd 4 db)),
 .p (bE 4 cG ai)]
 .ret)))))))))))))⟩
def i60:ct:=
 ⟨1,[0,2,14,19,4,3,38,42,58,63,73],[.cell .d0 .d1 (some 8)],(ad 1 [b5 vv]
 (ad 122 [.p (aR 56 [bd]),
 .p (aR 57 [bd]),
 .p (.L (.build [.str 0 0, .U, .bool false, .str 0 0, .str 0 0, .U, .U, .int .i64 0] [(7,1,br),(0,1,ai)])),
 dN vv,
 .p (bE 8 ai br)]
 (ad 2 [.p (aR 55 [bd,Hc])]
 (.seq (ad 6 [.p (aR 82 [bd,Dz]),
 bB kU]
 (.cond db (.block 0 (.loop (.seq (ad 30 [.p gy,
 .p lu,
 .p aN,
 cd nR]
 (.cond cY .skip (.exit 0)))
 (.block 1 (ad 122 [.p (aR 56 [bd]),
 .p (aR 57 [bd]),
 .p (.L (.build [.str 0 0, .str 0 0, .int .i64 0] [(2,1,br),(0,1,ai)])),
 dJ DZ,
 .p (bE 3 ai br)]
 (ad 2 [.p (aR 55 [bd,(.c (.str 1 58))])]
 (ad 14 [.p (aR 57 [bd]),
 .p (.L (.b3 1 ep)),
 .p (bE 1 ai br)]
 (ad 127 [.p D4,
 .p aN,
 .p (.L (.dd 3 ep)),
 .p L0,
 .p (.H (.append 3 40 cm ai)),
 .p D4,
 .p (bE 1 ai br)]
 (ad 6 [.p (aR 58 [bd,(.c (.str 1 44))]),
 eV kU]
 (.cond de (.exit 0) .skip)))))))))) .skip))
 (ad 2 [.p (aR 55 [bd,Dz])]
 (.seq (ad 2 [dK (aR 58 [bd,(.c (.str 2 15917))])]
 (.cond dw (ad 3 [.p Hw,
 .p (bE 1 ai nj)]
 (.aG 14 [.p (aR 57 [bd]),
 .p (.L (.b3 3 c9)),
 .p (bE 1 ai br)])) .skip))
 (ad 2 [.p (aR 55 [bd,(.c (.str 2 25456))])]
 (ad 14 [.p (aR 57 [bd]),
 .p (.L (.b3 4 c9)),
 .p (bE 1 ai br)]
 (ad 2 [.p (aR 55 [bd,(.c (.str 4 1936028533))])]
 (ad 2 [.p (aR 55 [bd,(.c (.str 1 123))])]
 (.seq (ad 6 [.p (aR 82 [bd,Hd]),
 fc kU]
 (.cond ew (.block 2 (.loop (.seq (ad 30 [.p gy,
 .p lu,
 .p aN,
 gU nR]
 (.cond iO .skip (.exit 2)))
 (.block 3 (.seq (.draw [0,1,2,3,4,5,6,7] [ar (.L (.b3 5 c9)),
 ar aN,
 ar cQ,
 ⟨.p (aR 57 [ai]),[1]⟩,
 ar po,
 ar (.H (.append 1 16 df ai)),
 ar (.L (.b3 5 c9)),
 ar (bE 1 ai br)])
 (ad 6 [.p (aR 58 [bd,(.c (.str 1 44))]),
 jB kU]
 (.cond jx (.exit 2) .skip))))))) .skip))
 (ad 2 [.p (aR 55 [bd,Hd])]
 (ad 14 [.p (aR 84 [bd]),
 .p (.L (.b3 6 c9)),
 .p (bE 1 ai br)]
 (ad 3 [.p (.L (.dd 8 c9)),
 .p (bE 8 cG ai)]
 .ret))))))))))))))⟩
def i61:ct:=
 ⟨2,[0,1,8],[],(ad 30 [.p gy,
 .p lu,
 .p aN,
 bB nR]
 (.cond db (ad 28 [.p gy,
 .p lu,
 .p (bE 1 ai cG)]
 (.draw [0,1,2,3,4,5,6,7,8,9,10,11,12,13,14] [ar cQ,
 ar cQ,
 ar hR,
 ar iD,
 ar aN,
 ar cQ,
 ar hR,
 ar hs,
 ar aN,
 ar vy,
 ar rD,
 ar aN,
 ar (.L (.pY (.l 11))),
 ar (.L (.b3 4 ai)),
 ar (bE 1 ai cm)])) .skip))⟩
def i62:ct:=
 ⟨4,[0,1,2,3,8,11],[.tmp .d0 .d4],(ad 1 [dJ ed]
 (.seq (ad 4 [dN (aR 50 [cG,db])]
 (.cond c9 (.draw [0,1,2,3,4,5,6,7,8,9,10,11,12,13,14,15,16] [ar cQ,
 ar cQ,
 ar hR,
 ar A6,
 ar aN,
 ar cQ,
 ar hR,
 ar iD,
 ar aN,
 ar lv,
 ar kV,
 ar (.L (.build [.str 0 0, .int .i64 0, .int .i64 0, .str 0 0] [(0,1,cm),(1,1,br),(2,1,Du),(3,1,ai)])),
 ar yN,
 ar (.H (.append 4 48 qt ai)),
 ar (.L (.pY (.l 13))),
 ar A6,
 ar (bE 1 ai cm)]) .skip))
 (ad 12 [.p (.L (.fA 1 1 [.str 0 0] [(0,1,db)])),
 dJ (.H (.append 1 16 cG ai))]
 .ret)))⟩
def i63:ct:=
 ⟨3,[0,1,2,12],[],(ad 110 [.p gy,
 .p hs,
 .p Hm,
 .p (aR 85 [ai,cG]),
 cd LV]
 (.cond cY (.draw [0,1,2,3,4,5,6,7,8,9,10,11,12,13,14,15,16] [ar cQ,
 ar cQ,
 ar hR,
 ar A6,
 ar aN,
 ar cQ,
 ar hR,
 ar iD,
 ar aN,
 ar kV,
 ar jI,
 ar (.L (.build [.str 0 0, .int .i64 0, .int .i64 0, .str 0 0] [(0,1,cm),(1,1,br),(2,1,Dw),(3,1,ai)])),
 ar yN,
 ar (.H (.append 4 48 qt ai)),
 ar (.L (.pY (.l 13))),
 ar A6,
 ar (bE 1 ai cm)]) .skip))⟩
def i68:ct:=
 ⟨1,[0,2,3,4,6,20,7,5,8,46,53,11,10,9,61,12,80],[.tmp .d0 .d1, .tmp .d0 .d2, .tmp .d0 .d3],(ad 7 [b5 ed,
 bB cg,
 cd cg]
 (ad 506 [.p (aR 23 [bd]),
 .p jy,
 .p jz,
 .p A3,
 dK mr,
 dJ mr,
 eV mr]
 (.seq (ad 2 [dN LH]
 (.cond c9 (ad 28 [b5 ed,
 bB mu,
 cd qu]
 .ret) .skip))
 (ad 6 [.p Q2,
 fc (.L (.box 5 ai))]
 (ad 1 [jg ed]
 (ad 2 [.p (aR 55 [ew,(.c (.str 6 126909394608492))])]
 (.seq (.block 0 (.loop (.seq (.seq (.draw [0,1,2,3,4,5,6,7,8,9,10,11,12,13,14,15,16,17,18] [ar nk,
 ar hR,
 ar lu,
 ar aN,
 ar nR,
 ar jA,
 ⟨.g ai true nk,[]⟩,
 ⟨.g br true hR,[]⟩,
 ⟨.g cm true iD,[]⟩,
 ⟨.g df true aN,[]⟩,
 ⟨.g fP true nk,[]⟩,
 ⟨.g hQ true hR,[]⟩,
 ⟨.g j8 true hs,[]⟩,
 ⟨.g nQ true aN,[]⟩,
 ⟨.g qt true vy,[]⟩,
 ⟨.g yB true iD,[]⟩,
 ⟨.g yA true aN,[]⟩,
 ⟨.g (.l 11) true yD,[]⟩,
 ⟨gU LS,[]⟩])
 (.cond iO .skip (.exit 0)))
 (.block 1 (ad 2 [hv (aR 56 [ew])]
 (ad 2 [jC (aR 57 [ew])]
 (.seq (ad 6 [.p (aR 82 [ew,(.c (.str 1 60))]),
 jB kU]
 (.cond jx (.aG 56 [.p (.L (.build [.str 0 0, .str 0 0, .int .i64 0] [(0,1,gE),(2,1,fq)])),
 .p L0,
 jg (.H (.append 3 40 hl ai))]) .skip))
 (.seq (.block 2 (.loop (.seq (ad 2 [kq (aR 58 [ew,(.c (.str 1 60))])]
 (.cond ho .skip (.exit 2)))
 (.block 3 (ad 2 [hv (aR 56 [ew])]
 (ad 2 [kW (aR 57 [ew])]
 (ad 112 [.p (.L (.build [.str 0 0, .str 0 0, .int .i64 0] [(0,1,gE),(1,1,lq),(2,1,fq)])),
 .p L0,
 jg (.H (.append 3 40 hl ai))]
 (.aG 2 [jC w2]))))))))
 (.aG 2 [.p (aR 55 [ew,Dv])])))))))))
 (.seq (ad 30 [.p (.L (.pY ew)),
 .p lu,
 .p aN,
 oK yD]
 (.cond ko (.seq (.draw [0,1,2,3,4,5,6,7,8,9,10] [ar nk,
 ar hR,
 ar lu,
 ar aN,
 ar nk,
 ar hR,
 ar (.L (.b3 4 ai)),
 ar aN,
 ⟨b5 ed,[]⟩,
 ⟨bB (.L (.dm hQ)),[]⟩,
 ⟨cd mr,[]⟩])
 .ret) .skip))
 (ad 14 [b5 yJ,
 bB cg,
 cd cg]
 .ret)))))))))⟩
def i69:ct:=
 ⟨1,[0,2,3,5,19,4,34,44,6,48,51,8,55,9,7,10,70,78,11,99,12,104,13,109,15,150,14],[.cell .d0 .d1 (some 6), .tmp .d0 .d2],(ad 3 [b5 wY,
 bB cg]
 (ad 1 [dN ed]
 (.seq (ad 1 [cd cg]
 (.block 0 (.loop (.seq (ad 12 [.p jf,
 dJ vx]
 (.cond ep .skip (.exit 0)))
 (.seq (.block 1 (ad 120 [.p L1,
 .p iD,
 .p aN,
 dN (aR 47 [c9,ai])]
 (.seq (ad 60 [.p L1,
 .p hs,
 .p aN,
 eV LR]
 (.cond de (.aG 120 [.p L1,
 .p hs,
 .p aN,
 dN (aR 47 [c9,ai])]) .skip))
 (ad 6 [.p (.L (.len false c9)),
 dK (.L (.bin .gtr ai (.c (.int .i64 13))))]
 (.cond dw (.exit 0) .skip)))))
 (.aG 2 [cd oJ]))))))
 (ad 2 [fc (.L (.len false c9))]
 (.seq (ad 2 [gU (.L (.bin .eql ew iC))]
 (.cond iO (ad 7 [.p yE,
 .p (bE 6 cG ai),
 bB (.L (.dm (.c (.int .i64 13))))]
 .ret) .skip))
 (.seq (ad 2 [jB (.L (.bin .gtr ew (.c (.int .i64 12))))]
 (.cond jx (ad 7 [.p yE,
 .p (bE 6 cG ai),
 bB (.L (.dm (.c (.int .i64 14))))]
 .ret) .skip))
 (ad 1 [kq ed]
 (.seq (ad 1 [jC cg]
 (.block 2 (.loop (.seq (ad 4 [hv (.L (.bin .lss gE ew))]
 (.cond fq .skip (.exit 2)))
 (.seq (.block 3 (ad 2 [jg (.L (.o1 1 [.bool false] 1 ew ew))]
 (ad 12 [.p (.L (.bQ 1 hl gE)),
 .p (bE 1 ai nj)]
 (.aG 12 [.p (.L (.fA 1 1 [.U] [(0,1,hl)])),
 kq (.H (.append 1 24 ho ai))]))))
 (.aG 2 [jC (.L (.bin .add gE fK))]))))))
 (.seq (ad 1 [kW cg]
 (.block 4 (.loop (.seq (ad 12 [.p jf,
 oK (.L (.bin .lss lq ai))]
 (.cond ko .skip (.exit 4)))
 (.seq (.block 5 (ad 60 [.p (.L (.bQ 3 bd lq)),
 .p hs,
 .p aN,
 ps LR]
 (.cond lr (.draw [0,1,2,3,4,5,6,10,11,12,13,14,15,7,8,9,16,17,18] [ar yO,
 ar kp,
 ar cQ,
 ar w2,
 ar DM,
 ar iD,
 ar aN,
 ar kp,
 ar cQ,
 ar w2,
 ar DM,
 ar hs,
 ar aN,
 ⟨.p (aR 46 [(.l 11),j8]),[0]⟩,
 ar (.L (.bQ 1 (.l 13) ai)),
 ar aN,
 ⟨.p (aR 46 [qt,df]),[0]⟩,
 ar iP,
 ar (bE 1 ai nj)]) .skip)))
 (.aG 2 [kW (.L (.bin .add lq fK))]))))))
 (.seq (ad 1 [rE cg]
 (.block 6 (.loop (.seq (ad 4 [w6 (.L (.bin .lss ni ew))]
 (.cond qs .skip (.exit 6)))
 (.seq (.block 7 (ad 1 [w7 cg]
 (.block 8 (.loop (.seq (ad 4 [HB (.L (.bin .lss pn ew))]
 (.cond (.t .d2 .d5) .skip (.exit 8)))
 (.seq (.block 9 (ad 1 [D8 cg]
 (.block 10 (.loop (.seq (ad 4 [D9 (.L (.bin .lss sI ew))]
 (.cond yz .skip (.exit 10)))
 (.seq (.block 11 (.draw [0,1,2,3,4,5,6,7,8,9,10,11,12,13,14,15,16,17,18,19,20,21,22,23,24,25,26,27,28,29,30,31] [ar yO,
 ar (.L (.dm pn)),
 ar iP,
 ar aN,
 ar (.L (.dm sI)),
 ar yO,
 ar (.L (.dm pn)),
 ar iP,
 ar aN,
 ar (.L (.dm sI)),
 ar iP,
 ar aN,
 ar jA,
 ⟨.g ai false yO,[]⟩,
 ⟨.g br false (.L (.dm pn)),[]⟩,
 ⟨.g cm false iP,[]⟩,
 ⟨.g df false aN,[]⟩,
 ⟨.g fP false (.L (.dm ni)),[]⟩,
 ⟨.g hQ false iP,[]⟩,
 ⟨.g j8 false aN,[]⟩,
 ⟨.g nQ false jA,[]⟩,
 ⟨.g ai true yO,[]⟩,
 ⟨.g br true (.L (.dm ni)),[]⟩,
 ⟨.g cm true iP,[]⟩,
 ⟨.g df true aN,[]⟩,
 ⟨.g fP true (.L (.dm sI)),[]⟩,
 ⟨.g hQ true iP,[]⟩,
 ⟨.g j8 true aN,[]⟩,
 ⟨.g (.l 15) false Hx,[]⟩,
 ar (.L (.pick (.l 16) nj ai)),
 ar (.L (.bQ 1 (.l 26) (.l 25))),
 ar (bE 1 ai br)]))
 (.aG 2 [D8 (.L (.bin .add sI fK))])))))))
 (.aG 2 [w7 (.L (.bin .add pn fK))])))))))
 (.aG 2 [rE LU]))))))
 (ad 500 [.p (aR 105 [c9,ho]),
 .p jy,
 .p jz,
 Q7 wY,
 .p (bE 6 ai cm),
 Ea mr]
 (.seq (ad 2 [Q6 (.L (.not AY))]
 (.cond (.t .d3 .d1) (ad 7 [.p yE,
 .p (bE 6 cG ai),
 bB (.L (.dm (.c (.int .i64 13))))]
 .ret) .skip))
 (ad 7 [.p (.L (.dd 6 (.t .d3 .d2))),
 .p (bE 6 cG ai),
 bB cg]
 .ret)))))))))))))⟩
def i70:ct:=
 ⟨2,[0,1,4,2],[.tmp .d0 .d2],(ad 3 [cd (.L (.box 6 bd)),
 bB cg]
 (ad 11 [.p mv,
 .p aN,
 bB (aR 46 [ai,cG])]
 .ret))⟩
def i71:ct:=
 ⟨2,[0,1,2,3,4,5],[.tmp .d0 .d2, .tmp .d0 .d3],(ad 3 [bB cg,
 cd hq]
 (ad 247 [.p (.L (.load bd)),
 .p (.L (.load cG)),
 .p (aR 72 [br,ai]),
 .p jy,
 .p jz,
 dJ fL,
 dN fL]
 (ad 7 [.p (.L (.load cG)),
 .p (.L (.bin .add ai tT)),
 .p (bE 1 cG ai)]
 (ad 12 [bB mu,
 cd kp]
 .ret))))⟩
def i72:ct:=
 ⟨2,[0,1,4,5,19],[.tmp .d0 .d2, .tmp .d0 .d3],(ad 3 [bB cg,
 cd hq]
 (.seq (ad 16250 [.p (.L (.bin .lss cG iC)),
 .g ai false cQ,
 .g br false e0,
 .g cm false (.L (.bin .lss ai tT)),
 .p vt,
 .g ai false jI,
 .g br false cQ,
 .g cm false e0,
 .g df false L2,
 .g fP false (.L (.bin .gtr df ai)),
 dJ DP]
 (.cond ep (ad 3 [bB cg,
 cd hq]
 .ret) .skip))
 (.seq (.draw [0,1,2,3,4,5,6,7,8,9,10,11,12,13,14,15,16,17,18,19,20,21,22,23,24,25,26,27,28,29,30] [ar cQ,
 ar jI,
 ar iP,
 ar aN,
 ar w5,
 ar (.L (.mb true ai (.c (.int .u64 24)))),
 ar cQ,
 ar jI,
 ar Bd,
 ar Bc,
 ar aN,
 ar w5,
 ar (.L (.mb true ai (.c (.int .u64 16)))),
 ar (.L (.bin .or nQ ai)),
 ar cQ,
 ar jI,
 ar (.L (.bin .add ai lW)),
 ar Bc,
 ar aN,
 ar w5,
 ar (.L (.mb true ai (.c (.int .u64 8)))),
 ar (.L (.bin .or nQ ai)),
 ar cQ,
 ar jI,
 ar (.L (.bin .add ai yC)),
 ar Bc,
 ar aN,
 ar w5,
 ar (.L (.bin .or j8 ai)),
 ⟨bB jA,[]⟩,
 ⟨cd tU,[]⟩])
 .ret)))⟩
def i73:ct:=
 ⟨1,[0,2,3,5,12,4],[.tmp .d0 .d1, .tmp .d0 .d2],(ad 3 [b5 cg,
 bB (.L (.dm A1))]
 (ad 122 [.p (aR 106 [bd]),
 .p jy,
 .p jz,
 dN fL,
 cd fL]
 (.seq (ad 2 [dJ (.L (.eq true .e8 cY A1))]
 (.cond ep (ad 56 [.p (aR 107 [(.c (.str 4 1768911937)),bd,iC,iC,cY]),
 b5 kp,
 bB fL]
 .ret) .skip))
 (ad 6 [b5 kp,
 bB (.L (.dm A1))]
 .ret))))⟩
def i74:ct:=
 ⟨1,[0,2,4],[.tmp .d0 .d1],(ad 1 [b5 ed]
 (.seq (ad 2 [bB (.L (.eq false .av bd sJ))]
 (.cond db (ad 1 [b5 ed]
 .ret) .skip))
 (ad 5 [.p (.L (.fA 1 0 [.str 0 0] [])),
 b5 (.H (.append 1 16 ai bd))]
 .ret)))⟩
def i75:ct:=
 ⟨1,[0,2],[.tmp .d0 .d1],(ad 1 [b5 pq]
 (ad 2 [b5 (aR 108 [bd,sK])]
 .ret))⟩
def i76:ct:=
 ⟨1,[0,2],[.tmp .d0 .d1],(ad 1 [b5 ed]
 (ad 3510 [.p (.L (.mb false bd (.c (.int .u64 24)))),
 .p Hy,
 .p (.L (.mb false bd (.c (.int .u64 16)))),
 .p Hy,
 .p (.L (.mb false bd (.c (.int .u64 8)))),
 .p Hy,
 .p (.L (.conv .u8 bd)),
 b5 (.L (.fA 1 4 [.int .u8 0] [(0,1,hQ),(1,1,df),(2,1,br),(3,1,ai)]))]
 .ret))⟩
def i78:ct:=
 ⟨1,[0,2,8,3,13,25,4,5,32,44],[.tmp .d0 .d1],(ad 1 [b5 ed]
 (.seq (ad 6 [.p jf,
 bB (.L (.bin .lss ai lW))]
 (.cond db (ad 2 [b5 cQ]
 .ret) .skip))
 (.seq (ad 1 [cd DX]
 (.block 0 (.loop (.seq (ad 12 [.p jf,
 dJ vx]
 (.cond ep .skip (.exit 0)))
 (.seq (.block 1 (.seq (.draw [0,1,2,3,4,5,6,7,8,9] [ar cQ,
 ar lv,
 ar iP,
 ar aN,
 ar cQ,
 ar lv,
 ar nS,
 ar Bc,
 ar aN,
 ⟨dN (.L (.fu .eql hQ ai)),[]⟩])
 (.cond c9 (ad 4 [eV (.L (.kF 1 bd (some cY) none none))]
 (.seq (ad 1 [dK DX]
 (.block 2 (.loop (.seq (ad 12 [.p (.L (.len false de)),
 fc (.L (.bin .lss dw ai))]
 (.cond ew .skip (.exit 2)))
 (.seq (.block 3 (.seq (.draw [0,1,2,3,4,5,6,7,8,9] [ar qu,
 ar lx,
 ar iP,
 ar aN,
 ar qu,
 ar lx,
 ar nS,
 ar Bc,
 ar aN,
 ⟨gU (.L (.fu .neq hQ ai)),[]⟩])
 (.cond iO (ad 240 [.p (.L (.bQ 1 de dw)),
 .p aN,
 .p DW,
 .p (bE 1 ai br)]
 (.aG 2 [cd oJ])) .skip)))
 (.aG 2 [dK DT]))))))
 (ad 12 [.p (.L (.kF 1 bd (some cY) none none)),
 .p (.H (.clear [.str 0 0] ai))]
 (ad 4 [b5 (.L (.kF 1 bd none (some cY) none))]
 .ret)))) .skip)))
 (.aG 2 [cd oJ]))))))
 (ad 2 [b5 cQ]
 .ret))))⟩
def i80:ct:=
 ⟨2,[0,1,4,8,7,9,5,16],[.tmp .d0 .d2],(ad 1 [bB cg]
 (.seq (ad 6 [dJ jf,
 cd cg]
 (.block 0 (.loop (ad 1 [dN A9]
 (.seq (.cond c9 .skip (.exit 0))
 (.seq (.block 1 (ad 2 [eV lv]
 (ad 56 [.p LY,
 .p aN,
 dK (.H (.sb cG [ai]))]
 (.cond dw (ad 2 [bB qu]
 .ret) .skip))))
 (.aG 1 [cd oJ])))))))
 (ad 1 [bB (.L (.dm vr))]
 .ret)))⟩
def i81:ct:=
 ⟨2,[0,1,4,8,7,9,5,16],[.tmp .d0 .d2],(ad 1 [bB cg]
 (.seq (ad 6 [dJ jf,
 cd cg]
 (.block 0 (.loop (ad 1 [dN A9]
 (.seq (.cond c9 .skip (.exit 0))
 (.seq (.block 1 (ad 2 [eV lv]
 (ad 56 [.p LY,
 .p aN,
 dK (.L (.fu .eql cG ai))]
 (.cond dw (ad 2 [bB qu]
 .ret) .skip))))
 (.aG 1 [cd oJ])))))))
 (ad 1 [bB (.L (.dm vr))]
 .ret)))⟩
def i82:ct:=
 ⟨2,[0,1,4,5],[.tmp .d0 .d2],(ad 1 [bB hq]
 (.seq (.draw [0,1,2,3,4,5,6,7,8,9,10,11] [ar cQ,
 ar hR,
 ar iD,
 ar aN,
 ar cQ,
 ar hR,
 ar hs,
 ar aN,
 ar vy,
 ar w4,
 ⟨cd Hv,[]⟩,
 ar (bE 3 ai br)])
 (ad 2064350 [.p gy,
 .p lu,
 .p aN,
 .p nR,
 .g ai true mv,
 .g br true aN,
 .g cm true (.L (.bin .eql ai tT)),
 .g df true jA,
 .g ai false mv,
 .g br false aN,
 .g cm false (.L (.bin .eql ai yC)),
 .g nQ true vt,
 .p (.L (.pick qt ai kT)),
 .g ai true DN,
 .g br true aN,
 .g cm true jI,
 .g df true (.L (.fu .eql br ai)),
 bB DC]
 .ret)))⟩
def i83:ct:=
 ⟨1,[0,2,4,8,3],[.tmp .d0 .d1],(ad 1 [b5 cg]
 (ad 1 [dJ cg]
 (.seq (ad 1 [bB cg]
 (.block 0 (.loop (.seq (ad 12 [.p tX,
 cd LW]
 (.cond cY .skip (.exit 0)))
 (.seq (.block 1 (.aG 242 [.p (.L (.bin .mul sK ep)),
 .p (.L (.lM bd db)),
 .p (.L (.bin .sub ai Hb)),
 .p w5,
 dJ (.L (.bin .add df ai))]))
 (.aG 2 [bB D3]))))))
 (ad 2 [b5 mu]
 .ret))))⟩
def i84:ct:=
 ⟨1,[0,2,15,3],[.tmp .d0 .d1],(ad 1 [b5 ed]
 (ad 1 [cd ed]
 (ad 2 [.p (aR 110 [bd,(.c (.str 1 123))])]
 (.seq (.block 0 (.loop (.seq (ad 990 [.p gy,
 .p lu,
 .p aN,
 .p nR,
 .g ai true cQ,
 .g br true (aR 82 [ai,Hd]),
 .g cm true kU,
 bB Hf]
 (.cond db .skip (.exit 0)))
 (.block 1 (.aG 28 [.p (aR 111 [bd]),
 .p (.L (.fA 12 1 [.int .i64 0, .int .i64 0, .str 0 0, .str 0 0, .str 0 0, .bool false, .str 0 0, .str 0 0, .U, .U, .U, .U] [(0,12,ai)])),
 cd (.H (.append 12 200 cY ai))])))))
 (ad 2 [.p (aR 55 [bd,Hd])]
 (ad 254 [.p gy,
 .p rD,
 .p aN,
 .p nS,
 .p gy,
 .p rD,
 .p (bE 1 ai cm)]
 (ad 2 [b5 lv]
 .ret)))))))⟩
def i85:ct:=
 ⟨2,[0,1,4,2],[.tmp .d0 .d2],(ad 3 [cd (.L (.box 6 bd)),
 bB cg]
 (ad 11 [.p mv,
 .p aN,
 bB (aR 81 [ai,cG])]
 .ret))⟩
def i95:ct:=
 ⟨1,[0,2,4,8,14],[.tmp .d0 .d1],(ad 1 [b5 cg]
 (.seq (ad 2 [bB (.L (.bin .geq bd (.c (.int .u64 4294967296))))]
 (.cond db (ad 2 [yT (.L (.mb false bd (.c (.int .u64 32))))]
 (.aG 1 [b5 (.L (.dm (.c (.int .i64 32))))])) .skip))
 (.seq (ad 2 [cd (.L (.bin .geq bd (.c (.int .u64 65536))))]
 (.cond cY (ad 2 [yT (.L (.mb false bd (.c (.int .u64 16))))]
 (.aG 2 [b5 (.L (.bin .add cG (.c (.int .i64 16))))])) .skip))
 (.seq (ad 2 [dJ (.L (.bin .geq bd (.c (.int .u64 256))))]
 (.cond ep (ad 2 [yT (.L (.mb false bd (.c (.int .u64 8))))]
 (.aG 2 [b5 (.L (.bin .add cG A2))])) .skip))
 (ad 60 [.p (.L (.conv .u8 bd)),
 .p (.L (.lM (.c (.str 256 1013866857139168856493015739252390649739422828853819106890363778118420553376247557433637691341895324351018602695588957474325319502760499485336098898398377509666851054660423406800006203933793007272033180812049178612605246075062580585469430410618860250057463399279570354286669047577758927328864388992123306212451509403152394148136105363817402562688186708175358218852349079190158732807302672745370040257219644697201681238697346923541678507645485296520536209706771857694240900605172937619415410180424934769249448772944216470541052485265558808433676546390051204254346932932316488017972311616136051587427851453983453479168)) ai)),
 .p w5,
 b5 (.L (.bin .add cG ai))]
 .ret)))))⟩
def i105:ct:=
 ⟨2,[0,1,4,5,7,6,19,8,24,47,10,12,65,9,11,14,74,13],[.cell .d0 .d2 (some 6), .tmp .d0 .d3],(ad 3 [bB wY,
 cd hq]
 (ad 2 [dN jf]
 (.seq (ad 1 [dJ cg]
 (.block 0 (.loop (.seq (ad 4 [eV (.L (.bin .lss ep c9))]
 (.cond de .skip (.exit 0)))
 (.seq (.block 1 (ad 1 [dK cg]
 (.block 2 (.loop (.seq (ad 4 [fc (.L (.bin .lss dw c9))]
 (.cond ew .skip (.exit 2)))
 (.seq (.block 3 (ad 2093044 [.p (.L (.bin .neq ep dw)),
 .g ai true jI,
 .g br true mu,
 .g cm true iP,
 .g df true aN,
 .g fP true lx,
 .g hQ true iP,
 .g j8 true aN,
 .p Hx,
 .g ai true jI,
 .g br true lx,
 .g cm true iP,
 .g df true aN,
 .g fP true mu,
 .g hQ true iP,
 .g j8 true aN,
 gU Hx]
 (.cond iO (ad 7 [.p yE,
 .p (bE 6 db ai),
 cd hq]
 .ret) .skip)))
 (.aG 2 [dK DT])))))))
 (.aG 2 [dJ A8]))))))
 (ad 122 [.p (aR 120 [cG]),
 .p jy,
 .p jz,
 jg fL,
 jB fL]
 (ad 246 [.p (aR 121 [cG]),
 .p (aR 120 [ai]),
 .p jy,
 .p jz,
 kq fL,
 jC fL]
 (.seq (ad 58 [.p (.L (.not jx)),
 .g ai false (.L (.dm gE)),
 .g br false kU,
 hv w3]
 (.cond fq (ad 7 [.p yE,
 .p (bE 6 db ai),
 cd hq]
 .ret) .skip))
 (ad 112 [.p (.L (.build [.U, .U, .U, .U, .int .i64 0, .int .i64 0] [(0,1,bd),(1,1,cG),(2,1,hl),(3,1,ho)])),
 ps wY,
 .p (bE 6 ai br)]
 (.seq (ad 1 [kW cg]
 (.block 4 (.loop (.seq (ad 4 [oK (.L (.bin .lss lq c9))]
 (.cond ko .skip (.exit 4)))
 (.seq (.block 5 (ad 990 [.p (.L (.b3 5 lr)),
 .p aN,
 .p (.L (.bQ 1 hl ai)),
 .p aN,
 .p (.L (.bQ 1 ai lq)),
 .p aN,
 .p (.L (.b3 5 lr)),
 .p (bE 1 ai br)]
 (.aG 990 [.p (.L (.b3 4 lr)),
 .p aN,
 .p (.L (.bQ 1 ho ai)),
 .p aN,
 .p (.L (.bQ 1 ai lq)),
 .p aN,
 .p (.L (.b3 4 lr)),
 .p (bE 1 ai br)])))
 (.aG 2 [kW (.L (.bin .add lq fK))]))))))
 (ad 7 [.p (.L (.dd 6 lr)),
 .p (bE 6 db ai),
 cd tU]
 .ret)))))))))⟩
def i106:ct:=
 ⟨1,[0,2,3,4,30,39,44,49,48,50,47,8,56,6,5,66,9,10],[.tmp .d0 .d1, .tmp .d0 .d2],(ad 3 [b5 cg,
 bB (.L (.dm A1))]
 (ad 2 [cd tX]
 (.seq (ad 261886 [.g kT true lv,
 .g kT true (.L (.bin .lss iC ai)),
 .g kT true jA,
 .g ai true lv,
 .g br true (.L (.bin .lss ai sK)),
 .g kT true yK,
 .p (.L (.pick kT ai kT)),
 .g ai false tU,
 .g ai true lv,
 .g br true (.L (.bin .lss iC ai)),
 .g cm true jA,
 .g ai true lv,
 .g br true (.L (.bin .lss ai (.c (.int .i64 19)))),
 .g hQ true yK,
 .g nQ false LX,
 dJ (.L (.pick qt nj ai))]
 (.cond ep (ad 2 [kq cQ]
 (.seq (ad 246 [.p (.L (.lM bd iC)),
 .p (.L (.bin .eql ai Dx)),
 .g ai false cQ,
 .g br false (.L (.lM ai iC)),
 .g cm false (.L (.bin .eql ai (.c (.int .u8 43)))),
 dN vt]
 (.cond c9 (ad 2 [yT (.L (.o2 bd (some fK) none))]
 (ad 6 [.p tX,
 eV (.L (.bin .lss ai fK))]
 (.cond de (ad 7 [.p (.L (.e8 180 lW)),
 b5 cg,
 bB fL]
 .ret) .skip))) .skip))
 (ad 1 [jg cg]
 (.seq (ad 14 [jB (.L (.v8 bd)),
 fc e0,
 dK cg]
 (.block 0 (.loop (ad 1 [gU (.L (.bin .lss dw ew))]
 (.seq (.cond iO .skip (.exit 0))
 (.seq (.block 1 (ad 3 [.p (.L (.bQ 1 jx dw)),
 jC aN]
 (ad 2 [jC (.L (.bin .sub gE Hb))]
 (.seq (ad 2 [hv (.L (.bin .gtr gE (.c (.int .u8 9))))]
 (.cond fq (ad 7 [.p (.L (.e8 180 lW)),
 b5 cg,
 bB fL]
 .ret) .skip))
 (.aG 26 [.p (.L (.bin .mul hl sK)),
 .p (.L (.conv .i64 gE)),
 jg (.L (.bin .add br ai))])))))
 (.aG 1 [dK DT])))))))
 (.seq (ad 6 [.p (.L (.lM ho iC)),
 kW (.L (.bin .eql ai Dx))]
 (.cond lq (.aG 2 [jg (.L (.neg hl))]) .skip))
 (ad 6 [b5 yJ,
 bB (.L (.dm A1))]
 .ret)))))) .skip))
 (ad 122 [.p (aR 122 [bd,sK,iC]),
 .p jy,
 .p jz,
 oK fL,
 ps fL]
 (ad 12 [b5 (.L (.dm ko)),
 bB (.L (.dm lr))]
 .ret)))))⟩
def i108:ct:=
 ⟨2,[0,1,4,11,17,23,6,7,5,34,9],[.tmp .d0 .d2],(ad 1 [bB pq]
 (.seq (ad 2 [cd (.L (.bin .eql cG sK))]
 (.cond cY (.seq (ad 58 [.p (.L (.bin .leq iC bd)),
 .g ai true cQ,
 .g br true (.L (.bin .lss ai (.c (.int .i64 100)))),
 dJ yK]
 (.cond ep (ad 2 [bB (aR 127 [bd])]
 .ret) .skip))
 (ad 1 [fc (.L (.alloc [.int .u8 0, .int .u8 0, .int .u8 0, .int .u8 0, .int .u8 0, .int .u8 0, .int .u8 0, .int .u8 0, .int .u8 0, .int .u8 0, .int .u8 0, .int .u8 0, .int .u8 0, .int .u8 0, .int .u8 0, .int .u8 0, .int .u8 0, .int .u8 0, .int .u8 0, .int .u8 0, .int .u8 0, .int .u8 0, .int .u8 0, .int .u8 0]))]
 (ad 2 [eV (.L (.conv .u64 bd))]
 (.seq (ad 2 [dN L3]
 (.cond c9 (.aG 2 [eV (.L (.neg de))]) .skip))
 (ad 2 [dK (aR 128 [de])]
 (ad 22 [.p L4,
 .p Q4,
 .p (aR 129 [ai,de])]
 (.seq (ad 2 [gU L3]
 (.cond iO (ad 3 [.p (.L (.tl 24 1 ew iC)),
 .p (bE 1 ai Dx)]
 (ad 14 [.p L4,
 .p (.L (.wc 24 1 ew none (some ai) none)),
 bB (.L (.sa ai))]
 .ret)) .skip))
 (ad 14 [.p L4,
 .p Q4,
 bB (.L (.sa ai))]
 .ret)))))))) .skip))
 (ad 1458 [.p (.L (.conv .u64 bd)),
 .p L3,
 .p (aR 130 [sJ,br,cG,ai,kT]),
 .p jy,
 .p jz,
 jB jA]
 (ad 2 [bB D1]
 .ret))))⟩
def i110:ct:=
 ⟨2,[0,1,13],[],(.seq (ad 1012 [.p (aR 82 [bd,cG]),
 .g ai true cQ,
 .g br true hR,
 .g cm true rD,
 .g df true aN,
 .g fP true (.L (.bin .geq ai (.c (.int .i64 40)))),
 bB LI]
 (.cond db (.aG 2 [.p (aR 61 [bd,(.c (.int .i64 12))])]) .skip))
 (ad 4 [.p (aR 55 [bd,cG])]
 (.aG 254 [.p gy,
 .p rD,
 .p aN,
 .p Bd,
 .p gy,
 .p rD,
 .p (bE 1 ai cm)])))⟩
def i111:ct:=
 ⟨1,[0,2,12,3,4,5,47,64,73,79,86,90,101,106],[.cell .d0 .d1 (some 12)],(ad 1 [b5 L5]
 (ad 30 [.p (aR 56 [bd]),
 .p (.L (.build [.int .i64 0, .int .i64 0, .str 0 0, .str 0 0, .str 0 0, .bool false, .str 0 0, .str 0 0, .U, .U, .U, .U] [(1,1,ai)])),
 cd L5,
 .p (bE 12 ai br)]
 (.seq (.block 0 (.seq (.draw [0,1,2,3,4,5,6,7,8,9,10,11,12,13,14,15,16,17,18,19] [ar cQ,
 ar hR,
 ar lu,
 ar aN,
 ar nR,
 ar jA,
 ⟨.g ai true cQ,[]⟩,
 ⟨.g br true hR,[]⟩,
 ⟨.g cm true iD,[]⟩,
 ⟨.g df true aN,[]⟩,
 ⟨.g fP true cQ,[]⟩,
 ⟨.g hQ true hR,[]⟩,
 ⟨.g j8 true hs,[]⟩,
 ⟨.g nQ true aN,[]⟩,
 ⟨.g qt true vy,[]⟩,
 ⟨.g yB true iD,[]⟩,
 ⟨.g yA true aN,[]⟩,
 ⟨.g (.l 11) true (.L (.bin .eql ai fK)),[]⟩,
 ar LS,
 ⟨bB jA,[]⟩])
 (.cond db (ad 122 [.p (aR 140 [bd]),
 .p jy,
 .p jz,
 dJ fL,
 dN fL]
 (ad 3 [.p mv,
 .p (bE 1 ai lW)]
 (ad 6 [.p Ht,
 .p (bE 1 ai ep)]
 (ad 6 [.p Ba,
 .p (bE 1 ai c9)]
 (ad 2 [.p (aR 55 [bd,Dy])]
 (.aG 14 [.p (aR 141 [bd,sJ]),
 .p D5,
 .p (bE 1 ai br)])))))) (ad 2 [eV (aR 58 [bd,(.c (.str 3 7628140))])]
 (.cond de (ad 3 [.p mv,
 .p (bE 1 ai fK)]
 (ad 14 [.p (aR 57 [bd]),
 .p Ba,
 .p (bE 1 ai br)]
 (ad 2 [.p (aR 55 [bd,(.c (.str 1 58))])]
 (ad 14 [.p (aR 57 [bd]),
 .p (.L (.b3 4 cY)),
 .p (bE 1 ai br)]
 (ad 2 [.p (aR 55 [bd,Dy])]
 (.aG 14 [.p (aR 141 [bd,sJ]),
 .p D5,
 .p (bE 1 ai br)])))))) (ad 2 [dK (aR 58 [bd,(.c (.str 6 128009175786866))])]
 (.cond dw (ad 3 [.p mv,
 .p (bE 1 ai yC)]
 (ad 2 [.p (aR 55 [bd,Dy])]
 (.aG 14 [.p (aR 141 [bd,sJ]),
 .p D5,
 .p (bE 1 ai br)]))) (ad 2 [fc (aR 58 [bd,(.c (.str 4 1819042147))])]
 (.cond ew (.aG 14 [.p Be,
 .p (aR 142 [bd,ai]),
 .p (bE 12 cY ai)]) (ad 2 [gU (aR 58 [bd,(.c (.str 4 1953066341))])]
 (.cond iO (ad 3 [.p mv,
 .p (bE 1 ai Dw)]
 (.aG 14 [.p (aR 57 [bd]),
 .p Ba,
 .p (bE 1 ai br)])) (ad 2 [jB (aR 58 [bd,(.c (.str 4 1885956979))])]
 (.cond jx (.aG 3 [.p mv,
 .p (bE 1 ai A2)]) (ad 2 [jC (aR 58 [bd,(.c (.str 2 26217))])]
 (.cond gE (ad 3 [.p mv,
 .p (bE 1 ai (.c (.int .i64 5)))]
 (ad 14 [.p (aR 141 [bd,sJ]),
 .p D5,
 .p (bE 1 ai br)]
 (ad 14 [.p (aR 84 [bd]),
 .p (.L (.b3 10 cY)),
 .p (bE 1 ai br)]
 (.seq (ad 2 [hv (aR 58 [bd,(.c (.str 4 1702063205))])]
 (.cond fq (.aG 14 [.p (aR 84 [bd]),
 .p (.L (.b3 11 cY)),
 .p (bE 1 ai br)]) .skip))
 (ad 3 [.p Be,
 .p (bE 12 cG ai)]
 .ret))))) (ad 2 [jg (aR 58 [bd,(.c (.str 5 435610544247))])]
 (.cond hl (ad 3 [.p mv,
 .p (bE 1 ai Du)]
 (ad 14 [.p (aR 141 [bd,sJ]),
 .p D5,
 .p (bE 1 ai br)]
 (ad 14 [.p (aR 84 [bd]),
 .p (.L (.b3 10 cY)),
 .p (bE 1 ai br)]
 (ad 3 [.p Be,
 .p (bE 12 cG ai)]
 .ret)))) (ad 2 [.p (aR 61 [bd,A0])]
 (ad 3 [.p Be,
 .p (bE 12 cG ai)]
 .ret)))))))))))))))))))
 (ad 2 [.p (aR 55 [bd,Dv])]
 (ad 3 [.p Be,
 .p (bE 12 cG ai)]
 .ret)))))⟩
def i120:ct:=
 ⟨1,[0,2,3,5,14,7,20,9,29,8,10,55,6,4],[.tmp .d0 .d1, .tmp .d0 .d2],(ad 3 [b5 ed,
 bB hq]
 (ad 1 [jg ed]
 (.seq (ad 1 [cd cg]
 (.block 0 (.loop (.seq (ad 12 [.p jf,
 dJ vx]
 (.cond ep .skip (.exit 0)))
 (.seq (.block 1 (ad 1 [hv ed]
 (.seq (ad 1 [dN cg]
 (.block 2 (.loop (.seq (ad 12 [.p jf,
 eV DJ]
 (.cond de .skip (.exit 2)))
 (.seq (.block 3 (ad 6 [.p jf,
 gU (.L (.o1 1 [.bool false] 1 ai ai))]
 (.seq (ad 1 [dK cg]
 (.block 4 (.loop (.seq (ad 12 [.p jf,
 fc (.L (.bin .lss dw ai))]
 (.cond ew .skip (.exit 4)))
 (.seq (.block 5 (.aG 1047984 [.p DW,
 .p aN,
 .p (.L (.bQ 1 ai dw)),
 .p aN,
 .g ai true cQ,
 .g br true kp,
 .g cm true iP,
 .g df true aN,
 .g fP true lx,
 .g hQ true iP,
 .g j8 true aN,
 .p Hx,
 .p (.L (.bQ 1 iO dw)),
 .p (bE 1 ai br)]))
 (.aG 2 [dK DT]))))))
 (ad 4 [jB (aR 145 [bd,iO])]
 (.seq (ad 2 [jC (.L (.bin .lss jx iC))]
 (.cond gE (ad 3 [b5 ed,
 bB hq]
 .ret) .skip))
 (.aG 12 [.p (.L (.fA 1 1 [.int .i64 0] [(0,1,jx)])),
 hv (.H (.append 1 8 fq ai))]))))))
 (.aG 2 [dN DL]))))))
 (.aG 12 [.p (.L (.fA 1 1 [.U] [(0,1,fq)])),
 jg (.H (.append 1 24 hl ai))]))))
 (.aG 2 [cd oJ]))))))
 (ad 6 [b5 yJ,
 bB tU]
 .ret))))⟩
def i121:ct:=
 ⟨1,[0,2,4,10,6,19,5,3],[.tmp .d0 .d1],(ad 1 [b5 ed]
 (ad 1 [dK ed]
 (.seq (ad 1 [bB cg]
 (.block 0 (.loop (.seq (ad 12 [.p jf,
 cd LW]
 (.cond cY .skip (.exit 0)))
 (.seq (.block 1 (ad 6 [.p jf,
 eV (.L (.o1 1 [.bool false] 1 ai ai))]
 (.seq (ad 1 [dJ cg]
 (.block 2 (.loop (.seq (ad 12 [.p jf,
 dN DQ]
 (.cond c9 .skip (.exit 2)))
 (.seq (.block 3 (.aG 1968 [.p (.L (.bQ 1 bd ep)),
 .p aN,
 .p (.L (.bQ 1 ai db)),
 .p aN,
 .p (.L (.bQ 1 de ep)),
 .p (bE 1 ai br)]))
 (.aG 2 [dJ A8]))))))
 (.aG 12 [.p (.L (.fA 1 1 [.U] [(0,1,de)])),
 dK (.H (.append 1 24 dw ai))]))))
 (.aG 2 [bB D3]))))))
 (ad 2 [b5 lx]
 .ret))))⟩
def i127:ct:=
 ⟨1,[0,2,4],[.tmp .d0 .d1],(ad 1 [b5 pq]
 (.seq (ad 2 [bB (.L (.bin .lss bd sK))]
 (.cond db (ad 12 [.p (.L (.bin .add bd fK)),
 b5 (.L (.o2 DA (some bd) (some ai)))]
 .ret) .skip))
 (ad 58 [.p (.L (.bin .mul bd lW)),
 .p (.L (.bin .mul bd lW)),
 .p (.L (.bin .add ai lW)),
 b5 (.L (.o2 Q0 (some cm) (some ai)))]
 .ret)))⟩
def i128:ct:=
 ⟨1,[0,2,3],[.tmp .d0 .d1],(ad 1 [b5 cg]
 (ad 6 [.p (aR 95 [bd]),
 bB (aR 149 [ai])]
 (ad 248 [.p (.L (.tl 20 1 (.c .bot) db)),
 .p aN,
 .p (.L (.bin .geq bd ai)),
 .p (aR 150 [ai]),
 b5 (.L (.bin .add db ai))]
 .ret)))⟩
def i129:ct:=
 ⟨2,[0,1,4,20,5,7,6,9,8,11,10,99,12,13,15,14,139,16,161],[],(ad 2 [bB jf]
 (.seq (.block 0 (.loop (.seq (ad 2 [cd (.L (.bin .geq db A2))]
 (.cond cY .skip (.exit 0)))
 (.block 1 (ad 6 [.p (.L (.bin .rem cG (.c (.int .u64 100000000)))),
 dJ (.L (.conv .u32 ai))]
 (ad 2 [b5 (.L (.bin .quo cG (.c (.int .u64 100000000))))]
 (ad 58 [.p (.L (.bin .quo ep He)),
 .p (.L (.bin .rem ep He)),
 eV fL,
 dN fL]
 (ad 246 [.p (.L (.bin .quo c9 wW)),
 .p yP,
 .p (.L (.bin .rem c9 wW)),
 .p yP,
 fc mr,
 dK fL]
 (ad 246 [.p (.L (.bin .quo de wW)),
 .p yP,
 .p (.L (.bin .rem de wW)),
 .p yP,
 jB mr,
 gU fL]
 (.seq (.draw [0,1,2,3,4,5,6,7,8,9,10,11,12,13,14] [ar cQ,
 ar kV,
 ar nS,
 ar cQ,
 ar kV,
 ar L6,
 ar lx,
 ar yQ,
 ar pr,
 ar lx,
 ar pr,
 ar yR,
 ar (bE 1 ai df),
 ar yS,
 ar (bE 1 ai df)])
 (.seq (.draw [0,1,2,3,4,5,6,7,8,9,10,11,12,13,14] [ar cQ,
 ar kV,
 ar (.L (.bin .sub ai yC)),
 ar cQ,
 ar kV,
 ar L2,
 ar nk,
 ar yQ,
 ar pr,
 ar nk,
 ar pr,
 ar yR,
 ar (bE 1 ai df),
 ar yS,
 ar (bE 1 ai df)])
 (.seq (.draw [0,1,2,3,4,5,6,7,8,9,10,11,12,13,14] [ar cQ,
 ar kV,
 ar (.L (.bin .sub ai (.c (.int .i64 5)))),
 ar cQ,
 ar kV,
 ar (.L (.bin .sub ai Du)),
 ar A4,
 ar yQ,
 ar pr,
 ar A4,
 ar pr,
 ar yR,
 ar (bE 1 ai df),
 ar yS,
 ar (bE 1 ai df)])
 (.seq (.draw [0,1,2,3,4,5,6,7,8,9,10,11,12,13,14] [ar cQ,
 ar kV,
 ar (.L (.bin .sub ai Dw)),
 ar cQ,
 ar kV,
 ar (.L (.bin .sub ai A2)),
 ar D1,
 ar yQ,
 ar pr,
 ar D1,
 ar pr,
 ar yR,
 ar (bE 1 ai df),
 ar yS,
 ar (bE 1 ai df)])
 (.aG 2 [bB (.L (.bin .sub db A2))]))))))))))))))
 (ad 2 [hv (.L (.conv .u32 cG))]
 (.seq (ad 2 [jC (.L (.bin .geq db tT))]
 (.cond gE (ad 2 [jg (.L (.bin .rem fq He))]
 (ad 2 [hv (.L (.bin .quo fq He))]
 (ad 246 [.p (.L (.bin .quo hl wW)),
 .p yP,
 .p (.L (.bin .rem hl wW)),
 .p yP,
 kW mr,
 kq fL]
 (.seq (.draw [0,1,2,3,4,5,6,7,8,9,10,11,12,13,14] [ar cQ,
 ar kV,
 ar nS,
 ar cQ,
 ar kV,
 ar L6,
 ar yO,
 ar yQ,
 ar pr,
 ar yO,
 ar pr,
 ar yR,
 ar (bE 1 ai df),
 ar yS,
 ar (bE 1 ai df)])
 (.seq (.draw [0,1,2,3,4,5,6,7,8,9,10,11,12,13,14] [ar cQ,
 ar kV,
 ar (.L (.bin .sub ai yC)),
 ar cQ,
 ar kV,
 ar L2,
 ar w2,
 ar yQ,
 ar pr,
 ar w2,
 ar pr,
 ar yR,
 ar (bE 1 ai df),
 ar yS,
 ar (bE 1 ai df)])
 (.aG 2 [bB (.L (.bin .sub db tT))])))))) .skip))
 (.seq (ad 2 [oK (.L (.bin .geq db lW))]
 (.cond ko (ad 6 [.p (.L (.bin .rem fq wW)),
 ps yP]
 (ad 2 [hv (.L (.bin .quo fq wW))]
 (.seq (.draw [0,1,2,3,4,5,6,7,8,9,10,11,12,13,14] [ar cQ,
 ar kV,
 ar nS,
 ar cQ,
 ar kV,
 ar L6,
 ar (.L (.dm lr)),
 ar yQ,
 ar pr,
 ar (.L (.dm lr)),
 ar pr,
 ar yR,
 ar (bE 1 ai df),
 ar yS,
 ar (bE 1 ai df)])
 (.aG 2 [bB (.L (.bin .sub db lW))])))) .skip))
 (ad 2 [rE (.L (.bin .gtr db iC))]
 (.cond ni (.aG 60 [.p (.L (.bin .add (.c (.int .u32 48)) fq)),
 .p Hy,
 .p (.L (.bQ 1 bd iC)),
 .p (bE 1 ai br)]) .skip)))))))⟩
def i130:ct:=
 ⟨5,[0,1,2,3,4,10,11,28,30,34,15,46,13,16,12,14,17,68,18,89,94],[.tmp .d0 .d5, .tmp .d0 .d6],(ad 3 [dN ed,
 eV pq]
 (.seq (ad 954 [.p (.L (.bin .lss db lW)),
 .g ai false kV,
 .g br false (.L (.bin .eql ai sK)),
 .p w3,
 .g ai false kV,
 .g br false (.L (.bin .gtr ai (.c (.int .i64 36)))),
 dK w3]
 (.cond dw (.aG 3 [.p (.L (.e8 9 (.c (.str 41 216697390027125670893655747107225825579143285394002440301576320671928898198549784051036142863283315)))),
 .p (.H (.panic ai))]) .skip))
 (ad 1 [kq (.L (.alloc [.int .u8 0, .int .u8 0, .int .u8 0, .int .u8 0, .int .u8 0, .int .u8 0, .int .u8 0, .int .u8 0, .int .u8 0, .int .u8 0, .int .u8 0, .int .u8 0, .int .u8 0, .int .u8 0, .int .u8 0, .int .u8 0, .int .u8 0, .int .u8 0, .int .u8 0, .int .u8 0, .int .u8 0, .int .u8 0, .int .u8 0, .int .u8 0, .int .u8 0, .int .u8 0, .int .u8 0, .int .u8 0, .int .u8 0, .int .u8 0, .int .u8 0, .int .u8 0, .int .u8 0, .int .u8 0, .int .u8 0, .int .u8 0, .int .u8 0, .int .u8 0, .int .u8 0, .int .u8 0, .int .u8 0, .int .u8 0, .int .u8 0, .int .u8 0, .int .u8 0, .int .u8 0, .int .u8 0, .int .u8 0, .int .u8 0, .int .u8 0, .int .u8 0, .int .u8 0, .int .u8 0, .int .u8 0, .int .u8 0, .int .u8 0, .int .u8 0, .int .u8 0, .int .u8 0, .int .u8 0, .int .u8 0, .int .u8 0, .int .u8 0, .int .u8 0, .int .u8 0]))]
 (ad 1 [hv (.L (.dm (.c (.int .i64 65))))]
 (.seq (ad 1 [fc lv]
 (.cond ew (.aG 2 [b5 (.L (.neg cG))]) .skip))
 (.seq (ad 2 [gU (aR 151 [db])]
 (.cond iO (ad 14 [.p Hz,
 .p (aR 152 [ai]),
 kW (.L (.conv .u64 ai))]
 (ad 2 [jB Hz]
 (ad 6 [.p Hz,
 jg (.L (.bin .sub ai (.c (.int .u64 1))))]
 (.seq (.block 0 (.loop (.seq (ad 4 [jC (.L (.bin .geq cG jx))]
 (.cond gE .skip (.exit 0)))
 (.block 1 (ad 2 [hv D6]
 (ad 120 [.p (.L (.bin .and cG hl)),
 .p (.L (.lM DA ai)),
 .p D7,
 .p (bE 1 ai br)]
 (.aG 4 [b5 (.L (.mb false cG lq))])))))))
 (ad 2 [hv D6]
 (.aG 28 [.p (.L (.lM DA cG)),
 .p D7,
 .p (bE 1 ai br)])))))) (ad 2 [oK Hz]
 (.seq (.block 2 (.loop (.seq (ad 4 [ps (.L (.bin .geq cG ko))]
 (.cond lr .skip (.exit 2)))
 (.block 3 (ad 2 [hv D6]
 (ad 4 [rE (.L (.bin .quo cG ko))]
 (ad 496 [.p (.L (.bin .mul ni ko)),
 .p (.L (.bin .sub cG ai)),
 .p (.L (.lM DA ai)),
 .p D7,
 .p (bE 1 ai br)]
 (.aG 2 [b5 (.L (.dm ni))]))))))))
 (ad 2 [hv D6]
 (.aG 28 [.p (.L (.lM DA cG)),
 .p D7,
 .p (bE 1 ai br)]))))))
 (.seq (ad 1 [w6 lv]
 (.cond qs (ad 2 [hv D6]
 (.aG 6 [.p D7,
 .p (bE 1 ai Dx)])) .skip))
 (.seq (ad 1 [w7 mu]
 (.cond pn (ad 12 [.p Q5,
 dN (.H (.append 1 1 bd ai))]
 .ret) .skip))
 (ad 6 [.p Q5,
 eV (.L (.sa ai))]
 .ret)))))))))⟩
def i140:ct:=
 ⟨1,[0,2,3,8,4],[.tmp .d0 .d1, .tmp .d0 .d2],(ad 3 [b5 pq,
 bB pq]
 (ad 2 [dJ (aR 57 [bd])]
 (.seq (ad 2 [cd (aR 58 [bd,(.c (.str 1 46))])]
 (.cond cY (ad 28 [.p (aR 57 [bd]),
 b5 mu,
 bB fL]
 .ret) .skip))
 (ad 6 [b5 pq,
 bB mu]
 .ret))))⟩
def i141:ct:=
 ⟨2,[0,1,4,5,6,16,29,7,8],[.tmp .d0 .d2],(ad 1 [bB ed]
 (ad 4 [b5 (aR 157 [bd,cG])]
 (ad 1 [cd (.L (.fA 1 3 [.str 0 0] [(0,1,(.c (.str 2 15677))),(1,1,(.c (.str 1 60))),(2,1,(.c (.str 2 15676)))]))]
 (.seq (ad 1 [dJ cg]
 (.block 0 (.loop (.seq (ad 12 [.p (.L (.len false cY)),
 dN DQ]
 (.cond c9 .skip (.exit 0)))
 (.seq (.block 1 (ad 118 [.p vw,
 .p nS,
 .p (aR 56 [bd]),
 dK fL,
 fc fL]
 (ad 56 [.p (.L (.bQ 1 cY ep)),
 .p aN,
 eV (aR 58 [bd,ai])]
 (.cond de (ad 164 [.p (aR 157 [bd,cG]),
 .p (.L (.bin .add sK ep)),
 bB (aR 158 [br,dw,ai,ew])]
 .ret) .skip))))
 (.aG 2 [dJ A8]))))))
 (ad 2 [bB jI]
 .ret)))))⟩
def i142:ct:=
 ⟨2,[0,1,4,3,16,5,6,7,8,37,42,52],[.cell .d0 .d2 (some 12)],(ad 3 [cd (.L (.box 12 cG)),
 bB L5]
 (ad 3 [.p mv,
 .p (bE 1 ai tT)]
 (ad 122 [.p (aR 140 [bd]),
 .p jy,
 .p jz,
 dN fL,
 eV fL]
 (.seq (ad 2 [dJ (aR 58 [bd,Dy])]
 (.cond ep (ad 3 [.p (.L (.b3 5 cY)),
 .p (bE 1 ai nj)]
 (ad 6 [.p Ht,
 .p (bE 1 ai c9)]
 (ad 6 [.p Ba,
 .p (bE 1 ai de)]
 (ad 122 [.p (aR 140 [bd]),
 .p jy,
 .p jz,
 dK fL,
 fc fL]
 (ad 2 [dN lx]
 (.aG 2 [eV nk])))))) .skip))
 (ad 6 [.p (.L (.b3 6 cY)),
 .p (bE 1 ai c9)]
 (ad 6 [.p (.L (.b3 7 cY)),
 .p (bE 1 ai de)]
 (ad 2 [.p (aR 55 [bd,Hc])]
 (.seq (ad 6 [.p (aR 82 [bd,Dz]),
 gU kU]
 (.cond iO (.block 0 (.loop (.seq (ad 30 [.p gy,
 .p lu,
 .p aN,
 jB nR]
 (.cond jx .skip (.exit 0)))
 (.block 1 (.seq (.draw [0,1,2,3,4,5,6,7] [ar (.L (.b3 9 cY)),
 ar aN,
 ar cQ,
 ⟨.p (aR 141 [ai,sJ]),[1]⟩,
 ar (.L (.fA 1 1 [.U] [(0,1,ai)])),
 ar (.H (.append 1 24 df ai)),
 ar (.L (.b3 9 cY)),
 ar (bE 1 ai br)])
 (ad 6 [.p (aR 58 [bd,(.c (.str 1 44))]),
 jC kU]
 (.cond gE (.exit 0) .skip))))))) .skip))
 (ad 2 [.p (aR 55 [bd,Dz])]
 (ad 3 [.p Be,
 .p (bE 12 db ai)]
 .ret))))))))))⟩
def i145:ct:=
 ⟨2,[0,1,4,5,11,7,21,6,41],[.tmp .d0 .d2],(ad 1 [bB cg]
 (.seq (ad 1 [cd cg]
 (.block 0 (.loop (.seq (ad 12 [.p vw,
 dJ vx]
 (.cond ep .skip (.exit 0)))
 (.seq (.block 1 (ad 12 [.p (.L (.bQ 1 cG cY)),
 dK aN]
 (.seq (ad 1 [dN cg]
 (.block 2 (.loop (.seq (ad 12 [.p vw,
 eV DJ]
 (.cond de .skip (.exit 2)))
 (.seq (.block 3 (.aG 131068 [.g dw true jI,
 .g dw true kp,
 .g dw true iP,
 .g dw true aN,
 .g dw true kU,
 .g dw true jA,
 .g ai false cQ,
 .g br false lv,
 .g cm false iP,
 .g df false aN,
 .g fP false kp,
 .g hQ false iP,
 .g j8 false aN,
 .g dw true LN,
 dK (.L (.pick dw ai kT))]))
 (.aG 2 [dN DL]))))))
 (ad 1 [fc lx]
 (.cond ew (ad 2 [bB lv]
 .ret) .skip)))))
 (.aG 2 [cd oJ]))))))
 (ad 1 [bB (.L (.dm vr))]
 .ret)))⟩
def i149:ct:=
 ⟨1,[0,2],[.tmp .d0 .d1],(ad 1 [b5 cg]
 (ad 6 [.p (.L (.bin .mul bd (.c (.int .i64 78913)))),
 b5 (.L (.mb false ai (.c (.int .u64 18))))]
 .ret))⟩
def i150:ct:=
 ⟨1,[0,2,3],[.tmp .d0 .d1],(ad 1 [b5 cg]
 (.seq (ad 1 [bB cQ]
 (.cond db (ad 1 [b5 DX]
 .ret) .skip))
 (ad 1 [b5 cg]
 .ret)))⟩
def i151:ct:=
 ⟨1,[0,2],[.tmp .d0 .d1],(ad 1 [b5 hq]
 (ad 28 [.p (.L (.bin .sub bd fK)),
 .p L7,
 b5 nR]
 .ret))⟩
def i152:ct:=
 ⟨1,[0,2],[.tmp .d0 .d1],(ad 1 [b5 cg]
 (.seq (.cond kT (ad 6 [.p (.L (.conv .u32 bd)),
 b5 (aR 161 [ai])]
 .ret) .skip)
 (ad 2 [b5 (aR 162 [bd])]
 .ret)))⟩
def i157:ct:=
 ⟨2,[0,1,4,14,21,5,6,30],[.tmp .d0 .d2],(ad 1 [bB ed]
 (ad 4 [b5 (aR 164 [bd,cG])]
 (.seq (.block 0 (.loop (.seq (ad 30 [.p gy,
 .p lu,
 .p aN,
 cd nR]
 (.cond cY .skip (.exit 0)))
 (.block 1 (ad 118 [.p vw,
 .p nS,
 .p (aR 56 [bd]),
 dN fL,
 eV fL]
 (.block 2 (ad 2 [dJ (aR 58 [bd,(.c (.str 1 43))])]
 (.cond ep (.aG 36 [.p (aR 164 [bd,cG]),
 b5 (aR 158 [ai,c9,(.c (.int .i64 5)),de])]) (ad 2 [dK (aR 58 [bd,(.c (.str 1 45))])]
 (.cond dw (.aG 36 [.p (aR 164 [bd,cG]),
 b5 (aR 158 [ai,c9,Du,de])]) (ad 2 [bB jI]
 .ret)))))))))))
 (ad 2 [bB jI]
 .ret))))⟩
def i158:ct:=
 ⟨4,[0,1,2,3,8],[.tmp .d0 .d4],(ad 1 [dJ ed]
 (ad 944 [.p jf,
 .p nS,
 .p (.L (.build [.int .i64 0, .int .i64 0, .str 0 0, .str 0 0, .int .i64 0, .int .i64 0, .int .i64 0] [(0,1,db),(4,1,cG),(5,1,ai),(6,1,cY)])),
 .p HA,
 dJ (.H (.append 7 72 bd ai))]
 .ret))⟩
def i161:ct:=
 ⟨1,[0,2,4],[.tmp .d0 .d1],(ad 1 [b5 cg]
 (.seq (ad 2 [bB (.L (.bin .eql bd (.c (.int .u32 0))))]
 (.cond db (ad 1 [b5 (.L (.dm (.c (.int .i64 32))))]
 .ret) .skip))
 (ad 508 [.p (.L (.neg bd)),
 .p L7,
 .p (.L (.bin .mul ai (.c (.int .u32 125613361)))),
 .p (.L (.mb false ai (.c (.int .u64 27)))),
 .p (.L (.tl 32 1 (.c .bot) ai)),
 .p aN,
 b5 w5]
 .ret)))⟩
def i162:ct:=
 ⟨1,[0,2,4],[.tmp .d0 .d1],(ad 1 [b5 cg]
 (.seq (ad 2 [bB (.L (.bin .eql bd (.c (.int .u64 0))))]
 (.cond db (ad 1 [b5 (.L (.dm (.c (.int .i64 64))))]
 .ret) .skip))
 (ad 508 [.p (.L (.neg bd)),
 .p L7,
 .p (.L (.bin .mul ai (.c (.int .u64 285870213051353865)))),
 .p (.L (.mb false ai (.c (.int .u64 58)))),
 .p (.L (.tl 64 1 (.c .bot) ai)),
 .p aN,
 b5 w5]
 .ret)))⟩
def i164:ct:=
 ⟨2,[0,1,4,14,21,5,6,30,39],[.tmp .d0 .d2],(ad 1 [bB ed]
 (ad 4 [b5 (aR 165 [bd,cG])]
 (.seq (.block 0 (.loop (.seq (ad 30 [.p gy,
 .p lu,
 .p aN,
 cd nR]
 (.cond cY .skip (.exit 0)))
 (.block 1 (ad 118 [.p vw,
 .p nS,
 .p (aR 56 [bd]),
 dN fL,
 eV fL]
 (.block 2 (ad 2 [dJ (aR 58 [bd,(.c (.str 1 42))])]
 (.cond ep (.aG 36 [.p (aR 165 [bd,cG]),
 b5 (aR 158 [ai,c9,Dw,de])]) (ad 2 [dK (aR 58 [bd,(.c (.str 1 47))])]
 (.cond dw (.aG 36 [.p (aR 165 [bd,cG]),
 b5 (aR 158 [ai,c9,A2,de])]) (ad 2 [fc (aR 58 [bd,(.c (.str 1 37))])]
 (.cond ew (.aG 36 [.p (aR 165 [bd,cG]),
 b5 (aR 158 [ai,c9,AZ,de])]) (ad 2 [bB jI]
 .ret)))))))))))))
 (ad 2 [bB jI]
 .ret))))⟩
def i165:ct:=
 ⟨2,[0,1,4,13,25,5,34,6,59,77,97,7,8],[.tmp .d0 .d2],(ad 1 [bB ed]
 (.seq (ad 30 [.p gy,
 .p lu,
 .p aN,
 cd yD]
 (.cond cY (ad 2 [bB jI]
 .ret) .skip))
 (.seq (.draw [0,1,2,3,4,5,6,7,8,9,10,11] [ar cQ,
 ar hR,
 ar iD,
 ar aN,
 ar cQ,
 ar hR,
 ar hs,
 ar aN,
 ar vy,
 ar w4,
 ⟨dN Hv,[]⟩,
 ar (bE 3 ai br)])
 (.seq (.block 0 (ad 58 [.p (aR 82 [bd,(.c (.str 1 45))]),
 .g ai false cQ,
 .g br false (aR 82 [ai,(.c (.str 1 33))]),
 dJ w3]
 (.cond ep (ad 1 [dK (.L (.dm yC))]
 (.seq (ad 7 [.p D4,
 .p aN,
 eV (.L (.fu .eql ai (.c (.str 1 33))))]
 (.cond de (.aG 1 [dK (.L (.dm tT))]) .skip))
 (ad 14 [.p D4,
 .p aN,
 .p (aR 110 [bd,ai])]
 (ad 4 [b5 (aR 165 [bd,cG])]
 (ad 254 [.p gy,
 .p rD,
 .p aN,
 .p nS,
 .p gy,
 .p rD,
 .p (bE 1 ai cm)]
 (ad 1016 [.p vw,
 .p nS,
 .p Hw,
 .p aN,
 .p (.L (.build [.int .i64 0, .int .i64 0, .str 0 0, .str 0 0, .int .i64 0, .int .i64 0, .int .i64 0] [(0,1,dw),(4,1,cm),(5,1,vr),(6,1,ai)])),
 .p HA,
 bB (.H (.append 7 72 cG ai))]
 .ret)))))) (ad 2 [fc (aR 82 [bd,Hc])]
 (.cond ew (ad 2 [.p (aR 110 [bd,Hc])]
 (ad 4 [b5 (aR 141 [bd,cG])]
 (ad 2 [.p (aR 55 [bd,Dz])]
 (ad 254 [.p gy,
 .p rD,
 .p aN,
 .p nS,
 .p gy,
 .p rD,
 .p (bE 1 ai cm)]
 (ad 2 [bB jI]
 .ret))))) (ad 7 [.p (.L (.b3 0 c9)),
 .p aN,
 gU (.L (.bin .eql ai lW))]
 (.cond iO (ad 254 [.p gy,
 .p hs,
 .p aN,
 .p Bd,
 .p gy,
 .p hs,
 .p (bE 1 ai cm)]
 (.seq (.draw [0,1,2,4,5,3,6,7,8,9] [ar jI,
 ar D4,
 ar aN,
 ar Hw,
 ar aN,
 ⟨.p (aR 83 [cm]),[0]⟩,
 ar (.L (.build [.int .i64 0, .int .i64 0, .str 0 0, .str 0 0, .int .i64 0, .int .i64 0, .int .i64 0] [(0,1,fK),(1,1,ai),(4,1,vr),(5,1,vr),(6,1,br)])),
 ar HA,
 ar (.H (.append 7 72 nQ ai)),
 ⟨bB jA,[]⟩])
 .ret)) (ad 7 [.p (.L (.b3 0 c9)),
 .p aN,
 jB (.L (.bin .eql ai fK))]
 (.cond jx (ad 122 [.p (aR 140 [bd]),
 .p jy,
 .p jz,
 jC fL,
 hv fL]
 (ad 248 [.p Hw,
 .p aN,
 .p (.L (.build [.int .i64 0, .int .i64 0, .str 0 0, .str 0 0, .int .i64 0, .int .i64 0, .int .i64 0] [(0,1,lW),(2,1,gE),(3,1,fq),(4,1,vr),(5,1,vr),(6,1,ai)])),
 .p HA,
 bB (.H (.append 7 72 cG ai))]
 .ret)) .skip)))))))))
 (ad 2 [.p (aR 61 [bd,A0])]
 (ad 2 [bB jI]
 .ret))))))⟩
def kX {α:Type}:aI (Option α):=aI.all none
def eP {α:Type}:aI (aI (Option α)):=aI.all kX
def cF:T ct:=⟨⟨⟨⟨none,none,none,(some i3),none,none,none,(some i7)⟩,⟨(some i8),(some i9),(some i10),(some i11),(some i12),(some i13),(some i14),(some i15)⟩,⟨(some i16),(some i17),none,(some i19),(some i20),(some i21),none,(some i23)⟩,⟨(some i24),(some i25),(some i26),(some i27),none,(some i29),(some i30),none⟩,⟨(some i32),(some i33),(some i34),(some i35),(some i36),(some i37),(some i38),(some i39)⟩,⟨(some i40),(some i41),(some i42),(some i43),(some i44),(some i45),(some i46),(some i47)⟩,⟨(some i48),(some i49),(some i50),(some i51),(some i52),(some i53),(some i54),(some i55)⟩,⟨(some i56),(some i57),(some i58),(some i59),(some i60),(some i61),(some i62),(some i63)⟩⟩,⟨⟨none,none,none,none,(some i68),(some i69),(some i70),(some i71)⟩,⟨(some i72),(some i73),(some i74),(some i75),(some i76),none,(some i78),none⟩,⟨(some i80),(some i81),(some i82),(some i83),(some i84),(some i85),none,none⟩,⟨none,none,none,none,none,none,none,(some i95)⟩,⟨none,none,none,none,none,none,none,none⟩,⟨none,(some i105),(some i106),none,(some i108),none,(some i110),(some i111)⟩,⟨none,none,none,none,none,none,none,none⟩,⟨(some i120),(some i121),none,none,none,none,none,(some i127)⟩⟩,⟨⟨(some i128),(some i129),(some i130),none,none,none,none,none⟩,⟨none,none,none,none,(some i140),(some i141),(some i142),none⟩,⟨none,(some i145),none,none,none,(some i149),(some i150),(some i151)⟩,⟨(some i152),none,none,none,none,(some i157),(some i158),none⟩,⟨none,(some i161),(some i162),none,(some i164),(some i165),none,none⟩,kX,kX,kX⟩,⟨⟨none,none,none,none,none,none,none,none⟩,kX,kX,kX,kX,kX,kX,kX⟩,eP,eP,eP,eP⟩,none, .mt⟩
def kS:T ql:=⟨⟨eP,eP,eP,eP,eP,eP,eP,eP⟩,none, .mt⟩
end
end Go.Eng.YtmcjcbldmoijiaaGreatDoor
