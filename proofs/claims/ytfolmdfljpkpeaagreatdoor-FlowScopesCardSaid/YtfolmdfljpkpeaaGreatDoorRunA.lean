/- Part of a proof of a law, by an evaluator that the machine follows: rules, contracts of functions, what they come to. No condition of its own. -/
import Derived.Test.YtfolmdfljpkpeaaGreatDoorCtx
set_option maxRecDepth 1000000
namespace Go.Eng.YtfolmdfljpkpeaaGreatDoor
open Go.Eng
noncomputable section
def p7 : List C := [(.reg 1 [.s .d0 .d1 (.L (.mov (.c (.bool false))))]), (.reg 1 [.s .d0 .d2 (.L (.bsl 1 17 [.str 0 0] [(0, 1, (.c (.str 23 5669831644925546395505202621727614379600739162452682092))), (1, 1, (.c (.str 6 65082180313206))), (2, 1, (.c (.str 16 79037796660690285049136720453429388652))), (3, 1, (.c (.str 32 26775022923510068050015761651158403260108638159581428729636806650829851354729))), (4, 1, (.c (.str 33 6854405868418715204492737765229096658333584854114386918426313417230476327019884))), (5, 1, (.c (.str 51 323106348429077179571793767228962747288091277347800957966297043308670032840515104905870782362876535382283716564458571589225))), (6, 1, (.c (.str 16 78679528177451381942768116116518888812))), (7, 1, (.c (.str 16 78679528177451381942768116142288692588))), (8, 1, (.c (.str 45 543097817997679990440433623941359988607337475156291634715316168838763946926077700132602082178129927393077367))), (9, 1, (.c (.str 13 4704520608582576327925320982625))), (10, 1, (.c (.str 17 20141959213421981853850113136125006865772))), (11, 1, (.c (.str 11 71558614015382537372919154))), (12, 1, (.c (.str 13 4687211071966178192758898712931))), (13, 1, (.c (.str 14 1199925734930547169892032821616995))), (14, 1, (.c (.str 9 1091323645087558951267))), (15, 1, (.c (.str 8 4265225769005297274))), (16, 1, (.c (.str 8 4280441072900710497)))]))]), (.reg 1 [.s .d0 .d5 (.L (.bsl 1 17 [.int .i64 0] [(0, 1, (.c (.int .i64 0))), (1, 1, (.c (.int .i64 8))), (2, 1, (.c (.int .i64 8))), (3, 1, (.c (.int .i64 8))), (4, 1, (.c (.int .i64 6))), (5, 1, (.c (.int .i64 0))), (6, 1, (.c (.int .i64 6))), (7, 1, (.c (.int .i64 6))), (8, 1, (.c (.int .i64 0))), (9, 1, (.c (.int .i64 0))), (10, 1, (.c (.int .i64 7))), (11, 1, (.c (.int .i64 9))), (12, 1, (.c (.int .i64 9))), (13, 1, (.c (.int .i64 9))), (14, 1, (.c (.int .i64 8))), (15, 1, (.c (.int .i64 8))), (16, 1, (.c (.int .i64 8)))]))]), (.reg 26 [.p (.L (.conv .i64 (.t .d0 .d0))),
    .p (.L (.len false (.t .d0 .d2))),
    .s .d0 .d3 (.L (.bin .rem (.l 1) (.l 0)))])]
def r7 : C := (.seq (.reg 16252 [.p (.L (.iaddr 1 (.t .d0 .d2) (.t .d0 .d3))),
    .p (.L (.load (.l 0))),
    .p (.L (.bins .add (.c (.str 60 396083608880910927690426309123679796781983957859424086804781899596884604524934492833020139436608339998925017661102098943879066689324897314041709)) (.l 0))),
    .p (.L (.bins .add (.l 0) (.c (.str 2 32032)))),
    .p (.H (.call 10 [(.l 0)])),
    .p (.L (.ext 0 (.l 0))),
    .p (.L (.ext 1 (.l 1))),
    .p (.L (.ext 2 (.l 2))),
    .s .d0 .d4 (.L (.alloc [.str 0 0, .int .i64 0, .slN, .slN, .slN])),
    .p (.H (.store 5 (.l 0) (.l 3))),
    .s .d0 .d7 (.L (.mov (.l 3)))])
  (.seq (.draw [0, 1, 2, 3] [⟨.p (.L (.loadn 5 (.t .d0 .d4))), []⟩,
    ⟨.p (.H (.call 21 [])), [0]⟩,
    ⟨.p (.H (.call 16 [(.l 1), (.l 0), (.c (.slN))])), []⟩,
    ⟨.s .d1 .d0 (.L (.mov (.l 0))), []⟩])
  (.seq (.seq (.reg 28 [.p (.L (.iaddr 1 (.t .d0 .d5) (.t .d0 .d3))),
    .p (.L (.load (.l 0))),
    .s .d0 .d6 (.L (.bin .eql (.l 0) (.c (.int .i64 0))))])
  (.cond (.t .d0 .d6) (.seq (.reg 890 [.p (.L (.bin .eql (.t .d0 .d7) (.c (.int .i64 0)))),
    .g (.l 0) true (.L (.mov (.t .d1 .d0))),
    .g (.l 1) true (.L (.len false (.l 0))),
    .g (.l 2) true (.L (.bin .eql (.l 0) (.c (.int .i64 0)))),
    .p (.L (.pick (.l 3) (.l 0) (.c (.bool false)))),
    .g (.l 0) true (.H (.call 12 [])),
    .s .d0 .d1 (.L (.pick (.l 1) (.l 0) (.c (.bool false))))])
  .ret) .skip))
  (.seq (.draw [0, 1, 2, 3, 4, 5, 6, 7, 8, 9, 10, 11, 12, 13, 14, 15, 16, 17, 18, 19, 20, 21, 22, 23, 24, 25, 26, 27, 28] [⟨.p (.L (.mov (.t .d0 .d7))), []⟩,
    ⟨.p (.L (.bin .eql (.l 0) (.c (.int .i64 0)))), []⟩,
    ⟨.p (.L (.mov (.l 0))), []⟩,
    ⟨.g (.l 0) true (.L (.mov (.t .d1 .d0))), []⟩,
    ⟨.g (.l 1) true (.L (.len false (.l 0))), []⟩,
    ⟨.g (.l 2) true (.L (.bin .eql (.l 0) (.c (.int .i64 1)))), []⟩,
    ⟨.p (.L (.pick (.l 3) (.l 0) (.c (.bool false)))), []⟩,
    ⟨.p (.L (.mov (.l 0))), []⟩,
    ⟨.g (.l 0) true (.L (.mov (.t .d1 .d0))), []⟩,
    ⟨.g (.l 1) true (.L (.iaddr 4 (.l 0) (.c (.int .i64 0)))), []⟩,
    ⟨.g (.l 2) true (.L (.faddr 2 (.l 0))), []⟩,
    ⟨.g (.l 3) true (.L (.load (.l 0))), []⟩,
    ⟨.g (.l 4) true (.L (.mov (.t .d0 .d5))), []⟩,
    ⟨.g (.l 5) true (.L (.mov (.t .d0 .d3))), []⟩,
    ⟨.g (.l 6) true (.L (.iaddr 1 (.l 1) (.l 0))), []⟩,
    ⟨.g (.l 7) true (.L (.load (.l 0))), []⟩,
    ⟨.g (.l 8) true (.L (.bin .eql (.l 4) (.l 0))), []⟩,
    ⟨.p (.L (.pick (.l 9) (.l 0) (.c (.bool false)))), []⟩,
    ⟨.p (.L (.mov (.l 0))), []⟩,
    ⟨.g (.l 0) true (.L (.mov (.t .d1 .d0))), []⟩,
    ⟨.g (.l 1) true (.L (.iaddr 4 (.l 0) (.c (.int .i64 0)))), []⟩,
    ⟨.g (.l 2) true (.L (.faddr 0 (.l 0))), []⟩,
    ⟨.g (.l 3) true (.L (.load (.l 0))), []⟩,
    ⟨.g (.l 4) true (.L (.bins .eql (.l 0) (.c (.str 1 109)))), []⟩,
    ⟨.p (.L (.pick (.l 5) (.l 0) (.c (.bool false)))), []⟩,
    ⟨.p (.L (.mov (.l 0))), []⟩,
    ⟨.g (.l 0) true (.H (.call 12 [])), []⟩,
    ⟨.p (.L (.pick (.l 1) (.l 0) (.c (.bool false)))), []⟩,
    ⟨.s .d0 .d1 (.L (.mov (.l 0))), []⟩])
  .ret))))
def st7 (a : Nat) : CR := code (seqs p7 .skip) (lev ctx 59) maxRounds (argsP [.int .u8 (.ofNat a)] 0 Env.nil) Heap.empty
theorem body7 : i7.body = seqs p7 r7 := by kernel_rfl
theorem pre7 : allBelow (fun a => isNrm (st7 a) && (Env.same (envOf (st7 a)) (Env.set .d0 .d0 (.int .u8 (.ofNat a)) (envOf (st7 (a.mod 17)))) && Heap.same (heapOf (st7 a)) (heapOf (st7 (a.mod 17))))) 256 = true := by kernel_rfl
theorem c7_0 (a : Nat) : isTrue (endCall i7.results (code r7 (lev ctx 59) maxRounds (Env.set .d0 .d0 (.int .u8 (.ofNat a)) (envOf (st7 0))) (heapOf (st7 0)))) = true := by kernel_rfl
theorem c7_1 (a : Nat) : isTrue (endCall i7.results (code r7 (lev ctx 59) maxRounds (Env.set .d0 .d0 (.int .u8 (.ofNat a)) (envOf (st7 1))) (heapOf (st7 1)))) = true := by kernel_rfl
theorem c7_2 (a : Nat) : isTrue (endCall i7.results (code r7 (lev ctx 59) maxRounds (Env.set .d0 .d0 (.int .u8 (.ofNat a)) (envOf (st7 2))) (heapOf (st7 2)))) = true := by kernel_rfl
theorem c7_3 (a : Nat) : isTrue (endCall i7.results (code r7 (lev ctx 59) maxRounds (Env.set .d0 .d0 (.int .u8 (.ofNat a)) (envOf (st7 3))) (heapOf (st7 3)))) = true := by kernel_rfl
theorem c7_4 (a : Nat) : isTrue (endCall i7.results (code r7 (lev ctx 59) maxRounds (Env.set .d0 .d0 (.int .u8 (.ofNat a)) (envOf (st7 4))) (heapOf (st7 4)))) = true := by kernel_rfl
theorem c7_5 (a : Nat) : isTrue (endCall i7.results (code r7 (lev ctx 59) maxRounds (Env.set .d0 .d0 (.int .u8 (.ofNat a)) (envOf (st7 5))) (heapOf (st7 5)))) = true := by kernel_rfl
theorem c7_6 (a : Nat) : isTrue (endCall i7.results (code r7 (lev ctx 59) maxRounds (Env.set .d0 .d0 (.int .u8 (.ofNat a)) (envOf (st7 6))) (heapOf (st7 6)))) = true := by kernel_rfl
theorem c7_7 (a : Nat) : isTrue (endCall i7.results (code r7 (lev ctx 59) maxRounds (Env.set .d0 .d0 (.int .u8 (.ofNat a)) (envOf (st7 7))) (heapOf (st7 7)))) = true := by kernel_rfl
end
end Go.Eng.YtfolmdfljpkpeaaGreatDoor
