/- Part of a proof of a law, by an evaluator that the machine follows: rules, contracts of functions, what they come to. No condition of its own. -/
import Derived.Test.YtfolmdfljpkpeaaGreatDoorCode
import Derived.Test.YtfolmdfljpkpeaaGreatDoorVar
set_option maxRecDepth 100000
namespace Go.Eng.YtfolmdfljpkpeaaGreatDoor
open Go.Eng
noncomputable section
def v124e0 : C := (.reg 7 [.s .d1 .d1 (.L (.box 1 (.t .d0 .d2))),
    .s .d0 .d3 (.L (.alloc [.int .i64 0])),
    .s .d0 .d4 (.L (.alloc [.int .i64 0]))])
def v124e1 : C := (.reg 126 [.p (.L (.nilck (.t .d0 .d0))),
    .p (.L (.faddr 11 (.l 0))),
    .p (.L (.loadn 2 (.l 0))),
    .s .d0 .d6 (.L (.alloc [.slN, .slN])),
    .p (.H (.store 2 (.l 0) (.l 1))),
    .s .d0 .d7 (.L (.mov (.c (.int .i64 0))))])
def v124e2 : C := (.reg 2 [.s .d0 .d5 (.L (.bins .neq (.t .d0 .d1) (.c (.str 0 0))))])
def v124e3 : C := (.reg 244 [.p (.H (.call 37 [(.t .d0 .d0), (.t .d0 .d1)])),
    .p (.L (.ext 0 (.l 0))),
    .p (.L (.ext 1 (.l 1))),
    .p (.H (.store 2 (.t .d0 .d6) (.l 1))),
    .s .d0 .d7 (.L (.mov (.l 1)))])
def v124e4 : C := (.reg 30 [.p (.L (.nilck (.t .d0 .d0))),
    .p (.L (.faddr 22 (.l 0))),
    .p (.L (.load (.l 0))),
    .s .d1 .d4 (.H (.call 166 [(.l 0)]))])
def v124er : C := (.seq (.seq (.reg 2 [.s .d1 .d0 (.L (.bin .neq (.t .d0 .d7) (.c (.int .i64 0))))])
  (.cond (.t .d1 .d0) (.seq (.reg 222 [.p (.L (.nilck (.t .d0 .d0))),
    .p (.L (.faddr 5 (.l 0))),
    .p (.L (.faddr 4 (.l 0))),
    .p (.L (.load (.l 0))),
    .p (.H (.store 1 (.t .d0 .d3) (.l 0))),
    .p (.H (.store 1 (.t .d0 .d4) (.t .d0 .d7)))])
  .ret) .skip))
  (.seq (.reg 15 [.p (.L (.faddr 0 (.t .d0 .d6))),
    .p (.L (.load (.l 0))),
    .p (.L (.fn 167 [] [(.t .d1 .d1)])),
    .s .d1 .d2 (.H (.call 126 [(.l 1), (.l 0)]))])
  (.seq (.seq (.reg 2 [.s .d1 .d3 (.L (.bin .lss (.t .d1 .d2) (.c (.int .i64 0))))])
  (.cond (.t .d1 .d3) (.seq (.reg 126 [.p (.L (.nilck (.t .d0 .d0))),
    .p (.L (.faddr 5 (.l 0))),
    .p (.L (.faddr 4 (.l 0))),
    .p (.L (.load (.l 0))),
    .p (.H (.store 1 (.t .d0 .d3) (.l 0))),
    .p (.H (.store 1 (.t .d0 .d4) (.c (.int .i64 1))))])
  .ret) .skip))
  (.seq (.reg 1014 [.p (.L (.faddr 0 (.t .d0 .d6))),
    .p (.L (.load (.l 0))),
    .p (.L (.iaddr 4 (.l 0) (.t .d1 .d2))),
    .p (.L (.faddr 1 (.l 0))),
    .p (.L (.load (.l 0))),
    .p (.H (.call 39 [(.t .d0 .d0), (.l 0)])),
    .p (.H (.store 1 (.t .d0 .d3) (.l 0))),
    .p (.H (.store 1 (.t .d0 .d4) (.c (.int .i64 0))))])
  .ret))))
/-- flow.checker.variable: the loop is told by the summary -/
def v124 : VarD := ⟨⟨3, [0, 1, 2, 6, 7, 18, 8, 9, 39, 5, 12, 51, 29], [.cell .d0 .d3 none, .cell .d0 .d4 none], .seq v124e0 (.seq v124e1 (.seq (.seq v124e2 (.cond (.t .d0 .d5) v124e3 (.seq v124e4 (.block 0 .stuck)))) v124er))⟩, 185, v124e0, v124e1, v124e2, v124e4, v124er⟩
def ctx0 : Ctx := (Ctx.of funs dfuns (moreCmp 110)).withV 124 v124
def ctx : Ctx := (Ctx.of funsB dfuns (more2 (moreCmp 110) (moreYes 12))).withV 124 v124
end
end Go.Eng.YtfolmdfljpkpeaaGreatDoor
