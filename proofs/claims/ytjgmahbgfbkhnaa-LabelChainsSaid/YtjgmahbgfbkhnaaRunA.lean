/- Part of a proof of a law, by an evaluator that the machine follows: rules, contracts of functions, what they come to. No condition of its own. -/
import Derived.Test.YtjgmahbgfbkhnaaLeast
import Derived.Test.YtjgmahbgfbkhnaaTwo
set_option maxRecDepth 1000000
namespace Go.Eng.Ytjgmahbgfbkhnaa
open Go.Eng
noncomputable section
def p9_0 : C := (.reg 1 [.s .d0 .d3 (.L (.mov (.c (.bool false))))])
def p9_1 : C := (.reg 14 [.p (.L (.conv .i64 (.t .d0 .d0))),
    .p (.L (.bin .rem (.l 0) (.c (.int .i64 11)))),
    .s .d0 .d5 (.L (.bin .add (.c (.int .i64 2)) (.l 0)))])
def p9_2 : C := (.reg 1 [.s .d1 .d0 (.L (.mov (.c (.str 7 9134108649349484))))])
def p9_3 : C := (.reg 1 [.s .d1 .d2 (.L (.mov (.c (.slN))))])
def p9_4 : C := (.seq (.reg 1 [.s .d0 .d4 (.L (.mov (.c (.int .i64 0))))])
  (.block 0 (.loop (.seq (.seq (.reg 4 [.s .d0 .d6 (.L (.bin .lss (.t .d0 .d4) (.t .d0 .d5)))])
  (.cond (.t .d0 .d6) .skip (.exit 0)))
  (.seq (.block 1 (.seq (.reg 30 [.p (.L (.conv .u8 (.t .d0 .d4))),
    .p (.L (.bin .add (.c (.int .u8 97)) (.l 0))),
    .p (.L (.bsl 1 2 [.int .u8 0] [(0, 1, (.c (.int .u8 108))), (1, 1, (.l 0))])),
    .s .d1 .d1 (.L (.bstr (.l 0)))])
  (.seq (.seq (.reg 2 [.s .d0 .d7 (.L (.bin .gtr (.t .d0 .d4) (.c (.int .i64 0))))])
  (.cond (.t .d0 .d7) (.seq (.reg 2 [.s .d1 .d0 (.L (.bins .add (.t .d1 .d0) (.c (.str 3 2112544))))])
  (.reg 1916 [.p (.L (.bin .sub (.t .d0 .d4) (.c (.int .i64 1)))),
    .p (.L (.conv .u8 (.l 0))),
    .p (.L (.bin .add (.c (.int .u8 97)) (.l 0))),
    .p (.L (.bsl 1 2 [.int .u8 0] [(0, 1, (.c (.int .u8 108))), (1, 1, (.l 0))])),
    .p (.L (.bstr (.l 0))),
    .p (.L (.build [.str 0 0, .str 0 0, .int .i64 0] [(0, 1, (.l 0)), (1, 1, (.t .d1 .d1))])),
    .p (.L (.bsl 3 1 [.str 0 0, .str 0 0, .int .i64 0] [(0, 3, (.l 0))])),
    .s .d1 .d2 (.H (.append 3 40 (.t .d1 .d2) (.l 0)))])) .skip))
  (.reg 4 [.s .d1 .d0 (.L (.bins .add (.t .d1 .d0) (.t .d1 .d1)))]))))
  (.reg 2 [.s .d0 .d4 (.L (.bin .add (.t .d0 .d4) (.c (.int .i64 1))))]))))))
def p9_5 : C := (.reg 1014 [.p (.L (.bins .add (.t .d1 .d0) (.c (.str 1 59)))),
    .p (.H (.call 16 [(.l 0)])),
    .p (.L (.ext 0 (.l 0))),
    .p (.L (.ext 1 (.l 1))),
    .p (.L (.ext 2 (.l 2))),
    .s .d1 .d5 (.L (.alloc [.slN, .slN, .slN, .slN, .int .i64 0, .int .i64 0])),
    .p (.H (.store 6 (.l 0) (.l 3))),
    .s .d1 .d3 (.L (.mov (.l 3)))])
def p9_6 : C := (.reg 250 [.p (.H (.call 12 [(.t .d1 .d2)])),
    .p (.L (.ext 0 (.l 0))),
    .p (.L (.ext 1 (.l 1))),
    .s .d1 .d6 (.L (.alloc [.slN, .slN, .slN, .slN, .int .i64 0, .int .i64 0])),
    .p (.H (.store 6 (.l 0) (.l 2))),
    .s .d1 .d4 (.L (.mov (.l 2)))])
def p9_7 : C := (.draw [0, 1, 2, 3, 4, 5, 6, 7, 8, 9] [⟨.p (.L (.mov (.t .d0 .d1))), []⟩,
    ⟨.p (.L (.conv .i64 (.l 0))), []⟩,
    ⟨.p (.L (.mov (.t .d0 .d5))), []⟩,
    ⟨.p (.L (.bin .rem (.l 1) (.l 0))), []⟩,
    ⟨.p (.L (.mov (.t .d0 .d2))), []⟩,
    ⟨.p (.L (.conv .i64 (.l 0))), []⟩,
    ⟨.p (.L (.mov (.t .d0 .d5))), []⟩,
    ⟨.p (.L (.bin .rem (.l 1) (.l 0))), []⟩,
    ⟨.s .d2 .d0 (.L (.mov (.l 4))), []⟩,
    ⟨.s .d2 .d1 (.L (.mov (.l 1))), []⟩])
def p9_8 : C := (.seq (.reg 4161270 [.p (.H (.call 15 [(.t .d1 .d3)])),
    .p (.L (.bin .neq (.l 0) (.c (.int .i64 0)))),
    .g (.l 0) false (.L (.mov (.t .d1 .d4))),
    .g (.l 1) false (.H (.call 15 [(.l 0)])),
    .g (.l 2) false (.L (.bin .neq (.l 0) (.c (.int .i64 0)))),
    .p (.L (.pick (.l 3) (.c (.bool true)) (.l 0))),
    .g (.l 0) false (.L (.faddr 2 (.t .d1 .d5))),
    .g (.l 1) false (.L (.load (.l 0))),
    .g (.l 2) false (.L (.len false (.l 0))),
    .g (.l 3) false (.L (.mov (.t .d0 .d5))),
    .g (.l 4) false (.L (.bin .neq (.l 1) (.l 0))),
    .p (.L (.pick (.l 5) (.c (.bool true)) (.l 0))),
    .g (.l 0) false (.L (.faddr 2 (.t .d1 .d6))),
    .g (.l 1) false (.L (.load (.l 0))),
    .g (.l 2) false (.L (.len false (.l 0))),
    .g (.l 3) false (.L (.mov (.t .d0 .d5))),
    .g (.l 4) false (.L (.bin .neq (.l 1) (.l 0))),
    .s .d1 .d7 (.L (.pick (.l 5) (.c (.bool true)) (.l 0)))])
  (.cond (.t .d1 .d7) (.seq (.reg 1 [.s .d0 .d3 (.L (.mov (.c (.bool false))))])
  .ret) .skip))
def l9a : List Opr := [.p (.L (.faddr 2 (.t .d1 .d5))),
    .p (.L (.load (.l 0))),
    .p (.L (.iaddr 1 (.l 0) (.t .d2 .d0))),
    .p (.L (.load (.l 0))),
    .p (.L (.iaddr 1 (.l 0) (.t .d2 .d1))),
    .p (.L (.load (.l 0))),
    .p (.L (.minmax true (.t .d2 .d0) (.t .d2 .d1))),
    .p (.L (.bin .eql (.l 1) (.l 0))),
    .g (.l 0) true (.L (.faddr 3 (.t .d1 .d5))),
    .g (.l 1) true (.L (.load (.l 0))),
    .g (.l 2) true (.L (.mov (.t .d2 .d0))),
    .g (.l 3) true (.L (.iaddr 1 (.l 1) (.l 0))),
    .g (.l 4) true (.L (.load (.l 0))),
    .g (.l 5) true (.L (.mov (.t .d2 .d1))),
    .g (.l 6) true (.L (.iaddr 1 (.l 1) (.l 0))),
    .g (.l 7) true (.L (.load (.l 0))),
    .g (.l 8) true (.L (.mov (.t .d2 .d0))),
    .g (.l 9) true (.L (.mov (.t .d2 .d1))),
    .g (.l 10) true (.L (.minmax false (.l 1) (.l 0))),
    .g (.l 11) true (.L (.bin .eql (.l 3) (.l 0))),
    .p (.L (.pick (.l 12) (.l 0) (.c (.bool false)))),
    .g (.l 0) true (.L (.faddr 1 (.t .d1 .d5))),
    .g (.l 1) true (.L (.load (.l 0))),
    .g (.l 2) true (.L (.mov (.t .d2 .d0))),
    .g (.l 3) true (.L (.iaddr 1 (.l 1) (.l 0))),
    .g (.l 4) true (.L (.load (.l 0))),
    .g (.l 5) true (.L (.mov (.t .d2 .d1))),
    .g (.l 6) true (.L (.iaddr 1 (.l 1) (.l 0))),
    .g (.l 7) true (.L (.load (.l 0))),
    .g (.l 8) true (.L (.mov (.t .d2 .d0))),
    .g (.l 9) true (.L (.mov (.t .d2 .d1))),
    .g (.l 10) true (.L (.bin .leq (.l 1) (.l 0))),
    .g (.l 11) true (.L (.eq false .bool (.l 3) (.l 0))),
    .p (.L (.pick (.l 12) (.l 0) (.c (.bool false)))),
    .g (.l 0) true (.L (.faddr 2 (.t .d1 .d6))),
    .g (.l 1) true (.L (.load (.l 0))),
    .g (.l 2) true (.L (.mov (.t .d2 .d0))),
    .g (.l 3) true (.L (.iaddr 1 (.l 1) (.l 0))),
    .g (.l 4) true (.L (.load (.l 0))),
    .g (.l 5) true (.L (.mov (.t .d2 .d1))),
    .g (.l 6) true (.L (.iaddr 1 (.l 1) (.l 0))),
    .g (.l 7) true (.L (.load (.l 0))),
    .g (.l 8) true (.L (.mov (.t .d2 .d0))),
    .g (.l 9) true (.L (.mov (.t .d2 .d1))),
    .g (.l 10) true (.L (.minmax true (.l 1) (.l 0))),
    .g (.l 11) true (.L (.bin .eql (.l 3) (.l 0))),
    .p (.L (.pick (.l 12) (.l 0) (.c (.bool false))))]
def l9b : List Opr := [.g (.l 0) true (.L (.loadn 6 (.t .d1 .d5))),
    .g (.l 1) true (.H (.call 23 [(.l 0)])),
    .p (.L (.pick (.l 2) (.l 0) (.c (.bool false)))),
    .g (.l 0) true (.L (.loadn 6 (.t .d1 .d6))),
    .g (.l 1) true (.H (.call 23 [(.l 0)])),
    .p (.L (.pick (.l 2) (.l 0) (.c (.bool false)))),
    .g (.l 0) true (.H (.call 11 [])),
    .s .d0 .d3 (.L (.pick (.l 1) (.l 0) (.c (.bool false))))]
theorem body9 : i9.body = .seq p9_0 (.seq p9_1 (seqs [p9_2, p9_3, p9_4, p9_5, p9_6] (.seq p9_7 (.seq p9_8 (.seq (.reg 31975556254751780059 (l9a ++ l9b)) .ret))))) := by kernel_rfl
def e9 (n x y : V) (k : Nat) : Env := Env.set .d0 .d5 (.int .i64 (.ofNat k)) (Env.set .d0 .d3 (.bool false) (argsP [n, x, y] 0 Env.nil))
def run9a (n x y : V) (k : Nat) : CR := code (seqs [p9_2, p9_3, p9_4, p9_5, p9_6] .skip) (lev ctxL 59) maxRounds (e9 n x y k) Heap.empty
def set9 (a b : V) (e : Env) : Env := Env.set .d2 .d1 b (Env.set .d2 .d0 a e)
def run9b (a b : V) (e : Env) (h : Heap) : CR := code p9_8 (lev ctxL 59) maxRounds (set9 a b e) h
def fin9 (r : CR) : Bool := isTrue (endCall i9.results (CR.rec (fun x env h => X.rec (code .ret (lev ctxL 59) maxRounds env h) (.ok .ret env h) (fun i => .ok (.exit i) env h) (fun v => .ok (.pan v) env h) x) .bad r))
def end9 (rest : List V) (e : Env) (h : Heap) : Bool := fin9 (opsN l9b (lev ctxL 59) (.bool true :: rest) e h)
def see9 (e : Env) : V × V × V := (Env.get .d0 .d1 e, Env.get .d0 .d2 e, Env.get .d0 .d5 e)
def nat9 (a : Nat) : V := .int .i64 (.ofNat a)
theorem g9_2 (n x y : V) : see9 (envOf (run9a n x y 2)) = (x, y, .int .i64 (.ofNat 2)) := by kernel_rfl
theorem c9_2 (n x y : V) : thenB (run9a n x y 2) (fun e h => allBelow (fun a => allBelow (fun b => thenB (run9b (nat9 a) (nat9 b) e h) fun e h => trueV (runV e h l9a [])) 2) 2) = true := by kernel_rfl
theorem d9_2 (n x y a b : V) (rest : List V) : thenB (run9a n x y 2) (fun e h => thenB (run9b a b e h) (end9 rest)) = true := by kernel_rfl
theorem g9_3 (n x y : V) : see9 (envOf (run9a n x y 3)) = (x, y, .int .i64 (.ofNat 3)) := by kernel_rfl
theorem c9_3 (n x y : V) : thenB (run9a n x y 3) (fun e h => allBelow (fun a => allBelow (fun b => thenB (run9b (nat9 a) (nat9 b) e h) fun e h => trueV (runV e h l9a [])) 3) 3) = true := by kernel_rfl
theorem d9_3 (n x y a b : V) (rest : List V) : thenB (run9a n x y 3) (fun e h => thenB (run9b a b e h) (end9 rest)) = true := by kernel_rfl
theorem g9_4 (n x y : V) : see9 (envOf (run9a n x y 4)) = (x, y, .int .i64 (.ofNat 4)) := by kernel_rfl
theorem c9_4 (n x y : V) : thenB (run9a n x y 4) (fun e h => allBelow (fun a => allBelow (fun b => thenB (run9b (nat9 a) (nat9 b) e h) fun e h => trueV (runV e h l9a [])) 4) 4) = true := by kernel_rfl
theorem d9_4 (n x y a b : V) (rest : List V) : thenB (run9a n x y 4) (fun e h => thenB (run9b a b e h) (end9 rest)) = true := by kernel_rfl
theorem g9_5 (n x y : V) : see9 (envOf (run9a n x y 5)) = (x, y, .int .i64 (.ofNat 5)) := by kernel_rfl
theorem c9_5 (n x y : V) : thenB (run9a n x y 5) (fun e h => allBelow (fun a => allBelow (fun b => thenB (run9b (nat9 a) (nat9 b) e h) fun e h => trueV (runV e h l9a [])) 5) 5) = true := by kernel_rfl
theorem d9_5 (n x y a b : V) (rest : List V) : thenB (run9a n x y 5) (fun e h => thenB (run9b a b e h) (end9 rest)) = true := by kernel_rfl
theorem g9_6 (n x y : V) : see9 (envOf (run9a n x y 6)) = (x, y, .int .i64 (.ofNat 6)) := by kernel_rfl
theorem c9_6 (n x y : V) : thenB (run9a n x y 6) (fun e h => allBelow (fun a => allBelow (fun b => thenB (run9b (nat9 a) (nat9 b) e h) fun e h => trueV (runV e h l9a [])) 6) 6) = true := by kernel_rfl
theorem d9_6 (n x y a b : V) (rest : List V) : thenB (run9a n x y 6) (fun e h => thenB (run9b a b e h) (end9 rest)) = true := by kernel_rfl
theorem g9_7 (n x y : V) : see9 (envOf (run9a n x y 7)) = (x, y, .int .i64 (.ofNat 7)) := by kernel_rfl
theorem c9_7 (n x y : V) : thenB (run9a n x y 7) (fun e h => allBelow (fun a => allBelow (fun b => thenB (run9b (nat9 a) (nat9 b) e h) fun e h => trueV (runV e h l9a [])) 7) 7) = true := by kernel_rfl
theorem d9_7 (n x y a b : V) (rest : List V) : thenB (run9a n x y 7) (fun e h => thenB (run9b a b e h) (end9 rest)) = true := by kernel_rfl
theorem g9_8 (n x y : V) : see9 (envOf (run9a n x y 8)) = (x, y, .int .i64 (.ofNat 8)) := by kernel_rfl
theorem c9_8 (n x y : V) : thenB (run9a n x y 8) (fun e h => allBelow (fun a => allBelow (fun b => thenB (run9b (nat9 a) (nat9 b) e h) fun e h => trueV (runV e h l9a [])) 8) 8) = true := by kernel_rfl
theorem d9_8 (n x y a b : V) (rest : List V) : thenB (run9a n x y 8) (fun e h => thenB (run9b a b e h) (end9 rest)) = true := by kernel_rfl
end
end Go.Eng.Ytjgmahbgfbkhnaa
