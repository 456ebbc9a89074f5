/- Part of a proof of a law, by an evaluator that the machine follows: rules, contracts of functions, what they come to. No condition of its own. -/
import Derived.Test.YtjgmahbgfbkhnaaLeast
set_option maxRecDepth 1000000
namespace Go.Eng.Ytjgmahbgfbkhnaa
open Go.Eng
noncomputable section
def p6 : List C := [(.reg 1 [.s .d0 .d1 (.L (.mov (.c (.bool false))))]), (.reg 14 [.p (.L (.conv .i64 (.t .d0 .d0))),
    .p (.L (.bin .rem (.l 0) (.c (.int .i64 14)))),
    .s .d0 .d3 (.L (.bin .add (.c (.int .i64 2)) (.l 0)))])]
def r6 : C := (.seq (.reg 3 [.s .d0 .d7 (.L (.mov (.c (.slN)))),
    .s .d1 .d3 (.L (.mov (.c (.slN))))])
  (.seq (.seq (.reg 1 [.s .d0 .d2 (.L (.mov (.c (.int .i64 1))))])
  (.block 0 (.loop (.seq (.seq (.reg 4 [.s .d0 .d4 (.L (.bin .lss (.t .d0 .d2) (.t .d0 .d3)))])
  (.cond (.t .d0 .d4) .skip (.exit 0)))
  (.seq (.block 1 (.seq (.draw [0, 1, 2, 3, 4, 5, 6, 7, 8, 9, 10, 11, 12] [⟨.p (.L (.mov (.t .d0 .d2))), []⟩,
    ⟨.p (.L (.bin .sub (.l 0) (.c (.int .i64 1)))), []⟩,
    ⟨.p (.L (.conv .u8 (.l 0))), []⟩,
    ⟨.p (.L (.bin .add (.c (.int .u8 97)) (.l 0))), []⟩,
    ⟨.p (.L (.bsl 1 1 [.int .u8 0] [(0, 1, (.l 0))])), []⟩,
    ⟨.p (.L (.bstr (.l 0))), []⟩,
    ⟨.p (.L (.mov (.t .d0 .d2))), []⟩,
    ⟨.p (.L (.conv .u8 (.l 0))), []⟩,
    ⟨.p (.L (.bin .add (.c (.int .u8 97)) (.l 0))), []⟩,
    ⟨.p (.L (.bsl 1 1 [.int .u8 0] [(0, 1, (.l 0))])), []⟩,
    ⟨.p (.L (.bstr (.l 0))), []⟩,
    ⟨.s .d0 .d5 (.L (.mov (.l 5))), []⟩,
    ⟨.s .d0 .d6 (.L (.mov (.l 1))), []⟩])
  (.reg 56 [.p (.L (.build [.str 0 0, .str 0 0, .int .i64 0] [(0, 1, (.t .d0 .d5)), (1, 1, (.t .d0 .d6))])),
    .p (.L (.bsl 3 1 [.str 0 0, .str 0 0, .int .i64 0] [(0, 3, (.l 0))])),
    .s .d0 .d7 (.H (.append 3 40 (.t .d0 .d7) (.l 0)))])))
  (.reg 2 [.s .d0 .d2 (.L (.bin .add (.t .d0 .d2) (.c (.int .i64 1))))]))))))
  (.seq (.seq (.reg 1 [.s .d1 .d0 (.L (.mov (.c (.int .i64 0))))])
  (.block 2 (.loop (.seq (.seq (.reg 4 [.s .d1 .d1 (.L (.bin .lss (.t .d1 .d0) (.t .d0 .d3)))])
  (.cond (.t .d1 .d1) .skip (.exit 2)))
  (.seq (.block 3 (.seq (.reg 30 [.p (.L (.conv .u8 (.t .d1 .d0))),
    .p (.L (.bin .add (.c (.int .u8 97)) (.l 0))),
    .p (.L (.bsl 1 2 [.int .u8 0] [(0, 1, (.c (.int .u8 109))), (1, 1, (.l 0))])),
    .s .d1 .d2 (.L (.bstr (.l 0)))])
  (.reg 116 [.p (.L (.build [.str 0 0, .str 0 0, .int .i64 0] [(0, 1, (.c (.str 3 7827308))), (1, 1, (.t .d1 .d2))])),
    .p (.L (.build [.str 0 0, .str 0 0, .int .i64 0] [(0, 1, (.t .d1 .d2)), (1, 1, (.c (.str 3 7368564)))])),
    .p (.L (.bsl 3 2 [.str 0 0, .str 0 0, .int .i64 0] [(0, 3, (.l 1)), (3, 3, (.l 0))])),
    .s .d1 .d3 (.H (.append 3 40 (.t .d1 .d3) (.l 0)))])))
  (.reg 2 [.s .d1 .d0 (.L (.bin .add (.t .d1 .d0) (.c (.int .i64 1))))]))))))
  (.seq (.reg 250 [.p (.H (.call 12 [(.t .d0 .d7)])),
    .p (.L (.ext 0 (.l 0))),
    .p (.L (.ext 1 (.l 1))),
    .s .d2 .d3 (.L (.alloc [.slN, .slN, .slN, .slN, .int .i64 0, .int .i64 0])),
    .p (.H (.store 6 (.l 0) (.l 2))),
    .s .d1 .d4 (.L (.mov (.l 2)))])
  (.seq (.reg 250 [.p (.H (.call 12 [(.t .d1 .d3)])),
    .p (.L (.ext 0 (.l 0))),
    .p (.L (.ext 1 (.l 1))),
    .s .d2 .d0 (.L (.alloc [.slN, .slN, .slN, .slN, .int .i64 0, .int .i64 0])),
    .p (.H (.store 6 (.l 0) (.l 2))),
    .s .d1 .d5 (.L (.mov (.l 2)))])
  (.seq (.reg 4028 [.p (.L (.len false (.t .d1 .d3))),
    .p (.L (.bin .sub (.l 0) (.c (.int .i64 1)))),
    .p (.L (.ssl 3 (.t .d1 .d3) none (some (.l 0)) none)),
    .p (.H (.call 12 [(.l 0)])),
    .p (.L (.ext 0 (.l 0))),
    .p (.L (.ext 1 (.l 1))),
    .p (.L (.alloc [.slN, .slN, .slN, .slN, .int .i64 0, .int .i64 0])),
    .p (.H (.store 6 (.l 0) (.l 2))),
    .s .d2 .d1 (.L (.mov (.l 2)))])
  (.seq (.reg 1007 [.p (.L (.build [.str 0 0, .str 0 0, .int .i64 0] [(0, 1, (.c (.str 1 97))), (1, 1, (.c (.str 1 98)))])),
    .p (.L (.build [.str 0 0, .str 0 0, .int .i64 0] [(0, 1, (.c (.str 1 98))), (1, 1, (.c (.str 1 97)))])),
    .p (.L (.bsl 3 2 [.str 0 0, .str 0 0, .int .i64 0] [(0, 3, (.l 1)), (3, 3, (.l 0))])),
    .p (.H (.call 12 [(.l 0)])),
    .p (.L (.ext 0 (.l 0))),
    .p (.L (.ext 1 (.l 1))),
    .p (.L (.alloc [.slN, .slN, .slN, .slN, .int .i64 0, .int .i64 0])),
    .p (.H (.store 6 (.l 0) (.l 2))),
    .s .d1 .d6 (.L (.mov (.l 2)))])
  (.seq (.seq (.reg 507830 [.p (.H (.call 15 [(.t .d1 .d4)])),
    .p (.L (.bin .eql (.l 0) (.c (.int .i64 0)))),
    .p (.L (.bin .leq (.t .d0 .d3) (.c (.int .i64 12)))),
    .p (.L (.eq true .bool (.l 1) (.l 0))),
    .g (.l 0) false (.L (.mov (.t .d1 .d5))),
    .g (.l 1) false (.H (.call 15 [(.l 0)])),
    .g (.l 2) false (.L (.bin .eql (.l 0) (.c (.int .i64 0)))),
    .g (.l 3) false (.L (.mov (.t .d0 .d3))),
    .g (.l 4) false (.L (.bin .leq (.l 0) (.c (.int .i64 10)))),
    .g (.l 5) false (.L (.eq true .bool (.l 2) (.l 0))),
    .p (.L (.pick (.l 6) (.c (.bool true)) (.l 0))),
    .g (.l 0) false (.L (.mov (.t .d1 .d6))),
    .g (.l 1) false (.H (.call 15 [(.l 0)])),
    .g (.l 2) false (.L (.bin .neq (.l 0) (.c (.int .i64 13)))),
    .s .d1 .d7 (.L (.pick (.l 3) (.c (.bool true)) (.l 0)))])
  (.cond (.t .d1 .d7) (.seq (.reg 1 [.s .d0 .d1 (.L (.mov (.c (.bool false))))])
  .ret) .skip))
  (.seq (.seq (.reg 32762 [.p (.L (.bin .leq (.t .d0 .d3) (.c (.int .i64 10)))),
    .g (.l 0) true (.L (.faddr 0 (.t .d2 .d0))),
    .g (.l 1) true (.L (.load (.l 0))),
    .g (.l 2) true (.L (.len false (.l 0))),
    .g (.l 3) true (.L (.mov (.t .d0 .d3))),
    .g (.l 4) true (.L (.bin .add (.l 0) (.c (.int .i64 2)))),
    .g (.l 5) true (.L (.bin .neq (.l 2) (.l 0))),
    .g (.l 6) true (.L (.mov (.l 0))),
    .g (.l 0) false (.L (.mov (.t .d2 .d1))),
    .g (.l 1) false (.H (.call 15 [(.l 0)])),
    .g (.l 2) false (.L (.bin .neq (.l 0) (.c (.int .i64 13)))),
    .g (.l 10) true (.L (.pick (.l 3) (.c (.bool true)) (.l 0))),
    .s .d2 .d2 (.L (.pick (.l 11) (.l 0) (.c (.bool false))))])
  (.cond (.t .d2 .d2) (.seq (.reg 1 [.s .d0 .d1 (.L (.mov (.c (.bool false))))])
  .ret) .skip))
  (.seq (.reg 14680058 [.p (.L (.bin .gtr (.t .d0 .d3) (.c (.int .i64 12)))),
    .g (.l 0) false (.L (.faddr 0 (.t .d2 .d3))),
    .g (.l 1) false (.L (.load (.l 0))),
    .g (.l 2) false (.L (.len false (.l 0))),
    .g (.l 3) false (.L (.mov (.t .d0 .d3))),
    .g (.l 4) false (.L (.bin .eql (.l 1) (.l 0))),
    .g (.l 5) false (.L (.mov (.l 0))),
    .g (.l 0) true (.L (.faddr 4 (.t .d2 .d3))),
    .g (.l 1) true (.L (.load (.l 0))),
    .g (.l 2) true (.L (.bin .eql (.l 0) (.c (.int .i64 0)))),
    .g (.l 9) false (.L (.pick (.l 3) (.l 0) (.c (.bool false)))),
    .g (.l 10) false (.L (.mov (.l 0))),
    .g (.l 0) true (.L (.faddr 5 (.t .d2 .d3))),
    .g (.l 1) true (.L (.load (.l 0))),
    .g (.l 2) true (.L (.mov (.t .d0 .d3))),
    .g (.l 3) true (.L (.bin .sub (.l 0) (.c (.int .i64 1)))),
    .g (.l 4) true (.L (.bin .eql (.l 2) (.l 0))),
    .g (.l 16) false (.L (.pick (.l 5) (.l 0) (.c (.bool false)))),
    .p (.L (.pick (.l 17) (.c (.bool true)) (.l 0))),
    .g (.l 0) true (.H (.call 11 [])),
    .s .d0 .d1 (.L (.pick (.l 1) (.l 0) (.c (.bool false))))])
  .ret))))))))))
def st6 (a : Nat) : CR := code (seqs p6 .skip) (lev ctxL 59) maxRounds (argsP [.int .u8 (.ofNat a)] 0 Env.nil) Heap.empty
theorem body6 : i6.body = seqs p6 r6 := by kernel_rfl
theorem pre6 : allBelow (fun a => isNrm (st6 a) && (Env.same (envOf (st6 a)) (Env.set .d0 .d0 (.int .u8 (.ofNat a)) (envOf (st6 (a.mod 14)))) && Heap.same (heapOf (st6 a)) (heapOf (st6 (a.mod 14))))) 256 = true := by kernel_rfl
theorem c6_0 (a : Nat) : isTrue (endCall i6.results (code r6 (lev ctxL 59) maxRounds (Env.set .d0 .d0 (.int .u8 (.ofNat a)) (envOf (st6 0))) (heapOf (st6 0)))) = true := by kernel_rfl
theorem c6_1 (a : Nat) : isTrue (endCall i6.results (code r6 (lev ctxL 59) maxRounds (Env.set .d0 .d0 (.int .u8 (.ofNat a)) (envOf (st6 1))) (heapOf (st6 1)))) = true := by kernel_rfl
theorem c6_2 (a : Nat) : isTrue (endCall i6.results (code r6 (lev ctxL 59) maxRounds (Env.set .d0 .d0 (.int .u8 (.ofNat a)) (envOf (st6 2))) (heapOf (st6 2)))) = true := by kernel_rfl
theorem c6_3 (a : Nat) : isTrue (endCall i6.results (code r6 (lev ctxL 59) maxRounds (Env.set .d0 .d0 (.int .u8 (.ofNat a)) (envOf (st6 3))) (heapOf (st6 3)))) = true := by kernel_rfl
theorem c6_4 (a : Nat) : isTrue (endCall i6.results (code r6 (lev ctxL 59) maxRounds (Env.set .d0 .d0 (.int .u8 (.ofNat a)) (envOf (st6 4))) (heapOf (st6 4)))) = true := by kernel_rfl
theorem c6_5 (a : Nat) : isTrue (endCall i6.results (code r6 (lev ctxL 59) maxRounds (Env.set .d0 .d0 (.int .u8 (.ofNat a)) (envOf (st6 5))) (heapOf (st6 5)))) = true := by kernel_rfl
theorem c6_6 (a : Nat) : isTrue (endCall i6.results (code r6 (lev ctxL 59) maxRounds (Env.set .d0 .d0 (.int .u8 (.ofNat a)) (envOf (st6 6))) (heapOf (st6 6)))) = true := by kernel_rfl
theorem c6_7 (a : Nat) : isTrue (endCall i6.results (code r6 (lev ctxL 59) maxRounds (Env.set .d0 .d0 (.int .u8 (.ofNat a)) (envOf (st6 7))) (heapOf (st6 7)))) = true := by kernel_rfl
theorem c6_8 (a : Nat) : isTrue (endCall i6.results (code r6 (lev ctxL 59) maxRounds (Env.set .d0 .d0 (.int .u8 (.ofNat a)) (envOf (st6 8))) (heapOf (st6 8)))) = true := by kernel_rfl
theorem c6_9 (a : Nat) : isTrue (endCall i6.results (code r6 (lev ctxL 59) maxRounds (Env.set .d0 .d0 (.int .u8 (.ofNat a)) (envOf (st6 9))) (heapOf (st6 9)))) = true := by kernel_rfl
theorem c6_10 (a : Nat) : isTrue (endCall i6.results (code r6 (lev ctxL 59) maxRounds (Env.set .d0 .d0 (.int .u8 (.ofNat a)) (envOf (st6 10))) (heapOf (st6 10)))) = true := by kernel_rfl
theorem c6_11 (a : Nat) : isTrue (endCall i6.results (code r6 (lev ctxL 59) maxRounds (Env.set .d0 .d0 (.int .u8 (.ofNat a)) (envOf (st6 11))) (heapOf (st6 11)))) = true := by kernel_rfl
theorem c6_12 (a : Nat) : isTrue (endCall i6.results (code r6 (lev ctxL 59) maxRounds (Env.set .d0 .d0 (.int .u8 (.ofNat a)) (envOf (st6 12))) (heapOf (st6 12)))) = true := by kernel_rfl
theorem c6_13 (a : Nat) : isTrue (endCall i6.results (code r6 (lev ctxL 59) maxRounds (Env.set .d0 .d0 (.int .u8 (.ofNat a)) (envOf (st6 13))) (heapOf (st6 13)))) = true := by kernel_rfl
theorem all6 : ∀ r, r < 14 → ∀ a : Nat, isTrue (endCall i6.results (code r6 (lev ctxL 59) maxRounds (Env.set .d0 .d0 (.int .u8 (.ofNat a)) (envOf (st6 r))) (heapOf (st6 r)))) = true := by
  intro r hr a
  match r, hr with
  | 0, _ => exact c6_0 a
  | 1, _ => exact c6_1 a
  | 2, _ => exact c6_2 a
  | 3, _ => exact c6_3 a
  | 4, _ => exact c6_4 a
  | 5, _ => exact c6_5 a
  | 6, _ => exact c6_6 a
  | 7, _ => exact c6_7 a
  | 8, _ => exact c6_8 a
  | 9, _ => exact c6_9 a
  | 10, _ => exact c6_10 a
  | 11, _ => exact c6_11 a
  | 12, _ => exact c6_12 a
  | 13, _ => exact c6_13 a
  | n + 14, h => exact absurd h (by omega)

theorem run6 (a : Nat) (ha : a < 256) : isTrue (lev ctxL 60 6 [.int .u8 (.ofNat a)] .none Heap.empty).1 = true := by
  have h := allBelow_at pre6 a ha
  have h1 := Bool.and_of h; have h2 := Bool.and_of h1.2
  have e1 := Env.same_eq h2.1
  have e2 := Heap.same_eq h2.2
  have e0 : (lev ctxL 60 6 [.int .u8 (.ofNat a)] .none Heap.empty).1 = runFun i6 (lev ctxL 59) [.int .u8 (.ofNat a)] Heap.empty := by kernel_rfl
  rw [e0, runFun_split body6 (by kernel_rfl) h1.1]
  show isTrue (endCall i6.results (code r6 (lev ctxL 59) maxRounds (envOf (st6 a)) (heapOf (st6 a)))) = true
  rw [e1, e2]
  exact all6 (a.mod 14) (Nat.mod_lt _ (by decide)) a
end
end Go.Eng.Ytjgmahbgfbkhnaa
