/- Part of a proof of a law, by the evaluator: closed runs and their parts. No condition of its own. -/
import Derived.Test.YtjobofnpmmjeoaaDoorBase
set_option maxRecDepth 1000000
namespace Go.Eng.YtjobofnpmmjeoaaDoor
open Go.Eng
noncomputable section
def p7 : List C := [(.reg 1 [.s .d0 .d1 (.L (.mov (.c (.bool false))))]), (.reg 1 [.s .d0 .d2 (.L (.bsl 1 18 [.str 0 0] [(0, 1, (.c (.str 0 0))), (1, 1, (.c (.str 6 111516500389741))), (2, 1, (.c (.str 8 7863396465889275757))), (3, 1, (.c (.str 16 154784629607804374033051861393611190125))), (4, 1, (.c (.str 20 337926000386867760556251884355343040300018069357))), (5, 1, (.c (.str 20 338996435135550129704230208442306339357000494957))), (6, 1, (.c (.str 29 3382960110945655814257855220654994812637931822881257853689287724527469))), (7, 1, (.c (.str 26 201640132986415436210529805690274850259201389335727021932965741))), (8, 1, (.c (.str 33 14257122693017325456221588139622645418789755833627798083741240497053365407346541))), (9, 1, (.c (.str 37 62228481544643702135305795663254878472851051049501409049693940590801415864954651972759405))), (10, 1, (.c (.str 41 267267304936037280897932057971447775393262102755398443213787838101124578502651432994299696560500589))), (11, 1, (.c (.str 40 1044020676186256194425202248507590022270101781800130239763904767951227086599978250815213131820909))), (12, 1, (.c (.str 44 4484037394804029547905115191401785811847264900568007125566605205073002157424272201816908111979191434768237))), (13, 1, (.c (.str 11 145223310302504144364400493))), (14, 1, (.c (.str 9 1095356621079191904620))), (15, 1, (.c (.str 50 1262134174152300450195756819164465445880983140422352408538528042306320364150701986099213894538606742172234476509156634477))), (16, 1, (.c (.str 36 243080094963153762434114463817856546590858372858480900547602015147379496361330479492973))), (17, 1, (.c (.str 44 2128055219896794472968646634997861707746309127501746042052482851578518504558332323493654555629347404017517)))]))]), (.reg 1 [.s .d0 .d6 (.L (.bsl 1 18 [.int .i64 0] [(0, 1, (.c (.int .i64 0))), (1, 1, (.c (.int .i64 6))), (2, 1, (.c (.int .i64 8))), (3, 1, (.c (.int .i64 16))), (4, 1, (.c (.int .i64 16))), (5, 1, (.c (.int .i64 19))), (6, 1, (.c (.int .i64 19))), (7, 1, (.c (.int .i64 24))), (8, 1, (.c (.int .i64 33))), (9, 1, (.c (.int .i64 36))), (10, 1, (.c (.int .i64 38))), (11, 1, (.c (.int .i64 39))), (12, 1, (.c (.int .i64 34))), (13, 1, (.c (.int .i64 10))), (14, 1, (.c (.int .i64 0))), (15, 1, (.c (.int .i64 44))), (16, 1, (.c (.int .i64 18))), (17, 1, (.c (.int .i64 35)))]))]), (.reg 26 [.p (.L (.conv .i64 (.t .d0 .d0))),
    .p (.L (.len false (.t .d0 .d2))),
    .s .d0 .d3 (.L (.bin .rem (.l 1) (.l 0)))])]
def r7 : C := (.seq (.reg 8156 [.p (.L (.iaddr 1 (.t .d0 .d2) (.t .d0 .d3))),
    .p (.L (.load (.l 0))),
    .p (.H (.call 10 [(.l 0)])),
    .p (.L (.ext 0 (.l 0))),
    .p (.L (.ext 1 (.l 1))),
    .p (.L (.ext 2 (.l 2))),
    .s .d0 .d7 (.L (.alloc [.str 0 0, .int .i64 0, .slN, .slN, .slN])),
    .p (.H (.store 5 (.l 0) (.l 3))),
    .s .d0 .d4 (.L (.mov (.l 3))),
    .s .d0 .d5 (.L (.mov (.l 3)))])
  (.seq (.reg 456694 [.p (.H (.call 12 [(.t .d0 .d4)])),
    .p (.L (.bin .eql (.l 0) (.c (.int .i64 11)))),
    .g (.l 0) true (.L (.mov (.t .d0 .d5))),
    .g (.l 1) true (.L (.mov (.t .d0 .d6))),
    .g (.l 2) true (.L (.mov (.t .d0 .d3))),
    .g (.l 3) true (.L (.iaddr 1 (.l 1) (.l 0))),
    .g (.l 4) true (.L (.load (.l 0))),
    .g (.l 5) true (.L (.bin .eql (.l 4) (.l 0))),
    .p (.L (.pick (.l 6) (.l 0) (.c (.bool false)))),
    .g (.l 0) true (.L (.faddr 0 (.t .d0 .d7))),
    .g (.l 1) true (.L (.load (.l 0))),
    .g (.l 2) true (.L (.bins .eql (.l 0) (.c (.str 0 0)))),
    .p (.L (.pick (.l 3) (.l 0) (.c (.bool false)))),
    .g (.l 0) true (.H (.call 9 [])),
    .s .d0 .d1 (.L (.pick (.l 1) (.l 0) (.c (.bool false))))])
  .ret))
def st (a : Nat) : CR := code (seqs p7 .skip) (lev ctx 59) maxRounds (argsP [.int .u8 (.ofNat a)] 0 Env.nil) Heap.empty
theorem body7 : i7.body = seqs p7 r7 := by kernel_rfl
theorem pre7 : allBelow (fun a => isNrm (st a) && (Env.same (envOf (st a)) (Env.set .d0 .d0 (.int .u8 (.ofNat a)) (envOf (st (a.mod 18)))) && Heap.same (heapOf (st a)) (heapOf (st (a.mod 18))))) 256 = true := by kernel_rfl
theorem c7_0 (a : Nat) : isTrue (endCall i7.results (code r7 (lev ctx 59) maxRounds (Env.set .d0 .d0 (.int .u8 (.ofNat a)) (envOf (st 0))) (heapOf (st 0)))) = true := by kernel_rfl
theorem c7_1 (a : Nat) : isTrue (endCall i7.results (code r7 (lev ctx 59) maxRounds (Env.set .d0 .d0 (.int .u8 (.ofNat a)) (envOf (st 1))) (heapOf (st 1)))) = true := by kernel_rfl
theorem c7_2 (a : Nat) : isTrue (endCall i7.results (code r7 (lev ctx 59) maxRounds (Env.set .d0 .d0 (.int .u8 (.ofNat a)) (envOf (st 2))) (heapOf (st 2)))) = true := by kernel_rfl
theorem c7_3 (a : Nat) : isTrue (endCall i7.results (code r7 (lev ctx 59) maxRounds (Env.set .d0 .d0 (.int .u8 (.ofNat a)) (envOf (st 3))) (heapOf (st 3)))) = true := by kernel_rfl
theorem c7_4 (a : Nat) : isTrue (endCall i7.results (code r7 (lev ctx 59) maxRounds (Env.set .d0 .d0 (.int .u8 (.ofNat a)) (envOf (st 4))) (heapOf (st 4)))) = true := by kernel_rfl
theorem c7_5 (a : Nat) : isTrue (endCall i7.results (code r7 (lev ctx 59) maxRounds (Env.set .d0 .d0 (.int .u8 (.ofNat a)) (envOf (st 5))) (heapOf (st 5)))) = true := by kernel_rfl
theorem c7_6 (a : Nat) : isTrue (endCall i7.results (code r7 (lev ctx 59) maxRounds (Env.set .d0 .d0 (.int .u8 (.ofNat a)) (envOf (st 6))) (heapOf (st 6)))) = true := by kernel_rfl
theorem c7_7 (a : Nat) : isTrue (endCall i7.results (code r7 (lev ctx 59) maxRounds (Env.set .d0 .d0 (.int .u8 (.ofNat a)) (envOf (st 7))) (heapOf (st 7)))) = true := by kernel_rfl
theorem c7_8 (a : Nat) : isTrue (endCall i7.results (code r7 (lev ctx 59) maxRounds (Env.set .d0 .d0 (.int .u8 (.ofNat a)) (envOf (st 8))) (heapOf (st 8)))) = true := by kernel_rfl
theorem c7_9 (a : Nat) : isTrue (endCall i7.results (code r7 (lev ctx 59) maxRounds (Env.set .d0 .d0 (.int .u8 (.ofNat a)) (envOf (st 9))) (heapOf (st 9)))) = true := by kernel_rfl
theorem c7_10 (a : Nat) : isTrue (endCall i7.results (code r7 (lev ctx 59) maxRounds (Env.set .d0 .d0 (.int .u8 (.ofNat a)) (envOf (st 10))) (heapOf (st 10)))) = true := by kernel_rfl
theorem c7_11 (a : Nat) : isTrue (endCall i7.results (code r7 (lev ctx 59) maxRounds (Env.set .d0 .d0 (.int .u8 (.ofNat a)) (envOf (st 11))) (heapOf (st 11)))) = true := by kernel_rfl
theorem c7_12 (a : Nat) : isTrue (endCall i7.results (code r7 (lev ctx 59) maxRounds (Env.set .d0 .d0 (.int .u8 (.ofNat a)) (envOf (st 12))) (heapOf (st 12)))) = true := by kernel_rfl
theorem c7_13 (a : Nat) : isTrue (endCall i7.results (code r7 (lev ctx 59) maxRounds (Env.set .d0 .d0 (.int .u8 (.ofNat a)) (envOf (st 13))) (heapOf (st 13)))) = true := by kernel_rfl
theorem c7_14 (a : Nat) : isTrue (endCall i7.results (code r7 (lev ctx 59) maxRounds (Env.set .d0 .d0 (.int .u8 (.ofNat a)) (envOf (st 14))) (heapOf (st 14)))) = true := by kernel_rfl
theorem c7_15 (a : Nat) : isTrue (endCall i7.results (code r7 (lev ctx 59) maxRounds (Env.set .d0 .d0 (.int .u8 (.ofNat a)) (envOf (st 15))) (heapOf (st 15)))) = true := by kernel_rfl
theorem c7_16 (a : Nat) : isTrue (endCall i7.results (code r7 (lev ctx 59) maxRounds (Env.set .d0 .d0 (.int .u8 (.ofNat a)) (envOf (st 16))) (heapOf (st 16)))) = true := by kernel_rfl
theorem c7_17 (a : Nat) : isTrue (endCall i7.results (code r7 (lev ctx 59) maxRounds (Env.set .d0 .d0 (.int .u8 (.ofNat a)) (envOf (st 17))) (heapOf (st 17)))) = true := by kernel_rfl
theorem all7 : ∀ r, r < 18 → ∀ a : Nat, isTrue (endCall i7.results (code r7 (lev ctx 59) maxRounds (Env.set .d0 .d0 (.int .u8 (.ofNat a)) (envOf (st r))) (heapOf (st r)))) = true := by
  intro r hr a
  match r, hr with
  | 0, _ => exact c7_0 a
  | 1, _ => exact c7_1 a
  | 2, _ => exact c7_2 a
  | 3, _ => exact c7_3 a
  | 4, _ => exact c7_4 a
  | 5, _ => exact c7_5 a
  | 6, _ => exact c7_6 a
  | 7, _ => exact c7_7 a
  | 8, _ => exact c7_8 a
  | 9, _ => exact c7_9 a
  | 10, _ => exact c7_10 a
  | 11, _ => exact c7_11 a
  | 12, _ => exact c7_12 a
  | 13, _ => exact c7_13 a
  | 14, _ => exact c7_14 a
  | 15, _ => exact c7_15 a
  | 16, _ => exact c7_16 a
  | 17, _ => exact c7_17 a
  | n + 18, h => exact absurd h (by omega)

theorem run7 (a : Nat) (ha : a < 256) : isTrue (lev ctx 60 7 [.int .u8 (.ofNat a)] .none Heap.empty).1 = true := by
  have h := allBelow_at pre7 a ha
  have h1 := Bool.and_of h; have h2 := Bool.and_of h1.2
  have e1 := Env.same_eq h2.1
  have e2 := Heap.same_eq h2.2
  have e0 : (lev ctx 60 7 [.int .u8 (.ofNat a)] .none Heap.empty).1 = runFun i7 (lev ctx 59) [.int .u8 (.ofNat a)] Heap.empty := by kernel_rfl
  rw [e0, runFun_split body7 (by kernel_rfl) h1.1]
  show isTrue (endCall i7.results (code r7 (lev ctx 59) maxRounds (envOf (st a)) (heapOf (st a)))) = true
  rw [e1, e2]
  exact all7 (a.mod 18) (Nat.mod_lt _ (by decide)) a
end
end Go.Eng.YtjobofnpmmjeoaaDoor
