/- Part of a proof of a law, by an evaluator that the machine follows: rules, contracts of functions, what they come to. No condition of its own. -/
import Derived.Test.YtjgmahbgfbkhnaaCode
import Derived.Test.YtjgmahbgfbkhnaaSym
import Derived.Test.YtjgmahbgfbkhnaaBase
import Derived.Test.YtjgmahbgfbkhnaaTwo
namespace Go.Eng.Ytjgmahbgfbkhnaa
open Go.Eng
noncomputable section
variable {c : Ctx} {h : Heap}
/-- a table of truths in memory -/
def MatH (h : Heap) (tb n : Nat) (M : Nat → Nat → Bool) : Prop := ∃ lb lo cap, h.load1 tb 1 = some (.sl lb lo n cap) ∧ ∀ a, a < n → ∃ rb ro rcap, h.load1 lb (lo + a * 1) = some (.sl rb ro n rcap) ∧ ∀ b, b < n → h.load1 rb (ro + b * 1) = some (.bool (M a b))
/-- a function that answers, and changes nothing -/
def Ans (c : Ctx) (h : Heap) (f : Nat) (xs : List V) (b : Bool) : Prop := RunP c f xs h fun v h1 => v = .bool b ∧ h1 = h
theorem le_c (H : T.get 46 c.funs = some i46) {tb n a b : Nat} {M : Nat → Nat → Bool} (m : MatH h tb n M) (ha : a < n) (hb : b < n) : Ans c h 46 [.int .i64 (a : Int), .int .i64 (b : Int), .ptr tb 0] (M a b) := by
  obtain ⟨lb, lo, cap, h1, hm⟩ := m
  obtain ⟨rb, ro, rcap, h2, hm⟩ := hm a ha
  refine RunP.fun_ H rfl ?_
  refine WP.seq (WP.reg (WO.valS (v := .bool false) rfl (WO.nil ?_)))
  refine WP.seq (WP.reg ?_)
  refine WO.val (v := .ptr tb 1) (L.faddr rfl) ?_
  refine WO.val (v := .sl lb lo n cap) (L.load rfl h1) ?_
  refine WO.val (v := .ptr lb (lo + a * 1)) (L.iaddr rfl rfl ha) ?_
  refine WO.val (v := .sl rb ro n rcap) (L.load rfl h2) ?_
  refine WO.val (v := .ptr rb (ro + b * 1)) (L.iaddr rfl rfl hb) ?_
  refine WO.valS (v := .bool (M a b)) (L.load rfl (hm b hb)) (WO.nil (WP.ret ?_))
  exact ⟨_, res_cons (res_tmp (v := .bool (M a b)) rfl) (res_nil _ _), rfl, rfl⟩
theorem ge_c (H : T.get 47 c.funs = some i47) {tb n a b : Nat} {M : Nat → Nat → Bool} (m : MatH h tb n M) (ha : a < n) (hb : b < n) : Ans c h 47 [.int .i64 (a : Int), .int .i64 (b : Int), .ptr tb 0] (M b a) := by
  obtain ⟨lb, lo, cap, h1, hm⟩ := m
  obtain ⟨rb, ro, rcap, h2, hm⟩ := hm b hb
  refine RunP.fun_ H rfl ?_
  refine WP.seq (WP.reg (WO.valS (v := .bool false) rfl (WO.nil ?_)))
  refine WP.seq (WP.reg ?_)
  refine WO.val (v := .ptr tb 1) (L.faddr rfl) ?_
  refine WO.val (v := .sl lb lo n cap) (L.load rfl h1) ?_
  refine WO.val (v := .ptr lb (lo + b * 1)) (L.iaddr rfl rfl hb) ?_
  refine WO.val (v := .sl rb ro n rcap) (L.load rfl h2) ?_
  refine WO.val (v := .ptr rb (ro + a * 1)) (L.iaddr rfl rfl ha) ?_
  refine WO.valS (v := .bool (M b a)) (L.load rfl (hm a ha)) (WO.nil (WP.ret ?_))
  exact ⟨_, res_cons (res_tmp (v := .bool (M b a)) rfl) (res_nil _ _), rfl, rfl⟩
/-- both are below c -/
theorem up_c (H : T.get 49 c.funs = some i49) (H6 : T.get 46 c.funs = some i46) {tb n lb ab bb a b x : Nat} {M : Nat → Nat → Bool} (m : MatH h tb n M) (hl : h.load1 lb 0 = some (.fn 46 [] [.ptr tb 0])) (h1 : h.load1 ab 0 = some (.int .i64 (a : Int))) (h2 : h.load1 bb 0 = some (.int .i64 (b : Int))) (ha : a < n) (hb : b < n) (hx : x < n) :
    Ans c h 49 [.int .i64 (x : Int), .ptr lb 0, .ptr ab 0, .ptr bb 0] (M a x && M b x) := by
  refine RunP.fun_ H rfl ?_
  refine WP.seq (WP.reg (WO.valS (v := .bool false) rfl (WO.nil ?_)))
  refine WP.seq (WP.reg ?_)
  refine WO.val (v := .fn 46 [] [.ptr tb 0]) (L.load rfl hl) ?_
  refine WO.val (v := .int .i64 (a : Int)) (L.load rfl h1) ?_
  refine WO.callvF rfl rfl (le_c H6 m ha hx) ?_
  rintro _ h ⟨rfl, rfl⟩
  cases M a x with
  | false =>
    refine WO.no rfl (WO.no rfl (WO.no rfl (WO.no rfl ?_)))
    refine WO.valS (v := .bool false) rfl (WO.nil (WP.ret ?_))
    exact ⟨_, res_cons (res_tmp (v := .bool false) rfl) (res_nil _ _), rfl, rfl⟩
  | true =>
    refine WO.yes rfl (WO.val (v := .fn 46 [] [.ptr tb 0]) (L.load rfl hl) ?_)
    refine WO.yes rfl (WO.val (v := .int .i64 (b : Int)) (L.load rfl h2) ?_)
    refine WO.yes rfl (WO.val (v := .int .i64 (x : Int)) rfl ?_)
    refine WO.yes rfl (WO.callvF rfl rfl (le_c H6 m hb hx) ?_)
    rintro _ h ⟨rfl, rfl⟩
    refine WO.valS (v := .bool (M b x)) rfl (WO.nil (WP.ret ?_))
    exact ⟨_, res_cons (res_tmp (v := .bool (M b x)) rfl) (res_nil _ _), by rw [Bool.true_and]; rfl, rfl⟩
theorem down_c (H : T.get 50 c.funs = some i50) (H6 : T.get 46 c.funs = some i46) {tb n lb ab bb a b x : Nat} {M : Nat → Nat → Bool} (m : MatH h tb n M) (hl : h.load1 lb 0 = some (.fn 46 [] [.ptr tb 0])) (h1 : h.load1 ab 0 = some (.int .i64 (a : Int))) (h2 : h.load1 bb 0 = some (.int .i64 (b : Int))) (ha : a < n) (hb : b < n) (hx : x < n) :
    Ans c h 50 [.int .i64 (x : Int), .ptr lb 0, .ptr ab 0, .ptr bb 0] (M x a && M x b) := by
  refine RunP.fun_ H rfl ?_
  refine WP.seq (WP.reg (WO.valS (v := .bool false) rfl (WO.nil ?_)))
  refine WP.seq (WP.reg ?_)
  refine WO.val (v := .fn 46 [] [.ptr tb 0]) (L.load rfl hl) ?_
  refine WO.val (v := .int .i64 (a : Int)) (L.load rfl h1) ?_
  refine WO.callvF rfl rfl (le_c H6 m hx ha) ?_
  rintro _ h ⟨rfl, rfl⟩
  cases M x a with
  | false =>
    refine WO.no rfl (WO.no rfl (WO.no rfl (WO.no rfl ?_)))
    refine WO.valS (v := .bool false) rfl (WO.nil (WP.ret ?_))
    exact ⟨_, res_cons (res_tmp (v := .bool false) rfl) (res_nil _ _), rfl, rfl⟩
  | true =>
    refine WO.yes rfl (WO.val (v := .fn 46 [] [.ptr tb 0]) (L.load rfl hl) ?_)
    refine WO.yes rfl (WO.val (v := .int .i64 (x : Int)) rfl ?_)
    refine WO.yes rfl (WO.val (v := .int .i64 (b : Int)) (L.load rfl h2) ?_)
    refine WO.yes rfl (WO.callvF rfl rfl (le_c H6 m hx hb) ?_)
    rintro _ h ⟨rfl, rfl⟩
    refine WO.valS (v := .bool (M x b)) rfl (WO.nil (WP.ret ?_))
    exact ⟨_, res_cons (res_tmp (v := .bool (M x b)) rfl) (res_nil _ _), by rw [Bool.true_and]; rfl, rfl⟩
theorem true_c {f : Nat} {F : Fun} (H : T.get f c.funs = some F) (hF : F = i51 ∨ F = i52) {x : Nat} : Ans c h f [.int .i64 (x : Int)] true := by
  rcases hF with rfl | rfl <;>
  · refine RunP.fun_ H rfl ?_
    refine WP.seq (WP.reg (WO.valS (v := .bool false) rfl (WO.nil ?_)))
    refine WP.seq (WP.reg (WO.valS (v := .bool true) rfl (WO.nil (WP.ret ?_))))
    exact ⟨_, res_cons (res_tmp (v := .bool true) rfl) (res_nil _ _), rfl, rfl⟩

/-- is it below all that are so? -/
def lower (n : Nat) (le : Nat → Nat → Bool) (is : Nat → Bool) (x : Nat) : Bool := (List.range n).all fun d => !is d || le x d
def leastP (n : Nat) (le : Nat → Nat → Bool) (is : Nat → Bool) : Option Nat := (List.range n).find? fun x => is x && lower n le is x
def leastV : Option Nat → V
  | some x => .tup [.int .i64 (x : Int), .bool true]
  | none => .tup [.int .i64 0, .bool false]
theorem find_none {n : Nat} {p : Nat → Bool} (h : ∀ x, x < n → p x = false) : (List.range n).find? p = none := by
  rw [List.find?_eq_none]; intro x hx; simp [h x (List.mem_range.1 hx)]
theorem find_some {p : Nat → Bool} {x : Nat} : ∀ {n : Nat}, x < n → p x = true → (∀ y, y < x → p y = false) → (List.range n).find? p = some x
  | 0, hx, _, _ => by omega
  | n + 1, hx, hp, hl => by
    rw [List.range_succ, List.find?_append]
    by_cases e : x = n
    · subst e; rw [find_none hl]; simp [hp]
    · rw [find_some (n := n) (by omega) hp hl]; rfl
theorem least_c (H : T.get 48 c.funs = some i48) {n f1 f2 : Nat} {c1 c2 : List V} {le : Nat → Nat → Bool} {is : Nat → Bool} (hn : n < 4294967296) (hle : ∀ a b, a < n → b < n → Ans c h f1 ([.int .i64 (a : Int), .int .i64 (b : Int)] ++ c1) (le a b)) (his : ∀ a, a < n → Ans c h f2 ([.int .i64 (a : Int)] ++ c2) (is a)) :
    RunP c 48 [.int .i64 (n : Int), .fn f1 [] c1, .fn f2 [] c2] h fun v h1 => v = leastV (leastP n le is) ∧ h1 = h := by
  refine RunP.fun_ H rfl ?_
  refine WP.seq (WP.reg (WO.valS (v := .int .i64 0) rfl (WO.valS (v := .bool false) rfl (WO.nil ?_))))
  refine WP.seq (WP.skip ?_)
  refine WP.seq (WP.seq (WP.reg (WO.valS (v := .int .i64 (n : Int)) rfl (WO.valS (v := .int .i64 0) rfl (WO.nil ?_)))))
  refine WP.block ?_
  refine WP.loopG (α := Nat) (fun k env h1 => ∃ x7 x8 x9 x10 x11 x12 x13 x14, k ≤ n ∧ (∀ y, y < k → (is y && lower n le is y) = false) ∧ env = argsP [.int .i64 (n : Int), .fn f1 [] c1, .fn f2 [] c2, .int .i64 0, .bool false, .int .i64 (k : Int), .int .i64 (n : Int), x7, x8, x9, x10, x11, x12, x13, x14] 0 Env.nil ∧ h1 = h) (fun k => n - k) 0 ⟨.bot, .bot, .bot, .bot, .bot, .bot, .bot, .bot, Nat.zero_le _, fun y hy => by omega, by kernel_rfl, rfl⟩ ?_
  rintro k _ h ⟨x7, x8, x9, x10, x11, x12, x13, x14, hk, hlow, rfl, rfl⟩
  refine WP.seq (WP.reg (WO.ifS (L.lss rfl rfl) (fun c1' => WO.nil ?_) (fun c1' => WO.nil ?_)))
  · have hkn : k < n := by omega
    refine WP.seq (WP.cond (t := true) rfl (WP.skip ?_))
    refine WP.seq (WP.block ?_)
    refine WP.seq (WP.reg (WO.valS (v := .int .i64 (k : Int)) rfl (WO.nil ?_)))
    refine WP.seq (WP.seq (WP.reg (WO.callvF rfl rfl (his k hkn) ?_)))
    rintro _ h ⟨rfl, rfl⟩
    -- what follows a 'no'
    have next : ∀ {e : Env} {y7 y8 y9 y10 y11 y12 y13 y14 : V}, (is k && lower n le is k) = false → e = argsP [.int .i64 (n : Int), .fn f1 [] c1, .fn f2 [] c2, .int .i64 0, .bool false, .int .i64 (k : Int), .int .i64 (n : Int), y7, y8, y9, y10, y11, y12, y13, y14] 0 Env.nil →
        ∀ {Q : QT}, (∀ (y7 y8 y9 y10 y11 y12 y13 y14 : V), Q .nrm (argsP [.int .i64 (n : Int), .fn f1 [] c1, .fn f2 [] c2, .int .i64 0, .bool false, .int .i64 ((k + 1 : Nat) : Int), .int .i64 (n : Int), y7, y8, y9, y10, y11, y12, y13, y14] 0 Env.nil) h) → WP c (.reg 1 [.s .d0 .d5 (.L (.bin .add (.t .d0 .d5) (.c (.int .i64 1))))]) Q e h := by
      intro e y7 y8 y9 y10 y11 y12 y13 y14 _ he Q hq
      subst he
      exact WP.reg (WO.valS (v := .int .i64 ((k + 1 : Nat) : Int)) (L.addE rfl rfl (by omega) (And.intro (by omega) (by omega))) (WO.nil (hq y7 y8 y9 y10 y11 y12 y13 y14)))
    have inv : (is k && lower n le is k) = false → ∀ y, y < k + 1 → (is y && lower n le is y) = false := fun hf y hy => by
      by_cases e : y = k
      · subst e; exact hf
      · exact hlow y (by omega)
    cases hik : is k with
    | false =>
      refine WO.valS (v := .bool true) rfl (WO.nil ?_)
      refine WP.cond (t := true) rfl (WP.exit ?_)
      have hf : (is k && lower n le is k) = false := by rw [hik]; rfl
      refine next (y7 := .bool true) (y8 := .int .i64 (k : Int)) (y9 := .bool true) (y10 := x10) (y11 := x11) (y12 := x12) (y13 := x13) (y14 := x14) hf (by kernel_rfl) fun y7 y8 y9 y10 y11 y12 y13 y14 => ?_
      exact ⟨k + 1, by omega, y7, y8, y9, y10, y11, y12, y13, y14, by omega, inv hf, rfl, rfl⟩
    | true =>
      refine WO.valS (v := .bool false) rfl (WO.nil ?_)
      refine WP.cond (t := false) rfl (WP.skip ?_)
      refine WP.seq (WP.seq (WP.reg (WO.valS (v := .int .i64 (n : Int)) rfl (WO.valS (v := .int .i64 0) rfl (WO.nil ?_)))))
      refine WP.block ?_
      refine WP.loopG (α := Nat) (fun d env h1 => ∃ x12 x13 x14, d ≤ n ∧ (∀ y, y < d → (!is y || le k y) = true) ∧ env = argsP [.int .i64 (n : Int), .fn f1 [] c1, .fn f2 [] c2, .int .i64 0, .bool false, .int .i64 (k : Int), .int .i64 (n : Int), .bool true, .int .i64 (k : Int), .bool false, .int .i64 (d : Int), .int .i64 (n : Int), x12, x13, x14] 0 Env.nil ∧ h1 = h) (fun d => n - d) 0 ⟨x12, x13, x14, Nat.zero_le _, fun y hy => by omega, by kernel_rfl, rfl⟩ ?_
      rintro d _ h ⟨x12, x13, x14, hd, hall, rfl, rfl⟩
      refine WP.seq (WP.reg (WO.ifS (L.lss rfl rfl) (fun c2' => WO.nil ?_) (fun c2' => WO.nil ?_)))
      · have hdn : d < n := by omega
        refine WP.seq (WP.cond (t := true) rfl (WP.skip ?_))
        refine WP.seq (WP.block ?_)
        refine WP.seq (WP.reg (WO.valS (v := .int .i64 (d : Int)) rfl (WO.nil ?_)))
        refine WP.seq (WP.reg (WO.callvF rfl rfl (his d hdn) ?_))
        rintro _ h ⟨rfl, rfl⟩
        have goon : ∀ {b : V}, (!is d || le k d) = true → WP c (.reg 1 [.s .d1 .d2 (.L (.bin .add (.t .d1 .d2) (.c (.int .i64 1))))]) (fun x e2 h2 => match x with
            | .nrm => ∃ g', n - g' < n - d ∧ ∃ x12 x13 x14, g' ≤ n ∧ (∀ y, y < g' → (!is y || le k y) = true) ∧ e2 = argsP [.int .i64 (n : Int), .fn f1 [] c1, .fn f2 [] c2, .int .i64 0, .bool false, .int .i64 (k : Int), .int .i64 (n : Int), .bool true, .int .i64 (k : Int), .bool false, .int .i64 (g' : Int), .int .i64 (n : Int), x12, x13, x14] 0 Env.nil ∧ h2 = h
            | _ => False) (argsP [.int .i64 (n : Int), .fn f1 [] c1, .fn f2 [] c2, .int .i64 0, .bool false, .int .i64 (k : Int), .int .i64 (n : Int), .bool true, .int .i64 (k : Int), .bool false, .int .i64 (d : Int), .int .i64 (n : Int), .bool true, .int .i64 (d : Int), b] 0 Env.nil) h := by
          intro b hb
          refine WP.reg (WO.valS (v := .int .i64 ((d + 1 : Nat) : Int)) (L.addE rfl rfl (by omega) (And.intro (by omega) (by omega))) (WO.nil ?_))
          refine ⟨d + 1, by omega, .bool true, .int .i64 (d : Int), b, by omega, fun y hy => ?_, by kernel_rfl, rfl⟩
          by_cases e : y = d
          · subst e; exact hb
          · exact hall y (by omega)
        cases hid : is d with
        | false =>
          refine WO.no rfl (WO.no rfl (WO.no rfl (WO.no rfl (WO.no rfl ?_))))
          refine WO.valS (v := .bool false) rfl (WO.nil ?_)
          refine WP.cond (t := false) rfl (WP.skip ?_)
          exact (goon (b := .bool false) (by rw [hid]; rfl)).mono fun x e h1 q => by cases x <;> first | exact q | exact q.elim
        | true =>
          refine WO.yes rfl (WO.val (v := .fn f1 [] c1) rfl ?_)
          refine WO.yes rfl (WO.val (v := .int .i64 (k : Int)) rfl ?_)
          refine WO.yes rfl (WO.val (v := .int .i64 (d : Int)) rfl ?_)
          refine WO.yes rfl (WO.callvF rfl rfl (hle k d hkn hdn) ?_)
          rintro _ h ⟨rfl, rfl⟩
          cases hld : le k d with
          | true =>
            refine WO.yes rfl (WO.val (v := .bool false) rfl ?_)
            refine WO.valS (v := .bool false) rfl (WO.nil ?_)
            refine WP.cond (t := false) rfl (WP.skip ?_)
            exact (goon (b := .bool false) (by rw [hld]; simp)).mono fun x e h1 q => by cases x <;> first | exact q | exact q.elim
          | false =>
            refine WO.yes rfl (WO.val (v := .bool true) rfl ?_)
            refine WO.valS (v := .bool true) rfl (WO.nil ?_)
            refine WP.cond (t := true) rfl (WP.exit ?_)
            have hf : (is k && lower n le is k) = false := by
              have : lower n le is k = false := by
                unfold lower
                rw [Bool.eq_false_iff]
                intro ht
                have := List.all_eq_true.1 ht d (List.mem_range.2 hdn)
                rw [hid, hld] at this
                cases this
              rw [this, Bool.and_false]
            refine next (y7 := .bool true) (y8 := .int .i64 (k : Int)) (y9 := .bool false) (y10 := .int .i64 (d : Int)) (y11 := .int .i64 (n : Int)) (y12 := .bool true) (y13 := .int .i64 (d : Int)) (y14 := .bool true) hf (by kernel_rfl) fun y7 y8 y9 y10 y11 y12 y13 y14 => ?_
            exact ⟨k + 1, by omega, y7, y8, y9, y10, y11, y12, y13, y14, by omega, inv hf, rfl, rfl⟩
      · refine WP.seq (WP.cond (t := false) rfl (WP.exit ?_))
        refine WP.seq (WP.reg (WO.valS (v := .int .i64 (k : Int)) rfl (WO.valS (v := .bool true) rfl (WO.nil (WP.ret ?_)))))
        have hdn : d = n := by omega
        subst hdn
        have hfind : leastP d le is = some k := by
          refine find_some hkn ?_ hlow
          rw [hik, Bool.true_and]
          unfold lower
          rw [List.all_eq_true]
          intro y hy
          exact hall y (List.mem_range.1 hy)
        exact ⟨_, res_cons (res_tmp (v := .int .i64 (k : Int)) rfl) (res_cons (res_tmp (v := .bool true) rfl) (res_nil _ _)), by rw [hfind]; rfl, rfl⟩
  · refine WP.seq (WP.cond (t := false) rfl (WP.exit ?_))
    refine WP.seq (WP.reg (WO.valS (v := .int .i64 0) rfl (WO.valS (v := .bool false) rfl (WO.nil (WP.ret ?_)))))
    have hkn : k = n := by omega
    subst hkn
    have hfind : leastP k le is = none := find_none hlow
    exact ⟨_, res_cons (res_tmp (v := .int .i64 0) rfl) (res_cons (res_tmp (v := .bool false) rfl) (res_nil _ _)), by rw [hfind]; rfl, rfl⟩
end
end Go.Eng.Ytjgmahbgfbkhnaa
namespace Go.Eng.Ytjgmahbgfbkhnaa
open Go.Eng
noncomputable section
/-! ### 'least', reckoned at once -/
def getB (l : List Bool) : Nat → Bool := @List.rec Bool (fun _ => Nat → Bool) (fun _ => false) (fun v _ ih d => Nat.rec v (fun d _ => ih d) d) l
def getR (l : List (List Bool)) : Nat → List Bool := @List.rec (List Bool) (fun _ => Nat → List Bool) (fun _ => []) (fun v _ ih d => Nat.rec v (fun d _ => ih d) d) l
def at2 (M : List (List Bool)) (a b : Nat) : Bool := getB (getR M a) b
theorem getB_eq : ∀ (l : List Bool) (i : Nat), getB l i = (l[i]?).getD false
  | [], i => rfl
  | a :: l, 0 => rfl
  | a :: l, i + 1 => by show getB l i = _; rw [getB_eq l i, List.getElem?_cons_succ]
theorem getR_eq : ∀ (l : List (List Bool)) (i : Nat), getR l i = (l[i]?).getD []
  | [], i => rfl
  | a :: l, 0 => rfl
  | a :: l, i + 1 => by show getR l i = _; rw [getR_eq l i, List.getElem?_cons_succ]
section
variable {R : Type}
def boolC (v : Option V) (d : R) (k : Bool → R) : R := match v with
  | some (.bool b) => Bool.rec (k false) (k true) b
  | _ => d
def rowC (d : R) (h : Heap) (rb ro : Nat) (n : Nat) : List Bool → (List Bool → R) → R := @Nat.rec (fun _ => List Bool → (List Bool → R) → R) (fun acc k => k acc)
  (fun j ih acc k => boolC (h.load1 rb (Nat.add ro j)) d fun b => ih (b :: acc) k) n
def slC (v : Option V) (n : Nat) (d : R) (k : Nat → Nat → R) : R := match v with
  | some (.sl b o m _) => Bool.rec d (k b o) (m.beq n)
  | _ => d
def matC (d : R) (h : Heap) (lb lo n : Nat) (m : Nat) : List (List Bool) → (List (List Bool) → R) → R := @Nat.rec (fun _ => List (List Bool) → (List (List Bool) → R) → R) (fun acc k => k acc)
  (fun j ih acc k => slC (h.load1 lb (Nat.add lo j)) n d fun rb ro => rowC d h rb ro n [] fun row => ih (row :: acc) k) m
theorem boolC_ne {v : Option V} {d r : R} {k : Bool → R} (hr : r ≠ d) (he : boolC v d k = r) : ∃ b, v = some (.bool b) ∧ k b = r := by
  unfold boolC at he
  split at he
  · rename_i b; exact ⟨b, rfl, by cases b <;> exact he⟩
  · exact absurd he.symm hr
theorem slC_ne {v : Option V} {n : Nat} {d r : R} {k : Nat → Nat → R} (hr : r ≠ d) (he : slC v n d k = r) : ∃ b o cap, v = some (.sl b o n cap) ∧ k b o = r := by
  unfold slC at he
  split at he
  · rename_i b o m cap
    cases hm : m.beq n with
    | false => rw [hm] at he; exact absurd he.symm hr
    | true => rw [hm] at he; rw [Nat.eq_of_beq_eq_true hm]; exact ⟨b, o, cap, rfl, he⟩
  · exact absurd he.symm hr
theorem rowC_ne {d r : R} {h : Heap} {rb ro : Nat} (hr : r ≠ d) : ∀ (n : Nat) (acc : List Bool) (k : List Bool → R), rowC d h rb ro n acc k = r → ∃ l, l.length = n ∧ (∀ i, i < n → h.load1 rb (ro + i) = some (.bool ((l ++ acc)[i]?.getD false))) ∧ k (l ++ acc) = r
  | 0, acc, k, he => ⟨[], rfl, fun i hi => by omega, he⟩
  | n + 1, acc, k, he => by
    have he : boolC (h.load1 rb (Nat.add ro n)) d (fun b => rowC d h rb ro n (b :: acc) k) = r := he
    obtain ⟨b, hb, he⟩ := boolC_ne hr he
    obtain ⟨l, hl, hall, hk⟩ := rowC_ne hr n (b :: acc) k he
    refine ⟨l ++ [b], by simp [hl], fun i hi => ?_, by rw [List.append_assoc]; exact hk⟩
    rw [List.append_assoc]
    by_cases e : i = n
    · subst e
      have hb : h.load1 rb (ro + i) = some (.bool b) := hb
      rw [hb, List.getElem?_append_right (by omega), hl]; simp
    · exact hall i (by omega)
theorem matC_ne {d r : R} {h : Heap} {lb lo n : Nat} (hr : r ≠ d) : ∀ (m : Nat) (acc : List (List Bool)) (k : List (List Bool) → R), matC d h lb lo n m acc k = r →
    ∃ l, l.length = m ∧ (∀ i, i < m → ∃ rb ro cap, h.load1 lb (lo + i) = some (.sl rb ro n cap) ∧ ∀ j, j < n → h.load1 rb (ro + j) = some (.bool (((l ++ acc)[i]?.getD [])[j]?.getD false))) ∧ k (l ++ acc) = r
  | 0, acc, k, he => ⟨[], rfl, fun i hi => by omega, he⟩
  | m + 1, acc, k, he => by
    have he : slC (h.load1 lb (Nat.add lo m)) n d (fun rb ro => rowC d h rb ro n [] fun row => matC d h lb lo n m (row :: acc) k) = r := he
    obtain ⟨rb, ro, cap, hb, he⟩ := slC_ne hr he
    obtain ⟨row, hrl, hrow, he⟩ := rowC_ne hr n [] _ he
    rw [List.append_nil] at hrow he
    obtain ⟨l, hl, hall, hk⟩ := matC_ne hr m (row :: acc) k he
    refine ⟨l ++ [row], by simp [hl], fun i hi => ?_, by rw [List.append_assoc]; exact hk⟩
    rw [List.append_assoc]
    by_cases e : i = m
    · subst e
      refine ⟨rb, ro, cap, hb, fun j hj => ?_⟩
      rw [List.getElem?_append_right (by omega), hl]
      simpa using hrow j hj
    · exact hall i (by omega)
end
/-- the first of n that is so -/
def firstB (p : Nat → Bool) (n : Nat) : Nat → Option Nat := @Nat.rec (fun _ => Nat → Option Nat) (fun _ => none) (fun _ ih i => Bool.rec (ih (Nat.succ i)) (some i) (p i)) n
theorem firstB_eq {p : Nat → Bool} : ∀ (n i N : Nat), i + n = N → (∀ y, y < i → p y = false) → firstB p n i = (List.range N).find? p
  | 0, i, N, hi, hl => by
    have : i = N := by omega
    subst this
    rw [find_none hl]; rfl
  | n + 1, i, N, hi, hl => by
    show (Bool.rec (firstB p n (Nat.succ i)) (some i) (p i) : Option Nat) = _
    cases hp : p i with
    | true => rw [find_some (by omega) hp hl]
    | false =>
      exact firstB_eq n (i + 1) N (by omega) fun y hy => by
        by_cases e : y = i
        · subst e; exact hp
        · exact hl y (by omega)
theorem allBelow_eq (p : Nat → Bool) : ∀ n, allBelow p n = (List.range n).all p
  | 0 => rfl
  | n + 1 => by
    show (Bool.rec false (allBelow p n) (p n) : Bool) = _
    rw [List.range_succ, List.all_append, allBelow_eq p n]
    have : [n].all p = p n := by simp
    rw [this]
    generalize (List.range n).all p = q
    cases p n <;> cases q <;> rfl
def orB (a b : Bool) : Bool := Bool.rec b true a
def leastR (n : Nat) (le : Nat → Nat → Bool) (is : Nat → Bool) : Option Nat := firstB (fun x => Bool.rec false (allBelow (fun d => Bool.rec true (le x d) (is d)) n) (is x)) n 0
theorem leastR_eq (n : Nat) (le : Nat → Nat → Bool) (is : Nat → Bool) : leastR n le is = leastP n le is := by
  unfold leastR leastP
  rw [firstB_eq n 0 n (by omega) (fun y hy => by omega)]
  congr 1
  funext x
  unfold lower
  rw [← allBelow_eq]
  have : (fun d => (Bool.rec true (le x d) (is d) : Bool)) = fun d => !is d || le x d := by funext d; cases is d <;> rfl
  rw [this]
  cases is x <;> simp
def leastO (h : Heap) (r : Option Nat) : OR := .ok (leastV r) h
/-- what is asked of each: both above, both below, nothing -/
def isC (h : Heap) (f2 : Nat) (c2 : List V) (tb n : Nat) (M : List (List Bool)) (k : (Nat → Bool) → OR) : OR := match c2 with
  | [.ptr lb 0, .ptr ab 0, .ptr bb 0] => (match h.load1 lb 0, h.load1 ab 0, h.load1 bb 0 with
    | some (.fn 46 [] [.ptr tb' 0]), some (.int .i64 (.ofNat a)), some (.int .i64 (.ofNat b)) =>
      bif tb'.beq tb && (a.blt n && b.blt n) then (bif f2.beq 49 then k fun x => Bool.rec false (at2 M b x) (at2 M a x) else bif f2.beq 50 then k fun x => Bool.rec false (at2 M x b) (at2 M x a) else .bad) else .bad
    | _, _, _ => .bad)
  | [] => bif f2.beq 51 || f2.beq 52 then k fun _ => true else .bad
  | _ => .bad
def leC (f1 : Nat) (M : List (List Bool)) (k : (Nat → Nat → Bool) → OR) : OR := bif f1.beq 46 then k (at2 M) else bif f1.beq 47 then k fun a b => at2 M b a else .bad
def moreLeast : Nat → List V → Heap → OR := fun f xs h => match f.beq 48, xs with
  | true, [.int .i64 (.ofNat n), .fn f1 [] [.ptr tb 0], .fn f2 [] c2] =>
    bif n.blt 4294967296 then slC (h.load1 tb 1) n .bad fun lb lo => matC .bad h lb lo n n [] fun M => isC h f2 c2 tb n M fun is => leC f1 M fun le => leastO h (leastR n le is) else .bad
  | _, _ => .bad
theorem bif_ne {b : Bool} {x r : OR} (hr : r ≠ .bad) (he : (bif b then x else .bad) = r) : b = true ∧ x = r := by
  cases b with
  | false => exact absurd he.symm hr
  | true => exact ⟨rfl, he⟩
/-- the context without the summary -/
def ctx0 : Ctx := Ctx.of funs dfuns (moreIdx 116)
theorem moreLeast_runs {f : Nat} {xs : List V} {h : Heap} (hne : moreLeast f xs h ≠ .bad) : ∃ v, moreLeast f xs h = .ok v h ∧ Runs ctx0 f xs h (.ok v h) := by
  have goal : ∀ r, moreLeast f xs h = r → r ≠ .bad → ∃ v, r = .ok v h ∧ Runs ctx0 f xs h (.ok v h) := by
    intro r he hr
    unfold moreLeast at he
    split at he
    · rename_i n f1 tb f2 c2 hf
      have hf : f = 48 := Nat.eq_of_beq_eq_true hf
      subst hf
      obtain ⟨hn, he⟩ := bif_ne hr he
      have hn : n < 4294967296 := by rw [nblt] at hn; simpa using hn
      obtain ⟨lb, lo, cap, hl, he⟩ := slC_ne hr he
      obtain ⟨M, hM, hmat, he⟩ := matC_ne hr n [] _ he
      rw [List.append_nil] at hmat he
      have mat : MatH h tb n (at2 M) := by
        refine ⟨lb, lo, cap, hl, fun a ha => ?_⟩
        obtain ⟨rb, ro, rcap, h1, h2⟩ := hmat a ha
        refine ⟨rb, ro, rcap, by rw [Nat.mul_one]; exact h1, fun b hb => ?_⟩
        rw [Nat.mul_one, h2 b hb]
        show _ = some (V.bool (getB (getR M a) b))
        rw [getB_eq, getR_eq]
      have H46 : T.get 46 ctx0.funs = some i46 := rfl
      have fin : ∀ {is : Nat → Bool}, (∀ a, a < n → Ans ctx0 h f2 ([.int .i64 (a : Int)] ++ c2) (is a)) → leC f1 M (fun le => leastO h (leastR n le is)) = r → ∃ v, r = .ok v h ∧ Runs ctx0 48 [.int .i64 (.ofNat n), .fn f1 [] [.ptr tb 0], .fn f2 [] c2] h (.ok v h) := by
        intro is his hq
        have fin2 : ∀ {le : Nat → Nat → Bool}, (∀ a b, a < n → b < n → Ans ctx0 h f1 ([.int .i64 (a : Int), .int .i64 (b : Int)] ++ [.ptr tb 0]) (le a b)) → leastO h (leastR n le is) = r → ∃ v, r = .ok v h ∧ Runs ctx0 48 [.int .i64 (.ofNat n), .fn f1 [] [.ptr tb 0], .fn f2 [] c2] h (.ok v h) := by
          intro le hle hw
          obtain ⟨v, h1, hrun, hv, rfl⟩ := least_c (c := ctx0) rfl hn hle his
          subst hw
          refine ⟨v, ?_, hrun⟩
          rw [hv, ← leastR_eq]; rfl
        unfold leC at hq
        cases h46 : f1.beq 46 with
        | true =>
          rw [h46] at hq
          have h46 : f1 = 46 := Nat.eq_of_beq_eq_true h46
          subst h46
          exact fin2 (fun a b ha hb => le_c H46 mat ha hb) hq
        | false =>
          rw [h46] at hq
          cases h47 : f1.beq 47 with
          | true =>
            rw [h47] at hq
            have h47 : f1 = 47 := Nat.eq_of_beq_eq_true h47
            subst h47
            exact fin2 (fun a b ha hb => ge_c rfl mat ha hb) hq
          | false => rw [h47] at hq; exact absurd hq.symm hr
      unfold isC at he
      split at he
      · rename_i lb2 ab bb
        split at he
        · rename_i tb' a b q1 q2 q3
          obtain ⟨hc, hz⟩ := bif_ne hr he
          have hc := Bool.and_of hc
          have hc2 := Bool.and_of hc.2
          have htb : tb' = tb := Nat.eq_of_beq_eq_true hc.1
          subst htb
          have ha : a < n := by have := hc2.1; rw [nblt] at this; simpa using this
          have hb : b < n := by have := hc2.2; rw [nblt] at this; simpa using this
          cases h49 : f2.beq 49 with
          | true =>
            rw [h49] at hz
            have h49 : f2 = 49 := Nat.eq_of_beq_eq_true h49
            subst h49
            refine fin (fun x hx => ?_) hz
            have := up_c (c := ctx0) rfl H46 mat q1 q2 q3 ha hb hx
            have e : (Bool.rec false (at2 M b x) (at2 M a x) : Bool) = (at2 M a x && at2 M b x) := by cases at2 M a x <;> rfl
            rw [e]; exact this
          | false =>
            rw [h49] at hz
            cases h50 : f2.beq 50 with
            | true =>
              rw [h50] at hz
              have h50 : f2 = 50 := Nat.eq_of_beq_eq_true h50
              subst h50
              refine fin (fun x hx => ?_) hz
              have := down_c (c := ctx0) rfl H46 mat q1 q2 q3 ha hb hx
              have e : (Bool.rec false (at2 M x b) (at2 M x a) : Bool) = (at2 M x a && at2 M x b) := by cases at2 M x a <;> rfl
              rw [e]; exact this
            | false => rw [h50] at hz; exact absurd hz.symm hr
        · exact absurd he.symm hr
      · obtain ⟨hc, hz⟩ := bif_ne hr he
        rw [Bool.or_eq_true] at hc
        refine fin (fun x hx => ?_) hz
        rcases hc with hc | hc
        · have hc : f2 = 51 := Nat.eq_of_beq_eq_true hc
          subst hc
          exact true_c (c := ctx0) (F := i51) rfl (.inl rfl)
        · have hc : f2 = 52 := Nat.eq_of_beq_eq_true hc
          subst hc
          exact true_c (c := ctx0) (F := i52) rfl (.inr rfl)
      · exact absurd he.symm hr
    · exact absurd he.symm hr
  exact goal _ rfl hne
theorem moreLeast_ok : MoreOk Go.Proofs.Try.prog moreLeast := by
  intro f xs h
  by_cases hne : moreLeast f xs h = .bad
  · rw [hne]; exact ⟨trivial, fun h => absurd rfl h⟩
  · obtain ⟨v, e, N, hr⟩ := moreLeast_runs hne
    have hx := hr N (Nat.le_refl _) N (Nat.le_refl _)
    rw [e]
    have hl := ((lev_sound (P := Go.Proofs.Try.prog) (by kernel_rfl) ctx0 chkAll (sums_ok (by kernel_rfl) chkdAll moreOk) N N).1 f xs h (by rw [hx]; simp))
    refine ⟨Nat.le_refl _, fun _ => ⟨hl.1, fun ι w args g hv => ?_⟩⟩
    have := hl.2 ι w args g (by rw [hx]; intro b h1 h2; omega) hv
    rw [hx] at this; exact this
end
end Go.Eng.Ytjgmahbgfbkhnaa
/- The program's context with one function reckoned at once. No condition of its own. -/
set_option maxRecDepth 1000000
namespace Go.Eng.Ytjgmahbgfbkhnaa
open Go.Eng
noncomputable section
def funsL : T Fun := ⟨⟨⟨⟨none, none, none, (some i3), (some i4), (some i5), (some i6), (some i7)⟩, ⟨(some i8), (some i9), (some i10), (some i11), (some i12), (some i13), (some i14), (some i15)⟩, ⟨(some i16), (some i17), (some i18), (some i19), (some i20), (some i21), (some i22), (some i23)⟩, ⟨(some i24), (some i25), (some i26), (some i27), (some i28), (some i29), (some i30), (some i31)⟩, ⟨(some i32), (some i33), (some i34), (some i35), (some i36), (some i37), (some i38), (some i39)⟩, ⟨(some i40), (some i41), (some i42), (some i43), (some i44), (some i45), (some i46), (some i47)⟩, ⟨none, (some i49), (some i50), (some i51), (some i52), (some i53), (some i54), (some i55)⟩, ⟨none, (some i57), (some i58), (some i59), (some i60), (some i61), (some i62), (some i63)⟩⟩, ⟨⟨(some i64), (some i65), (some i66), (some i67), (some i68), (some i69), (some i70), (some i71)⟩, ⟨(some i72), (some i73), (some i74), (some i75), (some i76), (some i77), (some i78), (some i79)⟩, ⟨(some i80), none, (some i82), (some i83), (some i84), (some i85), (some i86), (some i87)⟩, ⟨(some i88), (some i89), (some i90), (some i91), (some i92), (some i93), (some i94), (some i95)⟩, ⟨(some i96), (some i97), (some i98), (some i99), (some i100), (some i101), (some i102), (some i103)⟩, ⟨(some i104), (some i105), (some i106), (some i107), (some i108), (some i109), (some i110), (some i111)⟩, ⟨(some i112), (some i113), (some i114), (some i115), none, none, none, none⟩, n1⟩, n2, n2, n2, n2, n2, n2⟩, none, .mt⟩
theorem chkAllL : allT (chkF Go.Proofs.Try.prog) funsL = true := by kernel_rfl
theorem moreOkL : MoreOk Go.Proofs.Try.prog (more2 (moreIdx 116) moreLeast) := more2_ok moreOk moreLeast_ok
def ctxL : Ctx := Ctx.of funsL dfuns (more2 (moreIdx 116) moreLeast)
end
end Go.Eng.Ytjgmahbgfbkhnaa
