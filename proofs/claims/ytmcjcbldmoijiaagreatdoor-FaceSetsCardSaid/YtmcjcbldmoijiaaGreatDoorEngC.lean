/- Part of a proof of a law, by an evaluator that the machine follows: rules, contracts of functions, what they come to. No condition of its own. -/
import Derived.Test.YtmcjcbldmoijiaaGreatDoorEngB
import Derived.Below
import Derived.Recover
import Derived.KernelRfl
set_option linter.unusedVariables false
set_option linter.unusedSimpArgs false
namespace Go.Eng
noncomputable section

/-! ### functions -/
def idOk : List Nat → Nat → Nat → Bool
  | _, _, 0 => true
  | t :: l, k, n + 1 => t == k && idOk l (k + 1) n
  | [], _, _ + 1 => false
def chkR (P : Program) (temps : List Nat) : ResultVar → Res → Bool
  | .tmp t, .tmp i j => chkAt (Fct.start temps) (.tmp t) (.t i j)
  | .cell a t, .cell i j none => aggIs P t false && chkAt (Fct.start temps) (.tmp a) (.t i j)
  | .cell a t, .cell i j (some n) => aggIs P t true && (sizeIs P t n && chkAt (Fct.start temps) (.tmp a) (.t i j))
  | _, _ => false
def chkRs (P : Program) (temps : List Nat) : List ResultVar → List Res → Bool
  | [], [] => true
  | a :: l, b :: m => chkR P temps a b && chkRs P temps l m
  | _, _ => false
def chkF (P : Program) (f : Nat) (F : Fun) : Bool := match P.funcs[f]? with
  | some fn => fn.name != "runtime.NumGoroutine" && (match fn.body with
    | some c => (decide (F.temps.length ≤ 64) && (decide (F.np ≤ F.temps.length) && idOk F.temps 0 F.np)) && (decide (F.np ≤ fn.ntmps) && (chkC P F.temps fn.ntmps c F.body && chkRs P F.temps fn.results.toList F.results))
    | none => false)
  | none => false

def argsP : List V → Nat → Env → Env
  | [], _, env => env
  | v :: l, i, env => argsP l (i + 1) (Env.set (slotOf i).1 (slotOf i).2 v env)
theorem args_eq : ∀ (l : List V) (i : Nat) (env : Env) (k : Env → CR), args l i env k = k (argsP l i env)
  | [], _, _, _ => rfl
  | v :: l, i, env, k => by
    show v.force (fun v => Env.setC (slotOf i).1 (slotOf i).2 v (fun env => args l (i + 1) env k) env) = _
    rw [V.force_eq, Env.setC_eq, args_eq l]; rfl
theorem slotOf_inj {j k : Nat} (hj : j < 64) (hk : k < 64) (h : slotOf j = slotOf k) : j = k := by
  have h1 : D8.of (j / 8) = D8.of (k / 8) := congrArg (·.1) h
  have h2 : D8.of (j % 8) = D8.of (k % 8) := congrArg (·.2) h
  have e1 := D8.of_inj (by omega) (by omega) h1
  have e2 := D8.of_inj (Nat.mod_lt _ (by decide)) (Nat.mod_lt _ (by decide)) h2
  omega
theorem argsP_get : ∀ (l : List V) (i : Nat) (env : Env) (k : Nat), k < 64 → i + l.length ≤ 64 →
    Env.get (slotOf k).1 (slotOf k).2 (argsP l i env) = if i ≤ k ∧ k < i + l.length then (l[k - i]?).getD .bot else Env.get (slotOf k).1 (slotOf k).2 env
  | [], i, env, k, hk, hl => by rw [if_neg (by simp)]; rfl
  | v :: l, i, env, k, hk, hl => by
    have hl : i + (l.length + 1) ≤ 64 := hl
    show Env.get (slotOf k).1 (slotOf k).2 (argsP l (i + 1) (Env.set (slotOf i).1 (slotOf i).2 v env)) = _
    rw [argsP_get l (i + 1) _ k hk (by omega), Env.get_set]
    by_cases h : i = k
    · subst h
      rw [if_neg (by omega), if_pos ⟨rfl, rfl⟩, if_pos ⟨Nat.le_refl _, by simp⟩]; simp
    · have hne : ¬ ((slotOf k).1 = (slotOf i).1 ∧ (slotOf k).2 = (slotOf i).2) := fun e => h (slotOf_inj (by omega) hk (Prod.ext e.1.symm e.2.symm))
      rw [if_neg hne]
      by_cases h1 : i + 1 ≤ k ∧ k < i + 1 + l.length
      · rw [if_pos h1, if_pos ⟨by omega, by simp; omega⟩, show k - i = (k - (i + 1)) + 1 by omega]; rfl
      · rw [if_neg h1, if_neg (by simp; omega)]
theorem idOk_at : ∀ (l : List Nat) (k n : Nat), idOk l k n = true → ∀ j, j < n → l[j]? = some (k + j)
  | _, _, 0, _, j, hj => by omega
  | [], _, _ + 1, h, _, _ => by cases h
  | t :: l, k, n + 1, h, j, hj => by
    have h := Bool.and_of h
    have ht : t = k := by simpa using h.1
    subst ht
    cases j with
    | zero => rfl
    | succ j =>
      have := idOk_at l (t + 1) n h.2 j (by omega)
      rw [List.getElem?_cons_succ, this]; congr 1; omega

section
variable {P : Program} {call : CallT} {temps : List Nat} {N : Nat}
theorem res1_rel {ι : Inj} {h : Heap} {w : World} {env : Env} {a : Act} (g : Good ι h w) (r : ActR [] ι temps N env a) {x : ResultVar} {y : Res} (hc : chkR P temps x y = true) {v : V} (hv : res1 h env y = some v) :
    ∃ v', ((match x with | .tmp t => pure (a.tmps.getD t undef) | .cell c t => do loadVar t (← asAddr (a.tmps.getD c undef)) : Sem Value)).run P w = .ok v' w ∧ vrel ι v v' := by
  have cell : ∀ {c : Nat} {t : TypeId} {i j : D8} {b o : Nat}, chkAt (Fct.start temps) (.tmp c) (.t i j) = true → (Env.get i j env).asPtr = some (b, o) → ∃ B, ι b = some B ∧ a.tmps.getD c undef = .pointer (some ⟨B.c, B.off + o, none⟩) := by
    intro c t i j b o hc hp
    have h1 : vrel ι (Env.get i j env) (a.tmps.getD c undef) := chkAt_rel r.start _ _ hc
    generalize Env.get i j env = u at hp h1
    cases u <;> first | (cases hp; done) | skip
    cases hp
    obtain ⟨B, hB, h1⟩ := h1
    exact ⟨B, hB, h1⟩
  cases x with
  | tmp t =>
    cases y with
    | tmp i j =>
      have hv : some (Env.get i j env) = some v := hv
      cases hv
      exact ⟨_, rfl, chkAt_rel r.start (.tmp t) (.t i j) hc⟩
    | cell i j n => cases hc
  | cell c t =>
    cases y with
    | tmp i j => cases hc
    | cell i j n =>
      cases n with
      | none =>
        have hc := Bool.and_of hc
        simp only [res1] at hv
        cases hp : (Env.get i j env).asPtr with
        | none => rw [hp] at hv; cases hv
        | some bo =>
          obtain ⟨b, o⟩ := bo
          rw [hp] at hv
          have hv : h.load1 b o = some v := hv
          obtain ⟨B, hB, hx⟩ := cell (t := t) hc.2 hp
          obtain ⟨y, hy, _, hcell⟩ := load1_rel g hB hv
          exact ⟨y, by simp [hx, asAddr, Result.andThen, Sem.run_bind, loadVar_one w hc.1 hcell], hy⟩
      | some n =>
        have hc := Bool.and_of hc
        have hc2 := Bool.and_of hc.2
        simp only [res1] at hv
        cases hp : (Env.get i j env).asPtr with
        | none => rw [hp] at hv; cases hv
        | some bo =>
          obtain ⟨b, o⟩ := bo
          rw [hp] at hv
          simp only at hv
          cases hl : h.load b o n with
          | none => rw [hl] at hv; cases hv
          | some l =>
            rw [hl] at hv; cases hv
            obtain ⟨B, hB, hx⟩ := cell (t := t) hc2.2 hp
            obtain ⟨xs, hlen, hvr, h1c, hcell⟩ := load_rel g hB hl
            refine ⟨.agg xs.toArray, by simp [hx, asAddr, Result.andThen, Sem.run_bind, loadVar_agg w hc.1 hc2.1 hlen hcell], ?_⟩
            exact ⟨xs.toArray, rfl, by simpa using hvr, by simpa using h1c⟩
theorem results_rel {ι : Inj} {h : Heap} {w : World} {env : Env} {a : Act} (g : Good ι h w) (r : ActR [] ι temps N env a) : ∀ (l : List ResultVar) (rs : List Res), chkRs P temps l rs = true → ∀ vs, results env h rs = some vs →
    ∃ vs', (l.mapM fun x => (match x with | .tmp t => pure (a.tmps.getD t undef) | .cell c t => do loadVar t (← asAddr (a.tmps.getD c undef)) : Sem Value)).run P w = .ok vs' w ∧ vrels ι vs vs'
  | [], [], _, vs, hv => by
    have hv : some [] = some vs := hv
    cases hv; exact ⟨[], rfl, rfl⟩
  | x :: l, y :: rs, hc, vs, hv => by
    have hc := Bool.and_of hc
    have hv : (Option.rec none (fun v => Option.rec none (fun vs => some (v :: vs)) (results env h rs)) (res1 h env y) : Option (List V)) = some vs := hv
    cases h1 : res1 h env y with
    | none => rw [h1] at hv; cases hv
    | some v =>
      rw [h1] at hv
      have hv : (Option.rec none (fun vs => some (v :: vs)) (results env h rs) : Option (List V)) = some vs := hv
      cases h2 : results env h rs with
      | none => rw [h2] at hv; cases hv
      | some vs1 =>
        rw [h2] at hv
        cases hv
        obtain ⟨v', e1, r1⟩ := res1_rel g r hc.1 h1
        obtain ⟨vs', e2, r2⟩ := results_rel g r l rs hc.2 vs1 h2
        refine ⟨v' :: vs', ?_, ⟨v', vs', rfl, r1, r2⟩⟩
        rw [List.mapM_cons, Sem.run_bind, e1]
        simp only [Result.andThen]
        rw [Sem.run_bind, e2]
        rfl
  | [], _ :: _, hc, _, _ => by cases hc
  | _ :: _, [], hc, _, _ => by cases hc
theorem vrels.one_ {ι : Inj} : ∀ {vs : List V} {xs : Array Value}, vrels ι vs xs.toList → vrel ι (one vs) (if h : xs.size = 1 then xs[0] else .tuple xs)
  | [v], xs, h => by
    have hl := h.length
    have hl : xs.size = 1 := by simpa using hl
    rw [dif_pos hl]
    obtain ⟨x, hx, hv⟩ := h.get (j := 0) (v := v) rfl
    have : xs[0] = x := by
      have h0 : xs[0]? = some x := by simpa using hx
      rw [Array.getElem?_eq_getElem (by omega)] at h0
      exact Option.some.inj h0
    rw [this]; exact hv
  | [], xs, h => by
    have hl := h.length
    have hl : ¬ xs.size = 1 := by simp at hl; simp [hl]
    rw [dif_neg hl]; exact ⟨xs, rfl, h⟩
  | a :: b :: l, xs, h => by
    have hl := h.length
    have hl : ¬ xs.size = 1 := by simp at hl; omega
    rw [dif_neg hl]; exact ⟨xs, rfl, h⟩

/-- **A function is sound.** -/
theorem fun_sound (hmx : P.follows .mixedOrders = true) (hcs : CallS P call) (hcm : CallMono call) {f R : Nat} {F : Fun} (hc : chkF P f F = true) {as : List V} {h : Heap} (hne : runFunR F R call as h ≠ .bad) :
    hasBody P f ∧ ∀ ι w (args : Array Value), Good ι h w → OR.free ι h (runFunR F R call as h) → vrels ι as args.toList → Calls P f args w (OutP ι h w (runFunR F R call as h)) := by
  unfold chkF at hc
  cases hf : P.funcs[f]? with
  | none => rw [hf] at hc; cases hc
  | some fn =>
    rw [hf] at hc
    have hc := Bool.and_of hc
    cases hb : fn.body with
    | none => rw [hb] at hc; exact absurd hc.2 (by simp)
    | some c =>
      rw [hb] at hc
      have hc2 := Bool.and_of hc.2
      have hc3 := Bool.and_of hc2.1
      have hc4 := Bool.and_of hc3.2
      have hc5 := Bool.and_of hc2.2
      have hc6 := Bool.and_of hc5.2
      have hname : fn.name ≠ "runtime.NumGoroutine" := by simpa using hc.1
      have h64 : F.temps.length ≤ 64 := by simpa using hc3.1
      have hnp : F.np ≤ F.temps.length := by simpa using hc4.1
      have hnt : F.np ≤ fn.ntmps := by simpa using hc5.1
      refine ⟨⟨fn, hf, by simpa using hname, by rw [hb]; rfl⟩, fun ι w args g hfree hr => ?_⟩
      have hrun : ∃ r, r = runFunR F R call as h := ⟨_, rfl⟩
      obtain ⟨r, hrun⟩ := hrun
      rw [← hrun] at hne hfree ⊢
      have hrun2 : r = (Bool.rec .bad (endCall F.results (Go.Eng.args as 0 Env.nil fun env => code F.body call R env h)) ((lenV as).beq F.np) : OR) := hrun
      cases hlen : (lenV as).beq F.np with
      | false => rw [hlen] at hrun2; exact absurd hrun2 hne
      | true =>
        have hl : as.length = F.np := by rw [lenV_eq] at hlen; exact Nat.eq_of_beq_eq_true hlen
        rw [hlen] at hrun2
        have hrun2 : r = endCall F.results (code F.body call R (argsP as 0 Env.nil) h) := by rw [hrun2, args_eq]
        have hal : args.size = as.length := by have := hr.length; simpa using this
        -- at the start
        have hact : ActR [] ι F.temps fn.ntmps (argsP as 0 Env.nil) { tmps := args ++ Array.replicate (fn.ntmps - args.size) undef, defers := [] } := by
          refine ⟨by simp; omega, rfl, fun k t hk => ?_⟩
          have hk64 : k < 64 := by have := (List.getElem?_eq_some_iff.1 hk).1; omega
          rw [argsP_get as 0 Env.nil k hk64 (by omega)]
          by_cases hlt : k < as.length
          · rw [if_pos ⟨Nat.zero_le _, by omega⟩]
            have := idOk_at _ _ _ hc4.2 k (by omega)
            rw [hk] at this
            have ht : t = 0 + k := Option.some.inj this
            rw [Nat.zero_add] at ht
            subst ht
            obtain ⟨v, hv⟩ : ∃ v, as[t]? = some v := ⟨as[t], List.getElem?_eq_getElem hlt⟩
            obtain ⟨y, hy, hvy⟩ := hr.get hv
            have hget : (args ++ Array.replicate (fn.ntmps - args.size) undef).getD t undef = y := by
              have : (args ++ Array.replicate (fn.ntmps - args.size) undef)[t]? = some y := by
                rw [Array.getElem?_append_left (by omega)]; simpa using hy
              simp [Array.getD_eq_getD_getElem?, this]
            rw [show t - 0 = t from rfl, hv]
            show vrel ι v ((args ++ Array.replicate (fn.ntmps - args.size) undef).getD t undef)
            rw [hget]; exact hvy
          · rw [if_neg (by omega), Env.get_nil]; trivial
        refine calls_of_wp hf hb ?_
        cases hcode : code F.body call R (argsP as 0 Env.nil) h with
        | bad => rw [hcode] at hrun2; exact absurd hrun2 hne
        | ok x env' h' =>
          rw [hcode] at hrun2
          have fin : ∀ r, r = finish F.results env' h' → r ≠ .bad → ∃ vs, results env' h' F.results = some vs ∧ r = .ok (one vs) h' := by
            intro r hr hne
            have hr : r = (Option.rec .bad (fun vs => .ok (one vs) h') (results env' h' F.results) : OR) := hr
            cases hrs : results env' h' F.results with
            | none => rw [hrs] at hr; exact absurd hr hne
            | some vs => rw [hrs] at hr; exact ⟨vs, rfl, hr⟩
          have endR : ∀ vs, results env' h' F.results = some vs → ∀ ι' a' w', Chg ι h w ι' h' w' → ActR [] ι' F.temps fn.ntmps env' a' → a'.defers = [] ∧ ∃ v, (Go.results fn a'.tmps).run P w' = .ok v w' ∧ OutP ι h w (.ok (one vs) h') (.returned v) w' := by
            intro vs hvs ι' a' w' c' r'
            obtain ⟨vs', e1, e2⟩ := results_rel (P := P) c'.good r' fn.results.toList F.results hc6.2 vs hvs
            refine ⟨r'.defers, (if h : vs'.toArray.size = 1 then vs'.toArray[0] else .tuple vs'.toArray), ?_, ι', c', ?_⟩
            · unfold Go.results
              rw [Array.mapM_eq_mapM_toList]
              simp only [Sem.run_bind, Sem.run_map]
              erw [e1]
              rfl
            · have := vrels.one_ (ι := ι') (vs := vs) (xs := vs'.toArray) (by simpa using e2)
              exact this
          cases x with
          | nrm =>
            have hr2 : r = finish F.results env' h' := hrun2
            obtain ⟨vs, hvs, hr3⟩ := fin r hr2 hne
            subst hr3
            exact wp_code hmx hcs hcm c F.body hc6.1 R hcode hact g hfree fun ι' a' w' c' r' => endR vs hvs ι' a' w' c' r'
          | ret =>
            have hr2 : r = finish F.results env' h' := hrun2
            obtain ⟨vs, hvs, hr3⟩ := fin r hr2 hne
            subst hr3
            exact wp_code hmx hcs hcm c F.body hc6.1 R hcode hact g hfree fun ι' a' w' c' r' => endR vs hvs ι' a' w' c' r'
          | exit i => exact absurd hrun2 hne
          | pan v =>
            have hr2 : r = .pan v h' := hrun2
            subst hr2
            exact wp_code hmx hcs hcm c F.body hc6.1 R hcode hact g hfree fun ι' a' w' c' v' hv hd => ⟨hd, v', ι', rfl, c', hv⟩
end
end
end Go.Eng
namespace Go.Eng
noncomputable section

/-! ### all functions -/
def allO {α : Type} (p : α → Bool) : Option α → Bool
  | none => true
  | some x => p x
def all8 {α : Type} (p : D8 → α → Bool) (r : R8 α) : Bool := p .d0 r.a && (p .d1 r.b && (p .d2 r.c && (p .d3 r.d && (p .d4 r.e && (p .d5 r.f && (p .d6 r.g && p .d7 r.h))))))
theorem all8_get {α : Type} {p : D8 → α → Bool} {r : R8 α} (h : all8 p r = true) (i : D8) : p i (R8.get i r) = true := by
  have h1 := Bool.and_of h; have h2 := Bool.and_of h1.2; have h3 := Bool.and_of h2.2; have h4 := Bool.and_of h3.2
  have h5 := Bool.and_of h4.2; have h6 := Bool.and_of h5.2; have h7 := Bool.and_of h6.2
  cases i
  · exact h1.1
  · exact h2.1
  · exact h3.1
  · exact h4.1
  · exact h5.1
  · exact h6.1
  · exact h7.1
  · exact h7.2
def D8.num : D8 → Nat
  | .d0 => 0 | .d1 => 1 | .d2 => 2 | .d3 => 3 | .d4 => 4 | .d5 => 5 | .d6 => 6 | .d7 => 7
theorem D8.num_of {n : Nat} (h : n < 8) : (D8.of n).num = n := by
  have : n = 0 ∨ n = 1 ∨ n = 2 ∨ n = 3 ∨ n = 4 ∨ n = 5 ∨ n = 6 ∨ n = 7 := by omega
  rcases this with rfl | rfl | rfl | rfl | rfl | rfl | rfl | rfl <;> rfl
/-- of tables below 512 alone; the others empty -/
def allT {α : Type} (p : Nat → α → Bool) (t : T α) : Bool :=
  all8 (fun k => all8 fun j => all8 fun i => allO (p (64 * k.num + 8 * j.num + i.num))) t.x && (t.y.isNone && t.z.empty)
theorem allT_get {α : Type} {p : Nat → α → Bool} {F : α} {k : Nat} {t : T α} (h : allT p t = true) (hg : T.get k t = some F) : p k F = true := by
  have h1 := Bool.and_of h; have h2 := Bool.and_of h1.2
  rw [T.get_eq] at hg
  by_cases c : k < 512
  · rw [if_pos c] at hg
    have := all8_get (all8_get (all8_get h1.1 (D8.of (k.div 64))) (D8.of ((k.div 8).mod 8))) (D8.of (k.mod 8))
    have hg : R8.get (D8.of (k.mod 8)) (R8.get (D8.of ((k.div 8).mod 8)) (R8.get (D8.of (k.div 64)) t.x)) = some F := hg
    rw [hg] at this
    have e2 : (D8.of (k.div 64)).num = k / 64 := D8.num_of (by show k / 64 < 8; omega)
    have e1 : (D8.of ((k.div 8).mod 8)).num = k / 8 % 8 := D8.num_of (Nat.mod_lt _ (by decide))
    have e0 : (D8.of (k.mod 8)).num = k % 8 := D8.num_of (Nat.mod_lt _ (by decide))
    have e : 64 * (D8.of (k.div 64)).num + 8 * (D8.of ((k.div 8).mod 8)).num + (D8.of (k.mod 8)).num = k := by rw [e2, e1, e0]; omega
    rw [e] at this; exact this
  · rw [if_neg c] at hg
    by_cases c2 : k < 32768
    · rw [if_pos c2] at hg
      have : t.y = none := by have := h2.1; simpa using this
      simp [T.ty, this, T.at5, T.e5, R8.get_all] at hg
    · rw [if_neg c2] at hg
      have : t.z = .mt := B.empty_eq h2.2
      rw [this] at hg; cases hg

/-- what must be shown of functions that are taken by a summary -/
def SumsOk (P : Program) (c : Ctx) : Prop := ∀ call, CallS P call → CallMono call → ∀ f as h, T.get f c.funs = none →
  OR.next h (c.sums call f as h) ∧ (c.sums call f as h ≠ .bad → hasBody P f ∧ ∀ ι w (args : Array Value), Good ι h w → OR.free ι h (c.sums call f as h) → vrels ι as args.toList → Calls P f args w (OutP ι h w (c.sums call f as h)))
def noSums : CallT → Nat → List V → Heap → OR := fun _ _ _ _ => .bad

section
variable {P : Program} {call : CallT}
theorem runFun_next (hcm : CallMono call) (F : Fun) (R : Nat) (as : List V) (h : Heap) : OR.next h (runFunR F R call as h) := by
  unfold runFunR
  cases (lenV as).beq F.np with
  | false => trivial
  | true =>
    show OR.next h (endCall F.results (args as 0 Env.nil fun env => code F.body call R env h))
    rw [args_eq]
    have := code_next hcm F.body R (argsP as 0 Env.nil) h
    cases hr : code F.body call R (argsP as 0 Env.nil) h with
    | bad => trivial
    | ok x env' h' =>
      rw [hr] at this
      have fin : OR.next h (finish F.results env' h') := by
        show OR.next h (Option.rec .bad (fun vs => .ok (one vs) h') (results env' h' F.results) : OR)
        cases results env' h' F.results with
        | none => trivial
        | some vs => exact this
      cases x with
      | nrm => exact fin
      | ret => exact fin
      | exit i => trivial
      | pan v => exact this
theorem lev_sound (hmx : P.follows .mixedOrders = true) (c : Ctx) (hf : allT (chkF P) c.funs = true) (hs : SumsOk P c) (R : Nat) : ∀ n, CallS P (levR c R n) ∧ CallMono (levR c R n)
  | 0 => ⟨fun f as h hne => absurd rfl hne, fun f as pc h => trivial⟩
  | n + 1 => by
    obtain ⟨ih1, ih2⟩ := lev_sound hmx c hf hs R n
    have step : ∀ f as pc h, (levR c R (n + 1) f as pc h).1 = (Option.rec (c.sums (levR c R n) f as h) (fun fn => runFunR fn R (levR c R n) as h) (T.get f c.funs) : OR) := fun _ _ _ _ => rfl
    refine ⟨fun f as h hne => ?_, fun f as pc h => ?_⟩
    · rw [step] at hne ⊢
      cases hg : T.get f c.funs with
      | none =>
        rw [hg] at hne
        exact (hs _ ih1 ih2 f as h hg).2 hne
      | some F =>
        rw [hg] at hne
        have hc := allT_get hf hg
        exact fun_sound hmx ih1 ih2 hc hne
    · rw [step]
      cases hg : T.get f c.funs with
      | none => exact (hs _ ih1 ih2 f as h hg).1
      | some F => exact runFun_next ih2 F R as h
theorem noSums_ok {c : Ctx} (h : c.sums = noSums) : SumsOk P c := fun call _ _ f as hp _ => by
  rw [h]; exact ⟨trivial, fun hne => absurd rfl hne⟩

def Inj.none : Inj := fun _ => Option.none
theorem Good.empty (w : World) : Good Inj.none Heap.empty w :=
  ⟨fun b B o h => (by cases h), fun b B h => (by cases h), fun b B b' B' h => (by cases h), fun b B h => (by cases h), fun b B F o h => (by cases h), fun b B o h => (by cases h),
    fun f F b h => (by rw [show T.get f Heap.empty.fams = none from T.get_e f] at h; cases h), Nat.le_refl _, fun b _ h => absurd (T.get_e b) h, fun b h => absurd rfl h, fun f _ h => absurd (T.get_e f) h, fun b B h => (by cases h)⟩
/-- nothing that was there has changed -/
structure Kept (w w' : World) : Prop where
  old : ∀ c, c < w.heap.size → w'.heap[c]? = w.heap[c]?
  size : w.heap.size ≤ w'.heap.size
  tape : w'.tape = w.tape
  os : w'.os = w.os
  out : w'.output = w.output
theorem OR.free_none {ι : Inj} {h : Heap} {r : OR} (hι : ∀ b, h.next ≤ b → ι b = Option.none) (hne : r ≠ .bad) : OR.free ι h r := by
  cases r with
  | ok v h' => exact fun b hb _ => hι b hb
  | pan v h' => exact fun b hb _ => hι b hb
  | bad => exact absurd rfl hne
/-- **A closed run.** -/
theorem closed_runR (hmx : P.follows .mixedOrders = true) {c : Ctx} (hf : allT (chkF P) c.funs = true) (hs : SumsOk P c) {R n f : Nat} {as : List V} {b : Bool} {h' : Heap} (he : (levR c R n f as .none Heap.empty).1 = .ok (.bool b) h')
    {args : Array Value} (hr : vrels Inj.none as args.toList) (w : World) : Calls P f args w fun e w' => e = .returned (.bool b) ∧ Kept w w' := by
  have h1 := ((lev_sound hmx c hf hs R n).1 f as Heap.empty (by rw [he]; simp)).2 Inj.none w args (Good.empty w) (OR.free_none (fun b _ => rfl) (by rw [he]; simp)) hr
  rw [he] at h1
  refine h1.mono fun e w' ho => ?_
  cases e with
  | returned v' =>
    obtain ⟨ι', cg, hv⟩ := ho
    have hv : v' = .bool b := hv
    subst hv
    exact ⟨rfl, fun k hk => cg.frame.keep k hk fun b B hb => (by cases hb), cg.frame.size, cg.frame.tape, cg.frame.os, cg.frame.out⟩
  | panicked ch => exact ho.elim
  | outgrown => exact ho.elim
theorem closed_run (hmx : P.follows .mixedOrders = true) {c : Ctx} (hf : allT (chkF P) c.funs = true) (hs : SumsOk P c) {n f : Nat} {as : List V} {b : Bool} {h' : Heap} (he : (lev c n f as .none Heap.empty).1 = .ok (.bool b) h')
    {args : Array Value} (hr : vrels Inj.none as args.toList) (w : World) : Calls P f args w fun e w' => e = .returned (.bool b) ∧ Kept w w' := closed_runR hmx hf hs (R := maxRounds) he hr w
end
end
end Go.Eng
namespace Go.Eng
noncomputable section

/-! ### a function that defers one closure, which recovers -/
structure FunD where
  np : Nat
  temps : List Nat
  pre : C
  clo : Nat
  caps : List A
  acts : Nat
  ops : List Opr
  ws : List Nat
  results : List Res
  gtemps : List Nat
  gk : Nat
  gbody : C

def clr : List Nat → Env → Env
  | [], env => env
  | k :: l, env => clr l (Env.set (slotOf k).1 (slotOf k).2 .bot env)
/-- the closure, and the end -/
def FunD.fin (F : FunD) (call : CallT) (cv : List V) (envr : Env) (h : Heap) (v : V) : OR :=
  CR.rec (fun x _ h3 => X.rec (finish F.results envr h3) (finish F.results envr h3) (fun _ => .bad) (fun _ => .bad) x) .bad
    (args cv 0 Env.nil fun env => Env.setC (slotOf F.gk).1 (slotOf F.gk).2 v (fun env => code F.gbody call maxRounds env h) env)
def FunD.go (F : FunD) (call : CallT) (env1 : Env) (h1 : Heap) : OR :=
  CR.rec (fun x env2 h2 => X.rec (F.fin call (evs F.caps fun a => a.ev [] env1) env2 h2 .ifcN) .bad (fun _ => .bad) (fun v => F.fin call (evs F.caps fun a => a.ev [] env1) (clr F.ws env1) h2 v) x) .bad (opsN F.ops call [] env1 h1)
def runD (F : FunD) (call : CallT) (as : List V) (h : Heap) : OR :=
  Bool.rec .bad (CR.rec (fun x env1 h1 => X.rec (F.go call env1 h1) .bad (fun _ => .bad) (fun _ => .bad) x) .bad (args as 0 Env.nil fun env => code F.pre call maxRounds env h)) ((lenV as).beq F.np)

def dstsIn (temps : List Nat) (ws : List Nat) : List Oper → Bool
  | [] => true
  | o :: l => (match o.dst with
    | none => true
    | some d => temps.zipIdx.all fun p => p.1 != d || ws.contains p.2) && dstsIn temps ws l
def chkClo (P : Program) (F : FunD) : Bool := match P.funcs[F.clo]? with
  | some gn => gn.name != "runtime.NumGoroutine" && (match gn.body with
    | some (.seq (.region _ ops0 false) c3) => (match ops0.toList with
      | [rc] => (match rc.op, rc.dst, rc.guard with
        | .call { callee := .builtin .recover, .. }, some tr, none =>
          (decide (F.gtemps[F.gk]? = some tr) && (decide (tr < gn.ntmps) && F.gtemps.zipIdx.all (fun p => p.2 == F.gk || p.1 != tr))) &&
          ((decide (F.gtemps.length ≤ 64) && (decide (F.caps.length ≤ F.gk) && (decide (F.gk < F.gtemps.length) && idOk F.gtemps 0 F.caps.length))) &&
          (decide (F.caps.length ≤ gn.ntmps) && (chkC P F.gtemps gn.ntmps c3 F.gbody && gn.results.toList.isEmpty)))
        | _, _, _ => false)
      | _ => false)
    | _ => false)
  | none => false
def chkDf (temps : List Nat) (N clo : Nat) (caps : List A) (l : List Oper) : Bool := match l with
  | [mf, df] => (match mf.op, mf.dst, mf.guard with
    | .makeFunc (.func g) first cs, some t, none => (g == clo && (first.toList.isEmpty && (chks (chkAt (Fct.start temps)) cs.toList caps && (decide (t < N) && !temps.contains t)))) &&
      (match df.op, df.dst, df.guard with
      | .defer c, none, none => c.args.toList.isEmpty && (match c.callee with
        | .value (.tmp t') => t' == t
        | _ => false)
      | _, _, _ => false)
    | _, _, _ => false)
  | _ => false
def chkFD (P : Program) (f : Nat) (F : FunD) : Bool := match P.funcs[f]? with
  | some fn => fn.name != "runtime.NumGoroutine" && (match fn.body with
    | some (.seq c1 (.seq (.region _ ops1 false) (.seq (.region _ ops2 false) .ret))) =>
      (decide (F.temps.length ≤ 64) && (decide (F.np ≤ F.temps.length) && (idOk F.temps 0 F.np && nodupB F.temps))) && ((decide (F.np ≤ fn.ntmps) && (chkC P F.temps fn.ntmps c1 F.pre && chkRs P F.temps fn.results.toList F.results)) &&
      (chkDf F.temps fn.ntmps F.clo F.caps ops1.toList && (optEnd F.temps (chkN P fn.ntmps F.acts ops2 ops2.toList 0 F.ops (Fct.start F.temps)) && ((dstsIn F.temps F.ws ops2.toList && F.ws.all (fun k => decide (k < 64))) && chkClo P F))))
    | _ => false)
  | none => false

theorem clr_get : ∀ (ws : List Nat) (env : Env) (k : Nat), k < 64 → (∀ j ∈ ws, j < 64) → Env.get (slotOf k).1 (slotOf k).2 (clr ws env) = if k ∈ ws then .bot else Env.get (slotOf k).1 (slotOf k).2 env
  | [], env, k, hk, _ => by rw [if_neg (by simp)]; rfl
  | j :: l, env, k, hk, hl => by
    show Env.get (slotOf k).1 (slotOf k).2 (clr l (Env.set (slotOf j).1 (slotOf j).2 .bot env)) = _
    rw [clr_get l _ k hk (fun x hx => hl x (List.mem_cons_of_mem _ hx)), Env.get_set]
    by_cases h1 : k ∈ l
    · rw [if_pos h1, if_pos (List.mem_cons_of_mem _ h1)]
    · rw [if_neg h1]
      by_cases h2 : k = j
      · subst h2; rw [if_pos ⟨rfl, rfl⟩, if_pos (List.mem_cons_self ..)]
      · rw [if_neg (fun e => h2 (slotOf_inj hk (hl j (List.mem_cons_self ..)) (Prod.ext e.1 e.2))), if_neg (by simp [h1, h2])]
theorem ActR.mono {ι ι' : Inj} {temps : List Nat} {N : Nat} {env : Env} {a : Act} (h : ι.le ι') (r : ActR [] ι temps N env a) : ActR [] ι' temps N env a :=
  ⟨r.size, r.defers, fun k t hk => (r.tmps k t hk).mono h⟩
theorem slots_look {t : Nat} : ∀ (l : List Nat) (k j : Nat), l.Nodup → l[j]? = some t → look t (slots l k) = some (some (.slot (slotOf (k + j)).1 (slotOf (k + j)).2))
  | [], k, j, _, h => by simp at h
  | x :: l, k, j, hn, h => by
    unfold slots
    rw [look_cons]
    cases j with
    | zero => simp at h; subst h; rw [if_pos rfl]; rfl
    | succ j =>
      have hm : t ∈ l := List.mem_of_getElem? (by simpa using h)
      have hne : t ≠ x := fun e => by subst e; exact (List.nodup_cons.1 hn).1 hm
      rw [if_neg hne, slots_look l (k + 1) j (List.nodup_cons.1 hn).2 (by simpa using h), show k + 1 + j = k + (j + 1) by omega]
theorem start_tmp {temps : List Nat} (hn : temps.Nodup) {k t : Nat} (h : temps[k]? = some t) : (Fct.start temps).tmp t = some (.slot (slotOf k).1 (slotOf k).2) := by
  show (match look t (slots temps 0) with | some s => s | none => none) = _
  rw [slots_look temps 0 k hn h, Nat.zero_add]
theorem dstsIn_ok {temps ws : List Nat} : ∀ (l : List Oper), dstsIn temps ws l = true → ∀ k t, temps[k]? = some t → k ∉ ws → ∀ o ∈ l, o.dst ≠ some t
  | [], _, _, _, _, _, o, ho => by simp at ho
  | x :: l, h, k, t, hk, hw, o, ho => by
    have h := Bool.and_of h
    rcases List.mem_cons.1 ho with rfl | ho
    · intro hd
      have h1 := h.1
      rw [hd] at h1
      have h1 := List.all_eq_true.1 h1 (t, k) (List.mem_zipIdx_iff_getElem?.2 hk)
      simp at h1; exact hw h1
    · exact dstsIn_ok l h.2 k t hk hw o ho
end
end Go.Eng
namespace Go.Eng
noncomputable section
section
variable {P : Program} {call : CallT} {F : FunD}

theorem fin_next (hcm : CallMono call) (cv : List V) (envr : Env) (h : Heap) (v : V) : OR.next h (F.fin call cv envr h v) := by
  unfold FunD.fin
  rw [args_eq, Env.setC_eq]
  generalize Env.set (slotOf F.gk).1 (slotOf F.gk).2 v (argsP cv 0 Env.nil) = e0
  have := code_next hcm F.gbody maxRounds e0 h
  cases hr : code F.gbody call maxRounds e0 h with
  | bad => trivial
  | ok x env3 h3 =>
    rw [hr] at this
    have fin : OR.next h (finish F.results envr h3) := by
      show OR.next h (Option.rec .bad (fun vs => .ok (one vs) h3) (results envr h3 F.results) : OR)
      cases results envr h3 F.results with
      | none => trivial
      | some vs => exact this
    cases x with
    | nrm => exact fin
    | ret => exact fin
    | exit i => trivial
    | pan v => trivial
theorem OR.next_le {h h1 : Heap} {r : OR} (hn : h.next ≤ h1.next) (hr : OR.next h1 r) : OR.next h r := by
  cases r with
  | ok v h' => exact Nat.le_trans hn hr
  | pan v h' => exact Nat.le_trans hn hr
  | bad => trivial
theorem go_next (hcm : CallMono call) (env1 : Env) (h1 : Heap) : OR.next h1 (F.go call env1 h1) := by
  unfold FunD.go
  have := opsN_next hcm F.ops [] env1 h1
  cases hr : opsN F.ops call [] env1 h1 with
  | bad => trivial
  | ok x env2 h2 =>
    rw [hr] at this
    cases x with
    | nrm => exact OR.next_le this (fin_next hcm _ _ _ _)
    | ret => trivial
    | exit i => trivial
    | pan v => exact OR.next_le this (fin_next hcm _ _ _ _)
theorem runD_next (hcm : CallMono call) (as : List V) (h : Heap) : OR.next h (runD F call as h) := by
  unfold runD
  cases (lenV as).beq F.np with
  | false => trivial
  | true =>
    show OR.next h (CR.rec (fun x env1 h1 => X.rec (F.go call env1 h1) .bad (fun _ => .bad) (fun _ => .bad) x) .bad (args as 0 Env.nil fun env => code F.pre call maxRounds env h) : OR)
    rw [args_eq]
    have := code_next hcm F.pre maxRounds (argsP as 0 Env.nil) h
    cases hr : code F.pre call maxRounds (argsP as 0 Env.nil) h with
    | bad => trivial
    | ok x env1 h1 =>
      rw [hr] at this
      cases x with
      | nrm => exact OR.next_le this (go_next hcm env1 h1)
      | ret => trivial
      | exit i => trivial
      | pan v => trivial

theorem start_act {ι : Inj} {temps : List Nat} {np N : Nat} {as : List V} {args : Array Value} (h64 : temps.length ≤ 64) (hnp : np ≤ temps.length) (hnt : np ≤ N) (hid : idOk temps 0 np = true) (hl : as.length = np) (hr : vrels ι as args.toList) :
    ActR [] ι temps N (argsP as 0 Env.nil) { tmps := args ++ Array.replicate (N - args.size) undef, defers := [] } := by
  have hal : args.size = as.length := by have := hr.length; simpa using this
  refine ⟨by simp; omega, rfl, fun k t hk => ?_⟩
  have hk64 : k < 64 := by have := (List.getElem?_eq_some_iff.1 hk).1; omega
  rw [argsP_get as 0 Env.nil k hk64 (by omega)]
  by_cases hlt : k < as.length
  · rw [if_pos ⟨Nat.zero_le _, by omega⟩]
    have := idOk_at _ _ _ hid k (by omega)
    rw [hk] at this
    have ht : t = 0 + k := Option.some.inj this
    rw [Nat.zero_add] at ht
    subst ht
    obtain ⟨v, hv⟩ : ∃ v, as[t]? = some v := ⟨as[t], List.getElem?_eq_getElem hlt⟩
    obtain ⟨y, hy, hvy⟩ := hr.get hv
    have hget : (args ++ Array.replicate (N - args.size) undef).getD t undef = y := by
      have : (args ++ Array.replicate (N - args.size) undef)[t]? = some y := by
        rw [Array.getElem?_append_left (by omega)]; simpa using hy
      simp [Array.getD_eq_getD_getElem?, this]
    rw [show t - 0 = t from rfl, hv]
    show vrel ι v ((args ++ Array.replicate (N - args.size) undef).getD t undef)
    rw [hget]; exact hvy
  · rw [if_neg (by omega), Env.get_nil]; trivial

/-- the closure, deferred -/
theorem clo_sound (hmx : P.follows .mixedOrders = true) (hcs : CallS P call) (hcm : CallMono call) (hc : chkClo P F = true) {cv : List V} (hlen : cv.length = F.caps.length) {envr : Env} {h : Heap} {v : V} (hne : F.fin call cv envr h v ≠ .bad)
    {ι : Inj} {w : World} (g : Good ι h w) (hfree : OR.free ι h (F.fin call cv envr h v)) {caps : Array Value} (hr : vrels ι cv caps.toList) {v' : Value} (hv : vrel ι v v') {u u' : FrameMode}
    (hrec : ∀ (c₀ : Frame) (cs : List Frame), c₀.mode = u → (recoverD (c₀ :: cs) = some (v', { c₀ with mode := u' } :: cs)) ∨ (recoverD (c₀ :: cs) = none ∧ v' = .nilIface ∧ u' = u))
    {R : Ending → FrameMode → World → Prop}
    (hR : ∀ vs h3 ι' w', F.fin call cv envr h v = .ok (one vs) h3 → results envr h3 F.results = some vs → Chg ι h w ι' h3 w' → R (.returned (.tuple #[])) u' w') :
    (∃ gn, P.funcs[F.clo]? = some gn ∧ gn.body.isSome = true ∧ (gn.name == "runtime.NumGoroutine") = false) ∧ CallsD P F.clo caps u w R := by
  unfold chkClo at hc
  cases hf : P.funcs[F.clo]? with
  | none => rw [hf] at hc; cases hc
  | some gn =>
    rw [hf] at hc
    have hc := Bool.and_of hc
    have hname : (gn.name == "runtime.NumGoroutine") = false := by simpa using hc.1
    have hc := hc.2
    split at hc
    · rename_i i0 ops0 c3 hbody
      split at hc
      · rename_i rc hops
        split at hc
        · rename_i cargs ctys tr hop hdst hgd
          have b0 := Bool.and_of hc; have b1 := Bool.and_of b0.1; have b2 := Bool.and_of b1.2; have b3 := Bool.and_of b0.2; have b4 := Bool.and_of b3.1; have b5 := Bool.and_of b4.2; have b6 := Bool.and_of b5.2
          have b7 := Bool.and_of b3.2; have b8 := Bool.and_of b7.2
          have htr : F.gtemps[F.gk]? = some tr := by simpa using b1.1
          have htrN : tr < gn.ntmps := by simpa using b2.1
          have h64 : F.gtemps.length ≤ 64 := by simpa using b4.1
          have hcg : F.caps.length ≤ F.gk := by simpa using b5.1
          have hgk : F.gk < F.gtemps.length := by simpa using b6.1
          have hcN : F.caps.length ≤ gn.ntmps := by simpa using b7.1
          refine ⟨⟨gn, rfl, by rw [hbody]; rfl, hname⟩, callsD_of_wpS hf hbody fun c₀ cs hu => ?_⟩
          have hact := start_act (np := F.caps.length) (N := gn.ntmps) h64 (by omega) hcN b6.2 hlen hr
          generalize hA : ({ tmps := caps ++ Array.replicate (gn.ntmps - caps.size) undef, defers := [] } : Act) = A0 at hact ⊢
          have htrlt : tr < A0.tmps.size := by rw [hact.size]; exact htrN
          have hact2 : ActR [] ι F.gtemps gn.ntmps (Env.set (slotOf F.gk).1 (slotOf F.gk).2 v (argsP cv 0 Env.nil)) (A0.put (some tr) v') := by
            refine ⟨put_size.trans hact.size, put_defers.trans hact.defers, fun k t hk => ?_⟩
            have hk64 : k < 64 := by have := (List.getElem?_eq_some_iff.1 hk).1; omega
            show vrel ι _ ((A0.tmps.setIfInBounds tr v').getD t undef)
            rw [getD_put htrlt, Env.get_set]
            by_cases hkg : k = F.gk
            · subst hkg
              rw [htr] at hk; cases hk
              rw [if_pos ⟨rfl, rfl⟩, if_pos rfl]; exact hv
            · rw [if_neg (fun e => hkg (slotOf_inj hk64 (by omega) (Prod.ext e.1 e.2)))]
              have hne : t ≠ tr := by
                intro e; subst e
                have := List.all_eq_true.1 b2.2 (t, k) (List.mem_zipIdx_iff_getElem?.2 hk)
                simp at this; exact hkg this
              rw [if_neg hne]; exact hact.tmps k t hk
          -- the rest of the closure
          have hfin : F.fin call cv envr h v = (CR.rec (fun x _ h3 => X.rec (finish F.results envr h3) (finish F.results envr h3) (fun _ => .bad) (fun _ => .bad) x) .bad (code F.gbody call maxRounds (Env.set (slotOf F.gk).1 (slotOf F.gk).2 v (argsP cv 0 Env.nil)) h) : OR) := by
            unfold FunD.fin; rw [args_eq, Env.setC_eq]
          have rest : ∀ cs', c3.wp P (fun e a' w' => cs' = { c₀ with mode := u' } :: cs → bodyPostS P gn c₀ cs R e a' cs' w') (A0.put (some tr) v') w := by
            intro cs'
            cases hcode : code F.gbody call maxRounds (Env.set (slotOf F.gk).1 (slotOf F.gk).2 v (argsP cv 0 Env.nil)) h with
            | bad => rw [hfin, hcode] at hne; exact absurd rfl hne
            | ok x env3 h3 =>
              have fin : F.fin call cv envr h v = finish F.results envr h3 → ∃ vs, results envr h3 F.results = some vs ∧ F.fin call cv envr h v = .ok (one vs) h3 := by
                intro e
                have e2 : F.fin call cv envr h v = (Option.rec .bad (fun vs => .ok (one vs) h3) (results envr h3 F.results) : OR) := e
                cases hrs : results envr h3 F.results with
                | none => rw [hrs] at e2; exact absurd e2 hne
                | some vs => rw [hrs] at e2; exact ⟨vs, rfl, e2⟩
              have done : F.fin call cv envr h v = finish F.results envr h3 → FreeIn ι h h3 ∧ ∀ ι' (a' : Act) w', Chg ι h w ι' h3 w' → a'.defers = [] → cs' = { c₀ with mode := u' } :: cs → a'.defers = [] ∧ ∃ u', cs' = { c₀ with mode := u' } :: cs ∧ ∃ v, (Go.results gn a'.tmps).run P w' = .ok v w' ∧ R (.returned v) u' w' := by
                intro e
                obtain ⟨vs, h1, h2⟩ := fin e
                refine ⟨by rw [h2] at hfree; exact hfree, fun ι' a' w' c' hd hcs' => ⟨hd, u', hcs', .tuple #[], ?_, hR vs h3 ι' w' h2 h1 c'⟩⟩
                have hnil : gn.results = #[] := by
                  have := b8.2
                  have h0 : gn.results.toList = [] := by simpa using this
                  exact Array.toList_eq_nil_iff.1 h0
                unfold Go.results
                rw [hnil]
                simp
              cases x with
              | nrm =>
                obtain ⟨hf3, k⟩ := done (by rw [hfin, hcode])
                exact wp_code hmx hcs hcm c3 F.gbody b8.1 maxRounds hcode hact2 g hf3 fun ι' a' w' c' r' => k ι' a' w' c' r'.defers
              | ret =>
                obtain ⟨hf3, k⟩ := done (by rw [hfin, hcode])
                exact wp_code hmx hcs hcm c3 F.gbody b8.1 maxRounds hcode hact2 g hf3 fun ι' a' w' c' r' => k ι' a' w' c' r'.defers
              | exit i => rw [hfin, hcode] at hne; exact absurd rfl hne
              | pan v => rw [hfin, hcode] at hne; exact absurd rfl hne
          refine wpS_seq (wpS_region ?_)
          have hsz : ops0 = #[rc] := by rw [← Array.toArray_toList (xs := ops0), hops]
          have hrun : (execOp A0.eval rc).run P w = .ok .recover w := by
            simp [execOp, hop, resolve, invoke, builtin]
          have hw : Region.wanted rc (yielded ops0 A0.tmps) = true := by simp [Region.wanted, hgd]
          rw [hsz] at hw ⊢
          show wpOpsS P #[rc] _ [0] A0 (c₀ :: cs) w
          simp only [wpOpsS, List.getElem?_toArray, List.getElem?_cons_zero, hw, if_true, hrun, hdst]
          rcases hrec c₀ cs hu with h1 | ⟨h1, h2, h3⟩
          · rw [h1]
            exact wp_mono (rest ({ c₀ with mode := u' } :: cs)) (fun e a w h => h rfl) |> wpS_of_wp
          · rw [h1]
            subst h2 h3
            exact wp_mono (rest (c₀ :: cs)) (fun e a w h => h (by rw [← hu])) |> wpS_of_wp
        · cases hc
      · cases hc
    · cases hc
end
end
end Go.Eng
namespace Go.Eng
noncomputable section
section
variable {P : Program} {call : CallT} {F : FunD}

/-- **A function that defers is sound.** -/
theorem funD_sound (hmx : P.follows .mixedOrders = true) (hcs : CallS P call) (hcm : CallMono call) {f : Nat} (hc : chkFD P f F = true) {as : List V} {h : Heap} (hne : runD F call as h ≠ .bad) :
    hasBody P f ∧ ∀ ι w (args : Array Value), Good ι h w → OR.free ι h (runD F call as h) → vrels ι as args.toList → Calls P f args w (OutP ι h w (runD F call as h)) := by
  unfold chkFD at hc
  cases hf : P.funcs[f]? with
  | none => rw [hf] at hc; cases hc
  | some fn =>
    rw [hf] at hc
    have hc := Bool.and_of hc
    have hname : fn.name ≠ "runtime.NumGoroutine" := by simpa using hc.1
    have hc := hc.2
    split at hc
    · rename_i c1 i1 ops1 i2 ops2 hbody
      have b1 := Bool.and_of hc; have b2 := Bool.and_of b1.1; have b3 := Bool.and_of b2.2; have b3b := Bool.and_of b3.2; have b4 := Bool.and_of b1.2; have b5 := Bool.and_of b4.1; have b6 := Bool.and_of b5.2; have b7 := Bool.and_of b4.2; have b8 := Bool.and_of b7.2; have b9 := Bool.and_of b8.2; have b10 := Bool.and_of b9.1
      have h64 : F.temps.length ≤ 64 := by simpa using b2.1
      have hnp : F.np ≤ F.temps.length := by simpa using b3.1
      have hnd := nodupB_ok _ b3b.2
      have hnt : F.np ≤ fn.ntmps := by simpa using b5.1
      refine ⟨⟨fn, hf, by simpa using hname, by rw [hbody]; rfl⟩, fun ι w args g hfree hr => ?_⟩
      obtain ⟨r, hrun⟩ : ∃ r, r = runD F call as h := ⟨_, rfl⟩
      rw [← hrun] at hne hfree ⊢
      have hrun2 : r = (Bool.rec .bad (CR.rec (fun x env1 h1 => X.rec (F.go call env1 h1) .bad (fun _ => .bad) (fun _ => .bad) x) .bad (Go.Eng.args as 0 Env.nil fun env => code F.pre call maxRounds env h)) ((lenV as).beq F.np) : OR) := hrun
      cases hlen : (lenV as).beq F.np with
      | false => rw [hlen] at hrun2; exact absurd hrun2 hne
      | true =>
        have hl : as.length = F.np := by rw [lenV_eq] at hlen; exact Nat.eq_of_beq_eq_true hlen
        rw [hlen] at hrun2
        have hrun2 : r = (CR.rec (fun x env1 h1 => X.rec (F.go call env1 h1) .bad (fun _ => .bad) (fun _ => .bad) x) .bad (code F.pre call maxRounds (argsP as 0 Env.nil) h) : OR) := by rw [hrun2, args_eq]
        have hact := start_act (N := fn.ntmps) h64 hnp hnt b3b.1 hl hr
        refine calls_of_wp_defers hf hbody ?_
        cases hcode : code F.pre call maxRounds (argsP as 0 Env.nil) h with
        | bad => rw [hcode] at hrun2; exact absurd hrun2 hne
        | ok x env1 h1 =>
          rw [hcode] at hrun2
          cases x with
          | ret => exact absurd hrun2 hne
          | exit i => exact absurd hrun2 hne
          | pan v => exact absurd hrun2 hne
          | nrm =>
            have hgo : r = F.go call env1 h1 := hrun2
            have hnx := go_next (F := F) hcm env1 h1
            rw [← hgo] at hnx
            have hfree1 : FreeIn ι h h1 := by
              cases r with
              | ok v h' => exact FreeIn.left (h2 := h') hfree hnx
              | pan v h' => exact FreeIn.left (h2 := h') hfree hnx
              | bad => exact absurd rfl hne
            refine wp_seq (wp_code hmx hcs hcm c1 F.pre b6.1 maxRounds hcode hact g hfree1 fun ι1 a1 w1 ch1 r1 => ?_)
            -- the closure is made and deferred
            show (Code.seq _ _).wp P _ a1 w1
            have hdf := b7.1
            unfold chkDf at hdf
            split at hdf
            · rename_i mf df hops1
              have hsz1 : ops1 = #[mf, df] := by rw [← Array.toArray_toList (xs := ops1), hops1]
              split at hdf
              · rename_i gg first cs t hop hdst hgd
                have hdf := Bool.and_of hdf
                have d1 := Bool.and_of hdf.1; have d2 := Bool.and_of d1.2; have d3 := Bool.and_of d2.2; have d4 := Bool.and_of d3.2
                have hgg : gg = F.clo := by simpa using d1.1
                have hfirst : first = #[] := Array.toList_eq_nil_iff.1 (by simpa using d2.1)
                have htN : t < fn.ntmps := by simpa using d4.1
                have htt : t ∉ F.temps := by
                  have := d4.2
                  simpa using this
                have hdf2 := hdf.2
                split at hdf2
                · rename_i cc hop2 hdst2 hgd2
                  have e1 := Bool.and_of hdf2
                  have hcargs : cc.args = #[] := Array.toList_eq_nil_iff.1 (by simpa using e1.1)
                  have e2 := e1.2
                  split at e2
                  · rename_i t' hcal
                    have htt' : t' = t := by simpa using e2
                    subst htt'
                    subst hgg hfirst
                    -- what is deferred
                    have hcaps : vrels ι1 (evs F.caps fun a => a.ev [] env1) (cs.map a1.eval).toList := by
                      have := chks_rel (ev := fun a => A.ev a [] env1) (chkAt_rel r1.start) cs.toList F.caps d3.1
                      simpa using this
                    have htlt : t' < a1.tmps.size := by rw [r1.size]; exact htN
                    let D : Deferred := { target := .fn (.func F.clo) (cs.map a1.eval), args := #[] }
                    let a2 : Act := { a1.put (some t') (.func (.func F.clo) #[] (cs.map a1.eval)) with defers := [D] }
                    have hput : (a1.put (some t') (.func (.func F.clo) #[] (cs.map a1.eval))).tmps.getD t' undef = .func (.func F.clo) #[] (cs.map a1.eval) := by
                      show (a1.tmps.setIfInBounds t' _).getD t' undef = _
                      rw [getD_put htlt, if_pos rfl]
                    have hstr : StR ι1 (Fct.start F.temps) [] env1 env1 a2.tmps := by
                      have r2 : ActR [] ι1 F.temps fn.ntmps env1 { a2 with defers := [] } := by
                        refine ⟨put_size.trans r1.size, rfl, fun k u hk => ?_⟩
                        show vrel ι1 _ ((a1.tmps.setIfInBounds t' _).getD u undef)
                        rw [getD_put htlt, if_neg (by intro e; subst e; exact htt (List.mem_of_getElem? hk))]
                        exact r1.tmps k u hk
                      exact r2.start
                    refine wp_seq (wp_region ?_)
                    have hl1 := wpOps_eq_wpList (P := P) (ops := ops1) (Q := Exit.then ((Code.seq (.region i2 ops2 false) .ret).wp P (bodyPostD P fn (OutP ι h w r))) (bodyPostD P fn (OutP ι h w r))) ops1.toList 0 (fun j => by simp)
                    rw [List.range_eq_range', show ops1.size = ops1.toList.length by simp, hl1, hops1]
                    refine wpList_yes (by simp [Region.wanted, hgd]) ?_
                    have hrun1 : (execOp a1.eval mf).run P w1 = .ok (.value (.func (.func F.clo) #[] (cs.map a1.eval))) w1 := by
                      simp [execOp, hop, Instr.makeFunc, Result.andThen]
                    unfold Oper.wp
                    rw [hrun1, Oper.upon_value, hdst]
                    refine wpList_yes (by simp [Region.wanted, hgd2]) ?_
                    have hrun2' : (execOp (a1.put (some t') (.func (.func F.clo) #[] (cs.map a1.eval))).eval df).run P w1 = .ok (.defer D) w1 := by
                      have he : (a1.put (some t') (.func (.func F.clo) #[] (cs.map a1.eval))).eval (.tmp t') = .func (.func F.clo) #[] (cs.map a1.eval) := hput
                      simp only [execOp, hop2, resolve, hcal, hcargs, he, Deferred.ofValue]
                      simp [D, Result.andThen]
                    unfold Oper.wp
                    rw [hrun2', Oper.upon_defer, hdst2]
                    have hd1 : (a1.put (some t') (.func (.func F.clo) #[] (cs.map a1.eval))).defers = [] := put_defers.trans r1.defers
                    rw [hd1]
                    show (Code.seq (.region i2 ops2 false) .ret).wp P (bodyPostD P fn (OutP ι h w r)) a2 w1
                    -- the end, whichever it is
                    have last : ∀ (u u' : FrameMode) (v : V) (v' : Value) (envr : Env) (ι2 : Inj) (h2 : Heap) (a' : Act) (w2 : World), u ≠ .run → settle u' = .returning →
                        (∀ (c₀ : Frame) (cs : List Frame), c₀.mode = u → (recoverD (c₀ :: cs) = some (v', { c₀ with mode := u' } :: cs)) ∨ (recoverD (c₀ :: cs) = none ∧ v' = .nilIface ∧ u' = u)) →
                        r = F.fin call (evs F.caps fun a => a.ev [] env1) envr h2 v → Chg ι1 h1 w1 ι2 h2 w2 → vrel ι2 v v' → a'.defers = [D] → ActR [] ι2 F.temps fn.ntmps envr { a' with defers := [] } → Leaves P fn a'.tmps (OutP ι h w r) a'.defers u w2 := by
                      intro u u' v v' envr ι2 h2 a' w2 hu hset hrec hrf c2 hv hd ra
                      have hnx2 := fin_next (F := F) hcm (evs F.caps fun a => a.ev [] env1) envr h2 v
                      rw [← hrf] at hnx2
                      have hn12 := c2.ext.2.1
                      have hf2 : OR.free ι2 h2 r := by
                        cases r with
                        | ok v h' => exact (FreeIn.right (h2 := h') hfree ch1.ext).right c2.ext
                        | pan v h' => exact (FreeIn.right (h2 := h') hfree ch1.ext).right c2.ext
                        | bad => exact absurd rfl hne
                      have hfr1 : FreeIn ι1 h1 h2 := by
                        cases r with
                        | ok v h' => exact (FreeIn.right (h2 := h') hfree ch1.ext).left hnx2
                        | pan v h' => exact (FreeIn.right (h2 := h') hfree ch1.ext).left hnx2
                        | bad => exact absurd rfl hne
                      rw [hd]
                      obtain ⟨⟨gn, k1, k2, k3⟩, k4⟩ := clo_sound (u := u) (u' := u') (R := fun e u' w' => match e with
                        | .returned _ => Leaves P fn a'.tmps (OutP ι h w r) [] (settle u') w'
                        | .panicked chain => Leaves P fn a'.tmps (OutP ι h w r) [] (raised u' chain) w'
                        | .outgrown => OutP ι h w r .outgrown w') hmx hcs hcm b9.2 (by simp) (by rw [← hrf]; exact hne) c2.good (by rw [← hrf]; exact hf2) (hcaps.mono c2.ext.1) hv hrec (fun vs h3 ι3 w3 e1 e2 c3 => by
                          show Leaves P fn a'.tmps (OutP ι h w r) [] (settle u') w3
                          rw [hset]
                          obtain ⟨vs', m1, m2⟩ := results_rel (P := P) c3.good (ra.mono c3.ext.1) fn.results.toList F.results b6.2 vs e2
                          refine ⟨(if h : vs'.toArray.size = 1 then vs'.toArray[0] else .tuple vs'.toArray), ?_, ?_⟩
                          · unfold Go.results
                            rw [Array.mapM_eq_mapM_toList]
                            simp only [Sem.run_bind, Sem.run_map]
                            erw [m1]
                            rfl
                          · rw [hrf, e1]
                            have hn23 := c3.ext.2.1
                            exact ⟨ι3, ch1.trans (c2.trans c3 hfr1) hfree1, vrels.one_ (by simpa using m2)⟩)
                      refine ⟨hu, .func F.clo, cs.map a1.eval, F.clo, cs.map a1.eval, rfl, ?_, fun c cs hm => ?_⟩
                      · have hb : hasBody P F.clo := ⟨gn, k1, k3, k2⟩
                        have := callFunc_run (P := P) (w := w2) hb (cs.map a1.eval)
                        show (callFunc F.clo (#[] ++ cs.map a1.eval)).run P w2 = _
                        rw [Array.empty_append]; exact this
                      · obtain ⟨e, u2, w3, fr, n1, n2, n3, n4⟩ := k4 c cs hm
                        exact ⟨e, u2, w3, fr, by cases e <;> exact n1, n2, n3, n4⟩
                    -- the region with the call
                    have hgo2 : r = (CR.rec (fun x env2 h2 => X.rec (F.fin call (evs F.caps fun a => a.ev [] env1) env2 h2 .ifcN) .bad (fun _ => .bad) (fun v => F.fin call (evs F.caps fun a => a.ev [] env1) (clr F.ws env1) h2 v) x) .bad (opsN F.ops call [] env1 h1) : OR) := hgo
                    cases hops : opsN F.ops call [] env1 h1 with
                    | bad => rw [hops] at hgo2; exact absurd hgo2 hne
                    | ok x2 env2 h2 =>
                      rw [hops] at hgo2
                      have hn2 := opsN_next hcm F.ops [] env1 h1
                      rw [hops] at hn2
                      cases hF : chkN P fn.ntmps F.acts ops2 ops2.toList 0 F.ops (Fct.start F.temps) with
                      | none => rw [hF] at b8; exact absurd b8.1 (by simp [optEnd])
                      | some F' =>
                        have hend : endOk F' F.temps 0 = true := by have := b8.1; rw [hF] at this; exact this
                        have hne2 : h2.next ≤ (match r with | .ok _ h' => h'.next | .pan _ h' => h'.next | .bad => h2.next) := by
                          cases x2 with
                          | nrm =>
                            have e : r = F.fin call (evs F.caps fun a => a.ev [] env1) env2 h2 .ifcN := hgo2
                            have := fin_next (F := F) hcm (evs F.caps fun a => a.ev [] env1) env2 h2 .ifcN
                            rw [← e] at this
                            cases r <;> first | exact this | exact Nat.le_refl _
                          | ret => exact absurd hgo2 hne
                          | exit i => exact absurd hgo2 hne
                          | pan v =>
                            have e : r = F.fin call (evs F.caps fun a => a.ev [] env1) (clr F.ws env1) h2 v := hgo2
                            have := fin_next (F := F) hcm (evs F.caps fun a => a.ev [] env1) (clr F.ws env1) h2 v
                            rw [← e] at this
                            cases r <;> first | exact this | exact Nat.le_refl _
                        have hf12 : FreeIn ι1 h1 h2 := by
                          cases r with
                          | ok v h' => exact (FreeIn.right (h2 := h') hfree ch1.ext).left hne2
                          | pan v h' => exact (FreeIn.right (h2 := h') hfree ch1.ext).left hne2
                          | bad => exact absurd rfl hne
                        refine wp_seq (wp_region ?_)
                        have hl2 := wpOps_eq_wpList (P := P) (ops := ops2) (Q := Exit.then (Code.ret.wp P (bodyPostD P fn (OutP ι h w r))) (bodyPostD P fn (OutP ι h w r))) ops2.toList 0 (fun j => by simp)
                        rw [List.range_eq_range', show ops2.size = ops2.toList.length by simp, hl2]
                        refine wpList_fixed (D := [D]) (F' := F') hcs hcm ops2.toList 0 F.ops (Fct.start F.temps) [] env1 a2 w1 ι1 h1 hF hops hstr (put_size.trans r1.size) rfl ch1.good hf12 (fun hx ι2 vs2 a' w2 c2 s2 hs2 hd2 => ?_) (fun v hx v' ι2 a' w2 c2 hv hd2 hs2 hk2 => ?_)
                        · subst hx
                          have e : r = F.fin call (evs F.caps fun a => a.ev [] env1) env2 h2 .ifcN := hgo2
                          have ra : ActR [] ι2 F.temps fn.ntmps env2 { a' with defers := [] } := StR.end (a := { a' with defers := [] }) s2 hend hs2 rfl
                          exact wp_ret (last .returning .returning .ifcN .nilIface env2 ι2 h2 a' w2 (by simp) rfl (fun c₀ cs hm => .inr ⟨by simp [recoverD, hm], rfl, rfl⟩) e c2 rfl hd2 ra)
                        · subst hx
                          have e : r = F.fin call (evs F.caps fun a => a.ev [] env1) (clr F.ws env1) h2 v := hgo2
                          have hws : ∀ j ∈ F.ws, j < 64 := fun j hj => by have := List.all_eq_true.1 b10.2 j hj; simpa using this
                          have ra : ActR [] ι2 F.temps fn.ntmps (clr F.ws env1) { a' with defers := [] } := by
                            refine ⟨hs2, rfl, fun k t hk => ?_⟩
                            · have hk64 : k < 64 := by have := (List.getElem?_eq_some_iff.1 hk).1; omega
                              rw [clr_get _ _ k hk64 hws]
                              by_cases hkw : k ∈ F.ws
                              · rw [if_pos hkw]; trivial
                              · rw [if_neg hkw]
                                exact hk2 t _ _ (dstsIn_ok _ b10.1 k t hk hkw) (start_tmp hnd hk)
                          exact last (.panicking [{ v := v', recovered := false }]) (.panicking [{ v := v', recovered := true }]) v v' (clr F.ws env1) ι2 h2 a' w2 (by simp) rfl (fun c₀ cs hm => .inl (by simp [recoverD, hm])) e c2 hv hd2 ra
                  · cases e2
                · cases hdf2
              · cases hdf
            · cases hdf
    · cases hc
end
end
end Go.Eng
namespace Go.Eng
noncomputable section

/-! ### a program -/
/-- its functions; those that defer; others, by a summary -/
def Ctx.of (funs : T Fun) (dfuns : T FunD) (more : Nat → List V → Heap → OR) : Ctx :=
  ⟨funs, fun call f as h => Option.rec (more f as h) (fun F => runD F call as h) (T.get f dfuns)⟩
/-- what must be shown of the others -/
def MoreOk (P : Program) (more : Nat → List V → Heap → OR) : Prop := ∀ f as h,
  OR.next h (more f as h) ∧ (more f as h ≠ .bad → hasBody P f ∧ ∀ ι w (args : Array Value), Good ι h w → OR.free ι h (more f as h) → vrels ι as args.toList → Calls P f args w (OutP ι h w (more f as h)))
theorem sums_ok {P : Program} (hmx : P.follows .mixedOrders = true) {funs : T Fun} {dfuns : T FunD} {more : Nat → List V → Heap → OR} (hd : allT (chkFD P) dfuns = true) (hm : MoreOk P more) : SumsOk P (Ctx.of funs dfuns more) := by
  intro call hcs hcm f as h hn
  show OR.next h (Option.rec (more f as h) (fun F => runD F call as h) (T.get f dfuns) : OR) ∧ ((Option.rec (more f as h) (fun F => runD F call as h) (T.get f dfuns) : OR) ≠ .bad → hasBody P f ∧ ∀ ι w (args : Array Value), Good ι h w → OR.free ι h (Option.rec (more f as h) (fun F => runD F call as h) (T.get f dfuns) : OR) → vrels ι as args.toList → Calls P f args w (OutP ι h w (Option.rec (more f as h) (fun F => runD F call as h) (T.get f dfuns) : OR)))
  cases hg : T.get f dfuns with
  | none => exact ⟨(hm f as h).1, fun hne => ⟨((hm f as h).2 hne).1, fun ι w args g hfr hr => ((hm f as h).2 hne).2 ι w args g hfr hr⟩⟩
  | some F =>
    have hc := allT_get hd hg
    exact ⟨runD_next hcm as h, fun hne => funD_sound hmx hcs hcm hc hne⟩
def noMore : Nat → List V → Heap → OR := fun _ _ _ => .bad
theorem noMore_ok (P : Program) : MoreOk P noMore := fun _ _ _ => ⟨trivial, fun h => absurd rfl h⟩

/-- true, and nothing else asked: for the kernel -/
def isTrue (r : OR) : Bool := OR.rec (fun v _ => V.same v (.bool true)) (fun _ _ => false) false r
theorem isTrue_ok {r : OR} (h : isTrue r = true) : ∃ h', r = .ok (.bool true) h' := by
  cases r with
  | ok v h' => have := V.same_eq v (.bool true) h; subst this; exact ⟨h', rfl⟩
  | pan v h' => cases h
  | bad => cases h
/-- **A law, at given values.** -/
theorem law_run {P : Program} (hmx : P.follows .mixedOrders = true) {funs : T Fun} {dfuns : T FunD} {more : Nat → List V → Heap → OR} (hf : allT (chkF P) funs = true) (hd : allT (chkFD P) dfuns = true) (hm : MoreOk P more)
    {n f : Nat} {as : List V} (he : isTrue (lev (Ctx.of funs dfuns more) n f as .none Heap.empty).1 = true) {args : Array Value} (hr : vrels Inj.none as args.toList) (w : World) :
    Calls P f args w fun e w' => e = .returned (.bool true) ∧ Kept w w' := by
  obtain ⟨h', e⟩ := isTrue_ok he
  exact closed_run hmx (c := Ctx.of funs dfuns more) hf (sums_ok hmx hd hm) e hr w
end
end Go.Eng
