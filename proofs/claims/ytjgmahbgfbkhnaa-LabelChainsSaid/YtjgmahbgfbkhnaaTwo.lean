/- Part of a proof of a law, by an evaluator that the machine follows: rules, contracts of functions, what they come to. No condition of its own. -/
import Derived.Test.YtjgmahbgfbkhnaaEng3
import Derived.Test.YtjgmahbgfbkhnaaSym
namespace Go.Eng
noncomputable section
def more2 (a b : Nat → List V → Heap → OR) : Nat → List V → Heap → OR := fun f as h => OR.rec (fun v h => .ok v h) (fun v h => .pan v h) (b f as h) (a f as h)
theorem more2_ok {P : Program} {a b : Nat → List V → Heap → OR} (ha : MoreOk P a) (hb : MoreOk P b) : MoreOk P (more2 a b) := by
 intro f as h
 show OR.next h (OR.rec (fun v h => .ok v h) (fun v h => .pan v h) (b f as h) (a f as h) : OR) ∧ ((OR.rec (fun v h => .ok v h) (fun v h => .pan v h) (b f as h) (a f as h) : OR) ≠ .bad → hasBody P f ∧ ∀ ι w (args : Array Value), Good ι h w → vrels ι as args.toList → Calls P f args w (OutP ι h w (OR.rec (fun v h => .ok v h) (fun v h => .pan v h) (b f as h) (a f as h) : OR)))
 have h1 := ha f as h
 cases hr : a f as h with
 | ok v h' => rw [hr] at h1; exact h1
 | pan v h' => rw [hr] at h1; exact h1
 | bad => exact hb f as h
def cmpV (n x m y : Nat) : V := Bool.rec (Bool.rec (.int .i64 1) (.int .i64 (-1)) (sLess (sBytes n x) (sBytes m y))) (.int .i64 0) (sEq n x m y)
def moreCmp (f0 : Nat) : Nat → List V → Heap → OR := fun f as h => match f.beq f0, as with
 | true, [.str n x, .str m y] => (cmpV n x m y).force fun v => .ok v h
 | _, _ => .bad
theorem compare_less : ∀ (a b : List UInt8), Lib.compareBytes a b = if a = b then 0 else if Op.bytesLess a b then -1 else 1
 | [], [] => rfl
 | [], _ :: _ => by simp [Lib.compareBytes, Op.bytesLess]
 | _ :: _, [] => by simp [Lib.compareBytes, Op.bytesLess]
 | x :: a, y :: b => by
  unfold Lib.compareBytes
  rw [compare_less a b]
  by_cases h1 : x < y
  ·have : x ≠ y := fun e => by subst e; exact UInt8.lt_irrefl x h1
   simp [h1, this, Op.bytesLess]
  ·by_cases h2 : y < x
   ·have : x ≠ y := fun e => by subst e; exact UInt8.lt_irrefl x h2
    simp [h1, h2, this, Op.bytesLess]
   ·have h3 : x = y := by
     rw [UInt8.lt_iff_toNat_lt] at h1 h2
     exact UInt8.toNat_inj.1 (by omega)
    subst h3
    simp [Op.bytesLess, UInt8.lt_irrefl]
theorem cmpV_eq (s u : ByteArray) : cmpV s.data.toList.length (enc s.data.toList) u.data.toList.length (enc u.data.toList) = .int .i64 (Lib.compareBytes s.data.toList u.data.toList) := by
 unfold cmpV
 rw [strOk_eq ⟨rfl, rfl⟩ ⟨rfl, rfl⟩, sBytes_eq, sBytes_eq, sLess_eq, compare_less]
 by_cases h : s = u
 ·subst h; simp
 ·have : s.data.toList ≠ u.data.toList := fun e => h (by cases s; cases u; congr; exact Array.ext' e)
  simp only [h, decide_false, if_neg this]
  cases Op.bytesLess s.data.toList u.data.toList <;> rfl
theorem moreCmp_ok {P : Program} {f0 : Nat} (hb : hasBody P f0) (hc : ∀ (a b : ByteArray) (w : World), Calls P f0 #[.string a, .string b] w fun e w' => e = .returned (.int .i64 (Lib.compareBytes a.data.toList b.data.toList)) ∧ w' = w) : MoreOk P (moreCmp f0) := by
 intro f as h
 unfold moreCmp
 split
 ·rename_i n x m y hf
  have hf : f = f0 := Nat.eq_of_beq_eq_true hf
  subst hf
  rw [V.force_eq]
  refine ⟨Nat.le_refl _, fun _ => ⟨hb, fun ι w args g hr => ?_⟩⟩
  obtain ⟨y1, l1, e1, r1, r2⟩ := hr
  obtain ⟨y2, l2, e2, r3, r4⟩ := r2
  have r4 : l2 = [] := r4
  subst r4 e2
  obtain ⟨s, rfl, hs⟩ := r1
  obtain ⟨u, rfl, hu⟩ := r3
  have ha : args = #[.string s, .string u] := by rw [← Array.toArray_toList (xs := args), e1]
  rw [ha]
  refine (hc s u w).mono fun e w' he => ?_
  obtain ⟨rfl, rfl⟩ := he
  refine ⟨ι, Chg.refl g, ?_⟩
  obtain ⟨rfl, rfl⟩ := hs
  obtain ⟨rfl, rfl⟩ := hu
  rw [cmpV_eq]; rfl
 ·exact ⟨trivial, fun h => absurd rfl h⟩
end
end Go.Eng
namespace Go.Eng
noncomputable section

/-! ### runs step by step, at whatever values; runs of which the kernel asks a truth -/
section
variable {call : CallT} {env : Env} {h : Heap} {vs : List V} {lg : List Log} {v : V} {o : OpL}
theorem opsN_p {l : List Opr} (hl : light o (fun a => a.ev vs env) h = .val v) : opsN (.p (.L o) :: l) call vs env h = opsN l call (v :: vs) env h := by
  show ((light o (fun a => a.ev vs env) h).k h fun v h => opsN l call (v :: vs) env h) = _
  rw [hl]
  show v.force (fun v => opsN l call (v :: vs) env h) = _
  rw [V.force_eq]
theorem opsN_s {l : List Opr} {i j : D8} (hl : light o (fun a => a.ev vs env) h = .val v) : opsN (.s i j (.L o) :: l) call vs env h = opsN l call (v :: vs) (Env.set i j v env) h := by
  show ((light o (fun a => a.ev vs env) h).k h fun v h => Env.setC i j v (fun env => opsN l call (v :: vs) env h) env) = _
  rw [hl]
  show v.force (fun v => Env.setC i j v (fun env => opsN l call (v :: vs) env h) env) = _
  rw [V.force_eq, Env.setC_eq]
theorem opsN_nil : opsN [] call vs env h = .ok .nrm env h := rfl
theorem code_reg {acts : Nat} {l : List Opr} {n : Nat} : code (.reg acts l) call n env h = opsN l call [] env h := rfl
theorem opsD_p {l : List Opd} {uo : List Nat} (hl : light o (fun a => a.ev vs env) h = .val v) : opsD (⟨.p (.L o), uo⟩ :: l) call vs lg env h = opsD l call (v :: vs) (.rd (light o (fun a => a.ev vs env)) v :: lg) env h := by
  show (light o (fun a => a.ev vs env) h).kd (light o (fun a => a.ev vs env)) h (fun lo v h => opsD l call (v :: vs) (lo :: lg) env h) = _
  rw [hl]
  show v.force (fun v => opsD l call (v :: vs) (.rd (light o (fun a => a.ev vs env)) v :: lg) env h) = _
  rw [V.force_eq]
theorem opsD_s {l : List Opd} {uo : List Nat} {i j : D8} (hl : light o (fun a => a.ev vs env) h = .val v) : opsD (⟨.s i j (.L o), uo⟩ :: l) call vs lg env h = opsD l call (v :: vs) (.rd (light o (fun a => a.ev vs env)) v :: lg) (Env.set i j v env) h := by
  show (light o (fun a => a.ev vs env) h).kd (light o (fun a => a.ev vs env)) h (fun lo v h => Env.setC i j v (fun env => opsD l call (v :: vs) (lo :: lg) env h) env) = _
  rw [hl]
  show v.force (fun v => Env.setC i j v (fun e2 => opsD l call (v :: vs) (.rd (light o (fun a => a.ev vs env)) v :: lg) e2 h) env) = _
  rw [V.force_eq, Env.setC_eq]
theorem opsD_nil : opsD [] call vs lg env h = .ok .nrm env h := rfl
theorem code_draw {pm : List Nat} {l : List Opd} {n : Nat} : code (.draw pm l) call n env h = opsD l call [] [] env h := rfl
theorem code_seq {a b : C} {n : Nat} {e1 : Env} {h1 : Heap} (ha : code a call n env h = .ok .nrm e1 h1) : code (.seq a b) call n env h = code b call n e1 h1 := by
  show (CR.rec (fun x env h => X.rec (code b call n env h) (.ok .ret env h) (fun i => .ok (.exit i) env h) (fun v => .ok (.pan v) env h) x) .bad (code a call n env h) : CR) = _
  rw [ha]
theorem L.modu {x y : A} {ev : Ev} {a b : Nat} (hx : ev x = .int .i64 (.ofNat a)) (hy : ev y = .int .i64 (.ofNat b)) (hb : b ≠ 0) (hs : a < 9223372036854775808) : light (.bin .rem x y) ev h = .val (.int .i64 (.ofNat (a % b))) := L.rem (b := b) hx hy rfl (by omega)
end
/-- a run that comes to its end, and what is asked of it -/
def thenB (r : CR) (f : Env → Heap → Bool) : Bool := CR.rec (fun x e h => X.rec (f e h) false (fun _ => false) (fun _ => false) x) false r
theorem thenB_ok {r : CR} {f : Env → Heap → Bool} (h : thenB r f = true) : ∃ e hp, r = .ok .nrm e hp ∧ f e hp = true := by
  cases r with
  | bad => cases h
  | ok x e hp => cases x <;> first | exact ⟨e, hp, rfl, h⟩ | cases h
/-- below n, each -/
theorem runFun_body {fn : Fun} {call : CallT} {as : List V} {h : Heap} (hl : (lenV as).beq fn.np = true) : runFun fn call as h = endCall fn.results (code fn.body call maxRounds (argsP as 0 Env.nil) h) := by
  unfold runFun runFunR
  rw [hl, args_eq]
/-- operations of a region that change nothing, and write no slot -/
def stepV (vs : List V) (env : Env) (h : Heap) (o : Opr) : Option V := match o with
  | .p (.L op) => LR.rec (fun v => some v) (fun _ _ => none) none (light op (fun a => a.ev vs env) h)
  | .g g b (.L op) => Option.rec none (fun c => Bool.rec (some un) (LR.rec (fun v => some v) (fun _ _ => none) none (light op (fun a => a.ev vs env) h)) c) ((g.ev vs env).gd b)
  | _ => none
def runV (env : Env) (h : Heap) (l : List Opr) : List V → Option (List V) := @List.rec Opr (fun _ => List V → Option (List V)) (fun vs => some vs) (fun o _ ih vs => Option.rec none (fun v => v.force fun v => ih (v :: vs)) (stepV vs env h o)) l
theorem runV_ok {call : CallT} {env : Env} {h : Heap} {l2 : List Opr} : ∀ (l1 : List Opr) (vs vs' : List V), runV env h l1 vs = some vs' → opsN (l1 ++ l2) call vs env h = opsN l2 call vs' env h
  | [], vs, vs', hv => by cases hv; rfl
  | o :: l1, vs, vs', hv => by
    have hv : (Option.rec none (fun v => v.force fun v => runV env h l1 (v :: vs)) (stepV vs env h o) : Option (List V)) = some vs' := hv
    cases hs : stepV vs env h o with
    | none => rw [hs] at hv; cases hv
    | some v =>
      rw [hs] at hv
      have hv : v.force (fun v => runV env h l1 (v :: vs)) = some vs' := hv
      rw [V.force_eq] at hv
      have ih := runV_ok (call := call) (l2 := l2) l1 (v :: vs) vs' hv
      have val : ∀ {op : OpL}, (LR.rec (fun v => some v) (fun _ _ => none) none (light op (fun a => a.ev vs env) h) : Option V) = some v → light op (fun a => a.ev vs env) h = .val v := by
        intro op e
        cases hl : light op (fun a => a.ev vs env) h with
        | val u => rw [hl] at e; cases e; rfl
        | new _ _ => rw [hl] at e; cases e
        | bad => rw [hl] at e; cases e
      cases o with
      | p op =>
        cases op with
        | L op => rw [List.cons_append, opsN_p (val hs)]; exact ih
        | H op => cases hs
      | g g b op =>
        cases op with
        | H op => cases hs
        | L op =>
          have hs : (Option.rec none (fun c => Bool.rec (some un) (LR.rec (fun v => some v) (fun _ _ => none) none (light op (fun a => a.ev vs env) h)) c) ((g.ev vs env).gd b) : Option V) = some v := hs
          cases hg : (g.ev vs env).gd b with
          | none => rw [hg] at hs; cases hs
          | some c =>
            rw [hg] at hs
            show (Option.rec .bad (fun c => Bool.rec (opsN (l1 ++ l2) call (un :: vs) env h) (oP (.L op) (opsN (l1 ++ l2)) call vs env h) c) ((g.ev vs env).gd b) : CR) = _
            rw [hg]
            cases c with
            | false =>
              have hs : some un = some v := hs
              cases hs; exact ih
            | true =>
              show opsN (.p (.L op) :: (l1 ++ l2)) call vs env h = _
              rw [opsN_p (val hs)]; exact ih
      | s i j op => cases op <;> cases hs
      | gs g b i j op => cases op <;> cases hs
def trueV (r : Option (List V)) : Bool := Option.rec false (fun l => List.rec false (fun v _ _ => V.same v (.bool true)) l) r
theorem trueV_ok {r : Option (List V)} (h : trueV r = true) : ∃ l, r = some (.bool true :: l) := by
  cases r with
  | none => cases h
  | some l =>
    cases l with
    | nil => cases h
    | cons v l => have := V.same_eq v (.bool true) h; subst this; exact ⟨l, rfl⟩
end
end Go.Eng
