/- Part of a proof of a law, by an evaluator that the machine follows: rules, contracts of functions, what they come to. No condition of its own. -/
import Derived.Test.YtmcjcbldmoijiaaGreatDoorEngD
set_option linter.unusedVariables false
set_option linter.unusedSimpArgs false
namespace Go.Eng
noncomputable section

/-! ### the evaluator, without a bound on rounds and depth: for proofs -/
def Runs (c : Ctx) (f : Nat) (as : List V) (h : Heap) (r : OR) : Prop := ∃ N, ∀ m, N ≤ m → ∀ R, N ≤ R → (levR c R m f as .none h).1 = r
def EvC (c : Ctx) (e : C) (env : Env) (h : Heap) (x : X) (env' : Env) (h' : Heap) : Prop := ∃ N, ∀ m, N ≤ m → ∀ R, N ≤ R → code e (levR c R m) R env h = .ok x env' h'
def EvO (c : Ctx) (l : List Opr) (vs : List V) (env : Env) (h : Heap) (x : X) (env' : Env) (h' : Heap) : Prop := ∃ N, ∀ m, N ≤ m → ∀ R, N ≤ R → opsN l (levR c R m) vs env h = .ok x env' h'
def EvD (c : Ctx) (l : List Opd) (vs : List V) (lg : List Log) (env : Env) (h : Heap) (x : X) (env' : Env) (h' : Heap) : Prop := ∃ N, ∀ m, N ≤ m → ∀ R, N ≤ R → opsD l (levR c R m) vs lg env h = .ok x env' h'

abbrev QT := X → Env → Heap → Prop
/-- what the code comes to -/
def WP (c : Ctx) (e : C) (Q : QT) (env : Env) (h : Heap) : Prop := ∃ x env' h', EvC c e env h x env' h' ∧ Q x env' h'
def WO (c : Ctx) (l : List Opr) (Q : QT) (vs : List V) (env : Env) (h : Heap) : Prop := ∃ x env' h', EvO c l vs env h x env' h' ∧ Q x env' h'
def WD (c : Ctx) (l : List Opd) (Q : QT) (vs : List V) (lg : List Log) (env : Env) (h : Heap) : Prop := ∃ x env' h', EvD c l vs lg env h x env' h' ∧ Q x env' h'
def QT.seq (c : Ctx) (b : C) (Q : QT) : QT := fun x e h => match x with
  | .nrm => WP c b Q e h
  | x => Q x e h
def QT.block (id : Nat) (Q : QT) : QT := fun x e h => match x with
  | .exit i => if i = id then Q .nrm e h else Q (.exit i) e h
  | x => Q x e h

section
variable {c : Ctx} {Q : QT} {env : Env} {h : Heap}
theorem WP.mono {e : C} {Q' : QT} (w : WP c e Q env h) (hq : ∀ x e h, Q x e h → Q' x e h) : WP c e Q' env h :=
  let ⟨x, e', h', ev, q⟩ := w; ⟨x, e', h', ev, hq _ _ _ q⟩
theorem WP.skip (q : Q .nrm env h) : WP c .skip Q env h := ⟨_, _, _, ⟨0, fun _ _ _ _ => rfl⟩, q⟩
theorem WP.ret (q : Q .ret env h) : WP c .ret Q env h := ⟨_, _, _, ⟨0, fun _ _ _ _ => rfl⟩, q⟩
theorem WP.exit {id : Nat} (q : Q (.exit id) env h) : WP c (.exit id) Q env h := ⟨_, _, _, ⟨0, fun _ _ _ _ => rfl⟩, q⟩
theorem WP.seq {a b : C} (w : WP c a (Q.seq c b) env h) : WP c (.seq a b) Q env h := by
  obtain ⟨x, e1, h1, ⟨N, ev⟩, q⟩ := w
  cases x with
  | nrm =>
    obtain ⟨x2, e2, h2, ⟨N2, ev2⟩, q2⟩ := q
    refine ⟨x2, e2, h2, ⟨max N N2, fun m hm R hR => ?_⟩, q2⟩
    show (CR.rec (fun x env h => X.rec (code b (levR c R m) R env h) (.ok .ret env h) (fun i => .ok (.exit i) env h) (fun v => .ok (.pan v) env h) x) .bad (code a (levR c R m) R env h) : CR) = _
    rw [ev m (by omega) R (by omega)]
    exact ev2 m (by omega) R (by omega)
  | ret => exact ⟨_, _, _, ⟨N, fun m hm R hR => by
      show (CR.rec (fun x env h => X.rec (code b (levR c R m) R env h) (.ok .ret env h) (fun i => .ok (.exit i) env h) (fun v => .ok (.pan v) env h) x) .bad (code a (levR c R m) R env h) : CR) = _
      rw [ev m hm R hR]⟩, q⟩
  | exit i => exact ⟨_, _, _, ⟨N, fun m hm R hR => by
      show (CR.rec (fun x env h => X.rec (code b (levR c R m) R env h) (.ok .ret env h) (fun i => .ok (.exit i) env h) (fun v => .ok (.pan v) env h) x) .bad (code a (levR c R m) R env h) : CR) = _
      rw [ev m hm R hR]⟩, q⟩
  | pan v => exact ⟨_, _, _, ⟨N, fun m hm R hR => by
      show (CR.rec (fun x env h => X.rec (code b (levR c R m) R env h) (.ok .ret env h) (fun i => .ok (.exit i) env h) (fun v => .ok (.pan v) env h) x) .bad (code a (levR c R m) R env h) : CR) = _
      rw [ev m hm R hR]⟩, q⟩
theorem WP.cond {x : A} {a b : C} {t : Bool} (hx : (x.ev [] env).asBool = some t) (w : WP c (if t then a else b) Q env h) : WP c (.cond x a b) Q env h := by
  obtain ⟨y, e1, h1, ⟨N, ev⟩, q⟩ := w
  refine ⟨y, e1, h1, ⟨N, fun m hm R hR => ?_⟩, q⟩
  show (Option.rec .bad (fun t => Bool.rec (code b (levR c R m) R env h) (code a (levR c R m) R env h) t) (x.ev [] env).asBool : CR) = _
  rw [hx]
  have := ev m hm R hR
  cases t <;> exact this
theorem WP.block {id : Nat} {a : C} (w : WP c a (Q.block id) env h) : WP c (.block id a) Q env h := by
  obtain ⟨y, e1, h1, ⟨N, ev⟩, q⟩ := w
  have key : ∀ m, N ≤ m → ∀ R, N ≤ R → code (.block id a) (levR c R m) R env h = (CR.rec (fun x env h => X.rec (.ok .nrm env h) (.ok .ret env h) (fun i => .ok (Bool.rec (.exit i) .nrm (i.beq id)) env h) (fun v => .ok (.pan v) env h) x) .bad (CR.ok y e1 h1) : CR) := fun m hm R hR => by rw [← ev m hm R hR]; rfl
  cases y with
  | nrm => exact ⟨_, _, _, ⟨N, key⟩, q⟩
  | ret => exact ⟨_, _, _, ⟨N, key⟩, q⟩
  | pan v => exact ⟨_, _, _, ⟨N, key⟩, q⟩
  | exit i =>
    by_cases hi : i = id
    · subst hi
      have q : Q .nrm e1 h1 := by have q : (if i = i then Q .nrm e1 h1 else Q (.exit i) e1 h1) := q; rwa [if_pos rfl] at q
      refine ⟨.nrm, e1, h1, ⟨N, fun m hm R hR => ?_⟩, q⟩
      rw [key m hm R hR]
      show CR.ok (Bool.rec (.exit i) .nrm (i.beq i)) e1 h1 = _
      rw [Nat.beq_refl]
    · have q : Q (.exit i) e1 h1 := by have q : (if i = id then Q .nrm e1 h1 else Q (.exit i) e1 h1) := q; rwa [if_neg hi] at q
      refine ⟨.exit i, e1, h1, ⟨N, fun m hm R hR => ?_⟩, q⟩
      rw [key m hm R hR]
      show CR.ok (Bool.rec (.exit i) .nrm (i.beq id)) e1 h1 = _
      have : i.beq id = false := by
        cases hb : i.beq id with
        | false => rfl
        | true => exact absurd (Nat.eq_of_beq_eq_true hb) hi
      rw [this]
/-- A loop, by what holds at its head and what falls. -/
theorem WP.loop {a : C} (I : Env → Heap → Prop) (μ : Env → Heap → Nat) (h0 : I env h) (step : ∀ e1 h1, I e1 h1 → WP c a (fun x e2 h2 => match x with | .nrm => I e2 h2 ∧ μ e2 h2 < μ e1 h1 | x => Q x e2 h2) e1 h1) : WP c (.loop a) Q env h := by
  have key : ∀ k e1 h1, μ e1 h1 = k → I e1 h1 → ∃ x e2 h2, (∃ N, ∀ m, N ≤ m → ∀ R, N ≤ R → ∀ n, N ≤ n → rounds (fun env h => code a (levR c R m) R env h) n e1 h1 = .ok x e2 h2) ∧ Q x e2 h2 := by
    intro k
    induction k using Nat.strongRecOn with
    | _ k ih =>
      intro e1 h1 hk hI
      obtain ⟨x, e2, h2, ⟨N, ev⟩, q⟩ := step e1 h1 hI
      have one : ∀ m, N ≤ m → ∀ R, N ≤ R → ∀ n, rounds (fun env h => code a (levR c R m) R env h) (n + 1) e1 h1 = (X.rec (rounds (fun env h => code a (levR c R m) R env h) n e2 h2) (.ok .ret e2 h2) (fun i => .ok (.exit i) e2 h2) (fun v => .ok (.pan v) e2 h2) x : CR) := by
        intro m hm R hR n
        show (CR.rec (fun x env h => X.rec (rounds (fun env h => code a (levR c R m) R env h) n env h) (.ok .ret env h) (fun i => .ok (.exit i) env h) (fun v => .ok (.pan v) env h) x) .bad (code a (levR c R m) R e1 h1) : CR) = _
        rw [ev m hm R hR]
      cases x with
      | nrm =>
        obtain ⟨hI2, hlt⟩ := q
        obtain ⟨x3, e3, h3, ⟨N3, ev3⟩, q3⟩ := ih (μ e2 h2) (hk ▸ hlt) e2 h2 rfl hI2
        refine ⟨x3, e3, h3, ⟨max N N3 + 1, fun m hm R hR n hn => ?_⟩, q3⟩
        obtain ⟨n', rfl⟩ : ∃ n', n = n' + 1 := ⟨n - 1, by omega⟩
        rw [one m (by omega) R (by omega)]
        exact ev3 m (by omega) R (by omega) n' (by omega)
      | ret =>
        refine ⟨.ret, e2, h2, ⟨N + 1, fun m hm R hR n hn => ?_⟩, q⟩
        obtain ⟨n', rfl⟩ : ∃ n', n = n' + 1 := ⟨n - 1, by omega⟩
        rw [one m (by omega) R (by omega)]
      | exit i =>
        refine ⟨.exit i, e2, h2, ⟨N + 1, fun m hm R hR n hn => ?_⟩, q⟩
        obtain ⟨n', rfl⟩ : ∃ n', n = n' + 1 := ⟨n - 1, by omega⟩
        rw [one m (by omega) R (by omega)]
      | pan v =>
        refine ⟨.pan v, e2, h2, ⟨N + 1, fun m hm R hR n hn => ?_⟩, q⟩
        obtain ⟨n', rfl⟩ : ∃ n', n = n' + 1 := ⟨n - 1, by omega⟩
        rw [one m (by omega) R (by omega)]
  obtain ⟨x, e2, h2, ⟨N, ev⟩, q⟩ := key _ env h rfl h0
  exact ⟨x, e2, h2, ⟨N, fun m hm R hR => ev m hm R hR R hR⟩, q⟩
theorem WP.reg {acts : Nat} {l : List Opr} (w : WO c l Q [] env h) : WP c (.reg acts l) Q env h := w
theorem WP.draw {pm : List Nat} {l : List Opd} (w : WD c l Q [] [] env h) : WP c (.draw pm l) Q env h := w

/-! ### operations -/
theorem WO.nil {vs : List V} (q : Q .nrm env h) : WO c [] Q vs env h := ⟨_, _, _, ⟨0, fun _ _ _ _ => rfl⟩, q⟩
theorem WO.val {o : OpL} {l : List Opr} {vs : List V} {v : V} (hl : light o (fun a => a.ev vs env) h = .val v) (w : WO c l Q (v :: vs) env h) : WO c (.p (.L o) :: l) Q vs env h := by
  obtain ⟨x, e1, h1, ⟨N, ev⟩, q⟩ := w
  refine ⟨x, e1, h1, ⟨N, fun m hm R hR => ?_⟩, q⟩
  show ((light o (fun a => a.ev vs env) h).k h fun v h => opsN l (levR c R m) (v :: vs) env h) = _
  rw [hl]
  show v.force (fun v => opsN l (levR c R m) (v :: vs) env h) = _
  rw [V.force_eq]; exact ev m hm R hR
theorem WO.valS {i j : D8} {o : OpL} {l : List Opr} {vs : List V} {v : V} (hl : light o (fun a => a.ev vs env) h = .val v) (w : WO c l Q (v :: vs) (Env.set i j v env) h) : WO c (.s i j (.L o) :: l) Q vs env h := by
  obtain ⟨x, e1, h1, ⟨N, ev⟩, q⟩ := w
  refine ⟨x, e1, h1, ⟨N, fun m hm R hR => ?_⟩, q⟩
  show ((light o (fun a => a.ev vs env) h).k h fun v h => Env.setC i j v (fun env => opsN l (levR c R m) (v :: vs) env h) env) = _
  rw [hl]
  show v.force (fun v => Env.setC i j v (fun env => opsN l (levR c R m) (v :: vs) env h) env) = _
  rw [V.force_eq, Env.setC_eq]; exact ev m hm R hR
theorem WO.new {o : OpL} {l : List Opr} {vs : List V} {v : V} {ob : Obj} (hl : light o (fun a => a.ev vs env) h = .new ob v) (hs : okSize ob = true) (w : WO c l Q (v :: vs) env (h.add ob)) : WO c (.p (.L o) :: l) Q vs env h := by
  obtain ⟨x, e1, h1, ⟨N, ev⟩, q⟩ := w
  refine ⟨x, e1, h1, ⟨N, fun m hm R hR => ?_⟩, q⟩
  show ((light o (fun a => a.ev vs env) h).k h fun v h => opsN l (levR c R m) (v :: vs) env h) = _
  rw [hl]
  show (Bool.rec .bad (h.newC ob fun h => opsN l (levR c R m) (v :: vs) env h) (okSize ob) : CR) = _
  rw [hs, newC_eq]; exact ev m hm R hR
theorem WO.newS {i j : D8} {o : OpL} {l : List Opr} {vs : List V} {v : V} {ob : Obj} (hl : light o (fun a => a.ev vs env) h = .new ob v) (hs : okSize ob = true) (w : WO c l Q (v :: vs) (Env.set i j v env) (h.add ob)) : WO c (.s i j (.L o) :: l) Q vs env h := by
  obtain ⟨x, e1, h1, ⟨N, ev⟩, q⟩ := w
  refine ⟨x, e1, h1, ⟨N, fun m hm R hR => ?_⟩, q⟩
  show ((light o (fun a => a.ev vs env) h).k h fun v h => Env.setC i j v (fun env => opsN l (levR c R m) (v :: vs) env h) env) = _
  rw [hl]
  show (Bool.rec .bad (h.newC ob fun h => Env.setC i j v (fun env => opsN l (levR c R m) (v :: vs) env h) env) (okSize ob) : CR) = _
  rw [hs, newC_eq, Env.setC_eq]; exact ev m hm R hR
/-- an operation that acts, and calls nobody -/
theorem WO.act {o : OpH} {l : List Opr} {vs : List V} {v : V} {h2 : Heap} (hl : ∀ call, heavy o call (fun a => a.ev vs env) h = .ok v h2) (w : WO c l Q (v :: vs) env h2) : WO c (.p (.H o) :: l) Q vs env h := by
  obtain ⟨x, e1, h1, ⟨N, ev⟩, q⟩ := w
  refine ⟨x, e1, h1, ⟨N, fun m hm R hR => ?_⟩, q⟩
  show ((heavy o (levR c R m) (fun a => a.ev vs env) h).k env fun v h => opsN l (levR c R m) (v :: vs) env h) = _
  rw [hl]
  show v.force (fun v => opsN l (levR c R m) (v :: vs) env h2) = _
  rw [V.force_eq]; exact ev m hm R hR
theorem WO.actS {i j : D8} {o : OpH} {l : List Opr} {vs : List V} {v : V} {h2 : Heap} (hl : ∀ call, heavy o call (fun a => a.ev vs env) h = .ok v h2) (w : WO c l Q (v :: vs) (Env.set i j v env) h2) : WO c (.s i j (.H o) :: l) Q vs env h := by
  obtain ⟨x, e1, h1, ⟨N, ev⟩, q⟩ := w
  refine ⟨x, e1, h1, ⟨N, fun m hm R hR => ?_⟩, q⟩
  show ((heavy o (levR c R m) (fun a => a.ev vs env) h).k env fun v h => Env.setC i j v (fun env => opsN l (levR c R m) (v :: vs) env h) env) = _
  rw [hl]
  show v.force (fun v => Env.setC i j v (fun env => opsN l (levR c R m) (v :: vs) env h2) env) = _
  rw [V.force_eq, Env.setC_eq]; exact ev m hm R hR
theorem ofC_eq (h : Heap) (r : OR) : ofC h r = r := by cases r <;> rfl
theorem WO.call {f : Nat} {as : List A} {l : List Opr} {vs : List V} {v : V} {h2 : Heap} (hl : Runs c f (evs as fun a => a.ev vs env) h (.ok v h2)) (w : WO c l Q (v :: vs) env h2) : WO c (.p (.H (.call f as)) :: l) Q vs env h := by
  obtain ⟨x, e1, h1, ⟨N, ev⟩, q⟩ := w
  obtain ⟨N2, hl⟩ := hl
  refine ⟨x, e1, h1, ⟨max N N2, fun m hm R hR => ?_⟩, q⟩
  show ((ofC h (levR c R m f (evs as fun a => a.ev vs env) .none h).1).k env fun v h => opsN l (levR c R m) (v :: vs) env h) = _
  rw [ofC_eq, hl m (by omega) R (by omega)]
  show v.force (fun v => opsN l (levR c R m) (v :: vs) env h2) = _
  rw [V.force_eq]; exact ev m (by omega) R (by omega)
theorem WO.callS {i j : D8} {f : Nat} {as : List A} {l : List Opr} {vs : List V} {v : V} {h2 : Heap} (hl : Runs c f (evs as fun a => a.ev vs env) h (.ok v h2)) (w : WO c l Q (v :: vs) (Env.set i j v env) h2) : WO c (.s i j (.H (.call f as)) :: l) Q vs env h := by
  obtain ⟨x, e1, h1, ⟨N, ev⟩, q⟩ := w
  obtain ⟨N2, hl⟩ := hl
  refine ⟨x, e1, h1, ⟨max N N2, fun m hm R hR => ?_⟩, q⟩
  show ((ofC h (levR c R m f (evs as fun a => a.ev vs env) .none h).1).k env fun v h => Env.setC i j v (fun env => opsN l (levR c R m) (v :: vs) env h) env) = _
  rw [ofC_eq, hl m (by omega) R (by omega)]
  show v.force (fun v => Env.setC i j v (fun env => opsN l (levR c R m) (v :: vs) env h2) env) = _
  rw [V.force_eq, Env.setC_eq]; exact ev m (by omega) R (by omega)
/-- a function -/
theorem Runs.fun_ {f : Nat} {F : Fun} {as : List V} {r : OR} (hF : T.get f c.funs = some F) (hn : as.length = F.np) (w : WP c F.body (fun x e h' => match x with
    | .nrm => ∃ vs, results e h' F.results = some vs ∧ r = .ok (one vs) h'
    | .ret => ∃ vs, results e h' F.results = some vs ∧ r = .ok (one vs) h'
    | .pan v => r = .pan v h'
    | .exit _ => False) (argsP as 0 Env.nil) h) : Runs c f as h r := by
  obtain ⟨x, e1, h1, ⟨N, ev⟩, q⟩ := w
  refine ⟨N + 1, fun m hm R hR => ?_⟩
  obtain ⟨m', rfl⟩ : ∃ m', m = m' + 1 := ⟨m - 1, by omega⟩
  show (Option.rec (c.sums (levR c R m') f as h) (fun fn => runFunR fn R (levR c R m') as h) (T.get f c.funs) : OR) = r
  rw [hF]
  show runFunR F R (levR c R m') as h = r
  unfold runFunR
  have hl : (lenV as).beq F.np = true := by rw [lenV_eq, hn]; exact Nat.beq_refl _
  rw [hl]
  show endCall F.results (args as 0 Env.nil fun env => code F.body (levR c R m') R env h) = r
  rw [args_eq, ev m' (by omega) R (by omega)]
  have fin : ∀ vs, results e1 h1 F.results = some vs → finish F.results e1 h1 = .ok (one vs) h1 := fun vs hv => by unfold finish; rw [hv]
  cases x with
  | nrm => obtain ⟨vs, hv, hr⟩ := q; rw [hr]; exact fin vs hv
  | ret => obtain ⟨vs, hv, hr⟩ := q; rw [hr]; exact fin vs hv
  | pan v => exact q.symm
  | exit i => exact q.elim
end
end
end Go.Eng
namespace Go.Eng
noncomputable section

/-! ### memory, for proofs -/
/-- places and families are below what comes next -/
structure Wf (h : Heap) : Prop where
  t : ∀ b, T.get b h.t ≠ none → b < h.next
  f : ∀ b, T.get b h.fams ≠ none → b < h.next
  lim : 8 ≤ h.next
/-- below B all is as it was -/
structure Same (B : Nat) (h h' : Heap) : Prop where
  next : h.next ≤ h'.next
  t : ∀ b, b < B → T.get b h'.t = T.get b h.t
  f : ∀ b, b < B → T.get b h'.fams = T.get b h.fams
  wf : Wf h → Wf h'
theorem Same.refl (B : Nat) (h : Heap) : Same B h h := ⟨Nat.le_refl _, fun _ _ => rfl, fun _ _ => rfl, fun w => w⟩
theorem Same.trans {B : Nat} {a b c : Heap} (x : Same B a b) (y : Same B b c) : Same B a c :=
  ⟨Nat.le_trans x.next y.next, fun k hk => (y.t k hk).trans (x.t k hk), fun k hk => (y.f k hk).trans (x.f k hk), fun w => y.wf (x.wf w)⟩
theorem Same.mono {B B' : Nat} {a b : Heap} (x : Same B a b) (hB : B' ≤ B) : Same B' a b :=
  ⟨x.next, fun k hk => x.t k (Nat.lt_of_lt_of_le hk hB), fun k hk => x.f k (Nat.lt_of_lt_of_le hk hB), x.wf⟩
theorem get_add (h : Heap) (ob : Obj) (b : Nat) : T.get b (h.add ob).t = if b = h.next then some ob else T.get b h.t :=
  T.get_set (Nat.zero_le _) (Nat.zero_le _) ..
theorem get_add_new (h : Heap) (ob : Obj) : T.get h.next (h.add ob).t = some ob := by rw [get_add, if_pos rfl]
theorem get_add_old {h : Heap} {ob : Obj} {b : Nat} (hb : b < h.next) : T.get b (h.add ob).t = T.get b h.t := by rw [get_add, if_neg (by omega)]
theorem Same.add {B : Nat} {h : Heap} (hB : B ≤ h.next) (ob : Obj) : Same B h (h.add ob) := by
  refine ⟨Nat.le_succ _, fun b hb => get_add_old (by omega), fun _ _ => rfl, fun w => ⟨fun b hb => ?_, fun b hb => Nat.lt_succ_of_lt (w.f b hb), Nat.le_succ_of_le w.lim⟩⟩
  rw [get_add] at hb
  by_cases e : b = h.next
  · show b < h.next + 1; omega
  · rw [if_neg e] at hb; exact Nat.lt_succ_of_lt (w.t b hb)

/-! ### accumulators: a slice that is appended to -/
inductive Acc (B r : Nat) (h : Heap) : V → List (List V) → Prop
  | nil : Acc B r h .slN []
  | row {b f ap : Nat} {t : T (List V)} {rows : List (List V)} (h8 : 8 ≤ b) (hn : 0 < rows.length) (hb : B ≤ b) (hf : B ≤ f) (hfb : f ≤ b) (hob : T.get b h.t = some (.cells r f ap (rows.length * r) t))
      (hrow : ∀ i row, rows[i]? = some row → T.get i t = some row) (hfam : ∀ F, T.get f h.fams = some F → F.last ≤ ap + rows.length * r) (hlen : ∀ row ∈ rows, row.length = r) :
      Acc B r h (.sl b 0 rows.length none) rows
theorem Acc.len {B r : Nat} {h : Heap} {v : V} {rows : List (List V)} (a : Acc B r h v rows) : ∀ row ∈ rows, row.length = r := by
  cases a with
  | nil => intro row hm; simp at hm
  | row h8 hn hb hf hfb hob hrow hfam hlen => exact hlen
/-- behind an append of one element -/
theorem acc_append1 {B r bytes : Nat} {h : Heap} {v : V} {rows : List (List V)} (hr : 0 < r) (hB : B ≤ h.next) (w : Wf h) (a : Acc B r h v rows) {row : List V} (hl : row.length = r) (hfit : (rows.length + 1) * bytes ≤ 1099511627776) :
    ∃ v' h', appendTo h r bytes v row 1 = .ok v' h' ∧ Acc B r h' v' (rows ++ [row]) ∧ Same B h h' ∧ h'.next = h.next + 1 ∧ ∀ b, b < h.next → T.get b h'.t = T.get b h.t := by
  have hfn : T.get h.next h.fams = none := by
    cases e : T.get h.next h.fams with
    | none => rfl
    | some F => have := w.f h.next (by rw [e]; simp); omega
  cases a with
  | nil =>
    refine ⟨.sl h.next 0 1 none, h.add (.cells r h.next 0 (1 * r) (setRowsP r 1 0 row T.e)), ?_, ?_, Same.add hB _, rfl, fun b hb => get_add_old hb⟩
    · unfold appendTo
      have h1 : (Nat.mul 1 bytes).ble 1099511627776 = true := by
        rw [nble]; have : 1 * bytes ≤ 1099511627776 := by simpa using hfit
        simpa using this
      simp only [show Nat.beq 1 0 = false from rfl, cond_false, h1, cond_true, force_eq, setRows_eq]
      show (Bool.rec .bad (h.newC (.cells r h.next 0 (Nat.mul 1 r) (setRowsP r 1 0 row T.e)) fun h2 => .ok (.sl h.next 0 1 none) h2) (okSize (.cells r h.next 0 (Nat.mul 1 r) (setRowsP r 1 0 row T.e))) : OR) = _
      have hs : okSize (.cells r h.next 0 (Nat.mul 1 r) (setRowsP r 1 0 row T.e)) = true := by show Nat.blt 0 r = true; rw [nblt]; simpa using hr
      rw [hs, newC_eq]; rfl
    · refine Acc.row (rows := [row]) (f := h.next) (ap := 0) (t := setRowsP r 1 0 row T.e) w.lim (by simp) hB hB (Nat.le_refl _) (get_add_new ..) (fun i x hx => ?_) (fun F hF => ?_) (fun x hx => ?_)
      · cases i with
        | zero => 
          simp at hx; subst hx
          rw [setRowsP_get r 1 0 row T.e 0 (by omega) (by omega), if_pos ⟨by omega, by omega⟩]
          simp [← hl]
        | succ i => simp at hx
      · rw [show T.get h.next (h.add (.cells r h.next 0 (1 * r) (setRowsP r 1 0 row T.e))).fams = T.get h.next h.fams from rfl, hfn] at hF; cases hF
      · simp at hx; rw [hx]; exact hl
  | row h8 hn hb hf hfb hob hrow hfam hlen =>
    rename_i b f ap t
    have hbn : b < h.next := w.t b (by rw [hob]; simp)
    -- memory behind it
    have fin : ∀ l, ∃ h2, h2 = (⟨h.t, h.next, T.set f ⟨ap + 0 + rows.length * r + r, l⟩ h.fams, h.ds, h.pc⟩ : Heap).add (.cells r f ap ((rows.length + 1) * r) (setRowsP r 1 rows.length row t)) ∧
        Acc B r h2 (.sl h.next 0 (rows.length + 1) none) (rows ++ [row]) ∧ (f < h.next → Same B h h2) ∧ h2.next = h.next + 1 ∧ ∀ b, b < h.next → T.get b h2.t = T.get b h.t := by
      intro l
      refine ⟨_, rfl, ?_, fun hfl => ?_, rfl, fun k hk => ?_⟩
      · have hln : (rows ++ [row]).length = rows.length + 1 := by simp
        have := Acc.row (B := B) (r := r) (h := (⟨h.t, h.next, T.set f ⟨ap + 0 + rows.length * r + r, l⟩ h.fams, h.ds, h.pc⟩ : Heap).add (.cells r f ap ((rows.length + 1) * r) (setRowsP r 1 rows.length row t)))
          (b := h.next) (f := f) (ap := ap) (t := setRowsP r 1 rows.length row t) (rows := rows ++ [row]) w.lim (by simp) hB hf (by omega) (by rw [hln]; exact get_add_new ..) (fun i x hx => ?_) (fun F hF => ?_) (fun x hx => ?_)
        · rw [hln] at this; exact this
        · rw [setRowsP_get r 1 rows.length row t i (by omega) (by omega)]
          by_cases hi : i = rows.length
          · subst hi
            simp at hx; subst hx
            rw [if_pos ⟨by omega, by omega⟩]; simp [← hl]
          · have hi2 : i < rows.length := by have := (List.getElem?_eq_some_iff.1 hx).1; simp at this; omega
            rw [if_neg (by omega)]
            rw [List.getElem?_append_left hi2] at hx
            exact hrow i x hx
        · have hF : T.get f (T.set f (⟨ap + 0 + rows.length * r + r, l⟩ : Fam) h.fams) = some F := hF
          rw [T.get_set_same] at hF; cases hF
          show ap + 0 + rows.length * r + r ≤ ap + (rows ++ [row]).length * r
          rw [hln, Nat.add_mul]; omega
        · rcases List.mem_append.1 hx with hx | hx
          · exact hlen x hx
          · simp at hx; rw [hx]; exact hl
      · refine ⟨Nat.le_succ _, fun k hk => ?_, fun k hk => ?_, fun w => ⟨fun k hk => ?_, fun k hk => ?_, Nat.le_succ_of_le w.lim⟩⟩
        · exact get_add_old (h := (⟨h.t, h.next, _, h.ds, h.pc⟩ : Heap)) (Nat.lt_of_lt_of_le hk hB)
        · show T.get k (T.set f _ h.fams) = _
          rw [T.get_set (Nat.zero_le _) (Nat.zero_le _), if_neg (by omega)]
        · rw [get_add] at hk
          by_cases e : k = h.next
          · show k < h.next + 1; omega
          · rw [if_neg e] at hk; exact Nat.lt_succ_of_lt (w.t k hk)
        · show k < h.next + 1
          by_cases e : k = f
          · omega
          · have hk : T.get k (T.set f _ h.fams) ≠ none := hk
            rw [T.get_set (Nat.zero_le _) (Nat.zero_le _), if_neg e] at hk
            have := w.f k hk; omega
      · exact get_add_old (h := (⟨h.t, h.next, _, h.ds, h.pc⟩ : Heap)) hk
    have hfl : f < h.next := by omega
    have run : ∃ l, appendTo h r bytes (.sl b 0 rows.length none) row 1 = .ok (.sl h.next 0 (rows.length + 1) none) ((⟨h.t, h.next, T.set f ⟨ap + 0 + rows.length * r + r, l⟩ h.fams, h.ds, h.pc⟩ : Heap).add (.cells r f ap ((rows.length + 1) * r) (setRowsP r 1 rows.length row t))) := by
      unfold appendTo append1
      have h1 : (Nat.mul (Nat.add rows.length 1) bytes).ble 1099511627776 = true := by rw [nble]; simpa using hfit
      have h2 : Nat.ble 8 b = true := Nat.ble_eq_true_of_le h8
      simp only [show Nat.beq 1 0 = false from rfl, cond_false, force_eq, h1, h2, Bool.and_self, cond_true]
      show ∃ l, (Obj.cells? .bad _ (h.obj b) : OR) = _
      rw [show h.obj b = some (.cells r f ap (rows.length * r) t) from hob]
      have c1 : (r.beq r && (Nat.mod 0 r).beq 0) = true := by
        have : Nat.mod 0 r = 0 := Nat.zero_mod r
        rw [this, Nat.beq_refl]; rfl
      have c2 : (Nat.add 0 (Nat.mul (Nat.add rows.length 1) r)).ble (rows.length * r) = false := by
        rw [nble]
        have : ¬ (0 + (rows.length + 1) * r ≤ rows.length * r) := by rw [Nat.add_mul]; omega
        simpa using this
      have c3 : (Nat.add 0 (Nat.mul rows.length r)).ble (rows.length * r) = true := by
        rw [nble]
        simp
      show ∃ l, (bif (r.beq r && (Nat.mod 0 r).beq 0) then _ else _) = _
      rw [c1, cond_true]
      show ∃ l, (bif (Nat.add 0 (Nat.mul (Nat.add rows.length 1) r)).ble (rows.length * r) then _ else _) = _
      rw [c2, cond_false]
      show ∃ l, (bif (Nat.add 0 (Nat.mul rows.length r)).ble (rows.length * r) then _ else _) = _
      rw [c3, cond_true]
      have hs : okSize (.cells r f ap (Nat.mul (Nat.add rows.length 1) r) (setRowsP r 1 rows.length row t)) = true := by show Nat.blt 0 r = true; rw [nblt]; simpa using hr
      have last : ∀ h3 : Heap, (bif Nat.beq 0 0 then setRows r 1 rows.length row t fun t => mk h3 (.cells r f ap (Nat.mul (Nat.add rows.length 1) r) t) (.sl h.next 0 (Nat.add rows.length 1) none)
          else Option.rec .bad (fun old => force (Nat.add ap 0) fun ap => setRows r (Nat.add rows.length 1) 0 (appV old row) T.e fun t => mk h3 (.cells r f ap (Nat.mul (Nat.add rows.length 1) r) t) (.sl h.next 0 (Nat.add rows.length 1) none)) (getRows t rows.length (Nat.div 0 r)) : OR) =
          .ok (.sl h.next 0 (rows.length + 1) none) (h3.add (.cells r f ap ((rows.length + 1) * r) (setRowsP r 1 rows.length row t))) := by
        intro h3
        rw [show Nat.beq 0 0 = true from rfl, cond_true, setRows_eq]
        show (Bool.rec .bad (h3.newC (.cells r f ap (Nat.mul (Nat.add rows.length 1) r) (setRowsP r 1 rows.length row t)) fun h2 => .ok (.sl h.next 0 (rows.length + 1) none) h2) (okSize (.cells r f ap (Nat.mul (Nat.add rows.length 1) r) (setRowsP r 1 rows.length row t))) : OR) = _
        rw [hs, newC_eq]; rfl
      have htop : (Nat.add (Nat.add ap 0) (Nat.mul (Nat.add rows.length 1) r)) = ap + 0 + rows.length * r + r := by
        show ap + 0 + (rows.length + 1) * r = _
        rw [Nat.add_mul]; omega
      unfold grown
      cases hF : T.get f h.fams with
      | none =>
        have c4 : (Nat.add (Nat.add ap 0) (Nat.mul rows.length r)).blt (Nat.add ap (rows.length * r)) = false := by
          rw [nblt]
          simp
        refine ⟨[h.next, b], ?_⟩
        show (Bool.rec (famAdd h f _ [h.next, b] _) _ ((Nat.add (Nat.add ap 0) (Nat.mul rows.length r)).blt (Nat.add ap (rows.length * r))) : OR) = _
        rw [c4]
        show famAdd h f _ [h.next, b] _ = _
        rw [famAdd_eq, htop]
        exact last _
      | some F =>
        have c5 : (Fam.last F).ble (Nat.add (Nat.add ap 0) (Nat.mul rows.length r)) = true := by
          rw [nble]
          have : F.last ≤ ap + 0 + rows.length * r := by have := hfam F hF; omega
          simpa using this
        refine ⟨h.next :: F.mem, ?_⟩
        show (Bool.rec _ (famAdd h f _ (h.next :: Fam.mem F) _) ((Fam.last F).ble (Nat.add (Nat.add ap 0) (Nat.mul rows.length r))) : OR) = _
        rw [c5]
        show famAdd h f _ (h.next :: Fam.mem F) _ = _
        rw [famAdd_eq, htop]
        exact last _
    obtain ⟨l, hrun⟩ := run
    obtain ⟨h2, rfl, k1, k2, k3, k4⟩ := fin l
    exact ⟨_, _, hrun, k1, k2 hfl, k3, k4⟩
end
end Go.Eng
namespace Go.Eng
noncomputable section

/-! ### slices that can be read -/
inductive Rows (r : Nat) (h : Heap) : V → List (List V) → Prop
  | nil : Rows r h .slN []
  | row {b o f ap sz : Nat} {cap : Option Nat} {t : T (List V)} {rows : List (List V)} (hr : 0 < r) (hob : T.get b h.t = some (.cells r f ap sz t)) (ho : o % r = 0)
      (hrow : ∀ i row, rows[i]? = some row → T.get (o / r + i) t = some row) (hsz : o + rows.length * r ≤ sz) (hlen : ∀ row ∈ rows, row.length = r) : Rows r h (.sl b o rows.length cap) rows
theorem Acc.rows {B r : Nat} {h : Heap} {v : V} {rows : List (List V)} (hr : 0 < r) (a : Acc B r h v rows) : Rows r h v rows := by
  cases a with
  | nil => exact .nil
  | row h8 hn hb hf hfb hob hrow hfam hlen =>
    exact .row hr hob (Nat.zero_mod r) (fun i row hi => by rw [Nat.zero_div, Nat.zero_add]; exact hrow i row hi) (by omega) hlen
/-- it stays so where its block stays -/
theorem Rows.stay {r : Nat} {h h' : Heap} {v : V} {rows : List (List V)} (a : Rows r h v rows) (hk : ∀ b, b < h.next → T.get b h'.t = T.get b h.t) (w : Wf h) : Rows r h' v rows := by
  cases a with
  | nil => exact .nil
  | row hr hob ho hrow hsz hlen => exact .row hr (by rw [hk _ (w.t _ (by rw [hob]; simp))]; exact hob) ho hrow hsz hlen
theorem Rows.same {r B : Nat} {h h' : Heap} {v : V} {rows : List (List V)} (a : Rows r h v rows) (s : Same B h h') (hB : ∀ b o n cap, v = .sl b o n cap → b < B) : Rows r h' v rows := by
  cases a with
  | nil => exact .nil
  | row hr hob ho hrow hsz hlen => exact .row hr (by rw [s.t _ (hB _ _ _ _ rfl)]; exact hob) ho hrow hsz hlen
theorem off_div {r o i : Nat} (hr : 0 < r) (ho : o % r = 0) : (o + i * r) / r = o / r + i := by
  rw [Nat.add_mul_div_right _ _ hr]
theorem off_mod {r o i : Nat} (ho : o % r = 0) : (o + i * r) % r = 0 := by rw [Nat.add_mul_mod_self_right]; exact ho
/-- an element that is an aggregate -/
theorem Rows.loadn {r b o n i : Nat} {cap : Option Nat} {h : Heap} {rows : List (List V)} {row : List V} (a : Rows r h (.sl b o n cap) rows) (hi : rows[i]? = some row) : h.load b (o + i * r) r = some row := by
  cases a with
  | row hr hob ho hrow hsz hlen =>
    rename_i f ap sz t
    have hlt : i < rows.length := (List.getElem?_eq_some_iff.1 hi).1
    have hle : (i + 1) * r ≤ rows.length * r := Nat.mul_le_mul_right r hlt
    unfold Heap.load
    have h0 : r.beq 0 = false := by
      cases hb : r.beq 0 with
      | false => rfl
      | true => have := Nat.eq_of_beq_eq_true hb; omega
    rw [h0, cond_false, show h.obj b = _ from hob]
    show (bif (Nat.add (o + i * r) r).ble sz then cut r (o + i * r) r t else none) = _
    have h1 : (Nat.add (o + i * r) r).ble sz = true := by
      rw [nble]
      have : o + i * r + r ≤ sz := Nat.le_trans (by rw [Nat.add_mul, Nat.one_mul] at hle; omega) hsz
      simpa using this
    rw [h1, cond_true]
    unfold cut
    have h2 : (r.beq r && ((o + i * r).mod r).beq 0) = true := by
      have : (o + i * r).mod r = 0 := off_mod ho
      rw [this, Nat.beq_refl]; rfl
    rw [h2, cond_true]
    have : (o + i * r).div r = o / r + i := off_div hr ho
    rw [this]; exact hrow i row hi
/-- an element of one cell -/
theorem Rows.load1 {b o n i : Nat} {cap : Option Nat} {h : Heap} {rows : List (List V)} {x : V} (a : Rows 1 h (.sl b o n cap) rows) (hi : rows[i]? = some [x]) : h.load1 b (o + i * 1) = some x := by
  cases a with
  | row hr hob ho hrow hsz hlen =>
    rename_i f ap sz t
    have hlt : i < rows.length := (List.getElem?_eq_some_iff.1 hi).1
    unfold Heap.load1
    rw [show h.obj b = _ from hob]
    show (Bool.rec none (load1R 1 (o + i * 1) t) ((o + i * 1).blt sz) : Option V) = _
    have h1 : (o + i * 1).blt sz = true := by rw [nblt]; simp; omega
    rw [h1]
    show load1R 1 (o + i * 1) t = _
    unfold load1R
    have h2 : (o + i * 1).div 1 = o / 1 + i := off_div (by omega) ho
    have h3 : (o + i * 1).mod 1 = 0 := Nat.mod_one _
    rw [h2, h3, hrow i [x] hi]
    rfl
theorem Rows.len {r : Nat} {h : Heap} {v : V} {rows : List (List V)} (a : Rows r h v rows) : (v = .slN ∧ rows = []) ∨ ∃ b o cap, v = .sl b o rows.length cap := by
  cases a with
  | nil => exact .inl ⟨rfl, rfl⟩
  | row => exact .inr ⟨_, _, _, rfl⟩
end
end Go.Eng
namespace Go.Eng
noncomputable section

mutual
theorem V.same_refl : ∀ v : V, V.same v v = true
  | .bot => rfl
  | .bool b => by simp [V.same]
  | .int k n => by simp [V.same]
  | .str n x => by
    show (Bool.rec false (x.beq x) (n.beq n) : Bool) = true
    rw [Nat.beq_refl n]; exact Nat.beq_refl x
  | .ptrN => rfl
  | .ptr a o => by show (a.beq a && o.beq o) = true; rw [Nat.beq_refl, Nat.beq_refl]; rfl
  | .slN => rfl
  | .sl a o n c => by show (a.beq a && (o.beq o && (n.beq n && c == c))) = true; rw [Nat.beq_refl, Nat.beq_refl, Nat.beq_refl]; simp
  | .mapN => rfl
  | .map a => Nat.beq_refl a
  | .fn f a b => by show (f.beq f && (V.sames a a && V.sames b b)) = true; rw [Nat.beq_refl, V.sames_refl a, V.sames_refl b]; rfl
  | .fnN => rfl
  | .ifc t v => by show (t.beq t && V.same v v) = true; rw [Nat.beq_refl, V.same_refl v]; rfl
  | .ifcN => rfl
  | .agg a => V.sames_refl a
  | .tup a => V.sames_refl a
theorem V.sames_refl : ∀ l : List V, V.sames l l = true
  | [] => rfl
  | a :: l => by show (V.same a a && V.sames l l) = true; rw [V.same_refl a, V.sames_refl l]; rfl
end
theorem still_rd {h : Heap} {f : Heap → LR} {v : V} (he : f h = .val v) : still h (.rd f v) = true := by
  show finds f v h = true
  unfold finds; rw [he]; exact V.same_refl v
theorem stills_nil (h : Heap) (lg : List Log) : stills [] h lg = true := rfl
theorem stills_cons {d : Nat} {uo : List Nat} {h : Heap} {lg : List Log} (h1 : still h (logAt lg d) = true) (h2 : stills uo h lg = true) : stills (d :: uo) h lg = true := by
  show (Bool.rec false (stills uo h lg) (still h (logAt lg d)) : Bool) = true
  rw [h1]; exact h2

section
variable {c : Ctx} {Q : QT} {env : Env} {h : Heap}
/-! ### operations of a drawn region -/
theorem WD.nil {vs : List V} {lg : List Log} (q : Q .nrm env h) : WD c [] Q vs lg env h := ⟨_, _, _, ⟨0, fun _ _ _ _ => rfl⟩, q⟩
theorem WD.val {o : OpL} {uo : List Nat} {l : List Opd} {vs : List V} {lg : List Log} {v : V} (hl : light o (fun a => a.ev vs env) h = .val v) (w : WD c l Q (v :: vs) (.rd (light o (fun a => a.ev vs env)) v :: lg) env h) : WD c (⟨.p (.L o), uo⟩ :: l) Q vs lg env h := by
  obtain ⟨x, e1, h1, ⟨N, ev⟩, q⟩ := w
  refine ⟨x, e1, h1, ⟨N, fun m hm R hR => ?_⟩, q⟩
  show ((light o (fun a => a.ev vs env) h).kd (light o (fun a => a.ev vs env)) h fun l' v h => opsD l (levR c R m) (v :: vs) (l' :: lg) env h) = _
  rw [hl]
  show v.force (fun v => opsD l (levR c R m) (v :: vs) (.rd (light o (fun a => a.ev vs env)) v :: lg) env h) = _
  rw [V.force_eq]; exact ev m hm R hR
theorem WD.valS {i j : D8} {o : OpL} {uo : List Nat} {l : List Opd} {vs : List V} {lg : List Log} {v : V} (hl : light o (fun a => a.ev vs env) h = .val v) (w : WD c l Q (v :: vs) (.rd (light o (fun a => a.ev vs env)) v :: lg) (Env.set i j v env) h) : WD c (⟨.s i j (.L o), uo⟩ :: l) Q vs lg env h := by
  obtain ⟨x, e1, h1, ⟨N, ev⟩, q⟩ := w
  refine ⟨x, e1, h1, ⟨N, fun m hm R hR => ?_⟩, q⟩
  show ((light o (fun a => a.ev vs env) h).kd (light o (fun a => a.ev vs env)) h fun l' v h => Env.setC i j v (fun env => opsD l (levR c R m) (v :: vs) (l' :: lg) env h) env) = _
  rw [hl]
  show v.force (fun v => Env.setC i j v (fun env => opsD l (levR c R m) (v :: vs) (.rd (light o (fun a => a.ev vs _)) v :: lg) env h) env) = _
  rw [V.force_eq, Env.setC_eq]; exact ev m hm R hR
theorem WD.new {o : OpL} {uo : List Nat} {l : List Opd} {vs : List V} {lg : List Log} {v : V} {ob : Obj} (hl : light o (fun a => a.ev vs env) h = .new ob v) (hs : okSize ob = true) (w : WD c l Q (v :: vs) (.nw h.next ob :: lg) env (h.add ob)) : WD c (⟨.p (.L o), uo⟩ :: l) Q vs lg env h := by
  obtain ⟨x, e1, h1, ⟨N, ev⟩, q⟩ := w
  refine ⟨x, e1, h1, ⟨N, fun m hm R hR => ?_⟩, q⟩
  show ((light o (fun a => a.ev vs env) h).kd (light o (fun a => a.ev vs env)) h fun l' v h => opsD l (levR c R m) (v :: vs) (l' :: lg) env h) = _
  rw [hl]
  show force h.next (fun id => newK (fun v h => opsD l (levR c R m) (v :: vs) (.nw id ob :: lg) env h) h ob v) = _
  rw [force_eq]
  show (Bool.rec .bad (h.newC ob fun h' => opsD l (levR c R m) (v :: vs) (.nw h.next ob :: lg) env h') (okSize ob) : CR) = _
  rw [hs, newC_eq]; exact ev m hm R hR
theorem WD.newS {i j : D8} {o : OpL} {uo : List Nat} {l : List Opd} {vs : List V} {lg : List Log} {v : V} {ob : Obj} (hl : light o (fun a => a.ev vs env) h = .new ob v) (hs : okSize ob = true) (w : WD c l Q (v :: vs) (.nw h.next ob :: lg) (Env.set i j v env) (h.add ob)) : WD c (⟨.s i j (.L o), uo⟩ :: l) Q vs lg env h := by
  obtain ⟨x, e1, h1, ⟨N, ev⟩, q⟩ := w
  refine ⟨x, e1, h1, ⟨N, fun m hm R hR => ?_⟩, q⟩
  show ((light o (fun a => a.ev vs env) h).kd (light o (fun a => a.ev vs env)) h fun l' v h => Env.setC i j v (fun env => opsD l (levR c R m) (v :: vs) (l' :: lg) env h) env) = _
  rw [hl]
  show force h.next (fun id => newK (fun v h => Env.setC i j v (fun env => opsD l (levR c R m) (v :: vs) (.nw id ob :: lg) env h) env) h ob v) = _
  rw [force_eq]
  show (Bool.rec .bad (h.newC ob fun h' => Env.setC i j v (fun env => opsD l (levR c R m) (v :: vs) (.nw h.next ob :: lg) env h') env) (okSize ob) : CR) = _
  rw [hs, newC_eq, Env.setC_eq]; exact ev m hm R hR
/-- an operation that acts, and calls nobody -/
theorem WD.act {o : OpH} {uo : List Nat} {l : List Opd} {vs : List V} {lg : List Log} {v : V} {h2 : Heap} (hl : ∀ call, heavy o call (fun a => a.ev vs env) h = .ok v h2) (hs : stills uo h2 lg = true) (w : WD c l Q (v :: vs) (.no :: lg) env h2) : WD c (⟨.p (.H o), uo⟩ :: l) Q vs lg env h := by
  obtain ⟨x, e1, h1, ⟨N, ev⟩, q⟩ := w
  refine ⟨x, e1, h1, ⟨N, fun m hm R hR => ?_⟩, q⟩
  show ((heavy o (levR c R m) (fun a => a.ev vs env) h).k env fun v h' => Bool.rec .bad (opsD l (levR c R m) (v :: vs) (.no :: lg) env h') (stills uo h' lg)) = _
  rw [hl]
  show v.force (fun v => (Bool.rec .bad (opsD l (levR c R m) (v :: vs) (.no :: lg) env h2) (stills uo h2 lg) : CR)) = _
  rw [V.force_eq, hs]; exact ev m hm R hR
theorem WD.actS {i j : D8} {o : OpH} {uo : List Nat} {l : List Opd} {vs : List V} {lg : List Log} {v : V} {h2 : Heap} (hl : ∀ call, heavy o call (fun a => a.ev vs env) h = .ok v h2) (hs : stills uo h2 lg = true) (w : WD c l Q (v :: vs) (.no :: lg) (Env.set i j v env) h2) : WD c (⟨.s i j (.H o), uo⟩ :: l) Q vs lg env h := by
  obtain ⟨x, e1, h1, ⟨N, ev⟩, q⟩ := w
  refine ⟨x, e1, h1, ⟨N, fun m hm R hR => ?_⟩, q⟩
  show ((heavy o (levR c R m) (fun a => a.ev vs env) h).k env fun v h' => Bool.rec .bad (Env.setC i j v (fun env => opsD l (levR c R m) (v :: vs) (.no :: lg) env h') env) (stills uo h' lg)) = _
  rw [hl]
  show v.force (fun v => (Bool.rec .bad (Env.setC i j v (fun env => opsD l (levR c R m) (v :: vs) (.no :: lg) env h2) env) (stills uo h2 lg) : CR)) = _
  rw [V.force_eq, hs]
  show Env.setC i j v (fun env => opsD l (levR c R m) (v :: vs) (.no :: lg) env h2) env = _
  rw [Env.setC_eq]; exact ev m hm R hR
theorem WD.call {f : Nat} {as : List A} {uo : List Nat} {l : List Opd} {vs : List V} {lg : List Log} {v : V} {h2 : Heap} (hl : Runs c f (evs as fun a => a.ev vs env) h (.ok v h2)) (hs : stills uo h2 lg = true) (w : WD c l Q (v :: vs) (.no :: lg) env h2) : WD c (⟨.p (.H (.call f as)), uo⟩ :: l) Q vs lg env h := by
  obtain ⟨x, e1, h1, ⟨N, ev⟩, q⟩ := w
  obtain ⟨N2, hl⟩ := hl
  refine ⟨x, e1, h1, ⟨max N N2, fun m hm R hR => ?_⟩, q⟩
  show ((ofC h (levR c R m f (evs as fun a => a.ev vs env) .none h).1).k env fun v h' => Bool.rec .bad (opsD l (levR c R m) (v :: vs) (.no :: lg) env h') (stills uo h' lg)) = _
  rw [ofC_eq, hl m (by omega) R (by omega)]
  show v.force (fun v => (Bool.rec .bad (opsD l (levR c R m) (v :: vs) (.no :: lg) env h2) (stills uo h2 lg) : CR)) = _
  rw [V.force_eq, hs]; exact ev m (by omega) R (by omega)
theorem WD.callS {i j : D8} {f : Nat} {as : List A} {uo : List Nat} {l : List Opd} {vs : List V} {lg : List Log} {v : V} {h2 : Heap} (hl : Runs c f (evs as fun a => a.ev vs env) h (.ok v h2)) (hs : stills uo h2 lg = true) (w : WD c l Q (v :: vs) (.no :: lg) (Env.set i j v env) h2) : WD c (⟨.s i j (.H (.call f as)), uo⟩ :: l) Q vs lg env h := by
  obtain ⟨x, e1, h1, ⟨N, ev⟩, q⟩ := w
  obtain ⟨N2, hl⟩ := hl
  refine ⟨x, e1, h1, ⟨max N N2, fun m hm R hR => ?_⟩, q⟩
  show ((ofC h (levR c R m f (evs as fun a => a.ev vs env) .none h).1).k env fun v h' => Bool.rec .bad (Env.setC i j v (fun env => opsD l (levR c R m) (v :: vs) (.no :: lg) env h') env) (stills uo h' lg)) = _
  rw [ofC_eq, hl m (by omega) R (by omega)]
  show v.force (fun v => (Bool.rec .bad (Env.setC i j v (fun env => opsD l (levR c R m) (v :: vs) (.no :: lg) env h2) env) (stills uo h2 lg) : CR)) = _
  rw [V.force_eq, hs]
  show Env.setC i j v (fun env => opsD l (levR c R m) (v :: vs) (.no :: lg) env h2) env = _
  rw [Env.setC_eq]; exact ev m (by omega) R (by omega)

/-! ### guards, in a region of fixed order -/
theorem WO.yes {g : A} {b : Bool} {op : Op} {l : List Opr} {vs : List V} (hg : (g.ev vs env).gd b = some true) (w : WO c (.p op :: l) Q vs env h) : WO c (.g g b op :: l) Q vs env h := by
  obtain ⟨x, e1, h1, ⟨N, ev⟩, q⟩ := w
  refine ⟨x, e1, h1, ⟨N, fun m hm R hR => ?_⟩, q⟩
  show (Option.rec .bad (fun c1 => Bool.rec (opsN l (levR c R m) (un :: vs) env h) (oP op (opsN l) (levR c R m) vs env h) c1) ((g.ev vs env).gd b) : CR) = _
  rw [hg]; exact ev m hm R hR
theorem WO.no {g : A} {b : Bool} {op : Op} {l : List Opr} {vs : List V} (hg : (g.ev vs env).gd b = some false) (w : WO c l Q (un :: vs) env h) : WO c (.g g b op :: l) Q vs env h := by
  obtain ⟨x, e1, h1, ⟨N, ev⟩, q⟩ := w
  refine ⟨x, e1, h1, ⟨N, fun m hm R hR => ?_⟩, q⟩
  show (Option.rec .bad (fun c1 => Bool.rec (opsN l (levR c R m) (un :: vs) env h) (oP op (opsN l) (levR c R m) vs env h) c1) ((g.ev vs env).gd b) : CR) = _
  rw [hg]; exact ev m hm R hR
theorem WO.yesS {g : A} {b : Bool} {i j : D8} {op : Op} {l : List Opr} {vs : List V} (hg : (g.ev vs env).gd b = some true) (w : WO c (.s i j op :: l) Q vs env h) : WO c (.gs g b i j op :: l) Q vs env h := by
  obtain ⟨x, e1, h1, ⟨N, ev⟩, q⟩ := w
  refine ⟨x, e1, h1, ⟨N, fun m hm R hR => ?_⟩, q⟩
  show (Option.rec .bad (fun c1 => Bool.rec (Env.setC i j un (fun env => opsN l (levR c R m) (un :: vs) env h) env) (oS i j op (opsN l) (levR c R m) vs env h) c1) ((g.ev vs env).gd b) : CR) = _
  rw [hg]; exact ev m hm R hR
theorem WO.noS {g : A} {b : Bool} {i j : D8} {op : Op} {l : List Opr} {vs : List V} (hg : (g.ev vs env).gd b = some false) (w : WO c l Q (un :: vs) (Env.set i j un env) h) : WO c (.gs g b i j op :: l) Q vs env h := by
  obtain ⟨x, e1, h1, ⟨N, ev⟩, q⟩ := w
  refine ⟨x, e1, h1, ⟨N, fun m hm R hR => ?_⟩, q⟩
  show (Option.rec .bad (fun c1 => Bool.rec (Env.setC i j un (fun env => opsN l (levR c R m) (un :: vs) env h) env) (oS i j op (opsN l) (levR c R m) vs env h) c1) ((g.ev vs env).gd b) : CR) = _
  rw [hg]
  show Env.setC i j un (fun env => opsN l (levR c R m) (un :: vs) env h) env = _
  rw [Env.setC_eq]; exact ev m hm R hR
end
end
end Go.Eng
namespace Go.Eng
noncomputable section

/-! ### frames: blocks of M and families of F may have changed; all others are as they were -/
structure Fr (M F : List Nat) (h h' : Heap) : Prop where
  next : h.next ≤ h'.next
  t : ∀ b, b < h.next → b ∉ M → T.get b h'.t = T.get b h.t
  f : ∀ b, b < h.next → b ∉ F → T.get b h'.fams = T.get b h.fams
  wf : Wf h → Wf h'
theorem Fr.refl (h : Heap) : Fr [] [] h h := ⟨Nat.le_refl _, fun _ _ _ => rfl, fun _ _ _ => rfl, fun w => w⟩
theorem Fr.trans {M F M' F' : List Nat} {a b c : Heap} (x : Fr M F a b) (y : Fr M' F' b c) : Fr (M ++ M') (F ++ F') a c :=
  ⟨Nat.le_trans x.next y.next, fun k hk hn => (y.t k (Nat.lt_of_lt_of_le hk x.next) fun e => hn (List.mem_append_right _ e)).trans (x.t k hk fun e => hn (List.mem_append_left _ e)),
    fun k hk hn => (y.f k (Nat.lt_of_lt_of_le hk x.next) fun e => hn (List.mem_append_right _ e)).trans (x.f k hk fun e => hn (List.mem_append_left _ e)), fun w => y.wf (x.wf w)⟩
/-- what is new at the start of it need not be named -/
theorem Fr.weak {M F M' F' : List Nat} {a b : Heap} (x : Fr M F a b) (hM : ∀ k ∈ M, k < a.next → k ∈ M') (hF : ∀ k ∈ F, k < a.next → k ∈ F') : Fr M' F' a b :=
  ⟨x.next, fun k hk hn => x.t k hk fun e => hn (hM k e hk), fun k hk hn => x.f k hk fun e => hn (hF k e hk), x.wf⟩
theorem Fr.add (h : Heap) (ob : Obj) : Fr [] [] h (h.add ob) := by
  refine ⟨Nat.le_succ _, fun b hb _ => get_add_old (by omega), fun _ _ _ => rfl, fun w => ⟨fun b hb => ?_, fun b hb => Nat.lt_succ_of_lt (w.f b hb), Nat.le_succ_of_le w.lim⟩⟩
  rw [get_add] at hb
  by_cases e : b = h.next
  · show b < h.next + 1; omega
  · rw [if_neg e] at hb; exact Nat.lt_succ_of_lt (w.t b hb)
/-- a block is written anew -/
def Heap.put (h : Heap) (b : Nat) (o : Obj) : Heap := ⟨T.set b o h.t, h.next, h.fams, h.ds, h.pc⟩
theorem get_put (h : Heap) (b : Nat) (o : Obj) (k : Nat) : T.get k (h.put b o).t = if k = b then some o else T.get k h.t := T.get_set (Nat.zero_le _) (Nat.zero_le _) ..
theorem get_put_same (h : Heap) (b : Nat) (o : Obj) : T.get b (h.put b o).t = some o := by rw [get_put, if_pos rfl]
theorem putC_eq' {R : Type} (h : Heap) (b : Nat) (o : Obj) (k : Heap → R) : h.putC b o k = k (h.put b o) := by
  show T.setC b o h.t (fun t => k ⟨t, h.next, h.fams, h.ds, h.pc⟩) = _
  rw [T.setC_eq]; rfl
theorem Fr.put {h : Heap} {b : Nat} {o o' : Obj} (hb : T.get b h.t = some o') : Fr [b] [] h (h.put b o) := by
  refine ⟨Nat.le_refl _, fun k hk hn => ?_, fun _ _ _ => rfl, fun w => ⟨fun k hk => ?_, fun k hk => w.f k hk, w.lim⟩⟩
  · rw [get_put, if_neg (by simpa using hn)]
  · rw [get_put] at hk
    by_cases e : k = b
    · subst e; exact w.t k (by rw [hb]; simp)
    · rw [if_neg e] at hk; exact w.t k hk
theorem Fr.get {M F : List Nat} {h h' : Heap} {b : Nat} {o : Obj} (x : Fr M F h h') (w : Wf h) (hb : T.get b h.t = some o) (hn : b ∉ M) : T.get b h'.t = some o :=
  (x.t b (w.t b (by rw [hb]; simp)) hn).trans hb
theorem Wf.lt {h : Heap} (w : Wf h) {b : Nat} {o : Obj} (hb : T.get b h.t = some o) : b < h.next := w.t b (by rw [hb]; simp)

end
end Go.Eng
namespace Go.Eng
noncomputable section

/-! ### what an operation comes to, by the shape of its operands -/
namespace L
variable {ev : Ev} {h : Heap} {x y : A}
/-- in the bounds of int -/
def In64 (n : Int) : Prop := -9223372036854775808 ≤ n ∧ n < 9223372036854775808
theorem wrap64 {n : Int} (hn : In64 n) : IntKind.wrap .i64 n = n := by
  obtain ⟨h1, h2⟩ := hn
  have e : IntKind.wrap .i64 n = if (n % 18446744073709551616 ≥ 9223372036854775808) then n % 18446744073709551616 - 18446744073709551616 else n % 18446744073709551616 := by
    unfold IntKind.wrap
    simp [IntKind.bits, IntKind.signed]
  rw [e]
  split <;> omega
theorem add {a b : Int} (hx : ev x = .int .i64 a) (hy : ev y = .int .i64 b) (hn : In64 (a + b)) : light (.bin .add x y) ev h = .val (.int .i64 (a + b)) := by
  show (ev x).onInt (fun k a => (ev y).onInt fun j b => bin1 .add k a j b) = _
  rw [hx, hy]
  show LR.of (some (wrapV .i64 (iadd a b))) = _
  rw [wrapV_eq, iadd_eq, wrap64 hn]; rfl
theorem sub {a b : Int} (hx : ev x = .int .i64 a) (hy : ev y = .int .i64 b) (hn : In64 (a - b)) : light (.bin .sub x y) ev h = .val (.int .i64 (a - b)) := by
  show (ev x).onInt (fun k a => (ev y).onInt fun j b => bin1 .sub k a j b) = _
  rw [hx, hy]
  show LR.of (some (wrapV .i64 (isub a b))) = _
  rw [wrapV_eq, isub_eq, wrap64 hn]; rfl
theorem mul {a b : Int} (hx : ev x = .int .i64 a) (hy : ev y = .int .i64 b) (hn : In64 (a * b)) : light (.bin .mul x y) ev h = .val (.int .i64 (a * b)) := by
  show (ev x).onInt (fun k a => (ev y).onInt fun j b => bin1 .mul k a j b) = _
  rw [hx, hy]
  show LR.of (some (wrapV .i64 (imul a b))) = _
  rw [wrapV_eq, imul_eq, wrap64 hn]; rfl
theorem addE {a b n : Int} (hx : ev x = .int .i64 a) (hy : ev y = .int .i64 b) (hc : a + b = n) (hn : In64 n) : light (.bin .add x y) ev h = .val (.int .i64 n) := by subst hc; exact add hx hy hn
theorem subE {a b n : Int} (hx : ev x = .int .i64 a) (hy : ev y = .int .i64 b) (hc : a - b = n) (hn : In64 n) : light (.bin .sub x y) ev h = .val (.int .i64 n) := by subst hc; exact sub hx hy hn
theorem mulE {a b n : Int} (hx : ev x = .int .i64 a) (hy : ev y = .int .i64 b) (hc : a * b = n) (hn : In64 n) : light (.bin .mul x y) ev h = .val (.int .i64 n) := by subst hc; exact mul hx hy hn
theorem lss {k : IntKind} {a b : Int} (hx : ev x = .int k a) (hy : ev y = .int k b) : light (.bin .lss x y) ev h = .val (.bool (decide (a < b))) := by
  show (ev x).onInt (fun k a => (ev y).onInt fun j b => bin1 .lss k a j b) = _
  rw [hx, hy]
  show (Bool.rec .bad (.of (binI .lss k a b)) (kEq k k) : LR) = _
  rw [kEq_eq, decide_eq_true rfl]
  show LR.val (.bool (ilt a b)) = _
  rw [ilt_eq]
theorem leq {k : IntKind} {a b : Int} (hx : ev x = .int k a) (hy : ev y = .int k b) : light (.bin .leq x y) ev h = .val (.bool (decide (a ≤ b))) := by
  show (ev x).onInt (fun k a => (ev y).onInt fun j b => bin1 .leq k a j b) = _
  rw [hx, hy]
  show (Bool.rec .bad (.of (binI .leq k a b)) (kEq k k) : LR) = _
  rw [kEq_eq, decide_eq_true rfl]
  show LR.val (.bool (bnot (ilt b a))) = _
  rw [ilt_eq, bnot_eq]; congr 2; rw [Bool.eq_iff_iff]; simp
theorem gtr {k : IntKind} {a b : Int} (hx : ev x = .int k a) (hy : ev y = .int k b) : light (.bin .gtr x y) ev h = .val (.bool (decide (b < a))) := by
  show (ev x).onInt (fun k a => (ev y).onInt fun j b => bin1 .gtr k a j b) = _
  rw [hx, hy]
  show (Bool.rec .bad (.of (binI .gtr k a b)) (kEq k k) : LR) = _
  rw [kEq_eq, decide_eq_true rfl]
  show LR.val (.bool (ilt b a)) = _
  rw [ilt_eq]
theorem geq {k : IntKind} {a b : Int} (hx : ev x = .int k a) (hy : ev y = .int k b) : light (.bin .geq x y) ev h = .val (.bool (decide (b ≤ a))) := by
  show (ev x).onInt (fun k a => (ev y).onInt fun j b => bin1 .geq k a j b) = _
  rw [hx, hy]
  show (Bool.rec .bad (.of (binI .geq k a b)) (kEq k k) : LR) = _
  rw [kEq_eq, decide_eq_true rfl]
  show LR.val (.bool (bnot (ilt a b))) = _
  rw [ilt_eq, bnot_eq]; congr 2; rw [Bool.eq_iff_iff]; simp
theorem eql {k : IntKind} {a b : Int} (hx : ev x = .int k a) (hy : ev y = .int k b) : light (.bin .eql x y) ev h = .val (.bool (decide (a = b))) := by
  show (ev x).onInt (fun k a => (ev y).onInt fun j b => bin1 .eql k a j b) = _
  rw [hx, hy]
  show (Bool.rec .bad (.of (binI .eql k a b)) (kEq k k) : LR) = _
  rw [kEq_eq, decide_eq_true rfl]
  show LR.val (.bool (ieq a b)) = _
  rw [ieq_eq]
theorem neq {k : IntKind} {a b : Int} (hx : ev x = .int k a) (hy : ev y = .int k b) : light (.bin .neq x y) ev h = .val (.bool (decide (a ≠ b))) := by
  show (ev x).onInt (fun k a => (ev y).onInt fun j b => bin1 .neq k a j b) = _
  rw [hx, hy]
  show (Bool.rec .bad (.of (binI .neq k a b)) (kEq k k) : LR) = _
  rw [kEq_eq, decide_eq_true rfl]
  show LR.val (.bool (bnot (ieq a b))) = _
  rw [ieq_eq, bnot_eq]; congr 2; rw [Bool.eq_iff_iff]; simp

/-! strings are the bytes' list -/
def str (l : List UInt8) : V := .str l.length (enc l)
theorem seq {l m : List UInt8} (hx : ev x = str l) (hy : ev y = str m) : light (.bins .eql x y) ev h = .val (.bool (decide (l = m))) := by
  show (ev x).onStr (fun n a => (ev y).onStr fun m b => .of (binS .eql n a m b)) = _
  rw [hx, hy]
  show LR.val (.bool (sEq l.length (enc l) m.length (enc m))) = _
  congr 2
  have e : ∀ l m : List UInt8, sEq l.length (enc l) m.length (enc m) = decide (l = m) := by
    intro l m
    have := strOk_eq (s := ⟨⟨l⟩⟩) (t := ⟨⟨m⟩⟩) (n := l.length) (x := enc l) (m := m.length) (y := enc m) ⟨rfl, rfl⟩ ⟨rfl, rfl⟩
    rw [this]; congr 1
    rw [eq_iff_iff]
    constructor
    · intro h; cases h; rfl
    · intro h; rw [h]
  exact e l m
theorem sne {l m : List UInt8} (hx : ev x = str l) (hy : ev y = str m) : light (.bins .neq x y) ev h = .val (.bool (decide (l ≠ m))) := by
  have h1 := seq (h := h) hx hy
  have e1 : light (.bins .eql x y) ev h = (ev x).onStr (fun n a => (ev y).onStr fun m b => .of (binS .eql n a m b)) := rfl
  rw [e1, hx, hy] at h1
  show (ev x).onStr (fun n a => (ev y).onStr fun m b => .of (binS .neq n a m b)) = _
  rw [hx, hy]
  show LR.val (.bool (bnot (sEq l.length (enc l) m.length (enc m)))) = _
  have h1 : LR.val (.bool (sEq l.length (enc l) m.length (enc m))) = .val (.bool (decide (l = m))) := h1
  have h2 : sEq l.length (enc l) m.length (enc m) = decide (l = m) := by simpa using h1
  rw [h2, bnot_eq]; congr 2; simp
theorem slen {l : List UInt8} (hx : ev x = str l) : light (.len true x) ev h = .val (.int .i64 (l.length : Int)) := by
  show (ev x).onStr (fun n _ => .val (natV .i64 n)) = _
  rw [hx]
  show LR.val (natV .i64 l.length) = _
  rw [natV_eq]; rfl
theorem llenN (hx : ev x = .slN) : light (.len false x) ev h = .val (.int .i64 ((0 : Nat) : Int)) := by
  show (ev x).onLen (fun n => .val (natV .i64 n)) = _
  rw [hx]; rfl
theorem llen {b o n : Nat} {cap : Option Nat} (hx : ev x = .sl b o n cap) : light (.len false x) ev h = .val (.int .i64 (n : Int)) := by
  show (ev x).onLen (fun n => .val (natV .i64 n)) = _
  rw [hx]
  show LR.val (natV .i64 n) = _
  rw [natV_eq]; rfl
theorem sidx {l : List UInt8} {i : Nat} {b : UInt8} (hx : ev x = str l) (hy : ev y = .int .i64 (i : Int)) (hi : l[i]? = some b) : light (.istr x y) ev h = .val (.int .u8 (b.toNat : Int)) := by
  show (ev x).onStr (fun n a => (ev y).onNat fun j => Bool.rec .bad (.val (natV .u8 (sIdx a j))) (j.blt n)) = _
  rw [hx, hy]
  show (Bool.rec .bad (.val (natV .u8 (sIdx (enc l) i))) (i.blt l.length) : LR) = _
  have hlt : i < l.length := (List.getElem?_eq_some_iff.1 hi).1
  rw [nblt, decide_eq_true hlt]
  show LR.val (natV .u8 (sIdx (enc l) i)) = _
  rw [natV_eq]
  congr 3
  show (enc l >>> (8 * i)) % 256 = b.toNat
  rw [Nat.shiftRight_eq_div_pow, pow8, enc_div]
  obtain ⟨_, rfl⟩ := List.getElem?_eq_some_iff.1 hi
  rw [List.drop_eq_getElem_cons hlt]
  simp only [enc]
  have := (l[i]).toNat_lt
  omega
theorem strV_eq (n x : Nat) : strV n x = .str n x := by unfold strV; simp
theorem ssub {l : List UInt8} {lo hi : Option A} {i j : Nat} (hx : ev x = str l) (hj : optNat hi ev l.length = some j) (hi' : optNat lo ev 0 = some i) (hij : i ≤ j) (hjl : j ≤ l.length) : light (.sstr x lo hi) ev h = .val (str ((l.drop i).take (j - i))) := by
  show (ev x).onStr (fun n a => sstr1 n a (optNat hi ev n) (optNat lo ev 0)) = _
  rw [hx]
  show sstr1 l.length (enc l) (optNat hi ev l.length) (optNat lo ev 0) = _
  rw [hj, hi']
  show (Bool.rec .bad (.val (strV (Nat.sub j i) (sSub (enc l) i (Nat.sub j i)))) (i.ble j && j.ble l.length) : LR) = _
  rw [nble, nble, decide_eq_true hij, decide_eq_true hjl]
  show LR.val (strV (j - i) (sSub (enc l) i (j - i))) = _
  rw [strV_eq, sSub_eq]
  have : ((l.drop i).take (j - i)).length = j - i := by simp; omega
  unfold str; rw [this]
theorem scat {l m : List UInt8} (hx : ev x = str l) (hy : ev y = str m) (hn : l.length + m.length < 4294967296) : light (.bins .add x y) ev h = .val (str (l ++ m)) := by
  show (ev x).onStr (fun n a => (ev y).onStr fun m b => .of (binS .add n a m b)) = _
  rw [hx, hy]
  show LR.of (bif (Nat.add l.length m.length).blt 4294967296 then some (strV (Nat.add l.length m.length) (sCat l.length (enc l) (enc m))) else none) = _
  have : (Nat.add l.length m.length).blt 4294967296 = true := by rw [nblt]; simpa using hn
  rw [this]
  show LR.val (strV (l.length + m.length) (sCat l.length (enc l) (enc m))) = _
  rw [strV_eq, sCat_eq]; unfold str; rw [List.length_append]

/-! memory -/
theorem load {b o : Nat} {v : V} (hx : ev x = .ptr b o) (hl : h.load1 b o = some v) : light (.load x) ev h = .val v := by
  show (ev x).onPtr (fun b o => .of (h.load1 b o)) = _
  rw [hx]
  show LR.of (h.load1 b o) = _
  rw [hl]; rfl
theorem forceL_eq' {α R : Type} (l : List α) (k : List α → R) : forceL l k = k l := by
  have : ∀ (l : List α) (k : List α → R), forceL l k = k l := by
    intro l
    induction l with
    | nil => intro k; rfl
    | cons a l ih => intro k; exact ih _
  exact this l k
theorem loadn {b o n : Nat} {l : List V} (hx : ev x = .ptr b o) (hl : h.load b o n = some l) : light (.loadn n x) ev h = .val (.agg l) := by
  show (ev x).onPtr (fun b o => Option.rec .bad (fun l => forceL l fun l => .val (.agg l)) (h.load b o n)) = _
  rw [hx]
  show (Option.rec .bad (fun l => forceL l fun l => .val (.agg l)) (h.load b o n) : LR) = _
  rw [hl]; exact forceL_eq' l _
theorem load1_box {b o : Nat} {row : List V} {v : V} (hb : T.get b h.t = some (.box row)) (hr : hd (dropV o row) = some v) : h.load1 b o = some v := by
  unfold Heap.load1; rw [show h.obj b = _ from hb]; exact hr
theorem load_box {b o n : Nat} {row l : List V} (hb : T.get b h.t = some (.box row)) (hn : n.beq 0 = false) (ho : (Nat.add o n).ble (lenV row) = true) (hr : takeV n (dropV o row) = l) : h.load b o n = some l := by
  unfold Heap.load; rw [hn, show h.obj b = _ from hb]
  show (bif (Nat.add o n).ble (lenV row) then some (takeV n (dropV o row)) else none) = _
  rw [ho, hr]; rfl
theorem loadB {b o : Nat} {row : List V} {v : V} (hx : ev x = .ptr b o) (hb : T.get b h.t = some (.box row)) (hr : hd (dropV o row) = some v) : light (.load x) ev h = .val v := load hx (load1_box hb hr)
theorem loadnB {b o n : Nat} {row l : List V} (hx : ev x = .ptr b o) (hb : T.get b h.t = some (.box row)) (hn : n.beq 0 = false) (ho : (Nat.add o n).ble (lenV row) = true) (hr : takeV n (dropV o row) = l) : light (.loadn n x) ev h = .val (.agg l) := loadn hx (load_box hb hn ho hr)
theorem iaddr {r b o n i : Nat} {cap : Option Nat} (hx : ev x = .sl b o n cap) (hy : ev y = .int .i64 (i : Int)) (hi : i < n) : light (.iaddr r x y) ev h = .val (.ptr b (o + i * r)) := by
  show (ev x).onSl (fun b o n => (ev y).onNat fun j => iaddr1 r b o n j) = _
  rw [hx, hy]
  show (Bool.rec .bad (force (Nat.add o (Nat.mul i r)) fun o => .val (.ptr b o)) (i.blt n) : LR) = _
  rw [nblt, decide_eq_true hi]
  show force (Nat.add o (Nat.mul i r)) (fun o => LR.val (.ptr b o)) = _
  rw [force_eq]; rfl
theorem faddr {b o f : Nat} (hx : ev x = .ptr b o) : light (.faddr f x) ev h = .val (.ptr b (o + f)) := by
  show (ev x).onPtr (fun b o => force (Nat.add o f) fun o => .val (.ptr b o)) = _
  rw [hx]
  show force (Nat.add o f) (fun o => LR.val (.ptr b o)) = _
  rw [force_eq]; rfl
theorem alloc {cs : List V} : light (.alloc cs) ev h = .new (.box cs) (.ptr h.next 0) := by
  show force h.next (fun b => LR.new (.box cs) (.ptr b 0)) = _
  rw [force_eq]
theorem box {n : Nat} {l : List V} (hx : (ev x).asCells = some l) (hl : lenV l = n) : light (.box n x) ev h = .new (.box l) (.ptr h.next 0) := by
  show force h.next (fun b => (Option.rec .bad (fun l => Bool.rec .bad (forceL l fun l => .new (.box l) (.ptr b 0)) ((lenV l).beq n)) (ev x).asCells : LR)) = _
  rw [force_eq, hx]
  show (Bool.rec .bad (forceL l fun l => .new (.box l) (.ptr h.next 0)) ((lenV l).beq n) : LR) = _
  rw [hl, Nat.beq_refl]; exact forceL_eq' l _
theorem build {zero l : List V} {ps : List (Nat × Nat × A)} (hf : fill ps ev zero = some l) : light (.build zero ps) ev h = .val (.agg l) := by
  show (Option.rec .bad (fun l => forceL l fun l => .val (.agg l)) (fill ps ev zero) : LR) = _
  rw [hf]; exact forceL_eq' l _
/-- a store into a box -/
theorem storeB {call : CallT} {n b o : Nat} {cs row row' : List V} (hx : ev x = .ptr b o) (hy : (ev y).asCells = some cs) (hn : lenV cs = n) (h0 : n.beq 0 = false) (h8 : 8 ≤ b) (hb : T.get b h.t = some (.box row)) (ho : (Nat.add o n).ble (lenV row) = true) (hr : overV o cs row = row') :
    heavy (.store n x y) call ev h = .ok un (h.put b (.box row')) := by
  show (Option.rec .bad (fun p => Option.rec .bad (fun l => Bool.rec .bad (h.storeC p.1 p.2 n l .bad fun h => .ok un h) ((lenV l).beq n)) (ev y).asCells) (ev x).asPtr : OR) = _
  rw [hx, hy]
  show (Bool.rec .bad (h.storeC b o n cs .bad fun h => .ok un h) ((lenV cs).beq n) : OR) = _
  rw [hn, Nat.beq_refl]
  show h.storeC b o n cs .bad (fun h => OR.ok un h) = _
  unfold Heap.storeC
  rw [h0, show b.blt 8 = false by rw [nblt]; simpa using h8, show h.obj b = _ from hb]
  show (bif (Nat.add o n).ble (lenV row) then forceL (overV o cs row) fun row => h.putC b (.box row) (fun h => OR.ok un h) else .bad) = _
  rw [ho, hr]
  show forceL row' (fun row => h.putC b (.box row) (fun h => OR.ok un h)) = _
  rw [forceL_eq', putC_eq']
end L
end
end Go.Eng
namespace Go.Eng
noncomputable section

/-! ### what is known of memory: things that are owned, and what hangs on frozen blocks alone -/
inductive Fact where
  | box (b : Nat) (row : List V)
  | map (b : Nat) (es : List Ent) (clock : Nat)
  /-- a slice that is appended to alone: nobody else appends to its family -/
  | acc (f r : Nat) (v : V) (rows : List (List V))
  | stb (P : Heap → Prop)
  /-- a block of its own, of which nothing but P is told -/
  | obj (b : Nat) (P : Obj → Prop)
  /-- a slice that is written and appended to: all blocks of its family are its own -/
  | acu (bs : List Nat) (f r : Nat) (v : V) (rows : List (List V))

structure AccR (f r : Nat) (h : Heap) (b : Nat) (rows : List (List V)) : Prop where
  ge : 8 ≤ b
  pos : 0 < rows.length
  fb : f ≤ b
  ob : ∃ ap t, T.get b h.t = some (.cells r f ap (rows.length * r) t) ∧ (∀ i row, rows[i]? = some row → T.get i t = some row) ∧ ∀ F, T.get f h.fams = some F → F.last ≤ ap + rows.length * r
  len : ∀ row ∈ rows, row.length = r
inductive AccV (f r : Nat) (h : Heap) : V → List (List V) → Prop
  | nil : AccV f r h .slN []
  | row {b : Nat} {rows : List (List V)} (a : AccR f r h b rows) : AccV f r h (.sl b 0 rows.length none) rows

inductive AcuV (bs : List Nat) (f r : Nat) (h : Heap) : V → List (List V) → Prop
  | nil (hb : bs = []) : AcuV bs f r h .slN []
  | row {b ap : Nat} {rows hid : List (List V)} {t : T (List V)} (ge : 8 ≤ b) (hb : b ∈ bs) (hf : f ∈ bs) (ob : T.get b h.t = some (.cells r f ap ((rows.length + hid.length) * r) t))
      (hrow : ∀ i row, (rows ++ hid)[i]? = some row → T.get i t = some row) (len : ∀ row ∈ rows ++ hid, row.length = r) (mem : ∀ F, T.get f h.fams = some F → ∀ m ∈ F.mem, m ∈ bs) : AcuV bs f r h (.sl b 0 rows.length none) rows
theorem AcuV.stay {bs : List Nat} {f r : Nat} {h h' : Heap} {v : V} {rows : List (List V)} (a : AcuV bs f r h v rows) (hb : ∀ b ∈ bs, T.get b h'.t = T.get b h.t) (hf : ∀ b ∈ bs, T.get b h'.fams = T.get b h.fams) : AcuV bs f r h' v rows := by
  cases a with
  | nil e => exact .nil e
  | row ge h1 h2 ob hrow len mem => exact .row ge h1 h2 ((hb _ h1).trans ob) hrow len (fun F hF => mem F ((hf _ h2).symm.trans hF))
def Fact.own : Fact → List Nat
  | .box b _ => [b]
  | .map b _ _ => [b]
  | .acc .. => []
  | .stb _ => []
  | .obj b _ => [b]
  | .acu bs .. => bs
/-- the family, if it has one yet -/
def Fact.fam : Fact → List Nat
  | .acc f _ v _ => match v with
    | .slN => []
    | _ => [f]
  | _ => []
def Fact.holds (Z : Nat → Prop) (h : Heap) : Fact → Prop
  | .box b row => T.get b h.t = some (.box row) ∧ T.get b h.fams = none
  | .map b es c => T.get b h.t = some (.map es c) ∧ T.get b h.fams = none
  | .acc f r v rows => AccV f r h v rows ∧ ∀ b o n c, v = .sl b o n c → Z b
  | .stb P => ∀ h', (∀ b, Z b → T.get b h'.t = T.get b h.t) → P h'
  | .obj b P => (∃ o, T.get b h.t = some o ∧ P o) ∧ T.get b h.fams = none
  | .acu bs f r v rows => AcuV bs f r h v rows ∧ ∀ b ∈ bs, T.get b h.t ≠ none
def owns (fs : List Fact) : List Nat := fs.flatMap Fact.own
def fams (fs : List Fact) : List Nat := fs.flatMap Fact.fam

structure StZ (Z : Nat → Prop) (fs : List Fact) (h : Heap) : Prop where
  wf : Wf h
  z : ∀ b, Z b → T.get b h.t ≠ none
  oz : ∀ b ∈ owns fs, ¬ Z b ∧ 8 ≤ b
  nb : (owns fs).Nodup
  nf : (fams fs).Nodup
  nd : ∀ b ∈ owns fs, b ∉ fams fs
  all : ∀ x ∈ fs, x.holds Z h
def St (fs : List Fact) (h : Heap) : Prop := ∃ Z, StZ Z fs h

theorem owns_lt {Z : Nat → Prop} {fs : List Fact} {h : Heap} (s : StZ Z fs h) {b : Nat} (hb : b ∈ owns fs) : b < h.next := by
  obtain ⟨x, hx, hb⟩ := List.mem_flatMap.1 hb
  have := s.all x hx
  cases x with
  | box c row => obtain rfl : b = c := by simpa [Fact.own] using hb
                 exact s.wf.lt this.1
  | map c es k => obtain rfl : b = c := by simpa [Fact.own] using hb
                  exact s.wf.lt this.1
  | acc f r v rows => simp [Fact.own] at hb
  | stb P => simp [Fact.own] at hb
  | obj c P => obtain rfl : b = c := by simpa [Fact.own] using hb
               obtain ⟨⟨o, ho, _⟩, _⟩ := this
               exact s.wf.lt ho
  | acu bs f r v rows => exact s.wf.t b (this.2 b hb)
theorem fams_lt {Z : Nat → Prop} {fs : List Fact} {h : Heap} (s : StZ Z fs h) {f : Nat} (hf : f ∈ fams fs) : f < h.next := by
  obtain ⟨x, hx, hf⟩ := List.mem_flatMap.1 hf
  have hh := s.all x hx
  cases x with
  | box c row => simp [Fact.fam] at hf
  | map c es k => simp [Fact.fam] at hf
  | stb P => simp [Fact.fam] at hf
  | obj c P => simp [Fact.fam] at hf
  | acu bs f r v rows => simp [Fact.fam] at hf
  | acc g r v rows =>
    obtain ⟨a, _⟩ := hh
    cases a with
    | nil => simp [Fact.fam] at hf
    | row a =>
      obtain rfl : f = g := by simpa [Fact.fam] using hf
      obtain ⟨ap, t, hob, _⟩ := a.ob
      exact Nat.lt_of_le_of_lt a.fb (s.wf.lt hob)
theorem z_lt {Z : Nat → Prop} {fs : List Fact} {h : Heap} (s : StZ Z fs h) {b : Nat} (hb : Z b) : b < h.next := s.wf.t b (s.z b hb)

theorem flat_sub (g : Fact → List Nat) {fs gs : List Fact} (hs : gs.Sublist fs) : (gs.flatMap g).Sublist (fs.flatMap g) := by
  induction hs with
  | slnil => exact List.Sublist.refl _
  | cons a _ ih => rw [List.flatMap_cons]; exact ih.trans (List.sublist_append_right _ _)
  | cons_cons a _ ih => rw [List.flatMap_cons, List.flatMap_cons]; exact List.Sublist.append (List.Sublist.refl _) ih
theorem flat_perm (g : Fact → List Nat) {fs gs : List Fact} (hs : fs.Perm gs) : (fs.flatMap g).Perm (gs.flatMap g) := by
  induction hs with
  | nil => exact List.Perm.refl _
  | cons a _ ih => rw [List.flatMap_cons, List.flatMap_cons]; exact List.Perm.append_left _ ih
  | swap a b l =>
    simp only [List.flatMap_cons]
    rw [← List.append_assoc, ← List.append_assoc]
    exact List.Perm.append_right _ List.perm_append_comm
  | trans _ _ ih1 ih2 => exact ih1.trans ih2
/-- the same facts in another order, or fewer -/
theorem St.sub {fs gs : List Fact} {h : Heap} (s : St fs h) (hs : gs.Sublist fs) : St gs h := by
  obtain ⟨Z, s⟩ := s
  have e1 : (owns gs).Sublist (owns fs) := by
    exact flat_sub _ hs
  have e2 : (fams gs).Sublist (fams fs) := by
    exact flat_sub _ hs
  exact ⟨Z, s.wf, s.z, fun b hb => s.oz b (e1.subset hb), s.nb.sublist e1, s.nf.sublist e2, fun b hb hf => s.nd b (e1.subset hb) (e2.subset hf), fun x hx => s.all x (hs.subset hx)⟩
theorem St.perm {fs gs : List Fact} {h : Heap} (s : St fs h) (hs : fs.Perm gs) : St gs h := by
  obtain ⟨Z, s⟩ := s
  have e1 : (owns fs).Perm (owns gs) := flat_perm _ hs
  have e2 : (fams fs).Perm (fams gs) := flat_perm _ hs
  exact ⟨Z, s.wf, s.z, fun b hb => s.oz b (e1.symm.subset hb), e1.nodup_iff.1 s.nb, e2.nodup_iff.1 s.nf, fun b hb hf => s.nd b (e1.symm.subset hb) (e2.symm.subset hf), fun x hx => s.all x (hs.symm.subset hx)⟩
theorem perm_pick : ∀ (fs : List Fact) (k : Nat) (x : Fact), fs[k]? = some x → fs.Perm (x :: fs.eraseIdx k)
  | [], k, x, h => by simp at h
  | a :: fs, 0, x, h => by simp at h; subst h; exact List.Perm.refl _
  | a :: fs, k + 1, x, h => by
    have := perm_pick fs k x (by simpa using h)
    exact (List.Perm.cons a this).trans (List.Perm.swap ..)
/-- the k-th fact comes first -/
theorem St.pick {fs : List Fact} {h : Heap} (s : St fs h) (k : Nat) {x : Fact} (hk : fs[k]? = some x) : St (x :: fs.eraseIdx k) h := s.perm (perm_pick fs k x hk)
theorem St.tail {x : Fact} {fs : List Fact} {h : Heap} (s : St (x :: fs) h) : St fs h := s.sub (List.sublist_cons_self _ _)
theorem St.wf {fs : List Fact} {h : Heap} (s : St fs h) : Wf h := let ⟨_, s⟩ := s; s.wf
theorem St.nil {h : Heap} (w : Wf h) : St [] h := ⟨fun _ => False, w, fun _ hb => hb.elim, fun b hb => by simp [owns] at hb, by simp [owns], by simp [fams], fun b hb => by simp [owns] at hb, fun x hx => by simp at hx⟩
theorem St.box_at {fs : List Fact} {h : Heap} (s : St fs h) (k : Nat) {b : Nat} {row : List V} (hk : fs[k]? = some (.box b row)) : T.get b h.t = some (.box row) := by
  obtain ⟨Z, s⟩ := s
  exact (s.all (.box b row) (List.mem_of_getElem? hk)).1
theorem St.box_ge {fs : List Fact} {h : Heap} (s : St fs h) (k : Nat) {b : Nat} {row : List V} (hk : fs[k]? = some (.box b row)) : 8 ≤ b := by
  obtain ⟨Z, s⟩ := s
  exact (s.oz b (List.mem_flatMap.2 ⟨_, List.mem_of_getElem? hk, by simp [Fact.own]⟩)).2
theorem St.map_ge {fs : List Fact} {h : Heap} (s : St fs h) (k : Nat) {b : Nat} {es : List Ent} {c : Nat} (hk : fs[k]? = some (.map b es c)) : 8 ≤ b := by
  obtain ⟨Z, s⟩ := s
  exact (s.oz b (List.mem_flatMap.2 ⟨_, List.mem_of_getElem? hk, by simp [Fact.own]⟩)).2
theorem St.obj_ge {fs : List Fact} {h : Heap} (s : St fs h) (k : Nat) {b : Nat} {P : Obj → Prop} (hk : fs[k]? = some (.obj b P)) : 8 ≤ b := by
  obtain ⟨Z, s⟩ := s
  exact (s.oz b (List.mem_flatMap.2 ⟨_, List.mem_of_getElem? hk, by simp [Fact.own]⟩)).2
theorem St.map_at {fs : List Fact} {h : Heap} (s : St fs h) (k : Nat) {b : Nat} {es : List Ent} {c : Nat} (hk : fs[k]? = some (.map b es c)) : T.get b h.t = some (.map es c) := by
  obtain ⟨Z, s⟩ := s
  exact (s.all (.map b es c) (List.mem_of_getElem? hk)).1
theorem St.stb_at {fs : List Fact} {h : Heap} (s : St fs h) (k : Nat) {P : Heap → Prop} (hk : fs[k]? = some (.stb P)) : P h := by
  obtain ⟨Z, s⟩ := s
  exact s.all (.stb P) (List.mem_of_getElem? hk) h fun _ _ => rfl
theorem St.acc_at {fs : List Fact} {h : Heap} (s : St fs h) (k : Nat) {f r : Nat} {v : V} {rows : List (List V)} (hk : fs[k]? = some (.acc f r v rows)) : AccV f r h v rows := by
  obtain ⟨Z, s⟩ := s
  exact (s.all (.acc f r v rows) (List.mem_of_getElem? hk)).1
/-- what follows of a frozen fact -/
theorem St.imp {P Q : Heap → Prop} {fs : List Fact} {h : Heap} (s : St (.stb P :: fs) h) (hpq : ∀ h, P h → Q h) : St (.stb Q :: .stb P :: fs) h := by
  obtain ⟨Z, s⟩ := s
  refine ⟨Z, s.wf, s.z, s.oz, s.nb, s.nf, s.nd, fun x hx => ?_⟩
  rcases List.mem_cons.1 hx with rfl | hx
  · exact fun h' hz => hpq h' (s.all (.stb P) (by simp) h' hz)
  · exact s.all x hx
theorem St.imp0 {P Q : Heap → Prop} {fs : List Fact} {h : Heap} (s : St (.stb P :: fs) h) (hpq : ∀ h, P h → Q h) : St (.stb Q :: fs) h := by
  have := s.imp hpq
  exact this.sub (List.Sublist.cons_cons _ (List.sublist_cons_self _ _))
theorem St.pure {Q : Prop} {fs : List Fact} {h : Heap} (s : St fs h) (hq : Q) : St (.stb (fun _ => Q) :: fs) h := by
  obtain ⟨Z, s⟩ := s
  refine ⟨Z, s.wf, s.z, s.oz, s.nb, s.nf, s.nd, fun x hx => ?_⟩
  rcases List.mem_cons.1 hx with rfl | hx
  · exact fun h' _ => hq
  · exact s.all x hx
theorem St.and {P Q : Heap → Prop} {fs : List Fact} {h : Heap} (s : St (.stb P :: .stb Q :: fs) h) : St (.stb (fun h => P h ∧ Q h) :: fs) h := by
  obtain ⟨Z, s⟩ := s
  refine ⟨Z, s.wf, s.z, s.oz, s.nb, s.nf, s.nd, fun x hx => ?_⟩
  rcases List.mem_cons.1 hx with rfl | hx
  · exact fun h' hz => ⟨s.all (.stb P) (by simp) h' hz, s.all (.stb Q) (by simp) h' hz⟩
  · exact s.all x (by simp [hx])

/-! ### memory turns -/
/-- a fact stays where neither its blocks nor its family turn -/
theorem Fact.stay {Z Z' : Nat → Prop} {h h' : Heap} {x : Fact} (hx : x.holds Z h) (hZ : ∀ b, Z b → Z' b ∧ T.get b h'.t = T.get b h.t) (hb : ∀ b ∈ x.own, T.get b h'.t = T.get b h.t) (hbf : ∀ b ∈ x.own, T.get b h'.fams = T.get b h.fams) (hf : ∀ f ∈ x.fam, T.get f h'.fams = T.get f h.fams) : x.holds Z' h' := by
  cases x with
  | box b row => exact ⟨(hb b (by simp [Fact.own])).trans hx.1, (hbf b (by simp [Fact.own])).trans hx.2⟩
  | map b es c => exact ⟨(hb b (by simp [Fact.own])).trans hx.1, (hbf b (by simp [Fact.own])).trans hx.2⟩
  | obj b P => obtain ⟨⟨o, ho, hp⟩, hn⟩ := hx; exact ⟨⟨o, (hb b (by simp [Fact.own])).trans ho, hp⟩, (hbf b (by simp [Fact.own])).trans hn⟩
  | acu bs f r v rows => exact ⟨hx.1.stay hb hbf, fun b hm => by rw [hb b hm]; exact hx.2 b hm⟩
  | stb P => exact fun h2 hz => hx h2 fun b hb => (hz b (hZ b hb).1).trans (hZ b hb).2
  | acc f r v rows =>
    obtain ⟨a, hz⟩ := hx
    refine ⟨?_, fun b o n c e => (hZ b (hz b o n c e)).1⟩
    cases a with
    | nil => exact .nil
    | row a =>
      obtain ⟨ap, t, h1, h2, h3⟩ := a.ob
      refine .row ⟨a.ge, a.pos, a.fb, ⟨ap, t, ?_, h2, fun F hF => h3 F ?_⟩, a.len⟩
      · rw [(hZ _ (hz _ _ _ _ rfl)).2]; exact h1
      · rw [← hf f (by simp [Fact.fam])]; exact hF
theorem owns_cons (x : Fact) (fs : List Fact) : owns (x :: fs) = x.own ++ owns fs := rfl
theorem fams_cons (x : Fact) (fs : List Fact) : fams (x :: fs) = x.fam ++ fams fs := rfl
theorem mem_owns {x : Fact} {fs : List Fact} (hx : x ∈ fs) {b : Nat} (hb : b ∈ x.own) : b ∈ owns fs := List.mem_flatMap.2 ⟨x, hx, hb⟩
theorem mem_fams {x : Fact} {fs : List Fact} (hx : x ∈ fs) {b : Nat} (hb : b ∈ x.fam) : b ∈ fams fs := List.mem_flatMap.2 ⟨x, hx, hb⟩
/-- a new block that is owned -/
theorem St.new {fs : List Fact} {h : Heap} (s : St fs h) (ob : Obj) {x : Fact} (ho : x.own = [h.next]) (hf : x.fam = []) (hx : T.get h.next h.fams = none → ∀ Z, x.holds Z (h.add ob)) : St (x :: fs) (h.add ob) := by
  obtain ⟨Z, s⟩ := s
  have hz : ∀ b, Z b → T.get b (h.add ob).t = T.get b h.t := fun b hb => get_add_old (z_lt s hb)
  have hnn : T.get h.next h.fams = none := by
    cases e : T.get h.next h.fams with
    | none => rfl
    | some F => have := s.wf.f h.next (by rw [e]; simp); omega
  refine ⟨Z, (Fr.add h ob).wf s.wf, fun b hb => by rw [hz b hb]; exact s.z b hb, fun b hb => ?_, ?_, ?_, fun b hb hf2 => ?_, fun y hy => ?_⟩
  · rw [owns_cons, ho] at hb
    rcases List.mem_append.1 hb with hb | hb
    · obtain rfl : b = h.next := by simpa using hb
      exact ⟨fun hz => Nat.lt_irrefl _ (z_lt s hz), s.wf.lim⟩
    · exact s.oz b hb
  · rw [owns_cons, ho]
    refine List.nodup_cons.2 ⟨fun hb => Nat.lt_irrefl _ (owns_lt s hb), s.nb⟩
  · rw [fams_cons, hf]; exact s.nf
  · rw [fams_cons, hf] at hf2
    rw [owns_cons, ho] at hb
    rcases List.mem_append.1 hb with hb | hb
    · obtain rfl : b = h.next := by simpa using hb
      exact Nat.lt_irrefl _ (fams_lt s hf2)
    · exact s.nd b hb hf2
  · rcases List.mem_cons.1 hy with rfl | hy
    · exact hx hnn Z
    · exact Fact.stay (s.all y hy) (fun b hb => ⟨hb, hz b hb⟩) (fun b hb => get_add_old (owns_lt s (mem_owns hy hb))) (fun _ _ => rfl) fun _ _ => rfl
theorem St.box {fs : List Fact} {h : Heap} (s : St fs h) (row : List V) : St (.box h.next row :: fs) (h.add (.box row)) := s.new _ rfl rfl fun hn _ => ⟨get_add_new .., hn⟩
theorem St.map {fs : List Fact} {h : Heap} (s : St fs h) : St (.map h.next [] 0 :: fs) (h.add (.map [] 0)) := s.new _ rfl rfl fun hn _ => ⟨get_add_new .., hn⟩
/-- an owned block is written anew -/
theorem St.put1 {x y : Fact} {fs : List Fact} {h : Heap} {b : Nat} {o : Obj} (s : St (x :: fs) h) (hx : x.own = [b]) (hxf : x.fam = []) (hy : y.own = [b]) (hyf : y.fam = []) (hh : ∀ Z, x.holds Z h → y.holds Z (h.put b o)) : St (y :: fs) (h.put b o) := by
  obtain ⟨Z, s⟩ := s
  have hbz : ¬ Z b := (s.oz b (by rw [owns_cons, hx]; simp)).1
  have hbo : b ∉ owns fs := by
    have := s.nb; rw [owns_cons, hx] at this
    exact (List.nodup_cons.1 this).1
  have hz : ∀ k, k ≠ b → T.get k (h.put b o).t = T.get k h.t := fun k hk => by rw [get_put, if_neg hk]
  have hne : ∀ k, Z k → k ≠ b := fun k hk e => hbz (e ▸ hk)
  have hlt : b < h.next := owns_lt s (by rw [owns_cons, hx]; simp)
  refine ⟨Z, ⟨fun k hk => ?_, fun k hk => s.wf.f k hk, s.wf.lim⟩, fun k hk => by rw [hz k (hne k hk)]; exact s.z k hk, fun k hk => s.oz k ?_, ?_, ?_, fun k hk hf => s.nd k ?_ ?_, fun w hw => ?_⟩
  · by_cases e : k = b
    · subst e; exact hlt
    · rw [hz k e] at hk; exact s.wf.t k hk
  · rw [owns_cons, hx]; rw [owns_cons, hy] at hk; exact hk
  · rw [owns_cons, hy]; have := s.nb; rw [owns_cons, hx] at this; exact this
  · rw [fams_cons, hyf]; have := s.nf; rw [fams_cons, hxf] at this; exact this
  · rw [owns_cons, hx]; rw [owns_cons, hy] at hk; exact hk
  · rw [fams_cons, hxf]; rw [fams_cons, hyf] at hf; exact hf
  · rcases List.mem_cons.1 hw with rfl | hw
    · exact hh Z (s.all x (by simp))
    · exact Fact.stay (s.all w (by simp [hw])) (fun k hk => ⟨hk, hz k (hne k hk)⟩) (fun k hk => hz k fun e => hbo (e ▸ mem_owns hw hk)) (fun _ _ => rfl) fun _ _ => rfl
theorem perm_set : ∀ (fs : List Fact) (k : Nat) (x y : Fact), fs[k]? = some x → (y :: fs.eraseIdx k).Perm (fs.set k y)
  | [], k, x, y, h => by simp at h
  | a :: fs, 0, x, y, h => List.Perm.refl _
  | a :: fs, k + 1, x, y, h => by
    have := perm_set fs k x y (by simpa using h)
    exact (List.Perm.swap ..).trans (List.Perm.cons a this)
theorem St.put {fs : List Fact} {h : Heap} (s : St fs h) (k : Nat) {x y : Fact} {b : Nat} {o : Obj} (hk : fs[k]? = some x) (hx : x.own = [b]) (hxf : x.fam = []) (hy : y.own = [b]) (hyf : y.fam = []) (hh : ∀ Z, x.holds Z h → y.holds Z (h.put b o)) : St (fs.set k y) (h.put b o) :=
  ((s.pick k hk).put1 hx hxf hy hyf hh).perm (perm_set fs k x y hk)
theorem St.putBox {fs : List Fact} {h : Heap} (s : St fs h) (k : Nat) {b : Nat} {row : List V} (row' : List V) (hk : fs[k]? = some (.box b row)) : St (fs.set k (.box b row')) (h.put b (.box row')) :=
  s.put k hk rfl rfl rfl rfl fun _ hx => ⟨get_put_same .., hx.2⟩
theorem St.putMap {fs : List Fact} {h : Heap} (s : St fs h) (k : Nat) {b : Nat} {es : List Ent} {c : Nat} (es' : List Ent) (c' : Nat) (hk : fs[k]? = some (.map b es c)) : St (fs.set k (.map b es' c')) (h.put b (.map es' c')) :=
  s.put k hk rfl rfl rfl rfl fun _ hx => ⟨get_put_same .., hx.2⟩
end
end Go.Eng
namespace Go.Eng
noncomputable section

def Heap.fm (h : Heap) (fm : T Fam) : Heap := ⟨h.t, h.next, fm, h.ds, h.pc⟩
/-- an accumulator turns: a new block, and its own family alone -/
theorem St.grow {x : Fact} {fs : List Fact} {h : Heap} (s : St (x :: fs) h) (hxo : x.own = []) {fm : T Fam} {f : Nat} {ob : Obj} {y : Fact}
    (hfm : ∀ g, g ≠ f → T.get g fm = T.get g h.fams) (hf : f ≤ h.next) (hfx : f ∉ fams fs) (hfo : f ∉ owns fs) (hyo : y.own = []) (hyf : y.fam = [f])
    (hy : ∀ Z : Nat → Prop, Z h.next → y.holds Z ((h.fm fm).add ob)) : St (y :: fs) ((h.fm fm).add ob) := by
  obtain ⟨Z, s⟩ := s
  have hz : ∀ b, b < h.next → T.get b ((h.fm fm).add ob).t = T.get b h.t := fun b hb => get_add_old (h := h.fm fm) hb
  have ho : owns (x :: fs) = owns fs := by rw [owns_cons, hxo]; rfl
  refine ⟨fun b => Z b ∨ b = h.next, ⟨fun b hb => ?_, fun g hg => ?_, Nat.le_succ_of_le s.wf.lim⟩, fun b hb => ?_, fun b hb => ?_, ?_, ?_, fun b hb hf2 => ?_, fun w hw => ?_⟩
  · show b < h.next + 1
    by_cases e : b < h.next + 1
    · exact e
    · have e2 : T.get b ((h.fm fm).add ob).t = T.get b h.t := by
        rw [get_add]; rw [if_neg (show ¬ b = (h.fm fm).next from fun e3 => e (by rw [e3]; exact Nat.lt_succ_self _))]; rfl
      rw [e2] at hb
      have := s.wf.t b hb; omega
  · show g < h.next + 1
    have hg : T.get g fm ≠ none := hg
    by_cases e : g = f
    · omega
    · rw [hfm g e] at hg; have := s.wf.f g hg; omega
  · rcases hb with hb | rfl
    · rw [hz b (z_lt s hb)]; exact s.z b hb
    · rw [show T.get h.next ((h.fm fm).add ob).t = some ob from get_add_new (h.fm fm) ob]; simp
  · rw [owns_cons, hyo] at hb
    refine ⟨?_, (s.oz b (by rw [ho]; exact hb)).2⟩
    rintro (hzb | rfl)
    · exact (s.oz b (by rw [ho]; exact hb)).1 hzb
    · exact Nat.lt_irrefl _ (owns_lt s (by rw [ho]; exact hb))
  · rw [owns_cons, hyo]; have := s.nb; rw [ho] at this; exact this
  · rw [fams_cons, hyf]
    have : (fams fs).Nodup := by
      have := s.nf; rw [fams_cons] at this
      exact (List.nodup_append.1 this).2.1
    exact List.nodup_cons.2 ⟨hfx, this⟩
  · rw [owns_cons, hyo] at hb
    rw [fams_cons, hyf] at hf2
    rcases List.mem_append.1 hf2 with hf2 | hf2
    · obtain rfl : b = f := by simpa using hf2
      exact hfo hb
    · exact s.nd b (by rw [ho]; exact hb) (by rw [fams_cons]; exact List.mem_append_right _ hf2)
  · rcases List.mem_cons.1 hw with rfl | hw
    · exact hy _ (Or.inr rfl)
    · refine Fact.stay (s.all w (by simp [hw])) (fun b hb => ⟨Or.inl hb, hz b (z_lt s hb)⟩) (fun b hb => hz b (owns_lt s ?_)) (fun b hb => hfm b fun e => ?_) fun g hg => hfm g fun e => ?_
      · rw [ho]; exact mem_owns hw hb
      · subst e; exact hfo (mem_owns hw hb)
      · subst e; exact hfx (mem_fams hw hg)
theorem flatten_len {r : Nat} : ∀ {l : List (List V)}, (∀ row ∈ l, row.length = r) → l.flatten.length = l.length * r
  | [], _ => by simp
  | a :: l, h => by
    rw [List.flatten_cons, List.length_append, h a (by simp), flatten_len (fun row hm => h row (by simp [hm])), List.length_cons, Nat.add_mul]; omega
theorem flatten_row {r : Nat} : ∀ {l : List (List V)} (i : Nat) {row : List V}, (∀ row ∈ l, row.length = r) → l[i]? = some row → (l.flatten.drop (i * r)).take r = row
  | [], i, row, _, h => by simp at h
  | a :: l, 0, row, hl, h => by
    simp at h; subst h
    rw [Nat.zero_mul, List.drop_zero, List.flatten_cons, ← hl a (by simp), List.take_left']
    rfl
  | a :: l, i + 1, row, hl, h => by
    have h : l[i]? = some row := by simpa using h
    rw [List.flatten_cons, show (i + 1) * r = a.length + i * r by rw [hl a (by simp), Nat.add_mul]; omega, ← List.drop_drop, List.drop_left' rfl]
    exact flatten_row i (fun row hm => hl row (by simp [hm])) h
/-- rows are put behind an accumulator -/
theorem St.appendA {fs : List Fact} {h : Heap} {f r bytes : Nat} {v : V} {rows new : List (List V)} (s : St (.acc f r v rows :: fs) h) (hr : 0 < r) (hl : ∀ row ∈ new, row.length = r) (hfit : (rows.length + new.length) * bytes ≤ 1099511627776) :
    ∃ f' v' h', appendTo h r bytes v new.flatten new.length = .ok v' h' ∧ St (.acc f' r v' (rows ++ new) :: fs) h' := by
  have a := s.acc_at 0 rfl
  have w := s.wf
  by_cases hm0 : new.length = 0
  · obtain rfl : new = [] := by simpa using hm0
    refine ⟨f, v, h, ?_, by rw [List.append_nil]; exact s⟩
    cases a with
    | nil => rfl
    | row a => rfl
  have hb0 : Nat.beq new.length 0 = false := by
    cases e : Nat.beq new.length 0 with
    | false => rfl
    | true => exact absurd (Nat.eq_of_beq_eq_true e) hm0
  have hfn : T.get h.next h.fams = none := by
    cases e : T.get h.next h.fams with
    | none => rfl
    | some F => have := w.f h.next (by rw [e]; simp); omega
  cases a with
  | nil =>
    have hok : okSize (.cells r h.next 0 (new.length * r) (setRowsP r new.length 0 new.flatten T.e)) = true := by show Nat.blt 0 r = true; rw [nblt]; simpa using hr
    refine ⟨h.next, .sl h.next 0 new.length none, (h.fm h.fams).add (.cells r h.next 0 (new.length * r) (setRowsP r new.length 0 new.flatten T.e)), ?_, ?_⟩
    · unfold appendTo
      have h1 : (Nat.mul new.length bytes).ble 1099511627776 = true := by
        rw [nble]; have : new.length * bytes ≤ 1099511627776 := by simpa using hfit
        simpa using this
      simp only [hb0, cond_false, h1, cond_true, force_eq, setRows_eq]
      show (Bool.rec .bad (h.newC (.cells r h.next 0 (Nat.mul new.length r) (setRowsP r new.length 0 new.flatten T.e)) fun h2 => .ok (.sl h.next 0 new.length none) h2) (okSize (.cells r h.next 0 (Nat.mul new.length r) (setRowsP r new.length 0 new.flatten T.e))) : OR) = _
      rw [show okSize (.cells r h.next 0 (Nat.mul new.length r) (setRowsP r new.length 0 new.flatten T.e)) = true from hok, newC_eq]; rfl
    · refine s.grow rfl (f := h.next) (fun _ _ => rfl) (Nat.le_refl _) (fun hm => ?_) (fun hm => ?_) rfl rfl fun Z hZ => ⟨?_, fun b o n c e => ?_⟩
      · obtain ⟨Z, s⟩ := s
        exact Nat.lt_irrefl _ (fams_lt s (by rw [fams_cons]; exact List.mem_append_right _ hm))
      · obtain ⟨Z, s⟩ := s
        exact Nat.lt_irrefl _ (owns_lt s (by rw [owns_cons]; exact hm))
      · have := AccV.row (f := h.next) (r := r) (h := (h.fm h.fams).add (.cells r h.next 0 (new.length * r) (setRowsP r new.length 0 new.flatten T.e))) (b := h.next) (rows := new)
          ⟨w.lim, by omega, Nat.le_refl _, ⟨0, _, get_add_new (h.fm h.fams) _, fun i row hi => ?_, fun F hF => ?_⟩, hl⟩
        · rw [List.nil_append]; exact this
        · rw [setRowsP_get r _ 0 _ T.e i (by omega) (by omega), if_pos ⟨by omega, by have := (List.getElem?_eq_some_iff.1 hi).1; omega⟩, Nat.sub_zero, flatten_row i hl hi]
        · have hF : T.get h.next h.fams = some F := hF
          rw [hfn] at hF; cases hF
      · cases e; exact hZ
  | row a =>
    rename_i b
    obtain ⟨ap, t, hob, hrow, hfam⟩ := a.ob
    have hn := a.pos
    have hlen := a.len
    have hbn : b < h.next := w.t b (by rw [hob]; simp)
    have hflt : f < h.next := Nat.lt_of_le_of_lt a.fb hbn
    have hfx : f ∉ Go.Eng.fams fs := by
      obtain ⟨Z, s⟩ := s
      have := s.nf
      rw [fams_cons] at this
      exact (List.nodup_cons.1 this).1
    have hfo : f ∉ owns fs := by
      obtain ⟨Z, s⟩ := s
      exact fun hm => s.nd f hm (by rw [fams_cons]; exact List.mem_append_left _ (by simp [Fact.fam]))
    have hbn2 : (rows ++ new).length = rows.length + new.length := by simp
    -- memory behind it
    have fin : ∀ l, St (.acc f r (.sl h.next 0 (rows.length + new.length) none) (rows ++ new) :: fs) ((h.fm (T.set f ⟨ap + rows.length * r + new.length * r, l⟩ h.fams)).add (.cells r f ap ((rows.length + new.length) * r) (setRowsP r new.length rows.length new.flatten t))) := by
      intro l
      refine s.grow rfl (f := f) (fun g hg => by rw [T.get_set (Nat.zero_le _) (Nat.zero_le _), if_neg hg]) (by omega) hfx hfo rfl rfl fun Z hZ => ⟨?_, fun b o n c e => by cases e; exact hZ⟩
      have := AccV.row (f := f) (r := r) (h := (h.fm (T.set f ⟨ap + rows.length * r + new.length * r, l⟩ h.fams)).add (.cells r f ap ((rows.length + new.length) * r) (setRowsP r new.length rows.length new.flatten t))) (b := h.next) (rows := rows ++ new)
        ⟨w.lim, by omega, by omega, ⟨ap, setRowsP r new.length rows.length new.flatten t, by rw [hbn2]; exact get_add_new (h.fm _) _, fun i row hi => ?_, fun F hF => ?_⟩, fun row hx => ?_⟩
      · rw [hbn2] at this; exact this
      · rw [setRowsP_get r _ _ _ t i (by omega) (by omega)]
        have hi1 := (List.getElem?_eq_some_iff.1 hi).1
        rw [hbn2] at hi1
        by_cases hlt : i < rows.length
        · rw [if_neg (by omega)]
          rw [List.getElem?_append_left hlt] at hi
          exact hrow i row hi
        · rw [if_pos ⟨by omega, by omega⟩]
          rw [List.getElem?_append_right (by omega)] at hi
          rw [flatten_row _ hl hi]
      · have hF : T.get f (T.set f (⟨ap + rows.length * r + new.length * r, l⟩ : Fam) h.fams) = some F := hF
        rw [T.get_set_same] at hF; cases hF
        show ap + rows.length * r + new.length * r ≤ ap + (rows ++ new).length * r
        rw [hbn2, Nat.add_mul]; omega
      · rcases List.mem_append.1 hx with hx | hx
        · exact hlen row hx
        · exact hl row hx
    have run : ∃ l, appendTo h r bytes (.sl b 0 rows.length none) new.flatten new.length = .ok (.sl h.next 0 (rows.length + new.length) none) ((h.fm (T.set f ⟨ap + rows.length * r + new.length * r, l⟩ h.fams)).add (.cells r f ap ((rows.length + new.length) * r) (setRowsP r new.length rows.length new.flatten t))) := by
      unfold appendTo Go.Eng.append1
      have h1 : (Nat.mul (Nat.add rows.length new.length) bytes).ble 1099511627776 = true := by rw [nble]; simpa using hfit
      have h2 : Nat.ble 8 b = true := Nat.ble_eq_true_of_le a.ge
      simp only [hb0, cond_false, force_eq, h1, h2, Bool.and_self, cond_true]
      show ∃ l, (Obj.cells? .bad _ (h.obj b) : OR) = _
      rw [show h.obj b = some (.cells r f ap (rows.length * r) t) from hob]
      have c1 : (r.beq r && (Nat.mod 0 r).beq 0) = true := by
        have : Nat.mod 0 r = 0 := Nat.zero_mod r
        rw [this, Nat.beq_refl]; rfl
      have hmr : 0 < new.length * r := Nat.mul_pos (by omega) hr
      have c2 : (Nat.add 0 (Nat.mul (Nat.add rows.length new.length) r)).ble (rows.length * r) = false := by
        rw [nble]
        have : ¬ (0 + (rows.length + new.length) * r ≤ rows.length * r) := by rw [Nat.add_mul]; omega
        simpa using this
      have c3 : (Nat.add 0 (Nat.mul rows.length r)).ble (rows.length * r) = true := by
        rw [nble]
        simp
      show ∃ l, (bif (r.beq r && (Nat.mod 0 r).beq 0) then _ else _) = _
      rw [c1, cond_true]
      show ∃ l, (bif (Nat.add 0 (Nat.mul (Nat.add rows.length new.length) r)).ble (rows.length * r) then _ else _) = _
      rw [c2, cond_false]
      show ∃ l, (bif (Nat.add 0 (Nat.mul rows.length r)).ble (rows.length * r) then _ else _) = _
      rw [c3, cond_true]
      have hs : okSize (.cells r f ap (Nat.mul (Nat.add rows.length new.length) r) (setRowsP r new.length rows.length new.flatten t)) = true := by show Nat.blt 0 r = true; rw [nblt]; simpa using hr
      have last : ∀ h3 : Heap, (bif Nat.beq 0 0 then setRows r new.length rows.length new.flatten t fun t => mk h3 (.cells r f ap (Nat.mul (Nat.add rows.length new.length) r) t) (.sl h.next 0 (Nat.add rows.length new.length) none)
          else Option.rec .bad (fun old => force (Nat.add ap 0) fun ap => setRows r (Nat.add rows.length new.length) 0 (appV old new.flatten) T.e fun t => mk h3 (.cells r f ap (Nat.mul (Nat.add rows.length new.length) r) t) (.sl h.next 0 (Nat.add rows.length new.length) none)) (getRows t rows.length (Nat.div 0 r)) : OR) =
          .ok (.sl h.next 0 (rows.length + new.length) none) (h3.add (.cells r f ap ((rows.length + new.length) * r) (setRowsP r new.length rows.length new.flatten t))) := by
        intro h3
        rw [show Nat.beq 0 0 = true from rfl, cond_true, setRows_eq]
        show (Bool.rec .bad (h3.newC (.cells r f ap (Nat.mul (Nat.add rows.length new.length) r) (setRowsP r new.length rows.length new.flatten t)) fun h2 => .ok (.sl h.next 0 (rows.length + new.length) none) h2) (okSize (.cells r f ap (Nat.mul (Nat.add rows.length new.length) r) (setRowsP r new.length rows.length new.flatten t))) : OR) = _
        rw [hs, newC_eq]; rfl
      have htop : (Nat.add (Nat.add ap 0) (Nat.mul (Nat.add rows.length new.length) r)) = ap + rows.length * r + new.length * r := by
        show ap + 0 + (rows.length + new.length) * r = _
        rw [Nat.add_mul]; omega
      unfold grown
      cases hF : T.get f h.fams with
      | none =>
        have c4 : (Nat.add (Nat.add ap 0) (Nat.mul rows.length r)).blt (Nat.add ap (rows.length * r)) = false := by
          rw [nblt]
          simp
        refine ⟨[h.next, b], ?_⟩
        show (Bool.rec (famAdd h f _ [h.next, b] _) _ ((Nat.add (Nat.add ap 0) (Nat.mul rows.length r)).blt (Nat.add ap (rows.length * r))) : OR) = _
        rw [c4]
        show famAdd h f _ [h.next, b] _ = _
        rw [famAdd_eq, htop]
        exact last _
      | some F =>
        have c5 : (Fam.last F).ble (Nat.add (Nat.add ap 0) (Nat.mul rows.length r)) = true := by
          rw [nble]
          have : F.last ≤ ap + 0 + rows.length * r := by have := hfam F hF; omega
          simpa using this
        refine ⟨h.next :: F.mem, ?_⟩
        show (Bool.rec _ (famAdd h f _ (h.next :: Fam.mem F) _) ((Fam.last F).ble (Nat.add (Nat.add ap 0) (Nat.mul rows.length r))) : OR) = _
        rw [c5]
        show famAdd h f _ (h.next :: Fam.mem F) _ = _
        rw [famAdd_eq, htop]
        exact last _
    obtain ⟨l, hrun⟩ := run
    exact ⟨f, _, _, hrun, fin l⟩
theorem St.append {fs : List Fact} {h : Heap} {f r bytes : Nat} {v : V} {rows new : List (List V)} (s : St fs h) (k : Nat) (hk : fs[k]? = some (.acc f r v rows)) (hr : 0 < r) (hl : ∀ row ∈ new, row.length = r) (hfit : (rows.length + new.length) * bytes ≤ 1099511627776) :
    ∃ f' v' h', appendTo h r bytes v new.flatten new.length = .ok v' h' ∧ St (fs.set k (.acc f' r v' (rows ++ new))) h' := by
  obtain ⟨f', v', h', e, s'⟩ := (s.pick k hk).appendA hr hl hfit
  exact ⟨f', v', h', e, s'.perm (perm_set fs k _ _ hk)⟩
/-- nothing yet -/
theorem St.acc0 {fs : List Fact} {h : Heap} (s : St fs h) (r : Nat) : St (.acc 0 r .slN [] :: fs) h := by
  obtain ⟨Z, s⟩ := s
  refine ⟨Z, s.wf, s.z, s.oz, s.nb, s.nf, s.nd, fun x hx => ?_⟩
  rcases List.mem_cons.1 hx with rfl | hx
  · exact ⟨.nil, fun b o n c e => by cases e⟩
  · exact s.all x hx
theorem AccV.rows {f r : Nat} {h : Heap} {v : V} {rows : List (List V)} (hr : 0 < r) (a : AccV f r h v rows) : Rows r h v rows := by
  cases a with
  | nil => exact .nil
  | row a =>
    obtain ⟨ap, t, hob, hrow, hfam⟩ := a.ob
    exact .row hr hob (Nat.zero_mod r) (fun i row hi => by rw [Nat.zero_div, Nat.zero_add]; exact hrow i row hi) (by omega) a.len
/-- it is not appended to any more: what it holds stays -/
theorem St.shut {fs : List Fact} {h : Heap} {f r : Nat} {v : V} {rows : List (List V)} (s : St (.acc f r v rows :: fs) h) (hr : 0 < r) : St (.stb (fun h => Rows r h v rows) :: fs) h := by
  obtain ⟨Z, s⟩ := s
  refine ⟨Z, s.wf, s.z, s.oz, s.nb, ?_, fun b hb hf => s.nd b hb (by rw [fams_cons]; exact List.mem_append_right _ hf), fun x hx => ?_⟩
  · have := s.nf; rw [fams_cons] at this
    exact (List.nodup_append.1 this).2.1
  · rcases List.mem_cons.1 hx with rfl | hx
    · intro h' hz
      obtain ⟨a, hzb⟩ := s.all (.acc f r v rows) (by simp)
      have ar := a.rows hr
      cases a with
      | nil => exact .nil
      | row a =>
        obtain ⟨ap, t, hob, hrow, hfam⟩ := a.ob
        refine .row (f := f) (ap := ap) hr ?_ (Nat.zero_mod r) (fun i row hi => by rw [Nat.zero_div, Nat.zero_add]; exact hrow i row hi) (Nat.le_of_eq (by rw [Nat.zero_add])) a.len
        rw [hz _ (hzb _ _ _ _ rfl)]; exact hob
    · exact s.all x (by simp [hx])
/-- and it may be read meanwhile -/
theorem St.accRows {fs : List Fact} {h : Heap} (s : St fs h) (k : Nat) {f r : Nat} {v : V} {rows : List (List V)} (hk : fs[k]? = some (.acc f r v rows)) (hr : 0 < r) : Rows r h v rows := (s.acc_at k hk).rows hr
end
end Go.Eng
namespace Go.Eng
noncomputable section

theorem St.frozen {fs : List Fact} {h : Heap} (s : St fs h) (ob : Obj) {P : Heap → Prop} (hP : ∀ h', T.get h.next h'.t = some ob → P h') : St (.stb P :: fs) (h.add ob) := by
  obtain ⟨Z, s⟩ := s
  have hz : ∀ b, b < h.next → T.get b (h.add ob).t = T.get b h.t := fun b hb => get_add_old hb
  refine ⟨fun b => Z b ∨ b = h.next, (Fr.add h ob).wf s.wf, fun b hb => ?_, fun b hb => ?_, s.nb, s.nf, s.nd, fun w hw => ?_⟩
  · rcases hb with hb | rfl
    · rw [hz b (z_lt s hb)]; exact s.z b hb
    · rw [get_add_new]; simp
  · refine ⟨?_, (s.oz b hb).2⟩
    rintro (hzb | rfl)
    · exact (s.oz b hb).1 hzb
    · exact Nat.lt_irrefl _ (owns_lt s hb)
  · rcases List.mem_cons.1 hw with rfl | hw
    · intro h' hh
      exact hP h' ((hh _ (Or.inr rfl)).trans (get_add_new ..))
    · exact Fact.stay (s.all w hw) (fun b hb => ⟨Or.inl hb, hz b (z_lt s hb)⟩) (fun b hb => hz b (owns_lt s (mem_owns hw hb))) (fun _ _ => rfl) fun _ _ => rfl

theorem getRows_eq {r : Nat} {t : T (List V)} : ∀ (rows : List (List V)) (i : Nat), (∀ k row, rows[k]? = some row → T.get (i + k) t = some row) → getRows t rows.length i = some rows.flatten
  | [], i, h => rfl
  | a :: l, i, h => by
    show (Option.rec none (fun row => Option.rec none (fun l => some (appV row l)) (getRows t l.length (Nat.succ i))) (T.get i t) : Option (List V)) = _
    have h0 := h 0 a rfl
    rw [Nat.add_zero] at h0
    rw [h0]
    have ih := getRows_eq (r := r) (t := t) l (i + 1) fun k row hk => by
      have := h (k + 1) row (by simpa using hk)
      rw [← this]; congr 1; omega
    show (Option.rec none (fun l => some (appV a l)) (getRows t l.length (Nat.succ i)) : Option (List V)) = _
    rw [show Nat.succ i = i + 1 from rfl, ih]
    show some (appV a l.flatten) = _
    rw [appV_eq]; rfl
/-- all rows at once -/
theorem Rows.loadAll {r b o n : Nat} {cap : Option Nat} {h : Heap} {rows : List (List V)} (a : Rows r h (.sl b o n cap) rows) : h.load b o (Nat.mul n r) = some rows.flatten := by
  cases a with
  | row hr hob ho hrow hsz hlen =>
    rename_i f ap sz t
    by_cases h0 : rows.length = 0
    · obtain rfl : rows = [] := by simpa using h0
      unfold Heap.load
      have : (Nat.mul ([] : List (List V)).length r).beq 0 = true := by
        show (Nat.mul 0 r).beq 0 = true
        rw [show Nat.mul 0 r = 0 from Nat.zero_mul r]; rfl
      rw [this]; rfl
    · unfold Heap.load
      have hpos : 0 < rows.length * r := Nat.mul_pos (by omega) hr
      have e0 : (Nat.mul rows.length r).beq 0 = false := by
        cases hb : (Nat.mul rows.length r).beq 0 with
        | false => rfl
        | true => have : rows.length * r = 0 := Nat.eq_of_beq_eq_true hb; omega
      rw [e0, cond_false, show h.obj b = _ from hob]
      show (bif (Nat.add o (Nat.mul rows.length r)).ble sz then cut r o (Nat.mul rows.length r) t else none) = _
      have e1 : (Nat.add o (Nat.mul rows.length r)).ble sz = true := by rw [nble]; simpa using hsz
      rw [e1, cond_true]
      unfold cut
      have m0 : (o.mod r).beq 0 = true := by rw [show o.mod r = 0 from ho]; rfl
      have d0 : o.div r = o / r := rfl
      by_cases h1 : rows.length = 1
      · have e2 : ((Nat.mul rows.length r).beq r && (o.mod r).beq 0) = true := by
          rw [m0, Bool.and_true, h1, show Nat.mul 1 r = r from Nat.one_mul r, Nat.beq_refl]
        rw [e2, cond_true]
        obtain ⟨x, rfl⟩ : ∃ x, rows = [x] := List.length_eq_one_iff.1 h1
        have := hrow 0 x rfl
        rw [Nat.add_zero] at this
        rw [d0, this]; simp
      · have hr2 : r < rows.length * r := by
          have : 2 * r ≤ rows.length * r := Nat.mul_le_mul_right r (by omega)
          omega
        have e2 : ((Nat.mul rows.length r).beq r && (o.mod r).beq 0) = false := by
          have : (Nat.mul rows.length r).beq r = false := by
            cases hb : (Nat.mul rows.length r).beq r with
            | false => rfl
            | true => have : rows.length * r = r := Nat.eq_of_beq_eq_true hb; omega
          rw [this]; rfl
        rw [e2, cond_false]
        have e3 : (Nat.add (o.mod r) (Nat.mul rows.length r)).ble r = false := by
          rw [nble, show o.mod r = 0 from ho]
          have : ¬ (0 + rows.length * r ≤ r) := by omega
          simpa using this
        rw [e3, cond_false]
        have e4 : ((o.mod r).beq 0 && ((Nat.mul rows.length r).mod r).beq 0) = true := by
          rw [m0, show (Nat.mul rows.length r).mod r = 0 from Nat.mul_mod_left _ _]; rfl
        rw [e4, cond_true]
        have : (Nat.mul rows.length r).div r = rows.length := Nat.mul_div_cancel _ hr
        rw [this, d0]
        exact getRows_eq (r := r) rows _ hrow

section
variable {c : Ctx} {Q : QT} {env : Env} {h : Heap} {fs : List Fact} {l : List Opr} {vs : List V} {i j : D8}
/-- a new box -/
theorem WO.boxF {o : OpL} {row : List V} (st : St fs h) (hl : light o (fun a => a.ev vs env) h = .new (.box row) (.ptr h.next 0)) (K : ∀ b h1, St (.box b row :: fs) h1 → WO c l Q (.ptr b 0 :: vs) env h1) : WO c (.p (.L o) :: l) Q vs env h :=
  WO.new hl rfl (K _ _ (st.box row))
theorem WO.boxFS {o : OpL} {row : List V} (st : St fs h) (hl : light o (fun a => a.ev vs env) h = .new (.box row) (.ptr h.next 0)) (K : ∀ b h1, St (.box b row :: fs) h1 → WO c l Q (.ptr b 0 :: vs) (Env.set i j (.ptr b 0) env) h1) : WO c (.s i j (.L o) :: l) Q vs env h :=
  WO.newS hl rfl (K _ _ (st.box row))
theorem L.mkmap {ev : Ev} {h : Heap} : light .mkmap ev h = .new (.map [] 0) (.map h.next) := by
  show force h.next (fun b => LR.new (.map [] 0) (.map b)) = _
  rw [force_eq]
theorem WO.mapF (st : St fs h) (K : ∀ b h1, St (.map b [] 0 :: fs) h1 → WO c l Q (.map b :: vs) env h1) : WO c (.p (.L .mkmap) :: l) Q vs env h :=
  WO.new L.mkmap rfl (K _ _ st.map)
theorem WO.mapFS (st : St fs h) (K : ∀ b h1, St (.map b [] 0 :: fs) h1 → WO c l Q (.map b :: vs) (Env.set i j (.map b) env) h1) : WO c (.s i j (.L .mkmap) :: l) Q vs env h :=
  WO.newS L.mkmap rfl (K _ _ st.map)
/-- a slice of new elements: one -/
theorem L.bsl {ev : Ev} {h : Heap} {r n : Nat} {zero : List V} {ps : List (Nat × Nat × A)} {l : List V} (hf : fill ps ev (rep n zero) = some l) :
    light (.bsl r n zero ps) ev h = .new (.cells r h.next 0 (Nat.mul n r) (setRowsP r n 0 l T.e)) (.sl h.next 0 n (some n)) := by
  show force h.next (fun b => (Option.rec .bad (fun l => setRows r n 0 l T.e fun t => .new (.cells r b 0 (Nat.mul n r) t) (.sl b 0 n (some n))) (fill ps ev (rep n zero)) : LR)) = _
  rw [force_eq, hf]
  show setRows r n 0 l T.e (fun t => LR.new (.cells r h.next 0 (Nat.mul n r) t) (.sl h.next 0 n (some n))) = _
  rw [setRows_eq]
theorem rows_new {r n b : Nat} {rows : List (List V)} {cap : Option Nat} {h' : Heap} (hr : 0 < r) (hn : rows.length = n) (hl : ∀ row ∈ rows, row.length = r) (hg : T.get b h'.t = some (.cells r b 0 (Nat.mul n r) (setRowsP r n 0 rows.flatten T.e))) : Rows r h' (.sl b 0 n cap) rows := by
  subst hn
  refine .row hr hg (Nat.zero_mod r) (fun i row hi => ?_) (by rw [Nat.zero_add]; exact Nat.le_refl _) hl
  rw [Nat.zero_div, Nat.zero_add, setRowsP_get r _ 0 _ T.e i (by omega) (by omega), if_pos ⟨by omega, by have := (List.getElem?_eq_some_iff.1 hi).1; omega⟩, Nat.sub_zero, flatten_row i hl hi]
theorem okSize_cl {r f a n : Nat} {t : T (List V)} (hr : 0 < r) : okSize (.cells r f a n t) = true := by show Nat.blt 0 r = true; rw [nblt]; simpa using hr
theorem WO.bslF {r n : Nat} {zero : List V} {ps : List (Nat × Nat × A)} {rows : List (List V)} (st : St fs h) (hf : fill ps (fun a => a.ev vs env) (rep n zero) = some rows.flatten) (hr : 0 < r) (hn : rows.length = n) (hl : ∀ row ∈ rows, row.length = r)
    (K : ∀ b h1, St (.stb (fun h => Rows r h (.sl b 0 n (some n)) rows) :: fs) h1 → WO c l Q (.sl b 0 n (some n) :: vs) env h1) : WO c (.p (.L (.bsl r n zero ps)) :: l) Q vs env h :=
  WO.new (L.bsl hf) (okSize_cl hr) (K _ _ (st.frozen _ fun h' hg => rows_new hr hn hl hg))
theorem WO.bslFS {r n : Nat} {zero : List V} {ps : List (Nat × Nat × A)} {rows : List (List V)} (st : St fs h) (hf : fill ps (fun a => a.ev vs env) (rep n zero) = some rows.flatten) (hr : 0 < r) (hn : rows.length = n) (hl : ∀ row ∈ rows, row.length = r)
    (K : ∀ b h1, St (.stb (fun h => Rows r h (.sl b 0 n (some n)) rows) :: fs) h1 → WO c l Q (.sl b 0 n (some n) :: vs) (Env.set i j (.sl b 0 n (some n)) env) h1) : WO c (.s i j (.L (.bsl r n zero ps)) :: l) Q vs env h :=
  WO.newS (L.bsl hf) (okSize_cl hr) (K _ _ (st.frozen _ fun h' hg => rows_new hr hn hl hg))
/-- a store into a box -/
theorem WO.storeF {n b o : Nat} {x y : A} {cs row row' : List V} (st : St fs h) (k : Nat) (hk : fs[k]? = some (.box b row)) (hx : x.ev vs env = .ptr b o) (hy : (y.ev vs env).asCells = some cs) (hn : lenV cs = n) (h0 : n.beq 0 = false) (ho : (Nat.add o n).ble (lenV row) = true) (hr : overV o cs row = row')
    (K : ∀ h1, St (fs.set k (.box b row')) h1 → WO c l Q (un :: vs) env h1) : WO c (.p (.H (.store n x y)) :: l) Q vs env h :=
  WO.act (fun _ => L.storeB hx hy hn h0 (st.box_ge k hk) (st.box_at k hk) ho hr) (K _ (st.putBox k row' hk))
/-- rows behind an accumulator -/
theorem L.append {call : CallT} {ev : Ev} {s x : A} {r bytes : Nat} {v xv : V} {new : List (List V)} {out : OR} (hs : ev s = v) (hx : ev x = xv) (hn : Rows r h xv new) (ho : appendTo h r bytes v new.flatten new.length = out) : heavy (.append r bytes s x) call ev h = out := by
  subst ho hs hx
  show (match ev x with
    | .slN => appendTo h r bytes (ev s) [] 0
    | .sl b o m _ => (Option.rec .bad (fun new => appendTo h r bytes (ev s) new m) (h.load b o (Nat.mul m r)) : OR)
    | .str m a => bif r.beq 1 then appendTo h r bytes (ev s) (strCells (sBytes m a)) m else .bad
    | _ => .bad) = _
  generalize hv : ev x = xv at hn
  cases hn with
  | nil => rfl
  | row hr hob ho hrow hsz hlen =>
    have := (Rows.row (cap := none) hr hob ho hrow hsz hlen).loadAll
    simp only [this]
theorem WO.appF {r bytes f : Nat} {s x : A} {v xv : V} {rows new : List (List V)} (st : St fs h) (k : Nat) (hk : fs[k]? = some (.acc f r v rows)) (hs : s.ev vs env = v) (hx : x.ev vs env = xv) (hn : Rows r h xv new) (hr : 0 < r) (hfit : (rows.length + new.length) * bytes ≤ 1099511627776)
    (K : ∀ f' v' h1, St (fs.set k (.acc f' r v' (rows ++ new))) h1 → WO c l Q (v' :: vs) env h1) : WO c (.p (.H (.append r bytes s x)) :: l) Q vs env h := by
  have hl : ∀ row ∈ new, row.length = r := by
    cases hn with
    | nil => intro row hm; simp at hm
    | row _ _ _ _ _ hlen => exact hlen
  obtain ⟨f', v', h', e, s'⟩ := st.append k hk hr hl hfit
  exact WO.act (fun _ => L.append (ev := fun a => a.ev vs env) hs hx hn e) (K _ _ _ s')
theorem WO.appFS {r bytes f : Nat} {s x : A} {v xv : V} {rows new : List (List V)} (st : St fs h) (k : Nat) (hk : fs[k]? = some (.acc f r v rows)) (hs : s.ev vs env = v) (hx : x.ev vs env = xv) (hn : Rows r h xv new) (hr : 0 < r) (hfit : (rows.length + new.length) * bytes ≤ 1099511627776)
    (K : ∀ f' v' h1, St (fs.set k (.acc f' r v' (rows ++ new))) h1 → WO c l Q (v' :: vs) (Env.set i j v' env) h1) : WO c (.s i j (.H (.append r bytes s x)) :: l) Q vs env h := by
  have hl : ∀ row ∈ new, row.length = r := by
    cases hn with
    | nil => intro row hm; simp at hm
    | row _ _ _ _ _ hlen => exact hlen
  obtain ⟨f', v', h', e, s'⟩ := st.append k hk hr hl hfit
  exact WO.actS (fun _ => L.append (ev := fun a => a.ev vs env) hs hx hn e) (K _ _ _ s')
/-- a call -/
theorem WO.callF {f : Nat} {as : List A} {as' : List V} {P : V → Heap → Prop} (ha : evs as (fun a => a.ev vs env) = as') (hr : ∃ v h1, Runs c f as' h (.ok v h1) ∧ P v h1) (K : ∀ v h1, P v h1 → WO c l Q (v :: vs) env h1) : WO c (.p (.H (.call f as)) :: l) Q vs env h := by
  obtain ⟨v, h1, hr, hp⟩ := hr
  exact WO.call (by rw [ha]; exact hr) (K v h1 hp)
theorem WO.callFS {f : Nat} {as : List A} {as' : List V} {P : V → Heap → Prop} (ha : evs as (fun a => a.ev vs env) = as') (hr : ∃ v h1, Runs c f as' h (.ok v h1) ∧ P v h1) (K : ∀ v h1, P v h1 → WO c l Q (v :: vs) (Env.set i j v env) h1) : WO c (.s i j (.H (.call f as)) :: l) Q vs env h := by
  obtain ⟨v, h1, hr, hp⟩ := hr
  exact WO.callS (by rw [ha]; exact hr) (K v h1 hp)
/-- a function value is called -/
theorem WO.callv {x : A} {as : List A} {f : Nat} {a b : List V} {v : V} {h2 : Heap} (hx : x.ev vs env = .fn f a b) (hl : Runs c f (appV a (appV (evs as fun a => a.ev vs env) b)) h (.ok v h2)) (w : WO c l Q (v :: vs) env h2) : WO c (.p (.H (.callv x as)) :: l) Q vs env h := by
  obtain ⟨x1, e1, h1, ⟨N, ev⟩, q⟩ := w
  obtain ⟨N2, hl⟩ := hl
  refine ⟨x1, e1, h1, ⟨max N N2, fun m hm R hR => ?_⟩, q⟩
  show ((Option.rec .bad (fun x => ofC h (levR c R m x.1 (appV x.2.1 (appV (evs as fun a => a.ev vs env) x.2.2)) .none h).1) (x.ev vs env).asFn : OR).k env fun v h => opsN l (levR c R m) (v :: vs) env h) = _
  rw [hx]
  show ((ofC h (levR c R m f (appV a (appV (evs as fun a => a.ev vs env) b)) .none h).1).k env fun v h => opsN l (levR c R m) (v :: vs) env h) = _
  rw [ofC_eq, hl m (by omega) R (by omega)]
  show v.force (fun v => opsN l (levR c R m) (v :: vs) env h2) = _
  rw [V.force_eq]; exact ev m (by omega) R (by omega)
theorem WO.callvS {x : A} {as : List A} {f : Nat} {a b : List V} {v : V} {h2 : Heap} (hx : x.ev vs env = .fn f a b) (hl : Runs c f (appV a (appV (evs as fun a => a.ev vs env) b)) h (.ok v h2)) (w : WO c l Q (v :: vs) (Env.set i j v env) h2) : WO c (.s i j (.H (.callv x as)) :: l) Q vs env h := by
  obtain ⟨x1, e1, h1, ⟨N, ev⟩, q⟩ := w
  obtain ⟨N2, hl⟩ := hl
  refine ⟨x1, e1, h1, ⟨max N N2, fun m hm R hR => ?_⟩, q⟩
  show ((Option.rec .bad (fun x => ofC h (levR c R m x.1 (appV x.2.1 (appV (evs as fun a => a.ev vs env) x.2.2)) .none h).1) (x.ev vs env).asFn : OR).k env fun v h => Env.setC i j v (fun env => opsN l (levR c R m) (v :: vs) env h) env) = _
  rw [hx]
  show ((ofC h (levR c R m f (appV a (appV (evs as fun a => a.ev vs env) b)) .none h).1).k env fun v h => Env.setC i j v (fun env => opsN l (levR c R m) (v :: vs) env h) env) = _
  rw [ofC_eq, hl m (by omega) R (by omega)]
  show v.force (fun v => Env.setC i j v (fun env => opsN l (levR c R m) (v :: vs) env h2) env) = _
  rw [V.force_eq, Env.setC_eq]; exact ev m (by omega) R (by omega)
theorem WO.callvF {x : A} {as : List A} {f : Nat} {a b as' : List V} {P : V → Heap → Prop} (hx : x.ev vs env = .fn f a b) (ha : appV a (appV (evs as (fun a => a.ev vs env)) b) = as') (hr : ∃ v h1, Runs c f as' h (.ok v h1) ∧ P v h1) (K : ∀ v h1, P v h1 → WO c l Q (v :: vs) env h1) : WO c (.p (.H (.callv x as)) :: l) Q vs env h := by
  obtain ⟨v, h1, hr, hp⟩ := hr
  exact WO.callv hx (by rw [ha]; exact hr) (K v h1 hp)
theorem WO.callvFS {x : A} {as : List A} {f : Nat} {a b as' : List V} {P : V → Heap → Prop} (hx : x.ev vs env = .fn f a b) (ha : appV a (appV (evs as (fun a => a.ev vs env)) b) = as') (hr : ∃ v h1, Runs c f as' h (.ok v h1) ∧ P v h1) (K : ∀ v h1, P v h1 → WO c l Q (v :: vs) (Env.set i j v env) h1) : WO c (.s i j (.H (.callv x as)) :: l) Q vs env h := by
  obtain ⟨v, h1, hr, hp⟩ := hr
  exact WO.callvS hx (by rw [ha]; exact hr) (K v h1 hp)
/-- a call that ends in a panic -/
theorem WO.callPan {f : Nat} {as : List A} {as' : List V} {v : V} {h2 : Heap} (ha : evs as (fun a => a.ev vs env) = as') (hl : Runs c f as' h (.pan v h2)) (q : Q (.pan v) env h2) : WO c (.p (.H (.call f as)) :: l) Q vs env h := by
  obtain ⟨N2, hl⟩ := hl
  refine ⟨.pan v, env, h2, ⟨N2, fun m hm R hR => ?_⟩, q⟩
  show ((ofC h (levR c R m f (evs as fun a => a.ev vs env) .none h).1).k env fun v h => opsN l (levR c R m) (v :: vs) env h) = _
  rw [ha, ofC_eq, hl m hm R hR]; rfl
theorem WO.callPanS {f : Nat} {as : List A} {as' : List V} {v : V} {h2 : Heap} (ha : evs as (fun a => a.ev vs env) = as') (hl : Runs c f as' h (.pan v h2)) (q : Q (.pan v) env h2) : WO c (.s i j (.H (.call f as)) :: l) Q vs env h := by
  obtain ⟨N2, hl⟩ := hl
  refine ⟨.pan v, env, h2, ⟨N2, fun m hm R hR => ?_⟩, q⟩
  show ((ofC h (levR c R m f (evs as fun a => a.ev vs env) .none h).1).k env fun v h => Env.setC i j v (fun env => opsN l (levR c R m) (v :: vs) env h) env) = _
  rw [ha, ofC_eq, hl m hm R hR]; rfl
theorem WO.callvPan {x : A} {f : Nat} {as : List A} {a b as' : List V} {v : V} {h2 : Heap} (hx : x.ev vs env = .fn f a b) (ha : appV a (appV (evs as (fun a => a.ev vs env)) b) = as') (hl : Runs c f as' h (.pan v h2)) (q : Q (.pan v) env h2) : WO c (.p (.H (.callv x as)) :: l) Q vs env h := by
  obtain ⟨N2, hl⟩ := hl
  refine ⟨.pan v, env, h2, ⟨N2, fun m hm R hR => ?_⟩, q⟩
  show ((Option.rec .bad (fun x => ofC h (levR c R m x.1 (appV x.2.1 (appV (evs as fun a => a.ev vs env) x.2.2)) .none h).1) (x.ev vs env).asFn : OR).k env fun v h => opsN l (levR c R m) (v :: vs) env h) = _
  rw [hx]
  show ((ofC h (levR c R m f (appV a (appV (evs as fun a => a.ev vs env) b)) .none h).1).k env fun v h => opsN l (levR c R m) (v :: vs) env h) = _
  rw [ha, ofC_eq, hl m hm R hR]; rfl
theorem WO.callvPanS {x : A} {f : Nat} {as : List A} {a b as' : List V} {v : V} {h2 : Heap} (hx : x.ev vs env = .fn f a b) (ha : appV a (appV (evs as (fun a => a.ev vs env)) b) = as') (hl : Runs c f as' h (.pan v h2)) (q : Q (.pan v) env h2) : WO c (.s i j (.H (.callv x as)) :: l) Q vs env h := by
  obtain ⟨N2, hl⟩ := hl
  refine ⟨.pan v, env, h2, ⟨N2, fun m hm R hR => ?_⟩, q⟩
  show ((Option.rec .bad (fun x => ofC h (levR c R m x.1 (appV x.2.1 (appV (evs as fun a => a.ev vs env) x.2.2)) .none h).1) (x.ev vs env).asFn : OR).k env fun v h => Env.setC i j v (fun env => opsN l (levR c R m) (v :: vs) env h) env) = _
  rw [hx]
  show ((ofC h (levR c R m f (appV a (appV (evs as fun a => a.ev vs env) b)) .none h).1).k env fun v h => Env.setC i j v (fun env => opsN l (levR c R m) (v :: vs) env h) env) = _
  rw [ha, ofC_eq, hl m hm R hR]; rfl
/-- a panic -/
theorem WO.pan {x : A} {t : Nat} {v : V} (hx : x.ev vs env = .ifc t v) (q : Q (.pan (.ifc t v)) env h) : WO c (.p (.H (.panic x)) :: l) Q vs env h := by
  refine ⟨.pan (.ifc t v), env, h, ⟨0, fun m hm R hR => ?_⟩, q⟩
  show ((match x.ev vs env with | .ifc t v => OR.pan (.ifc t v) h | _ => .bad).k env fun v h => opsN l (levR c R m) (v :: vs) env h) = _
  rw [hx]; rfl
/-! ### where it parts -/
theorem WO.ifV {o : OpL} {p : Prop} [Decidable p] (hl : light o (fun a => a.ev vs env) h = .val (.bool (decide p))) (ht : p → WO c l Q (.bool true :: vs) env h) (hf : ¬ p → WO c l Q (.bool false :: vs) env h) : WO c (.p (.L o) :: l) Q vs env h := by
  by_cases hp : p
  · exact WO.val (hl.trans (by rw [decide_eq_true hp])) (ht hp)
  · exact WO.val (hl.trans (by rw [decide_eq_false hp])) (hf hp)
theorem WO.ifS {o : OpL} {p : Prop} [Decidable p] (hl : light o (fun a => a.ev vs env) h = .val (.bool (decide p))) (ht : p → WO c l Q (.bool true :: vs) (Env.set i j (.bool true) env) h) (hf : ¬ p → WO c l Q (.bool false :: vs) (Env.set i j (.bool false) env) h) : WO c (.s i j (.L o) :: l) Q vs env h := by
  by_cases hp : p
  · exact WO.valS (hl.trans (by rw [decide_eq_true hp])) (ht hp)
  · exact WO.valS (hl.trans (by rw [decide_eq_false hp])) (hf hp)
/-- one memory, one assertion behind a statement -/
theorem WP.seqCut {a b : C} (R : Env → Heap → Prop) (w : WP c a (fun x e h => match x with | .nrm => R e h | x => Q x e h) env h) (k : ∀ e h, R e h → WP c b Q e h) : WP c (.seq a b) Q env h :=
  WP.seq (w.mono fun x e h q => by cases x <;> first | exact k e h q | exact q)
/-- a loop, by an invariant with a ghost, and what falls -/
theorem WP.loopG {α : Type} {a : C} (I : α → Env → Heap → Prop) (μ : α → Nat) (g : α) (h0 : I g env h) (step : ∀ g e1 h1, I g e1 h1 → WP c a (fun x e2 h2 => match x with | .nrm => ∃ g', μ g' < μ g ∧ I g' e2 h2 | x => Q x e2 h2) e1 h1) : WP c (.loop a) Q env h := by
  have key : ∀ k g e1 h1, μ g = k → I g e1 h1 → ∃ x e2 h2, (∃ N, ∀ m, N ≤ m → ∀ R, N ≤ R → ∀ n, N ≤ n → rounds (fun env h => code a (levR c R m) R env h) n e1 h1 = .ok x e2 h2) ∧ Q x e2 h2 := by
    intro k
    induction k using Nat.strongRecOn with
    | _ k ih =>
      intro g e1 h1 hk hI
      obtain ⟨x, e2, h2, ⟨N, ev⟩, q⟩ := step g e1 h1 hI
      have one : ∀ m, N ≤ m → ∀ R, N ≤ R → ∀ n, rounds (fun env h => code a (levR c R m) R env h) (n + 1) e1 h1 = (X.rec (rounds (fun env h => code a (levR c R m) R env h) n e2 h2) (.ok .ret e2 h2) (fun i => .ok (.exit i) e2 h2) (fun v => .ok (.pan v) e2 h2) x : CR) := by
        intro m hm R hR n
        show (CR.rec (fun x env h => X.rec (rounds (fun env h => code a (levR c R m) R env h) n env h) (.ok .ret env h) (fun i => .ok (.exit i) env h) (fun v => .ok (.pan v) env h) x) .bad (code a (levR c R m) R e1 h1) : CR) = _
        rw [ev m hm R hR]
      cases x with
      | nrm =>
        obtain ⟨g', hlt, hI2⟩ := q
        obtain ⟨x3, e3, h3, ⟨N3, ev3⟩, q3⟩ := ih (μ g') (hk ▸ hlt) g' e2 h2 rfl hI2
        refine ⟨x3, e3, h3, ⟨max N N3 + 1, fun m hm R hR n hn => ?_⟩, q3⟩
        obtain ⟨n', rfl⟩ : ∃ n', n = n' + 1 := ⟨n - 1, by omega⟩
        rw [one m (by omega) R (by omega)]
        exact ev3 m (by omega) R (by omega) n' (by omega)
      | ret =>
        refine ⟨.ret, e2, h2, ⟨N + 1, fun m hm R hR n hn => ?_⟩, q⟩
        obtain ⟨n', rfl⟩ : ∃ n', n = n' + 1 := ⟨n - 1, by omega⟩
        rw [one m (by omega) R (by omega)]
      | exit i =>
        refine ⟨.exit i, e2, h2, ⟨N + 1, fun m hm R hR n hn => ?_⟩, q⟩
        obtain ⟨n', rfl⟩ : ∃ n', n = n' + 1 := ⟨n - 1, by omega⟩
        rw [one m (by omega) R (by omega)]
      | pan v =>
        refine ⟨.pan v, e2, h2, ⟨N + 1, fun m hm R hR n hn => ?_⟩, q⟩
        obtain ⟨n', rfl⟩ : ∃ n', n = n' + 1 := ⟨n - 1, by omega⟩
        rw [one m (by omega) R (by omega)]
  obtain ⟨x, e2, h2, ⟨N, ev⟩, q⟩ := key _ g env h rfl h0
  exact ⟨x, e2, h2, ⟨N, fun m hm R hR => ev m hm R hR R hR⟩, q⟩
end
end
end Go.Eng
namespace Go.Eng
noncomputable section

theorem Obj.same_box (row : List V) : Obj.same (.box row) (.box row) = true := V.sames_refl row
theorem still_box {fs : List Fact} {h : Heap} (s : St fs h) (k : Nat) {b : Nat} {row : List V} (hk : fs[k]? = some (.box b row)) : still h (.nw b (.box row)) = true := by
  obtain ⟨Z, s⟩ := s
  have := s.all (.box b row) (List.mem_of_getElem? hk)
  show (match T.get b h.t, T.get b h.fams with
    | some o, none => Obj.same (.box row) o
    | _, _ => false) = true
  rw [this.1, this.2]
  exact Obj.same_box row
theorem still_map {fs : List Fact} {h : Heap} (s : St fs h) (k : Nat) {b : Nat} {c : Nat} (hk : fs[k]? = some (.map b [] c)) : still h (.nw b (.map [] c)) = true := by
  obtain ⟨Z, s⟩ := s
  have := s.all (.map b [] c) (List.mem_of_getElem? hk)
  show (match T.get b h.t, T.get b h.fams with
    | some o, none => Obj.same (.map [] c) o
    | _, _ => false) = true
  rw [this.1, this.2]
  exact Nat.beq_refl c

section
variable {c : Ctx} {Q : QT} {env : Env} {h : Heap} {fs : List Fact} {l : List Opd} {vs : List V} {lg : List Log} {uo : List Nat} {i j : D8}
theorem WD.boxF {o : OpL} {row : List V} (st : St fs h) (hl : light o (fun a => a.ev vs env) h = .new (.box row) (.ptr h.next 0)) (K : ∀ b h1, St (.box b row :: fs) h1 → WD c l Q (.ptr b 0 :: vs) (.nw b (.box row) :: lg) env h1) : WD c (⟨.p (.L o), uo⟩ :: l) Q vs lg env h :=
  WD.new hl rfl (K _ _ (st.box row))
theorem WD.boxFS {o : OpL} {row : List V} (st : St fs h) (hl : light o (fun a => a.ev vs env) h = .new (.box row) (.ptr h.next 0)) (K : ∀ b h1, St (.box b row :: fs) h1 → WD c l Q (.ptr b 0 :: vs) (.nw b (.box row) :: lg) (Env.set i j (.ptr b 0) env) h1) : WD c (⟨.s i j (.L o), uo⟩ :: l) Q vs lg env h :=
  WD.newS hl rfl (K _ _ (st.box row))
theorem WD.mapF (st : St fs h) (K : ∀ b h1, St (.map b [] 0 :: fs) h1 → WD c l Q (.map b :: vs) (.nw b (.map [] 0) :: lg) env h1) : WD c (⟨.p (.L .mkmap), uo⟩ :: l) Q vs lg env h :=
  WD.new L.mkmap rfl (K _ _ st.map)
theorem WD.mapFS (st : St fs h) (K : ∀ b h1, St (.map b [] 0 :: fs) h1 → WD c l Q (.map b :: vs) (.nw b (.map [] 0) :: lg) (Env.set i j (.map b) env) h1) : WD c (⟨.s i j (.L .mkmap), uo⟩ :: l) Q vs lg env h :=
  WD.newS L.mkmap rfl (K _ _ st.map)
theorem WD.bslF {r n : Nat} {zero : List V} {ps : List (Nat × Nat × A)} {rows : List (List V)} (st : St fs h) (hf : fill ps (fun a => a.ev vs env) (rep n zero) = some rows.flatten) (hr : 0 < r) (hn : rows.length = n) (hl : ∀ row ∈ rows, row.length = r)
    (K : ∀ b h1 lo, St (.stb (fun h => Rows r h (.sl b 0 n (some n)) rows) :: fs) h1 → WD c l Q (.sl b 0 n (some n) :: vs) (lo :: lg) env h1) : WD c (⟨.p (.L (.bsl r n zero ps)), uo⟩ :: l) Q vs lg env h :=
  WD.new (L.bsl hf) (okSize_cl hr) (K _ _ _ (st.frozen _ fun h' hg => rows_new hr hn hl hg))
theorem WD.storeF {n b o : Nat} {x y : A} {cs row row' : List V} (st : St fs h) (k : Nat) (hk : fs[k]? = some (.box b row)) (hx : x.ev vs env = .ptr b o) (hy : (y.ev vs env).asCells = some cs) (hn : lenV cs = n) (h0 : n.beq 0 = false) (ho : (Nat.add o n).ble (lenV row) = true) (hr : overV o cs row = row')
    (hs : ∀ h1, St (fs.set k (.box b row')) h1 → stills uo h1 lg = true) (K : ∀ h1, St (fs.set k (.box b row')) h1 → WD c l Q (un :: vs) (.no :: lg) env h1) : WD c (⟨.p (.H (.store n x y)), uo⟩ :: l) Q vs lg env h :=
  WD.act (fun _ => L.storeB hx hy hn h0 (st.box_ge k hk) (st.box_at k hk) ho hr) (hs _ (st.putBox k row' hk)) (K _ (st.putBox k row' hk))
theorem WD.appF {r bytes f : Nat} {s x : A} {v xv : V} {rows new : List (List V)} (st : St fs h) (k : Nat) (hk : fs[k]? = some (.acc f r v rows)) (hs : s.ev vs env = v) (hx : x.ev vs env = xv) (hn : Rows r h xv new) (hr : 0 < r) (hfit : (rows.length + new.length) * bytes ≤ 1099511627776)
    (hst : ∀ f' v' h1, St (fs.set k (.acc f' r v' (rows ++ new))) h1 → stills uo h1 lg = true) (K : ∀ f' v' h1, St (fs.set k (.acc f' r v' (rows ++ new))) h1 → WD c l Q (v' :: vs) (.no :: lg) env h1) : WD c (⟨.p (.H (.append r bytes s x)), uo⟩ :: l) Q vs lg env h := by
  have hl : ∀ row ∈ new, row.length = r := by
    cases hn with
    | nil => intro row hm; simp at hm
    | row _ _ _ _ _ hlen => exact hlen
  obtain ⟨f', v', h', e, s'⟩ := st.append k hk hr hl hfit
  exact WD.act (fun _ => L.append (ev := fun a => a.ev vs env) hs hx hn e) (hst _ _ _ s') (K _ _ _ s')
theorem WD.appFS {r bytes f : Nat} {s x : A} {v xv : V} {rows new : List (List V)} (st : St fs h) (k : Nat) (hk : fs[k]? = some (.acc f r v rows)) (hs : s.ev vs env = v) (hx : x.ev vs env = xv) (hn : Rows r h xv new) (hr : 0 < r) (hfit : (rows.length + new.length) * bytes ≤ 1099511627776)
    (hst : ∀ f' v' h1, St (fs.set k (.acc f' r v' (rows ++ new))) h1 → stills uo h1 lg = true) (K : ∀ f' v' h1, St (fs.set k (.acc f' r v' (rows ++ new))) h1 → WD c l Q (v' :: vs) (.no :: lg) (Env.set i j v' env) h1) : WD c (⟨.s i j (.H (.append r bytes s x)), uo⟩ :: l) Q vs lg env h := by
  have hl : ∀ row ∈ new, row.length = r := by
    cases hn with
    | nil => intro row hm; simp at hm
    | row _ _ _ _ _ hlen => exact hlen
  obtain ⟨f', v', h', e, s'⟩ := st.append k hk hr hl hfit
  exact WD.actS (fun _ => L.append (ev := fun a => a.ev vs env) hs hx hn e) (hst _ _ _ s') (K _ _ _ s')
theorem WD.callF {f : Nat} {as : List A} {as' : List V} {P : V → Heap → Prop} (ha : evs as (fun a => a.ev vs env) = as') (hr : ∃ v h1, Runs c f as' h (.ok v h1) ∧ P v h1) (hs : ∀ v h1, P v h1 → stills uo h1 lg = true) (K : ∀ v h1, P v h1 → WD c l Q (v :: vs) (.no :: lg) env h1) : WD c (⟨.p (.H (.call f as)), uo⟩ :: l) Q vs lg env h := by
  obtain ⟨v, h1, hr, hp⟩ := hr
  exact WD.call (by rw [ha]; exact hr) (hs v h1 hp) (K v h1 hp)
theorem WD.callFS {f : Nat} {as : List A} {as' : List V} {P : V → Heap → Prop} (ha : evs as (fun a => a.ev vs env) = as') (hr : ∃ v h1, Runs c f as' h (.ok v h1) ∧ P v h1) (hs : ∀ v h1, P v h1 → stills uo h1 lg = true) (K : ∀ v h1, P v h1 → WD c l Q (v :: vs) (.no :: lg) (Env.set i j v env) h1) : WD c (⟨.s i j (.H (.call f as)), uo⟩ :: l) Q vs lg env h := by
  obtain ⟨v, h1, hr, hp⟩ := hr
  exact WD.callS (by rw [ha]; exact hr) (hs v h1 hp) (K v h1 hp)
theorem WD.callPan {f : Nat} {as : List A} {as' : List V} {v : V} {h2 : Heap} (ha : evs as (fun a => a.ev vs env) = as') (hl : Runs c f as' h (.pan v h2)) (q : Q (.pan v) env h2) : WD c (⟨.p (.H (.call f as)), uo⟩ :: l) Q vs lg env h := by
  obtain ⟨N2, hl⟩ := hl
  refine ⟨.pan v, env, h2, ⟨N2, fun m hm R hR => ?_⟩, q⟩
  show ((ofC h (levR c R m f (evs as fun a => a.ev vs env) .none h).1).k env fun v h' => Bool.rec .bad (opsD l (levR c R m) (v :: vs) (.no :: lg) env h') (stills uo h' lg)) = _
  rw [ha, ofC_eq, hl m hm R hR]; rfl
theorem WD.callPanS {f : Nat} {as : List A} {as' : List V} {v : V} {h2 : Heap} (ha : evs as (fun a => a.ev vs env) = as') (hl : Runs c f as' h (.pan v h2)) (q : Q (.pan v) env h2) : WD c (⟨.s i j (.H (.call f as)), uo⟩ :: l) Q vs lg env h := by
  obtain ⟨N2, hl⟩ := hl
  refine ⟨.pan v, env, h2, ⟨N2, fun m hm R hR => ?_⟩, q⟩
  show ((ofC h (levR c R m f (evs as fun a => a.ev vs env) .none h).1).k env fun v h' => Bool.rec .bad (Env.setC i j v (fun env => opsD l (levR c R m) (v :: vs) (.no :: lg) env h') env) (stills uo h' lg)) = _
  rw [ha, ofC_eq, hl m hm R hR]; rfl
theorem WD.pan {x : A} {t : Nat} {v : V} (hx : x.ev vs env = .ifc t v) (q : Q (.pan (.ifc t v)) env h) : WD c (⟨.p (.H (.panic x)), uo⟩ :: l) Q vs lg env h := by
  refine ⟨.pan (.ifc t v), env, h, ⟨0, fun m hm R hR => ?_⟩, q⟩
  show ((match x.ev vs env with | .ifc t v => OR.pan (.ifc t v) h | _ => .bad).k env fun v h' => Bool.rec .bad (opsD l (levR c R m) (v :: vs) (.no :: lg) env h') (stills uo h' lg)) = _
  rw [hx]; rfl
theorem WD.ifV {o : OpL} {p : Prop} [Decidable p] (hl : light o (fun a => a.ev vs env) h = .val (.bool (decide p))) (ht : ∀ lo, p → WD c l Q (.bool true :: vs) (lo :: lg) env h) (hf : ∀ lo, ¬ p → WD c l Q (.bool false :: vs) (lo :: lg) env h) : WD c (⟨.p (.L o), uo⟩ :: l) Q vs lg env h := by
  by_cases hp : p
  · exact WD.val (hl.trans (by rw [decide_eq_true hp])) (ht _ hp)
  · exact WD.val (hl.trans (by rw [decide_eq_false hp])) (hf _ hp)
theorem WD.ifS {o : OpL} {p : Prop} [Decidable p] (hl : light o (fun a => a.ev vs env) h = .val (.bool (decide p))) (ht : ∀ lo, p → WD c l Q (.bool true :: vs) (lo :: lg) (Env.set i j (.bool true) env) h) (hf : ∀ lo, ¬ p → WD c l Q (.bool false :: vs) (lo :: lg) (Env.set i j (.bool false) env) h) : WD c (⟨.s i j (.L o), uo⟩ :: l) Q vs lg env h := by
  by_cases hp : p
  · exact WD.valS (hl.trans (by rw [decide_eq_true hp])) (ht _ hp)
  · exact WD.valS (hl.trans (by rw [decide_eq_false hp])) (hf _ hp)
/-- behind a loop that is still running a function value -/
theorem WD.callv {x : A} {as : List A} {f : Nat} {a b : List V} {v : V} {h2 : Heap} (hx : x.ev vs env = .fn f a b) (hl : Runs c f (appV a (appV (evs as fun a => a.ev vs env) b)) h (.ok v h2)) (hs : stills uo h2 lg = true) (w : WD c l Q (v :: vs) (.no :: lg) env h2) : WD c (⟨.p (.H (.callv x as)), uo⟩ :: l) Q vs lg env h := by
  obtain ⟨x1, e1, h1, ⟨N, ev⟩, q⟩ := w
  obtain ⟨N2, hl⟩ := hl
  refine ⟨x1, e1, h1, ⟨max N N2, fun m hm R hR => ?_⟩, q⟩
  show ((Option.rec .bad (fun x => ofC h (levR c R m x.1 (appV x.2.1 (appV (evs as fun a => a.ev vs env) x.2.2)) .none h).1) (x.ev vs env).asFn : OR).k env fun v h' => Bool.rec .bad (opsD l (levR c R m) (v :: vs) (.no :: lg) env h') (stills uo h' lg)) = _
  rw [hx]
  show ((ofC h (levR c R m f (appV a (appV (evs as fun a => a.ev vs env) b)) .none h).1).k env fun v h' => Bool.rec .bad (opsD l (levR c R m) (v :: vs) (.no :: lg) env h') (stills uo h' lg)) = _
  rw [ofC_eq, hl m (by omega) R (by omega)]
  show v.force (fun v => (Bool.rec .bad (opsD l (levR c R m) (v :: vs) (.no :: lg) env h2) (stills uo h2 lg) : CR)) = _
  rw [V.force_eq, hs]; exact ev m (by omega) R (by omega)
end

/-! ### functions -/
/-- what a function comes to -/
def RunP (c : Ctx) (f : Nat) (as : List V) (h : Heap) (P : V → Heap → Prop) : Prop := ∃ v h1, Runs c f as h (.ok v h1) ∧ P v h1
def RunR (c : Ctx) (f : Nat) (as : List V) (h : Heap) (P : OR → Prop) : Prop := ∃ r, Runs c f as h r ∧ P r
/-- the end of a function that does not panic -/
def QF (rs : List Res) (P : V → Heap → Prop) : QT := fun x e h => match x with
  | .nrm => ∃ vs, results e h rs = some vs ∧ P (one vs) h
  | .ret => ∃ vs, results e h rs = some vs ∧ P (one vs) h
  | .pan _ => False
  | .exit _ => False
def QR (rs : List Res) (P : OR → Prop) : QT := fun x e h => match x with
  | .nrm => ∃ vs, results e h rs = some vs ∧ P (.ok (one vs) h)
  | .ret => ∃ vs, results e h rs = some vs ∧ P (.ok (one vs) h)
  | .pan v => P (.pan v h)
  | .exit _ => False
section
variable {c : Ctx} {h : Heap}
theorem RunP.fun_ {f : Nat} {F : Fun} {as : List V} {P : V → Heap → Prop} (hF : T.get f c.funs = some F) (hn : as.length = F.np) (w : WP c F.body (QF F.results P) (argsP as 0 Env.nil) h) : RunP c f as h P := by
  obtain ⟨x, e1, h1, ev, q⟩ := w
  cases x with
  | nrm =>
    obtain ⟨vs, hv, hp⟩ := q
    exact ⟨_, _, Runs.fun_ hF hn ⟨_, _, _, ev, ⟨vs, hv, rfl⟩⟩, hp⟩
  | ret =>
    obtain ⟨vs, hv, hp⟩ := q
    exact ⟨_, _, Runs.fun_ hF hn ⟨_, _, _, ev, ⟨vs, hv, rfl⟩⟩, hp⟩
  | pan v => exact q.elim
  | exit i => exact q.elim
theorem RunR.fun_ {f : Nat} {F : Fun} {as : List V} {P : OR → Prop} (hF : T.get f c.funs = some F) (hn : as.length = F.np) (w : WP c F.body (QR F.results P) (argsP as 0 Env.nil) h) : RunR c f as h P := by
  obtain ⟨x, e1, h1, ev, q⟩ := w
  cases x with
  | nrm =>
    obtain ⟨vs, hv, hp⟩ := q
    exact ⟨_, Runs.fun_ hF hn ⟨_, _, _, ev, ⟨vs, hv, rfl⟩⟩, hp⟩
  | ret =>
    obtain ⟨vs, hv, hp⟩ := q
    exact ⟨_, Runs.fun_ hF hn ⟨_, _, _, ev, ⟨vs, hv, rfl⟩⟩, hp⟩
  | pan v => exact ⟨_, Runs.fun_ hF hn ⟨_, _, _, ev, rfl⟩, q⟩
  | exit i => exact q.elim
theorem RunP.mono {f : Nat} {as : List V} {P P' : V → Heap → Prop} (r : RunP c f as h P) (hp : ∀ v h, P v h → P' v h) : RunP c f as h P' := let ⟨v, h1, r, q⟩ := r; ⟨v, h1, r, hp _ _ q⟩
end
end
end Go.Eng
namespace Go.Eng
noncomputable section
theorem res_nil (e : Env) (h : Heap) : results e h [] = some [] := rfl
theorem res_cons {e : Env} {h : Heap} {r : Res} {rs : List Res} {v : V} {vs : List V} (h1 : res1 h e r = some v) (h2 : results e h rs = some vs) : results e h (r :: rs) = some (v :: vs) := by
  show (Option.rec none (fun v => Option.rec none (fun vs => some (v :: vs)) (results e h rs)) (res1 h e r) : Option (List V)) = _
  rw [h1, h2]
theorem res_tmp {e : Env} {h : Heap} {i j : D8} {v : V} (hv : Env.get i j e = v) : res1 h e (.tmp i j) = some v := by rw [← hv]; rfl
theorem res_cellA {e : Env} {h : Heap} {i j : D8} {b o n : Nat} {l : List V} (hx : Env.get i j e = .ptr b o) (hl : h.load b o n = some l) : res1 h e (.cell i j (some n)) = some (.agg l) := by
  show (match (Env.get i j e).asPtr with
    | some (b, o) => (match h.load b o n with | some cs => some (V.agg cs) | none => none)
    | none => none) = _
  rw [hx]
  show (match h.load b o n with | some cs => some (V.agg cs) | none => none) = _
  rw [hl]
theorem res_cell1 {e : Env} {h : Heap} {i j : D8} {b o : Nat} {v : V} (hx : Env.get i j e = .ptr b o) (hl : h.load1 b o = some v) : res1 h e (.cell i j none) = some v := by
  show (match (Env.get i j e).asPtr with
    | some (b, o) => h.load1 b o
    | none => none) = _
  rw [hx]; exact hl
end
end Go.Eng
namespace Go.Eng
noncomputable section
theorem AccV.ne {f r : Nat} {h : Heap} {v : V} {rows : List (List V)} (a : AccV f r h v rows) (hn : rows ≠ []) : ∃ b, v = .sl b 0 rows.length none := by
  cases a with
  | nil => exact absurd rfl hn
  | row a => exact ⟨_, rfl⟩
theorem AccV.len {f r : Nat} {h : Heap} {v : V} {rows : List (List V)} (a : AccV f r h v rows) : (v = .slN ∧ rows = []) ∨ ∃ b, v = .sl b 0 rows.length none := by
  cases a with
  | nil => exact .inl ⟨rfl, rfl⟩
  | row a => exact .inr ⟨_, rfl⟩
theorem Rows.cells {r : Nat} {h : Heap} {v : V} {rows : List (List V)} (a : Rows r h v rows) : v.asCells = some [v] := by cases a <;> rfl
theorem AccV.cells {f r : Nat} {h : Heap} {v : V} {rows : List (List V)} (a : AccV f r h v rows) : v.asCells = some [v] := by cases a <;> rfl
/-- the length of what may be nil -/
theorem L.llenA {f r : Nat} {ev : Ev} {h : Heap} {x : A} {v : V} {rows : List (List V)} (hx : ev x = v) (a : AccV f r h v rows) : light (.len false x) ev h = .val (.int .i64 (rows.length : Int)) := by
  subst hx
  generalize hv : ev x = v at a
  cases a with
  | nil => exact L.llenN hv
  | row a => exact L.llen hv
theorem L.llenR {r : Nat} {ev : Ev} {h : Heap} {x : A} {v : V} {rows : List (List V)} (hx : ev x = v) (a : Rows r h v rows) : light (.len false x) ev h = .val (.int .i64 (rows.length : Int)) := by
  subst hx
  generalize hv : ev x = v at a
  cases a with
  | nil => exact L.llenN hv
  | row => exact L.llen hv
/-- a call of a function value, two ways of coming back -/
theorem map_snoc {α β : Type} (f : α → β) (l : List α) (x : α) : l.map f ++ [f x] = (l ++ [x]).map f := by simp
end
end Go.Eng
namespace Go.Eng
noncomputable section
theorem strCells_eq : ∀ l : List UInt8, strCells (l.map (·.toNat)) = l.map fun c => V.int .u8 (c.toNat : Int)
  | [] => rfl
  | a :: l => by
    show natV .u8 a.toNat :: strCells (l.map (·.toNat)) = _
    rw [natV_eq, strCells_eq l]; rfl
theorem flatten_one {α β : Type} (g : α → β) : ∀ l : List α, (l.map fun c => [g c]).flatten = l.map g
  | [] => rfl
  | a :: l => by simp [flatten_one g l]
/-- the bytes of a string as rows -/
def byteRows (l : List UInt8) : List (List V) := l.map fun c => [V.int .u8 (c.toNat : Int)]
theorem L.sbytes {ev : Ev} {h : Heap} {x : A} {l : List UInt8} (hx : ev x = L.str l) :
    light (.sbytes x) ev h = .new (.cells 1 h.next 0 l.length (setRowsP 1 l.length 0 (byteRows l).flatten T.e)) (.sl h.next 0 l.length none) := by
  show force h.next (fun b => (Option.rec .bad (fun x => setRows 1 x.1 0 (strCells (sBytes x.1 x.2)) T.e fun t => .new (.cells 1 b 0 x.1 t) (.sl b 0 x.1 none)) (ev x).asStr : LR)) = _
  rw [force_eq, hx]
  show setRows 1 l.length 0 (strCells (sBytes l.length (enc l))) T.e (fun t => LR.new (.cells 1 h.next 0 l.length t) (.sl h.next 0 l.length none)) = _
  rw [setRows_eq, sBytes_eq, strCells_eq]
  unfold byteRows
  rw [flatten_one]
theorem rows_bytes {b : Nat} {l : List UInt8} {h' : Heap} (hg : T.get b h'.t = some (.cells 1 b 0 l.length (setRowsP 1 l.length 0 (byteRows l).flatten T.e))) : Rows 1 h' (.sl b 0 l.length none) (byteRows l) := by
  have hlen : (byteRows l).length = l.length := by unfold byteRows; simp
  have hr : ∀ row ∈ byteRows l, row.length = 1 := by intro row hm; unfold byteRows at hm; simp at hm; obtain ⟨c, _, rfl⟩ := hm; rfl
  have := Rows.row (r := 1) (h := h') (b := b) (o := 0) (f := b) (ap := 0) (sz := l.length) (cap := none) (t := setRowsP 1 l.length 0 (byteRows l).flatten T.e) (rows := byteRows l) (by omega) hg rfl (fun i row hi => ?_) (by rw [hlen]; omega) hr
  · rw [hlen] at this; exact this
  · rw [setRowsP_get 1 _ 0 _ T.e (0 / 1 + i) (by omega) (by omega), if_pos ⟨by omega, by have := (List.getElem?_eq_some_iff.1 hi).1; omega⟩]
    have e : 0 / 1 + i - 0 = i := by omega
    rw [e, flatten_row i hr hi]
section
variable {c : Ctx} {Q : QT} {env : Env} {h : Heap} {fs : List Fact} {l : List Opr} {vs : List V} {i j : D8}
theorem WO.sbytesFS {x : A} {s : List UInt8} (st : St fs h) (hx : x.ev vs env = L.str s) (K : ∀ b h1, St (.stb (fun h => Rows 1 h (.sl b 0 s.length none) (byteRows s)) :: fs) h1 → WO c l Q (.sl b 0 s.length none :: vs) (Env.set i j (.sl b 0 s.length none) env) h1) : WO c (.s i j (.L (.sbytes x)) :: l) Q vs env h :=
  WO.newS (L.sbytes hx) rfl (K _ _ (st.frozen _ fun h' hg => rows_bytes hg))
theorem WO.sbytesF {x : A} {s : List UInt8} (st : St fs h) (hx : x.ev vs env = L.str s) (K : ∀ b h1, St (.stb (fun h => Rows 1 h (.sl b 0 s.length none) (byteRows s)) :: fs) h1 → WO c l Q (.sl b 0 s.length none :: vs) env h1) : WO c (.p (.L (.sbytes x)) :: l) Q vs env h :=
  WO.new (L.sbytes hx) rfl (K _ _ (st.frozen _ fun h' hg => rows_bytes hg))
end
namespace L
variable {ev : Ev} {h : Heap} {x y : A}
theorem wrapU8 {n : Nat} (hn : n < 256) : IntKind.wrap .u8 (n : Int) = (n : Int) := by
  have e : IntKind.wrap .u8 (n : Int) = (n : Int) % 256 := by unfold IntKind.wrap; simp [IntKind.bits, IntKind.signed]
  rw [e]; omega
theorem subU8 {a b n : Nat} (hx : ev x = .int .u8 (a : Int)) (hy : ev y = .int .u8 (b : Int)) (hc : a - b = n) (hb : b ≤ a) (hn : a < 256) : light (.bin .sub x y) ev h = .val (.int .u8 (n : Int)) := by
  show (ev x).onInt (fun k a => (ev y).onInt fun j b => bin1 .sub k a j b) = _
  rw [hx, hy]
  show LR.of (some (wrapV .u8 (isub (a : Int) (b : Int)))) = _
  rw [wrapV_eq, isub_eq, show (a : Int) - (b : Int) = (n : Int) by omega, wrapU8 (by omega)]; rfl
theorem addU8 {a b n : Nat} (hx : ev x = .int .u8 (a : Int)) (hy : ev y = .int .u8 (b : Int)) (hc : a + b = n) (hn : n < 256) : light (.bin .add x y) ev h = .val (.int .u8 (n : Int)) := by
  show (ev x).onInt (fun k a => (ev y).onInt fun j b => bin1 .add k a j b) = _
  rw [hx, hy]
  show LR.of (some (wrapV .u8 (iadd (a : Int) (b : Int)))) = _
  rw [wrapV_eq, iadd_eq, show (a : Int) + (b : Int) = (n : Int) by omega, wrapU8 hn]; rfl
theorem conv64 {k : IntKind} {a : Int} (hx : ev x = .int k a) (hn : In64 a) : light (.conv .i64 x) ev h = .val (.int .i64 a) := by
  show (ev x).onInt (fun _ a => .val (wrapV .i64 a)) = _
  rw [hx]
  show LR.val (wrapV .i64 a) = _
  rw [wrapV_eq, wrap64 hn]
theorem convU8 {k : IntKind} {a : Nat} (hx : ev x = .int k (a : Int)) (hn : a < 256) : light (.conv .u8 x) ev h = .val (.int .u8 (a : Int)) := by
  show (ev x).onInt (fun _ a => .val (wrapV .u8 a)) = _
  rw [hx]
  show LR.val (wrapV .u8 (a : Int)) = _
  rw [wrapV_eq, wrapU8 hn]
theorem neg64 {a n : Int} (hx : ev x = .int .i64 a) (hc : -a = n) (hn : In64 n) : light (.neg x) ev h = .val (.int .i64 n) := by
  show (ev x).onInt (fun k a => .val (wrapV k (Int.neg a))) = _
  rw [hx]
  show LR.val (wrapV .i64 (-a)) = _
  rw [wrapV_eq, hc, wrap64 hn]
end L
end
end Go.Eng
namespace Go.Eng
noncomputable section
/-! ### functions that defer one closure, which recovers -/
def noLoop : C → Bool
  | .seq a b => noLoop a && noLoop b
  | .cond _ a b => noLoop a && noLoop b
  | .block _ a => noLoop a
  | .loop _ => false
  | _ => true
theorem noLoop_code (call : CallT) : ∀ (e : C), noLoop e = true → ∀ (n n' : Nat) (env : Env) (h : Heap), code e call n env h = code e call n' env h
  | .skip, _, _, _, _, _ => rfl
  | .ret, _, _, _, _, _ => rfl
  | .exit _, _, _, _, _, _ => rfl
  | .stuck, _, _, _, _, _ => rfl
  | .reg _ _, _, _, _, _, _ => rfl
  | .draw _ _, _, _, _, _, _ => rfl
  | .seq a b, hl, n, n', env, h => by
    have hl := Bool.and_of hl
    show (CR.rec (fun x env h => X.rec (code b call n env h) (.ok .ret env h) (fun i => .ok (.exit i) env h) (fun v => .ok (.pan v) env h) x) .bad (code a call n env h) : CR) =
      CR.rec (fun x env h => X.rec (code b call n' env h) (.ok .ret env h) (fun i => .ok (.exit i) env h) (fun v => .ok (.pan v) env h) x) .bad (code a call n' env h)
    rw [noLoop_code call a hl.1 n n' env h]
    cases code a call n' env h with
    | bad => rfl
    | ok x env1 h1 => cases x <;> first | exact noLoop_code call b hl.2 n n' env1 h1 | rfl
  | .cond x a b, hl, n, n', env, h => by
    have hl := Bool.and_of hl
    show (Option.rec .bad (fun t => Bool.rec (code b call n env h) (code a call n env h) t) (x.ev [] env).asBool : CR) = Option.rec .bad (fun t => Bool.rec (code b call n' env h) (code a call n' env h) t) (x.ev [] env).asBool
    rw [noLoop_code call a hl.1 n n', noLoop_code call b hl.2 n n']
  | .block id a, hl, n, n', env, h => by
    have hl : noLoop a = true := hl
    show (CR.rec (fun x env h => X.rec (.ok .nrm env h) (.ok .ret env h) (fun i => .ok (Bool.rec (.exit i) .nrm (i.beq id)) env h) (fun v => .ok (.pan v) env h) x) .bad (code a call n env h) : CR) = CR.rec _ .bad (code a call n' env h)
    rw [noLoop_code call a hl n n']
  | .loop _, hl, _, _, _, _ => by cases hl
/-- the closure, and the end -/
def FinW (c : Ctx) (F : FunD) (P : V → Heap → Prop) (cv : List V) (envr : Env) (v : V) (h : Heap) : Prop :=
  WP c F.gbody (fun x _ h3 => (x = .nrm ∨ x = .ret) ∧ ∃ vs, results envr h3 F.results = some vs ∧ P (one vs) h3) (Env.set (slotOf F.gk).1 (slotOf F.gk).2 v (argsP cv 0 Env.nil)) h
def QD (c : Ctx) (F : FunD) (P : V → Heap → Prop) (env1 : Env) : QT := fun x env2 h2 => match x with
  | .nrm => FinW c F P (evs F.caps fun a => a.ev [] env1) env2 .ifcN h2
  | .pan v => FinW c F P (evs F.caps fun a => a.ev [] env1) (clr F.ws env1) v h2
  | _ => False
def QD0 (c : Ctx) (F : FunD) (P : V → Heap → Prop) : QT := fun x env1 h1 => match x with
  | .nrm => WO c F.ops (QD c F P env1) [] env1 h1
  | _ => False
def QG (F : FunD) (P : V → Heap → Prop) (envr : Env) : QT := fun x _ h3 => (x = .nrm ∨ x = .ret) ∧ ∃ vs, results envr h3 F.results = some vs ∧ P (one vs) h3
theorem QD.nrm_ {c : Ctx} {F : FunD} {P : V → Heap → Prop} {env1 env2 : Env} {h2 : Heap} {i j : D8} (cv : List V) (hcv : evs F.caps (fun a => a.ev [] env1) = cv) (hg : slotOf F.gk = (i, j)) (w : WP c F.gbody (QG F P env2) (Env.set i j .ifcN (argsP cv 0 Env.nil)) h2) : QD c F P env1 .nrm env2 h2 := by
  show FinW c F P (evs F.caps fun a => a.ev [] env1) env2 .ifcN h2
  unfold FinW
  rw [hcv, hg]; exact w
theorem QD.pan_ {c : Ctx} {F : FunD} {P : V → Heap → Prop} {env1 env2 : Env} {v : V} {h2 : Heap} {i j : D8} (cv : List V) (hcv : evs F.caps (fun a => a.ev [] env1) = cv) (hg : slotOf F.gk = (i, j)) (hw : F.ws = []) (w : WP c F.gbody (QG F P env1) (Env.set i j v (argsP cv 0 Env.nil)) h2) : QD c F P env1 (.pan v) env2 h2 := by
  show FinW c F P (evs F.caps fun a => a.ev [] env1) (clr F.ws env1) v h2
  unfold FinW
  rw [hcv, hg, hw]; exact w
theorem RunP.funD {c : Ctx} {funs : T Fun} {dfuns : T FunD} {more : Nat → List V → Heap → OR} (hc : c = Ctx.of funs dfuns more) {f : Nat} {F : FunD} (h0 : T.get f funs = none) (hF : T.get f dfuns = some F) {as : List V} {P : V → Heap → Prop} {h : Heap} (hn : as.length = F.np) (hl1 : noLoop F.pre = true) (hl2 : noLoop F.gbody = true)
    (w : WP c F.pre (QD0 c F P) (argsP as 0 Env.nil) h) : RunP c f as h P := by
  obtain ⟨x, env1, h1, ⟨N1, ev1⟩, q⟩ := w
  cases x with
  | ret => exact q.elim
  | exit i => exact q.elim
  | pan v => exact q.elim
  | nrm =>
    obtain ⟨x2, env2, h2, ⟨N2, ev2⟩, q2⟩ := q
    have fin : ∀ {envr : Env} {v : V}, FinW c F P (evs F.caps fun a => a.ev [] env1) envr v h2 → ∃ N3 w h3, P w h3 ∧ ∀ m, N3 ≤ m → ∀ R, N3 ≤ R → F.fin (levR c R m) (evs F.caps fun a => a.ev [] env1) envr h2 v = .ok w h3 := by
      intro envr v hw
      obtain ⟨x3, env3, h3, ⟨N3, ev3⟩, hx, vs, hv, hp⟩ := hw
      refine ⟨N3, one vs, h3, hp, fun m hm R hR => ?_⟩
      show (CR.rec (fun x _ h3 => X.rec (finish F.results envr h3) (finish F.results envr h3) (fun _ => .bad) (fun _ => .bad) x) .bad
        (args (evs F.caps fun a => a.ev [] env1) 0 Env.nil fun env => Env.setC (slotOf F.gk).1 (slotOf F.gk).2 v (fun env => code F.gbody (levR c R m) maxRounds env h2) env) : OR) = _
      rw [args_eq, Env.setC_eq, noLoop_code _ F.gbody hl2 maxRounds R, ev3 m hm R hR]
      have hfin : finish F.results envr h3 = .ok (one vs) h3 := by unfold finish; rw [hv]
      rcases hx with rfl | rfl
      · exact hfin
      · exact hfin
    have main : ∀ {w : V} {h3 : Heap} {N3 : Nat}, (∀ m, N3 ≤ m → ∀ R, N3 ≤ R → F.go (levR c R m) env1 h1 = .ok w h3) → P w h3 → RunP c f as h P := by
      intro w h3 N3 hgo hp
      refine ⟨w, h3, ⟨max N1 N3 + 1, fun m hm R hR => ?_⟩, hp⟩
      obtain ⟨m', rfl⟩ : ∃ m', m = m' + 1 := ⟨m - 1, by omega⟩
      show (Option.rec (c.sums (levR c R m') f as h) (fun fn => runFunR fn R (levR c R m') as h) (T.get f c.funs) : OR) = _
      have e1 : c.funs = funs := by rw [hc]; rfl
      have e2 : c.sums (levR c R m') f as h = runD F (levR c R m') as h := by
        rw [show c.sums = (Ctx.of funs dfuns more).sums by rw [hc]]
        show (Option.rec (more f as h) (fun F => runD F (levR c R m') as h) (T.get f dfuns) : OR) = _
        rw [hF]
      rw [e1, h0]
      show c.sums (levR c R m') f as h = _
      rw [e2]
      show (Bool.rec .bad (CR.rec (fun x env1 h1 => X.rec (F.go (levR c R m') env1 h1) .bad (fun _ => .bad) (fun _ => .bad) x) .bad (args as 0 Env.nil fun env => code F.pre (levR c R m') maxRounds env h)) ((lenV as).beq F.np) : OR) = _
      have hl : (lenV as).beq F.np = true := by rw [lenV_eq, hn]; exact Nat.beq_refl _
      rw [hl, args_eq]
      show (CR.rec (fun x env1 h1 => X.rec (F.go (levR c R m') env1 h1) .bad (fun _ => .bad) (fun _ => .bad) x) .bad (code F.pre (levR c R m') maxRounds (argsP as 0 Env.nil) h) : OR) = _
      rw [noLoop_code _ F.pre hl1 maxRounds R, ev1 m' (by omega) R (by omega)]
      exact hgo m' (by omega) R (by omega)
    cases x2 with
    | ret => exact q2.elim
    | exit i => exact q2.elim
    | nrm =>
      obtain ⟨N3, w, h3, hp, hf⟩ := fin q2
      refine main (N3 := max N2 N3) (fun m hm R hR => ?_) hp
      show (CR.rec (fun x env2 h2 => X.rec (F.fin (levR c R m) (evs F.caps fun a => a.ev [] env1) env2 h2 .ifcN) .bad (fun _ => .bad) (fun v => F.fin (levR c R m) (evs F.caps fun a => a.ev [] env1) (clr F.ws env1) h2 v) x) .bad (opsN F.ops (levR c R m) [] env1 h1) : OR) = _
      rw [ev2 m (by omega) R (by omega)]
      exact hf m (by omega) R (by omega)
    | pan v =>
      obtain ⟨N3, w, h3, hp, hf⟩ := fin q2
      refine main (N3 := max N2 N3) (fun m hm R hR => ?_) hp
      show (CR.rec (fun x env2 h2 => X.rec (F.fin (levR c R m) (evs F.caps fun a => a.ev [] env1) env2 h2 .ifcN) .bad (fun _ => .bad) (fun v => F.fin (levR c R m) (evs F.caps fun a => a.ev [] env1) (clr F.ws env1) h2 v) x) .bad (opsN F.ops (levR c R m) [] env1 h1) : OR) = _
      rw [ev2 m (by omega) R (by omega)]
      exact hf m (by omega) R (by omega)
end
end Go.Eng
namespace Go.Eng
noncomputable section
theorem overV_all {row : List V} {z : List V} {n : Nat} (hr : row.length = n) (hz : z.length = n := by rfl) : overV 0 row z = row := by
  show appV row (dropV (lenV row) z) = row
  rw [appV_eq, dropV_eq, lenV_eq, hr, ← hz, List.drop_length, List.append_nil]
theorem takeV_all {row : List V} {n : Nat} (hr : row.length = n) : takeV n (dropV 0 row) = row := by
  show takeV n row = row
  rw [takeV_eq, ← hr, List.take_length]
end
end Go.Eng
namespace Go.Eng
noncomputable section
theorem intV_eq' (k : IntKind) (n : Nat) : intV k (n : Int) = .int k (n : Int) := by
  show natV k n = _
  rw [natV_eq]; rfl
theorem L.rem {ev : Ev} {h : Heap} {x y : A} {k : IntKind} {a b n : Nat} (hx : ev x = .int k (a : Int)) (hy : ev y = .int k (b : Int)) (hc : a % b = n) (hb : b ≠ 0) : light (.bin .rem x y) ev h = .val (.int k (n : Int)) := by
  show (ev x).onInt (fun k a => (ev y).onInt fun j b => bin1 .rem k a j b) = _
  rw [hx, hy]
  show (Bool.rec .bad (.of (Bool.rec (some (intV k ((a : Int).tmod (b : Int)))) none (ieq (b : Int) 0))) (kEq k k) : LR) = _
  have h1 : kEq k k = true := by cases k <;> rfl
  have h2 : ieq (b : Int) 0 = false := by
    show b.beq 0 = false
    cases b with
    | zero => exact absurd rfl hb
    | succ n => rfl
  rw [h1, h2]
  show LR.of (some (intV k ((a : Int).tmod (b : Int)))) = _
  rw [show (a : Int).tmod (b : Int) = ((a % b : Nat) : Int) from rfl, hc, intV_eq']; rfl
theorem L.scatE {ev : Ev} {h : Heap} {x y : A} {l m n : List UInt8} (hx : ev x = L.str l) (hy : ev y = L.str m) (hc : l ++ m = n) (hn : l.length + m.length < 4294967296) : light (.bins .add x y) ev h = .val (L.str n) := by
  subst hc; exact L.scat hx hy hn
theorem L.iaddrK {ev : Ev} {h : Heap} {x y : A} {k : IntKind} {r b o n i : Nat} {cap : Option Nat} (hx : ev x = .sl b o n cap) (hy : ev y = .int k (i : Int)) (hi : i < n) : light (.iaddr r x y) ev h = .val (.ptr b (o + i * r)) := by
  show (ev x).onSl (fun b o n => (ev y).onNat fun j => iaddr1 r b o n j) = _
  rw [hx, hy]
  show (Bool.rec .bad (force (Nat.add o (Nat.mul i r)) fun o => .val (.ptr b o)) (i.blt n) : LR) = _
  rw [nblt, decide_eq_true hi]
  show force (Nat.add o (Nat.mul i r)) (fun o => LR.val (.ptr b o)) = _
  rw [force_eq]; rfl
/-- one cell of a row -/
theorem Rows.load1F {r b o n i j : Nat} {cap : Option Nat} {h : Heap} {rows : List (List V)} {row : List V} {v : V} (a : Rows r h (.sl b o n cap) rows) (hi : rows[i]? = some row) (hj : row[j]? = some v) : h.load1 b (o + i * r + j) = some v := by
  cases a with
  | row hr hob ho hrow hsz hlen =>
    rename_i f ap sz t
    have hlt : i < rows.length := (List.getElem?_eq_some_iff.1 hi).1
    have hl := hlen row (List.mem_of_getElem? hi)
    have hjl : j < row.length := (List.getElem?_eq_some_iff.1 hj).1
    have hle : (i + 1) * r ≤ rows.length * r := Nat.mul_le_mul_right r hlt
    rw [Nat.add_mul] at hle
    unfold Heap.load1
    rw [show h.obj b = _ from hob]
    show (Bool.rec none (load1R r (o + i * r + j) t) ((o + i * r + j).blt sz) : Option V) = _
    have h1 : (o + i * r + j).blt sz = true := by rw [nblt]; simp; omega
    rw [h1]
    show load1R r (o + i * r + j) t = _
    unfold load1R
    obtain ⟨m, hm⟩ : ∃ m, o = m * r := ⟨o / r, by have := Nat.div_add_mod o r; rw [ho, Nat.mul_comm] at this; omega⟩
    have he : o + i * r + j = r * (m + i) + j := by rw [hm, Nat.mul_comm r (m + i), Nat.add_mul]
    have h2 : (o + i * r + j).div r = o / r + i := by
      show (o + i * r + j) / r = _
      rw [he, Nat.mul_add_div hr, Nat.div_eq_of_lt (by omega), hm, Nat.mul_div_cancel _ hr]; omega
    have h3 : (o + i * r + j).mod r = j := by
      show (o + i * r + j) % r = j
      rw [he, Nat.mul_add_mod, Nat.mod_eq_of_lt (by omega)]
    rw [h2, h3, hrow i row hi]
    show hd (dropV j row) = some v
    rw [hd_eq, dropV_eq, List.head?_drop, hj]
/-- what is told beside the code -/
theorem Runs.more {c : Ctx} {funs : T Fun} {dfuns : T FunD} {more : Nat → List V → Heap → OR} (hc : c = Ctx.of funs dfuns more) {f : Nat} (h0 : T.get f funs = none) (h1 : T.get f dfuns = none) {as : List V} {h : Heap} {r : OR} (e : more f as h = r) : Runs c f as h r := by
  subst hc
  refine ⟨1, fun m hm R _ => ?_⟩
  obtain ⟨m', rfl⟩ : ∃ m', m = m' + 1 := ⟨m - 1, by omega⟩
  show (Option.rec (Option.rec (more f as h) (fun F => runD F (levR _ R m') as h) (T.get f dfuns)) (fun fn => runFunR fn R (levR _ R m') as h) (T.get f funs) : OR) = r
  rw [h0, h1]; exact e
theorem enc_bytes : ∀ l : List UInt8, sBytes l.length (enc l) = l.map (·.toNat) := by
  intro l
  exact sBytes_eq l
theorem moreIdx_is {f0 : Nat} (l : List UInt8) (b : UInt8) (h : Heap) : moreIdx f0 f0 [L.str l, .int .u8 (b.toNat : Int)] h = .ok (.int .i64 (Lib.indexByte l b)) h := by
  unfold moreIdx
  have hb : f0.beq f0 = true := Nat.beq_refl f0
  show (match f0.beq f0, [V.str l.length (enc l), V.int .u8 (Int.ofNat b.toNat)] with
    | true, [.str n x, .int .u8 (.ofNat c)] => (Bool.rec .bad ((idxL c (sBytes n x) 0).force fun v => .ok v h) (c.blt 256) : OR)
    | _, _ => .bad) = _
  rw [hb]
  show (Bool.rec .bad ((idxL b.toNat (sBytes l.length (enc l)) 0).force fun v => .ok v h) (b.toNat.blt 256) : OR) = _
  have hlt : b.toNat.blt 256 = true := by rw [nblt]; simpa using b.toNat_lt
  rw [hlt, enc_bytes]
  show (idxL b.toNat (l.map (·.toNat)) 0).force (fun v => OR.ok v h) = _
  rw [V.force_eq, idxL_eq _ b.toNat_lt]
  have hbb : b.toNat.toUInt8 = b := by simp
  rw [hbb]
  by_cases e : Lib.indexByte l b = -1
  · rw [if_pos e, e]
  · rw [if_neg e]; simp
theorem idx_runs {c : Ctx} {funs : T Fun} {dfuns : T FunD} {f0 : Nat} (hc : c = Ctx.of funs dfuns (moreIdx f0)) (h0 : T.get f0 funs = none) (h1 : T.get f0 dfuns = none) {fs : List Fact} {h : Heap} {l : List UInt8} {b : UInt8} (st : St fs h) :
    RunP c f0 [L.str l, .int .u8 (b.toNat : Int)] h fun v h1 => v = .int .i64 (Lib.indexByte l b) ∧ St fs h1 := ⟨_, h, Runs.more hc h0 h1 (moreIdx_is l b h), rfl, st⟩
theorem Wf.empty : Wf Heap.empty := ⟨fun b hb => absurd (T.get_e b) hb, fun b hb => absurd (T.get_e b) hb, Nat.le_refl _⟩
theorem St.empty : St [] Heap.empty := St.nil Wf.empty
theorem law_runs {P : Program} (hmx : P.follows .mixedOrders = true) {funs : T Fun} {dfuns : T FunD} {more : Nat → List V → Heap → OR} (hf : allT (chkF P) funs = true) (hd : allT (chkFD P) dfuns = true) (hm : MoreOk P more)
    {f : Nat} {as : List V} (he : RunP (Ctx.of funs dfuns more) f as Heap.empty fun v _ => v = .bool true) {args : Array Value} (hr : vrels Inj.none as args.toList) (w : World) :
    Calls P f args w fun e w' => e = .returned (.bool true) ∧ Kept w w' := by
  obtain ⟨v, h1, ⟨N, e⟩, rfl⟩ := he
  exact closed_runR hmx (c := Ctx.of funs dfuns more) hf (sums_ok hmx hd hm) (e N (Nat.le_refl _) N (Nat.le_refl _)) hr w
end
end Go.Eng
namespace Go.Eng
noncomputable section
/-! ### slices that may be nil: their parts by name -/
def slB : V → Nat
  | .sl b _ _ _ => b
  | _ => 0
def slO : V → Nat
  | .sl _ o _ _ => o
  | _ => 0
def slC : V → Option Nat
  | .sl _ _ _ c => c
  | _ => none
theorem Rows.sl {r i : Nat} {h : Heap} {v : V} {rows : List (List V)} (a : Rows r h v rows) (hi : i < rows.length) : v = .sl (slB v) (slO v) rows.length (slC v) := by
  cases a with
  | nil => exact absurd hi (Nat.not_lt_zero _)
  | row => rfl
theorem Rows.loadnR {r i : Nat} {h : Heap} {v : V} {rows : List (List V)} {row : List V} (a : Rows r h v rows) (hi : rows[i]? = some row) : h.load (slB v) (slO v + i * r) r = some row := by
  have e := a.sl (List.getElem?_eq_some_iff.1 hi).1
  rw [e] at a
  exact a.loadn hi
theorem Rows.load1R {r i j : Nat} {h : Heap} {v x : V} {rows : List (List V)} {row : List V} (a : Rows r h v rows) (hi : rows[i]? = some row) (hj : row[j]? = some x) : h.load1 (slB v) (slO v + i * r + j) = some x := by
  have e := a.sl (List.getElem?_eq_some_iff.1 hi).1
  rw [e] at a
  exact a.load1F hi hj
theorem Rows.load1Z {i : Nat} {h : Heap} {v x : V} {rows : List (List V)} (a : Rows 1 h v rows) (hi : rows[i]? = some [x]) : h.load1 (slB v) (slO v + i * 1) = some x := by
  have := a.load1R (j := 0) hi rfl
  rwa [Nat.add_zero] at this
theorem sEq_same (n x : Nat) : sEq n x n x = true := by
  unfold sEq; simp
theorem L.neBool_same {ev : Ev} {h : Heap} {x y : A} {b : Bool} (hx : ev x = .bool b) (hy : ev y = .bool b) : light (.eq true .bool x y) ev h = .val (.bool false) := by
  show (Option.rec .bad (fun b => .val (.bool (b != true))) (Eq1.eq .bool (ev x) (ev y)) : LR) = _
  rw [hx, hy]
  cases b <;> rfl
theorem L.neSt_same {ev : Ev} {h : Heap} {x y : A} {l : List (Nat × Eq1)} {row : List V} (hx : ev x = .agg row) (hy : ev y = .agg row) (he : Eq1.eqs l row row = some true) : light (.eq true (.st l) x y) ev h = .val (.bool false) := by
  show (Option.rec .bad (fun b => .val (.bool (b != true))) (Eq1.eq (.st l) (ev x) (ev y)) : LR) = _
  rw [hx, hy]
  show (Option.rec .bad (fun b => .val (.bool (b != true))) (Eq1.eq (.st l) (.agg row) (.agg row)) : LR) = _
  have e : Eq1.eq (.st l) (.agg row) (.agg row) = Eq1.eqs l row row := by simp [Eq1.eq]
  rw [e, he]; rfl
theorem Eq1.cons_same {off : Nat} {q : Eq1} {l : List (Nat × Eq1)} {row : List V} {v : V} (hv : hd (dropV off row) = some v) (hq : Eq1.eq q v v = some true) (hl : Eq1.eqs l row row = some true) : Eq1.eqs ((off, q) :: l) row row = some true := by
  simp only [Eq1.eqs, hv, hq, hl]
theorem Eq1.int_same (a : Int) : Eq1.eq .int (.int .i64 a) (.int .i64 a) = some true := by
  simp only [Eq1.eq, ieq_eq]; simp [kEq]
theorem Eq1.str_same (l : List UInt8) : Eq1.eq .str (L.str l) (L.str l) = some true := by
  unfold L.str; simp only [Eq1.eq, sEq_same]
theorem L.llenRn {r n : Nat} {ev : Ev} {h : Heap} {x : A} {v : V} {rows : List (List V)} (hx : ev x = v) (a : Rows r h v rows) (hn : rows.length = n) : light (.len false x) ev h = .val (.int .i64 (n : Int)) := by
  subst hn; exact L.llenR hx a
theorem Rows.det {r : Nat} {h h' : Heap} {v : V} {rows rows' : List (List V)} (a : Rows r h v rows) (a' : Rows r h' v rows') (hb : T.get (slB v) h'.t = T.get (slB v) h.t) : rows' = rows := by
  cases a with
  | nil =>
    generalize hv : V.slN = v at a'
    cases a' with
    | nil => rfl
    | row => cases hv
  | @row b o f ap sz cap t rows hr hob ho hrow hsz hlen =>
    generalize hv : V.sl b o rows.length cap = v at a'
    cases a' with
    | nil => cases hv
    | @row b' o' f' ap' sz' cap' t' rows' hr' hob' ho' hrow' hsz' hlen' =>
      injection hv with e1 e2 e3 e4
      subst e1; subst e2; subst e4
      have hb : T.get b h'.t = T.get b h.t := hb
      rw [hob, hob'] at hb
      injection hb with hb
      injection hb with e5 e6 e7 e8 e9
      subst e9
      refine List.ext_getElem? fun i => ?_
      by_cases hi : i < rows.length
      · have h1 := List.getElem?_eq_getElem hi
        have h2 := List.getElem?_eq_getElem (l := rows') (i := i) (by omega)
        have h3 := hrow i _ h1
        have h4 := hrow' i _ h2
        rw [h3] at h4
        rw [h1, h2, Option.some.inj h4]
      · rw [List.getElem?_eq_none (by omega), List.getElem?_eq_none (by omega)]
theorem Rows.dep {r : Nat} {h : Heap} {v : V} {rows : List (List V)} (a : Rows r h v rows) {h' : Heap} (hb : T.get (slB v) h'.t = T.get (slB v) h.t) : Rows r h' v rows := by
  cases a with
  | nil => exact .nil
  | row hr hob ho hrow hsz hlen => exact .row hr (hb.trans hob) ho hrow hsz hlen
/-- rows that there are at every time are the same at every time -/
theorem St.exRows {r : Nat} {v : V} {Q : Heap → List (List V) → Prop} {fs : List Fact} {h : Heap} (s : St (.stb (fun h => ∃ rows, Rows r h v rows ∧ Q h rows) :: fs) h) : ∃ rows, St (.stb (fun h => Rows r h v rows) :: .stb (fun h => Q h rows) :: fs) h := by
  obtain ⟨Z, s⟩ := s
  have hall := s.all _ (List.mem_cons_self ..)
  obtain ⟨rows, h1, h2⟩ := hall h fun _ _ => rfl
  have hz : v = .slN ∨ Z (slB v) := by
    apply Classical.byContradiction
    intro hn
    have hn1 : v ≠ .slN := fun e => hn (Or.inl e)
    have hn2 : ¬ Z (slB v) := fun e => hn (Or.inr e)
    obtain ⟨rows', h3, _⟩ := hall { h with t := T.set (slB v) (.box []) h.t } fun b hb => by
      show T.get b (T.set (slB v) (.box []) h.t) = _
      rw [T.get_set (Nat.zero_le _) (Nat.zero_le _), if_neg (by intro e; subst e; exact hn2 hb)]
    generalize hv : v = w at h3
    cases h3 with
    | nil => exact hn1 hv
    | @row b o f ap sz cap t rows hr hob ho hrow hsz hlen =>
      subst hv
      have e : T.get b (T.set b (.box []) h.t) = some (.cells r f ap sz t) := hob
      rw [T.get_set_same] at e; cases e
  have dep : ∀ h', (∀ b, Z b → T.get b h'.t = T.get b h.t) → Rows r h' v rows ∧ Q h' rows := by
    intro h' hh
    obtain ⟨rows', h3, h4⟩ := hall h' hh
    rcases hz with rfl | hz
    · have e1 : rows = [] := by cases h1; rfl
      have e2 : rows' = [] := by cases h3; rfl
      subst e1; subst e2; exact ⟨h3, h4⟩
    · have e := h1.det h3 (hh _ hz)
      subst e; exact ⟨h3, h4⟩
  refine ⟨rows, Z, s.wf, s.z, s.oz, s.nb, s.nf, s.nd, fun x hx => ?_⟩
  rcases List.mem_cons.1 hx with rfl | hx
  · exact fun h' hh => (dep h' hh).1
  · rcases List.mem_cons.1 hx with rfl | hx
    · exact fun h' hh => (dep h' hh).2
    · exact s.all x (List.mem_cons_of_mem _ hx)
/-- what stays may be said twice -/
theorem St.twice {P Q : Heap → Prop} {fs : List Fact} {h : Heap} (s : St (.stb P :: .stb Q :: fs) h) : St (.stb P :: .stb Q :: .stb P :: .stb Q :: fs) h := by
  obtain ⟨Z, s⟩ := s
  refine ⟨Z, s.wf, s.z, s.oz, s.nb, s.nf, s.nd, fun x hx => s.all x ?_⟩
  simp at hx ⊢
  rcases hx with rfl | rfl | rfl | rfl | hx
  · exact Or.inl rfl
  · exact Or.inr (Or.inl rfl)
  · exact Or.inl rfl
  · exact Or.inr (Or.inl rfl)
  · exact Or.inr (Or.inr hx)
section
variable {c : Ctx} {Q : QT} {env : Env} {h : Heap}
theorem WD.yes {g : A} {b : Bool} {op : Op} {uo : List Nat} {l : List Opd} {vs : List V} {lg : List Log} (hg : (g.ev vs env).gd b = some true) (w : WD c (⟨.p op, uo⟩ :: l) Q vs lg env h) : WD c (⟨.g g b op, uo⟩ :: l) Q vs lg env h := by
  obtain ⟨x, e1, h1, ⟨N, ev⟩, q⟩ := w
  refine ⟨x, e1, h1, ⟨N, fun m hm R hR => ?_⟩, q⟩
  show (Option.rec .bad (fun c1 => Bool.rec (opsD l (levR c R m) (un :: vs) (.no :: lg) env h) (dOp op uo (levR c R m) (fun a => a.ev vs env) lg env h fun l' v h => opsD l (levR c R m) (v :: vs) (l' :: lg) env h) c1) ((g.ev vs env).gd b) : CR) = _
  rw [hg]; exact ev m hm R hR
theorem WD.no {g : A} {b : Bool} {op : Op} {uo : List Nat} {l : List Opd} {vs : List V} {lg : List Log} (hg : (g.ev vs env).gd b = some false) (w : WD c l Q (un :: vs) (.no :: lg) env h) : WD c (⟨.g g b op, uo⟩ :: l) Q vs lg env h := by
  obtain ⟨x, e1, h1, ⟨N, ev⟩, q⟩ := w
  refine ⟨x, e1, h1, ⟨N, fun m hm R hR => ?_⟩, q⟩
  show (Option.rec .bad (fun c1 => Bool.rec (opsD l (levR c R m) (un :: vs) (.no :: lg) env h) (dOp op uo (levR c R m) (fun a => a.ev vs env) lg env h fun l' v h => opsD l (levR c R m) (v :: vs) (l' :: lg) env h) c1) ((g.ev vs env).gd b) : CR) = _
  rw [hg]; exact ev m hm R hR
theorem WD.yesS {g : A} {b : Bool} {i j : D8} {op : Op} {uo : List Nat} {l : List Opd} {vs : List V} {lg : List Log} (hg : (g.ev vs env).gd b = some true) (w : WD c (⟨.s i j op, uo⟩ :: l) Q vs lg env h) : WD c (⟨.gs g b i j op, uo⟩ :: l) Q vs lg env h := by
  obtain ⟨x, e1, h1, ⟨N, ev⟩, q⟩ := w
  refine ⟨x, e1, h1, ⟨N, fun m hm R hR => ?_⟩, q⟩
  show (Option.rec .bad (fun c1 => Bool.rec (Env.setC i j un (fun env => opsD l (levR c R m) (un :: vs) (.no :: lg) env h) env) (dOp op uo (levR c R m) (fun a => a.ev vs env) lg env h fun l' v h => Env.setC i j v (fun env => opsD l (levR c R m) (v :: vs) (l' :: lg) env h) env) c1) ((g.ev vs env).gd b) : CR) = _
  rw [hg]; exact ev m hm R hR
end
end
end Go.Eng
namespace Go.Eng
noncomputable section

/-! ### slices of one's own that are written into -/
abbrev Fact.cel (b r : Nat) (rows : List (List V)) : Fact := .obj b fun o => ∃ t, o = .cells r b 0 (rows.length * r) t ∧ 0 < r ∧ ∀ i row, rows[i]? = some row → T.get i t = some row ∧ row.length = r
theorem St.obj_at {fs : List Fact} {h : Heap} (s : St fs h) (k : Nat) {b : Nat} {P : Obj → Prop} (hk : fs[k]? = some (.obj b P)) : ∃ o, T.get b h.t = some o ∧ P o := by
  obtain ⟨Z, s⟩ := s
  exact (s.all (.obj b P) (List.mem_of_getElem? hk)).1
theorem cel_rows {h : Heap} {b r : Nat} {rows : List (List V)} {o : Obj} {cap : Option Nat} (ho : T.get b h.t = some o) (hp : ∃ t, o = .cells r b 0 (rows.length * r) t ∧ 0 < r ∧ ∀ i row, rows[i]? = some row → T.get i t = some row ∧ row.length = r) : Rows r h (.sl b 0 rows.length cap) rows := by
  obtain ⟨t, rfl, hr, hrow⟩ := hp
  exact .row hr ho (Nat.zero_mod r) (fun i row hi => by rw [Nat.zero_div, Nat.zero_add]; exact (hrow i row hi).1) (by omega) (fun row hm => by
    obtain ⟨i, hi⟩ := List.mem_iff_getElem?.1 hm
    exact (hrow i row hi).2)
theorem St.celRows {fs : List Fact} {h : Heap} (s : St fs h) (k : Nat) {b r : Nat} {rows : List (List V)} {cap : Option Nat} (hk : fs[k]? = some (.cel b r rows)) : Rows r h (.sl b 0 rows.length cap) rows := by
  obtain ⟨o, ho, hp⟩ := s.obj_at k hk
  exact cel_rows ho hp
/-- a new one -/
theorem St.cel {fs : List Fact} {h : Heap} (s : St fs h) {r : Nat} {rows : List (List V)} {t : T (List V)} (hr : 0 < r) (ht : ∀ i row, rows[i]? = some row → T.get i t = some row ∧ row.length = r) : St (.cel h.next r rows :: fs) (h.add (.cells r h.next 0 (rows.length * r) t)) :=
  s.new _ rfl rfl fun hn _ => ⟨⟨_, get_add_new .., t, rfl, hr, ht⟩, hn⟩
/-- it is written no more -/
theorem St.still {fs : List Fact} {h : Heap} {b : Nat} {P : Obj → Prop} {Q : Heap → Prop} (s : St (.obj b P :: fs) h) (hq : ∀ h' o, T.get b h'.t = some o → P o → Q h') : St (.stb Q :: fs) h := by
  obtain ⟨Z, s⟩ := s
  have hx := s.all (.obj b P) (by simp)
  obtain ⟨⟨o, ho, hp⟩, _⟩ := hx
  have hbo : b ∉ owns fs := by
    have := s.nb; rw [owns_cons] at this
    exact (List.nodup_cons.1 this).1
  refine ⟨fun k => Z k ∨ k = b, s.wf, fun k hk => ?_, fun k hk => ⟨fun hz => ?_, (s.oz k (by rw [owns_cons]; exact List.mem_append_right _ hk)).2⟩, ?_, s.nf, fun k hk hf => s.nd k (by rw [owns_cons]; exact List.mem_append_right _ hk) hf, fun x hx => ?_⟩
  · rcases hk with hk | rfl
    · exact s.z k hk
    · rw [ho]; simp
  · have hk : k ∈ owns fs := hk
    rcases hz with hz | rfl
    · exact (s.oz k (by rw [owns_cons]; exact List.mem_append_right _ hk)).1 hz
    · exact hbo hk
  · have := s.nb; rw [owns_cons] at this
    exact (List.nodup_cons.1 this).2
  · rcases List.mem_cons.1 hx with rfl | hx
    · exact fun h' hz => hq h' o ((hz b (.inr rfl)).trans ho) hp
    · exact Fact.stay (s.all x (by simp [hx])) (fun k hk => ⟨.inl hk, rfl⟩) (fun _ _ => rfl) (fun _ _ => rfl) fun _ _ => rfl
theorem St.celStill {fs : List Fact} {h : Heap} {b r : Nat} {rows : List (List V)} (s : St (.cel b r rows :: fs) h) (cap : Option Nat) : St (.stb (fun h => Rows r h (.sl b 0 rows.length cap) rows) :: fs) h :=
  St.still s fun h' o ho hp => cel_rows ho hp
/-! ### many facts of one kind, ahead of others -/
theorem St.at_ {l fs : List Fact} {h : Heap} (s : St (l ++ fs) h) {i : Nat} {x : Fact} (hi : l[i]? = some x) : St (x :: (l.eraseIdx i ++ fs)) h :=
  s.perm (((perm_pick l i x hi).append_right fs))
theorem St.back {l fs : List Fact} {h : Heap} {i : Nat} {x y : Fact} (s : St (y :: (l.eraseIdx i ++ fs)) h) (hi : l[i]? = some x) : St (l.set i y ++ fs) h :=
  s.perm ((perm_set l i x y hi).append_right fs)
theorem St.out {x : Fact} {l fs : List Fact} {h : Heap} (s : St (l ++ x :: fs) h) : St (x :: (l ++ fs)) h := s.perm List.perm_middle
theorem St.in_ {x : Fact} {l fs : List Fact} {h : Heap} (s : St (x :: (l ++ fs)) h) : St (l ++ x :: fs) h := s.perm List.perm_middle.symm
theorem St.snoc {x : Fact} {l fs : List Fact} {h : Heap} (s : St (x :: (l ++ fs)) h) : St ((l ++ [x]) ++ fs) h := by
  rw [List.append_assoc]; exact s.in_

/-! ### stores -/
theorem storeC_cel {R : Type} {h : Heap} {b n i : Nat} {t : T (List V)} {v : V} {d : R} {k : Heap → R} (h8 : 8 ≤ b) (hb : T.get b h.t = some (.cells 1 b 0 (n * 1) t)) (hf : T.get b h.fams = none) (hi : i < n) :
    h.storeC b (0 + i * 1) 1 [v] d k = k (h.put b (.cells 1 b 0 (n * 1) (T.set i [v] t))) := by
  unfold Heap.storeC
  rw [show b.blt 8 = false by rw [nblt]; simpa using h8, show h.obj b = _ from hb]
  show (bif (Nat.add (0 + i * 1) 1).ble (n * 1) then over d 1 (0 + i * 1) 1 [v] t (fun rows => h.killC b _ _ b fun h => h.putC b (.cells 1 b 0 (n * 1) rows) k) else d) = _
  have e1 : (Nat.add (0 + i * 1) 1).ble (n * 1) = true := by rw [nble]; simp; omega
  rw [e1, cond_true]
  unfold over
  have e2 : ((1 : Nat).beq 1 && ((0 + i * 1).mod 1).beq 0) = true := by
    have : (0 + i * 1).mod 1 = 0 := Nat.mod_one _
    rw [this]; rfl
  rw [e2, cond_true, forceL_eq]
  have e3 : (0 + i * 1).div 1 = i := by show (0 + i * 1) / 1 = i; omega
  rw [e3, T.setC_eq]
  unfold Heap.killC
  rw [hf]
  show h.putC b (.cells 1 b 0 (n * 1) (T.set i [v] t)) k = _
  rw [putC_eq']
theorem L.storeC_ok {call : CallT} {ev : Ev} {h : Heap} {x y : A} {b n i : Nat} {t : T (List V)} {v : V} (hx : ev x = .ptr b (0 + i * 1)) (hy : (ev y).asCells = some [v]) (h8 : 8 ≤ b) (hb : T.get b h.t = some (.cells 1 b 0 (n * 1) t)) (hf : T.get b h.fams = none) (hi : i < n) :
    heavy (.store 1 x y) call ev h = .ok un (h.put b (.cells 1 b 0 (n * 1) (T.set i [v] t))) := by
  show (Option.rec .bad (fun p => Option.rec .bad (fun l => Bool.rec .bad (h.storeC p.1 p.2 1 l .bad fun h => .ok un h) ((lenV l).beq 1)) (ev y).asCells) (ev x).asPtr : OR) = _
  rw [hx, hy]
  show h.storeC b (0 + i * 1) 1 [v] .bad (fun h => OR.ok un h) = _
  rw [storeC_cel h8 hb hf hi]
theorem St.putCel {fs : List Fact} {h : Heap} {b i : Nat} {rows : List (List V)} {v : V} (s : St (.cel b 1 rows :: fs) h) (hi : i < rows.length) :
    ∃ t, 8 ≤ b ∧ T.get b h.t = some (.cells 1 b 0 (rows.length * 1) t) ∧ T.get b h.fams = none ∧ St (.cel b 1 (rows.set i [v]) :: fs) (h.put b (.cells 1 b 0 (rows.length * 1) (T.set i [v] t))) := by
  have s0 := s
  obtain ⟨Z, s⟩ := s
  obtain ⟨⟨o, ho, t, rfl, hr, ht⟩, hn⟩ := s.all (.cel b 1 rows) (by simp)
  refine ⟨t, s0.obj_ge 0 rfl, ho, hn, s0.put1 rfl rfl rfl rfl fun Z hx => ⟨⟨_, get_put_same .., T.set i [v] t, by rw [List.length_set], hr, fun j row hj => ?_⟩, hx.2⟩⟩
  rw [List.getElem?_set] at hj
  rw [T.get_set (Nat.zero_le _) (Nat.zero_le _)]
  by_cases e : i = j
  · subst e
    rw [if_pos rfl, if_pos hi] at hj
    cases hj
    rw [if_pos rfl]; exact ⟨rfl, rfl⟩
  · rw [if_neg e] at hj
    rw [if_neg (fun h => e h.symm)]
    exact ht j row hj
end
end Go.Eng
namespace Go.Eng
noncomputable section

/-! ### a slice literal in a region whose order is drawn, told as an object -/
theorem R8.same_refl {α : Type} {p : α → α → Bool} (hp : ∀ x, p x x = true) (s : R8 α) : R8.same p s s = true := by
  unfold R8.same
  simp [hp]
theorem rowSame_refl (x : Option (List V)) : rowSame x x = true := by
  cases x with
  | none => rfl
  | some l => exact V.sames_refl l
theorem T.same_refl {t : T (List V)} (hy : t.y = none) (hz : t.z = .mt) : T.same t t = true := by
  unfold T.same
  rw [R8.same_refl (R8.same_refl (R8.same_refl rowSame_refl)), hy, hz]; rfl
/-- the literal's object -/
def litO (b r n : Nat) (rows : List (List V)) : Obj := .cells r b 0 (Nat.mul n r) (setRowsP r n 0 rows.flatten T.e)
theorem still_lit {fs : List Fact} {h : Heap} (s : St fs h) (k : Nat) {b r n : Nat} {rows : List (List V)} (hk : fs[k]? = some (.obj b fun o => o = litO b r n rows)) (hy : (setRowsP r n 0 rows.flatten (T.e : T (List V))).y = none) (hz : (setRowsP r n 0 rows.flatten (T.e : T (List V))).z = .mt) :
    still h (.nw b (litO b r n rows)) = true := by
  obtain ⟨Z, s⟩ := s
  obtain ⟨⟨o, ho, rfl⟩, hn⟩ := s.all _ (List.mem_of_getElem? hk)
  show (match T.get b h.t, T.get b h.fams with
    | some o, none => Obj.same (litO b r n rows) o
    | _, _ => false) = true
  rw [ho, hn]
  show (r.beq r && (b.beq b && ((0 : Nat).beq 0 && ((Nat.mul n r).beq (Nat.mul n r) && T.same _ _)))) = true
  rw [T.same_refl hy hz]
  simp
theorem St.lit_rows {fs : List Fact} {h : Heap} (s : St fs h) (k : Nat) {b r n : Nat} {rows : List (List V)} (hk : fs[k]? = some (.obj b fun o => o = litO b r n rows)) (hr : 0 < r) (hn : rows.length = n) (hl : ∀ row ∈ rows, row.length = r) : Rows r h (.sl b 0 n (some n)) rows := by
  obtain ⟨Z, s⟩ := s
  obtain ⟨⟨o, ho, rfl⟩, _⟩ := s.all _ (List.mem_of_getElem? hk)
  exact rows_new hr hn hl ho
section
variable {c : Ctx} {h : Heap} {fs : List Fact} {Q : QT} {l : List Opd} {vs : List V} {lg : List Log} {env : Env} {uo : List Nat}
theorem WD.bslO {r n : Nat} {zero : List V} {ps : List (Nat × Nat × A)} {rows : List (List V)} (st : St fs h) (hf : fill ps (fun a => a.ev vs env) (rep n zero) = some rows.flatten) (hr : 0 < r)
    (K : ∀ b h1, St (.obj b (fun o => o = litO b r n rows) :: fs) h1 → WD c l Q (.sl b 0 n (some n) :: vs) (.nw b (litO b r n rows) :: lg) env h1) : WD c (⟨.p (.L (.bsl r n zero ps)), uo⟩ :: l) Q vs lg env h :=
  WD.new (L.bsl hf) (okSize_cl hr) (K _ _ (st.new _ rfl rfl fun hn _ => ⟨⟨_, get_add_new .., rfl⟩, hn⟩))
end
end
end Go.Eng
