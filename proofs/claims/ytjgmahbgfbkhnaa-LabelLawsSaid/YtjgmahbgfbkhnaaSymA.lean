/- Part of a proof of a law, by an evaluator that the machine follows: rules, contracts of functions, what they come to. No condition of its own. -/
import Derived.Test.YtjgmahbgfbkhnaaEngD
set_option linter.unusedVariables false
set_option linter.unusedSimpArgs false
namespace Go.Eng
noncomputable section

/-! ### the evaluator, without a bound on rounds and depth: for proofs -/
def Runs (c : Ctx) (f : Nat) (as : List V) (h : Heap) (r : OR) : Prop := ∃ N, ∀ m, N ≤ m → ∀ R, N ≤ R → (levR c R m f as .none h).1 = r
def EvC (c : Ctx) (e : C) (env : Env) (h : Heap) (x : X) (env' : Env) (h' : Heap) : Prop := ∃ N, ∀ m, N ≤ m → ∀ R, N ≤ R → code e (levR c R m) R env h = .ok x env' h'
def EvO (c : Ctx) (l : List Opr) (vs : List V) (env : Env) (h : Heap) (x : X) (env' : Env) (h' : Heap) : Prop := ∃ N, ∀ m, N ≤ m → ∀ R, N ≤ R → opsN l (levR c R m) vs env h = .ok x env' h'
def EvD (c : Ctx) (l : List Opd) (vs : List V) (lg : List Log) (env : Env) (h : Heap) (x : X) (env' : Env) (h' : Heap) : Prop := ∃ N, ∀ m, N ≤ m → ∀ R, N ≤ R → opsD l (levR c R m) vs lg env h = .ok x env' h'

abbrev QT := X → Env → Heap → Prop
def WP (c : Ctx) (e : C) (Q : QT) (env : Env) (h : Heap) : Prop := ∃ x env' h', EvC c e env h x env' h' ∧ Q x env' h'
def WO (c : Ctx) (l : List Opr) (Q : QT) (vs : List V) (env : Env) (h : Heap) : Prop := ∃ x env' h', EvO c l vs env h x env' h' ∧ Q x env' h'
def WD (c : Ctx) (l : List Opd) (Q : QT) (vs : List V) (lg : List Log) (env : Env) (h : Heap) : Prop := ∃ x env' h', EvD c l vs lg env h x env' h' ∧ Q x env' h'
def QT.seq (c : Ctx) (b : C) (Q : QT) : QT := fun x e h => match x with
  | .nrm => WP c b Q e h
  | x => Q x e h
def QT.block (id : Nat) (Q : QT) : QT := fun x e h => match x with
  | .exit i => if i = id then Q .nrm e h else Q (.exit i) e h
  | x => Q x e h

section
variable {c : Ctx} {Q : QT} {env : Env} {h : Heap}
theorem WP.mono {e : C} {Q' : QT} (w : WP c e Q env h) (hq : ∀ x e h, Q x e h → Q' x e h) : WP c e Q' env h :=
  let ⟨x, e', h', ev, q⟩ := w; ⟨x, e', h', ev, hq _ _ _ q⟩
theorem WP.skip (q : Q .nrm env h) : WP c .skip Q env h := ⟨_, _, _, ⟨0, fun _ _ _ _ => rfl⟩, q⟩
theorem WP.ret (q : Q .ret env h) : WP c .ret Q env h := ⟨_, _, _, ⟨0, fun _ _ _ _ => rfl⟩, q⟩
theorem WP.exit {id : Nat} (q : Q (.exit id) env h) : WP c (.exit id) Q env h := ⟨_, _, _, ⟨0, fun _ _ _ _ => rfl⟩, q⟩
theorem WP.seq {a b : C} (w : WP c a (Q.seq c b) env h) : WP c (.seq a b) Q env h := by
  obtain ⟨x, e1, h1, ⟨N, ev⟩, q⟩ := w
  cases x with
  | nrm =>
    obtain ⟨x2, e2, h2, ⟨N2, ev2⟩, q2⟩ := q
    refine ⟨x2, e2, h2, ⟨max N N2, fun m hm R hR => ?_⟩, q2⟩
    show (CR.rec (fun x env h => X.rec (code b (levR c R m) R env h) (.ok .ret env h) (fun i => .ok (.exit i) env h) (fun v => .ok (.pan v) env h) x) .bad (code a (levR c R m) R env h) : CR) = _
    rw [ev m (by omega) R (by omega)]
    exact ev2 m (by omega) R (by omega)
  | ret => exact ⟨_, _, _, ⟨N, fun m hm R hR => by
      show (CR.rec (fun x env h => X.rec (code b (levR c R m) R env h) (.ok .ret env h) (fun i => .ok (.exit i) env h) (fun v => .ok (.pan v) env h) x) .bad (code a (levR c R m) R env h) : CR) = _
      rw [ev m hm R hR]⟩, q⟩
  | exit i => exact ⟨_, _, _, ⟨N, fun m hm R hR => by
      show (CR.rec (fun x env h => X.rec (code b (levR c R m) R env h) (.ok .ret env h) (fun i => .ok (.exit i) env h) (fun v => .ok (.pan v) env h) x) .bad (code a (levR c R m) R env h) : CR) = _
      rw [ev m hm R hR]⟩, q⟩
  | pan v => exact ⟨_, _, _, ⟨N, fun m hm R hR => by
      show (CR.rec (fun x env h => X.rec (code b (levR c R m) R env h) (.ok .ret env h) (fun i => .ok (.exit i) env h) (fun v => .ok (.pan v) env h) x) .bad (code a (levR c R m) R env h) : CR) = _
      rw [ev m hm R hR]⟩, q⟩
theorem WP.cond {x : A} {a b : C} {t : Bool} (hx : (x.ev [] env).asBool = some t) (w : WP c (if t then a else b) Q env h) : WP c (.cond x a b) Q env h := by
  obtain ⟨y, e1, h1, ⟨N, ev⟩, q⟩ := w
  refine ⟨y, e1, h1, ⟨N, fun m hm R hR => ?_⟩, q⟩
  show (Option.rec .bad (fun t => Bool.rec (code b (levR c R m) R env h) (code a (levR c R m) R env h) t) (x.ev [] env).asBool : CR) = _
  rw [hx]
  have := ev m hm R hR
  cases t <;> exact this
theorem WP.block {id : Nat} {a : C} (w : WP c a (Q.block id) env h) : WP c (.block id a) Q env h := by
  obtain ⟨y, e1, h1, ⟨N, ev⟩, q⟩ := w
  have key : ∀ m, N ≤ m → ∀ R, N ≤ R → code (.block id a) (levR c R m) R env h = (CR.rec (fun x env h => X.rec (.ok .nrm env h) (.ok .ret env h) (fun i => .ok (Bool.rec (.exit i) .nrm (i.beq id)) env h) (fun v => .ok (.pan v) env h) x) .bad (CR.ok y e1 h1) : CR) := fun m hm R hR => by rw [← ev m hm R hR]; rfl
  cases y with
  | nrm => exact ⟨_, _, _, ⟨N, key⟩, q⟩
  | ret => exact ⟨_, _, _, ⟨N, key⟩, q⟩
  | pan v => exact ⟨_, _, _, ⟨N, key⟩, q⟩
  | exit i =>
    by_cases hi : i = id
    · subst hi
      have q : Q .nrm e1 h1 := by have q : (if i = i then Q .nrm e1 h1 else Q (.exit i) e1 h1) := q; rwa [if_pos rfl] at q
      refine ⟨.nrm, e1, h1, ⟨N, fun m hm R hR => ?_⟩, q⟩
      rw [key m hm R hR]
      show CR.ok (Bool.rec (.exit i) .nrm (i.beq i)) e1 h1 = _
      rw [Nat.beq_refl]
    · have q : Q (.exit i) e1 h1 := by have q : (if i = id then Q .nrm e1 h1 else Q (.exit i) e1 h1) := q; rwa [if_neg hi] at q
      refine ⟨.exit i, e1, h1, ⟨N, fun m hm R hR => ?_⟩, q⟩
      rw [key m hm R hR]
      show CR.ok (Bool.rec (.exit i) .nrm (i.beq id)) e1 h1 = _
      have : i.beq id = false := by
        cases hb : i.beq id with
        | false => rfl
        | true => exact absurd (Nat.eq_of_beq_eq_true hb) hi
      rw [this]
theorem WP.reg {acts : Nat} {l : List Opr} (w : WO c l Q [] env h) : WP c (.reg acts l) Q env h := w
theorem WP.draw {pm : List Nat} {l : List Opd} (w : WD c l Q [] [] env h) : WP c (.draw pm l) Q env h := w

/-! ### operations -/
theorem WO.nil {vs : List V} (q : Q .nrm env h) : WO c [] Q vs env h := ⟨_, _, _, ⟨0, fun _ _ _ _ => rfl⟩, q⟩
theorem WO.val {o : OpL} {l : List Opr} {vs : List V} {v : V} (hl : light o (fun a => a.ev vs env) h = .val v) (w : WO c l Q (v :: vs) env h) : WO c (.p (.L o) :: l) Q vs env h := by
  obtain ⟨x, e1, h1, ⟨N, ev⟩, q⟩ := w
  refine ⟨x, e1, h1, ⟨N, fun m hm R hR => ?_⟩, q⟩
  show ((light o (fun a => a.ev vs env) h).k h fun v h => opsN l (levR c R m) (v :: vs) env h) = _
  rw [hl]
  show v.force (fun v => opsN l (levR c R m) (v :: vs) env h) = _
  rw [V.force_eq]; exact ev m hm R hR
theorem WO.valS {i j : D8} {o : OpL} {l : List Opr} {vs : List V} {v : V} (hl : light o (fun a => a.ev vs env) h = .val v) (w : WO c l Q (v :: vs) (Env.set i j v env) h) : WO c (.s i j (.L o) :: l) Q vs env h := by
  obtain ⟨x, e1, h1, ⟨N, ev⟩, q⟩ := w
  refine ⟨x, e1, h1, ⟨N, fun m hm R hR => ?_⟩, q⟩
  show ((light o (fun a => a.ev vs env) h).k h fun v h => Env.setC i j v (fun env => opsN l (levR c R m) (v :: vs) env h) env) = _
  rw [hl]
  show v.force (fun v => Env.setC i j v (fun env => opsN l (levR c R m) (v :: vs) env h) env) = _
  rw [V.force_eq, Env.setC_eq]; exact ev m hm R hR
theorem WO.new {o : OpL} {l : List Opr} {vs : List V} {v : V} {ob : Obj} (hl : light o (fun a => a.ev vs env) h = .new ob v) (hs : okSize ob = true) (w : WO c l Q (v :: vs) env (h.add ob)) : WO c (.p (.L o) :: l) Q vs env h := by
  obtain ⟨x, e1, h1, ⟨N, ev⟩, q⟩ := w
  refine ⟨x, e1, h1, ⟨N, fun m hm R hR => ?_⟩, q⟩
  show ((light o (fun a => a.ev vs env) h).k h fun v h => opsN l (levR c R m) (v :: vs) env h) = _
  rw [hl]
  show (Bool.rec .bad (h.newC ob fun h => opsN l (levR c R m) (v :: vs) env h) (okSize ob) : CR) = _
  rw [hs, newC_eq]; exact ev m hm R hR
theorem WO.newS {i j : D8} {o : OpL} {l : List Opr} {vs : List V} {v : V} {ob : Obj} (hl : light o (fun a => a.ev vs env) h = .new ob v) (hs : okSize ob = true) (w : WO c l Q (v :: vs) (Env.set i j v env) (h.add ob)) : WO c (.s i j (.L o) :: l) Q vs env h := by
  obtain ⟨x, e1, h1, ⟨N, ev⟩, q⟩ := w
  refine ⟨x, e1, h1, ⟨N, fun m hm R hR => ?_⟩, q⟩
  show ((light o (fun a => a.ev vs env) h).k h fun v h => Env.setC i j v (fun env => opsN l (levR c R m) (v :: vs) env h) env) = _
  rw [hl]
  show (Bool.rec .bad (h.newC ob fun h => Env.setC i j v (fun env => opsN l (levR c R m) (v :: vs) env h) env) (okSize ob) : CR) = _
  rw [hs, newC_eq, Env.setC_eq]; exact ev m hm R hR
theorem WO.act {o : OpH} {l : List Opr} {vs : List V} {v : V} {h2 : Heap} (hl : ∀ call, heavy o call (fun a => a.ev vs env) h = .ok v h2) (w : WO c l Q (v :: vs) env h2) : WO c (.p (.H o) :: l) Q vs env h := by
  obtain ⟨x, e1, h1, ⟨N, ev⟩, q⟩ := w
  refine ⟨x, e1, h1, ⟨N, fun m hm R hR => ?_⟩, q⟩
  show ((heavy o (levR c R m) (fun a => a.ev vs env) h).k env fun v h => opsN l (levR c R m) (v :: vs) env h) = _
  rw [hl]
  show v.force (fun v => opsN l (levR c R m) (v :: vs) env h2) = _
  rw [V.force_eq]; exact ev m hm R hR
theorem WO.actS {i j : D8} {o : OpH} {l : List Opr} {vs : List V} {v : V} {h2 : Heap} (hl : ∀ call, heavy o call (fun a => a.ev vs env) h = .ok v h2) (w : WO c l Q (v :: vs) (Env.set i j v env) h2) : WO c (.s i j (.H o) :: l) Q vs env h := by
  obtain ⟨x, e1, h1, ⟨N, ev⟩, q⟩ := w
  refine ⟨x, e1, h1, ⟨N, fun m hm R hR => ?_⟩, q⟩
  show ((heavy o (levR c R m) (fun a => a.ev vs env) h).k env fun v h => Env.setC i j v (fun env => opsN l (levR c R m) (v :: vs) env h) env) = _
  rw [hl]
  show v.force (fun v => Env.setC i j v (fun env => opsN l (levR c R m) (v :: vs) env h2) env) = _
  rw [V.force_eq, Env.setC_eq]; exact ev m hm R hR
theorem ofC_eq (h : Heap) (r : OR) : ofC h r = r := by cases r <;> rfl
theorem WO.call {f : Nat} {as : List A} {l : List Opr} {vs : List V} {v : V} {h2 : Heap} (hl : Runs c f (evs as fun a => a.ev vs env) h (.ok v h2)) (w : WO c l Q (v :: vs) env h2) : WO c (.p (.H (.call f as)) :: l) Q vs env h := by
  obtain ⟨x, e1, h1, ⟨N, ev⟩, q⟩ := w
  obtain ⟨N2, hl⟩ := hl
  refine ⟨x, e1, h1, ⟨max N N2, fun m hm R hR => ?_⟩, q⟩
  show ((ofC h (levR c R m f (evs as fun a => a.ev vs env) .none h).1).k env fun v h => opsN l (levR c R m) (v :: vs) env h) = _
  rw [ofC_eq, hl m (by omega) R (by omega)]
  show v.force (fun v => opsN l (levR c R m) (v :: vs) env h2) = _
  rw [V.force_eq]; exact ev m (by omega) R (by omega)
theorem WO.callS {i j : D8} {f : Nat} {as : List A} {l : List Opr} {vs : List V} {v : V} {h2 : Heap} (hl : Runs c f (evs as fun a => a.ev vs env) h (.ok v h2)) (w : WO c l Q (v :: vs) (Env.set i j v env) h2) : WO c (.s i j (.H (.call f as)) :: l) Q vs env h := by
  obtain ⟨x, e1, h1, ⟨N, ev⟩, q⟩ := w
  obtain ⟨N2, hl⟩ := hl
  refine ⟨x, e1, h1, ⟨max N N2, fun m hm R hR => ?_⟩, q⟩
  show ((ofC h (levR c R m f (evs as fun a => a.ev vs env) .none h).1).k env fun v h => Env.setC i j v (fun env => opsN l (levR c R m) (v :: vs) env h) env) = _
  rw [ofC_eq, hl m (by omega) R (by omega)]
  show v.force (fun v => Env.setC i j v (fun env => opsN l (levR c R m) (v :: vs) env h2) env) = _
  rw [V.force_eq, Env.setC_eq]; exact ev m (by omega) R (by omega)
theorem Runs.fun_ {f : Nat} {F : Fun} {as : List V} {r : OR} (hF : T.get f c.funs = some F) (hn : as.length = F.np) (w : WP c F.body (fun x e h' => match x with
    | .nrm => ∃ vs, results e h' F.results = some vs ∧ r = .ok (one vs) h'
    | .ret => ∃ vs, results e h' F.results = some vs ∧ r = .ok (one vs) h'
    | .pan v => r = .pan v h'
    | .exit _ => False) (argsP as 0 Env.nil) h) : Runs c f as h r := by
  obtain ⟨x, e1, h1, ⟨N, ev⟩, q⟩ := w
  refine ⟨N + 1, fun m hm R hR => ?_⟩
  obtain ⟨m', rfl⟩ : ∃ m', m = m' + 1 := ⟨m - 1, by omega⟩
  show (Option.rec (c.sums (levR c R m') f as h) (fun fn => runFunR fn R (levR c R m') as h) (T.get f c.funs) : OR) = r
  rw [hF]
  show runFunR F R (levR c R m') as h = r
  unfold runFunR
  have hl : (lenV as).beq F.np = true := by rw [lenV_eq, hn]; exact Nat.beq_refl _
  rw [hl]
  show endCall F.results (args as 0 Env.nil fun env => code F.body (levR c R m') R env h) = r
  rw [args_eq, ev m' (by omega) R (by omega)]
  have fin : ∀ vs, results e1 h1 F.results = some vs → finish F.results e1 h1 = .ok (one vs) h1 := fun vs hv => by unfold finish; rw [hv]
  cases x with
  | nrm => obtain ⟨vs, hv, hr⟩ := q; rw [hr]; exact fin vs hv
  | ret => obtain ⟨vs, hv, hr⟩ := q; rw [hr]; exact fin vs hv
  | pan v => exact q.symm
  | exit i => exact q.elim
end
end
end Go.Eng
namespace Go.Eng
noncomputable section

/-! ### memory, for proofs -/
structure Wf (h : Heap) : Prop where
  t : ∀ b, T.get b h.t ≠ none → b < h.next
  f : ∀ b, T.get b h.fams ≠ none → b < h.next
  lim : 8 ≤ h.next
structure Same (B : Nat) (h h' : Heap) : Prop where
  next : h.next ≤ h'.next
  t : ∀ b, b < B → T.get b h'.t = T.get b h.t
  f : ∀ b, b < B → T.get b h'.fams = T.get b h.fams
  wf : Wf h → Wf h'
theorem get_add (h : Heap) (ob : Obj) (b : Nat) : T.get b (h.add ob).t = if b = h.next then some ob else T.get b h.t :=
  T.get_set (Nat.zero_le _) (Nat.zero_le _) ..
theorem get_add_new (h : Heap) (ob : Obj) : T.get h.next (h.add ob).t = some ob := by rw [get_add, if_pos rfl]
theorem get_add_old {h : Heap} {ob : Obj} {b : Nat} (hb : b < h.next) : T.get b (h.add ob).t = T.get b h.t := by rw [get_add, if_neg (by omega)]
/-! ### accumulators: a slice that is appended to -/
inductive Acc (B r : Nat) (h : Heap) : V → List (List V) → Prop
  | nil : Acc B r h .slN []
  | row {b f ap : Nat} {t : T (List V)} {rows : List (List V)} (h8 : 8 ≤ b) (hn : 0 < rows.length) (hb : B ≤ b) (hf : B ≤ f) (hfb : f ≤ b) (hob : T.get b h.t = some (.cells r f ap (rows.length * r) t))
      (hrow : ∀ i row, rows[i]? = some row → T.get i t = some row) (hfam : ∀ F, T.get f h.fams = some F → F.last ≤ ap + rows.length * r) (hlen : ∀ row ∈ rows, row.length = r) :
      Acc B r h (.sl b 0 rows.length none) rows
end
end Go.Eng
namespace Go.Eng
noncomputable section

/-! ### slices that can be read -/
inductive Rows (r : Nat) (h : Heap) : V → List (List V) → Prop
  | nil : Rows r h .slN []
  | row {b o f ap sz : Nat} {cap : Option Nat} {t : T (List V)} {rows : List (List V)} (hr : 0 < r) (hob : T.get b h.t = some (.cells r f ap sz t)) (ho : o % r = 0)
      (hrow : ∀ i row, rows[i]? = some row → T.get (o / r + i) t = some row) (hsz : o + rows.length * r ≤ sz) (hlen : ∀ row ∈ rows, row.length = r) : Rows r h (.sl b o rows.length cap) rows
theorem off_div {r o i : Nat} (hr : 0 < r) (ho : o % r = 0) : (o + i * r) / r = o / r + i := by
  rw [Nat.add_mul_div_right _ _ hr]
theorem off_mod {r o i : Nat} (ho : o % r = 0) : (o + i * r) % r = 0 := by rw [Nat.add_mul_mod_self_right]; exact ho
theorem Rows.loadn {r b o n i : Nat} {cap : Option Nat} {h : Heap} {rows : List (List V)} {row : List V} (a : Rows r h (.sl b o n cap) rows) (hi : rows[i]? = some row) : h.load b (o + i * r) r = some row := by
  cases a with
  | row hr hob ho hrow hsz hlen =>
    rename_i f ap sz t
    have hlt : i < rows.length := (List.getElem?_eq_some_iff.1 hi).1
    have hle : (i + 1) * r ≤ rows.length * r := Nat.mul_le_mul_right r hlt
    unfold Heap.load
    have h0 : r.beq 0 = false := by
      cases hb : r.beq 0 with
      | false => rfl
      | true => have := Nat.eq_of_beq_eq_true hb; omega
    rw [h0, cond_false, show h.obj b = _ from hob]
    show (bif (Nat.add (o + i * r) r).ble sz then cut r (o + i * r) r t else none) = _
    have h1 : (Nat.add (o + i * r) r).ble sz = true := by
      rw [nble]
      have : o + i * r + r ≤ sz := Nat.le_trans (by rw [Nat.add_mul, Nat.one_mul] at hle; omega) hsz
      simpa using this
    rw [h1, cond_true]
    unfold cut
    have h2 : (r.beq r && ((o + i * r).mod r).beq 0) = true := by
      have : (o + i * r).mod r = 0 := off_mod ho
      rw [this, Nat.beq_refl]; rfl
    rw [h2, cond_true]
    have : (o + i * r).div r = o / r + i := off_div hr ho
    rw [this]; exact hrow i row hi
theorem Rows.load1 {b o n i : Nat} {cap : Option Nat} {h : Heap} {rows : List (List V)} {x : V} (a : Rows 1 h (.sl b o n cap) rows) (hi : rows[i]? = some [x]) : h.load1 b (o + i * 1) = some x := by
  cases a with
  | row hr hob ho hrow hsz hlen =>
    rename_i f ap sz t
    have hlt : i < rows.length := (List.getElem?_eq_some_iff.1 hi).1
    unfold Heap.load1
    rw [show h.obj b = _ from hob]
    show (Bool.rec none (load1R 1 (o + i * 1) t) ((o + i * 1).blt sz) : Option V) = _
    have h1 : (o + i * 1).blt sz = true := by rw [nblt]; simp; omega
    rw [h1]
    show load1R 1 (o + i * 1) t = _
    unfold load1R
    have h2 : (o + i * 1).div 1 = o / 1 + i := off_div (by omega) ho
    have h3 : (o + i * 1).mod 1 = 0 := Nat.mod_one _
    rw [h2, h3, hrow i [x] hi]
    rfl
theorem Rows.len {r : Nat} {h : Heap} {v : V} {rows : List (List V)} (a : Rows r h v rows) : (v = .slN ∧ rows = []) ∨ ∃ b o cap, v = .sl b o rows.length cap := by
  cases a with
  | nil => exact .inl ⟨rfl, rfl⟩
  | row => exact .inr ⟨_, _, _, rfl⟩
end
end Go.Eng
namespace Go.Eng
noncomputable section

mutual
theorem V.same_refl : ∀ v : V, V.same v v = true
  | .bot => rfl
  | .bool b => by simp [V.same]
  | .int k n => by simp [V.same]
  | .str n x => by
    show (Bool.rec false (x.beq x) (n.beq n) : Bool) = true
    rw [Nat.beq_refl n]; exact Nat.beq_refl x
  | .ptrN => rfl
  | .ptr a o => by show (a.beq a && o.beq o) = true; rw [Nat.beq_refl, Nat.beq_refl]; rfl
  | .slN => rfl
  | .sl a o n c => by show (a.beq a && (o.beq o && (n.beq n && c == c))) = true; rw [Nat.beq_refl, Nat.beq_refl, Nat.beq_refl]; simp
  | .mapN => rfl
  | .map a => Nat.beq_refl a
  | .fn f a b => by show (f.beq f && (V.sames a a && V.sames b b)) = true; rw [Nat.beq_refl, V.sames_refl a, V.sames_refl b]; rfl
  | .fnN => rfl
  | .ifc t v => by show (t.beq t && V.same v v) = true; rw [Nat.beq_refl, V.same_refl v]; rfl
  | .ifcN => rfl
  | .agg a => V.sames_refl a
  | .tup a => V.sames_refl a
theorem V.sames_refl : ∀ l : List V, V.sames l l = true
  | [] => rfl
  | a :: l => by show (V.same a a && V.sames l l) = true; rw [V.same_refl a, V.sames_refl l]; rfl
end
theorem still_rd {h : Heap} {f : Heap → LR} {v : V} (he : f h = .val v) : still h (.rd f v) = true := by
  show finds f v h = true
  unfold finds; rw [he]; exact V.same_refl v
theorem stills_nil (h : Heap) (lg : List Log) : stills [] h lg = true := rfl
theorem stills_cons {d : Nat} {uo : List Nat} {h : Heap} {lg : List Log} (h1 : still h (logAt lg d) = true) (h2 : stills uo h lg = true) : stills (d :: uo) h lg = true := by
  show (Bool.rec false (stills uo h lg) (still h (logAt lg d)) : Bool) = true
  rw [h1]; exact h2

section
variable {c : Ctx} {Q : QT} {env : Env} {h : Heap}
/-! ### operations of a drawn region -/
theorem WD.nil {vs : List V} {lg : List Log} (q : Q .nrm env h) : WD c [] Q vs lg env h := ⟨_, _, _, ⟨0, fun _ _ _ _ => rfl⟩, q⟩
theorem WD.val {o : OpL} {uo : List Nat} {l : List Opd} {vs : List V} {lg : List Log} {v : V} (hl : light o (fun a => a.ev vs env) h = .val v) (w : WD c l Q (v :: vs) (.rd (light o (fun a => a.ev vs env)) v :: lg) env h) : WD c (⟨.p (.L o), uo⟩ :: l) Q vs lg env h := by
  obtain ⟨x, e1, h1, ⟨N, ev⟩, q⟩ := w
  refine ⟨x, e1, h1, ⟨N, fun m hm R hR => ?_⟩, q⟩
  show ((light o (fun a => a.ev vs env) h).kd (light o (fun a => a.ev vs env)) h fun l' v h => opsD l (levR c R m) (v :: vs) (l' :: lg) env h) = _
  rw [hl]
  show v.force (fun v => opsD l (levR c R m) (v :: vs) (.rd (light o (fun a => a.ev vs env)) v :: lg) env h) = _
  rw [V.force_eq]; exact ev m hm R hR
theorem WD.valS {i j : D8} {o : OpL} {uo : List Nat} {l : List Opd} {vs : List V} {lg : List Log} {v : V} (hl : light o (fun a => a.ev vs env) h = .val v) (w : WD c l Q (v :: vs) (.rd (light o (fun a => a.ev vs env)) v :: lg) (Env.set i j v env) h) : WD c (⟨.s i j (.L o), uo⟩ :: l) Q vs lg env h := by
  obtain ⟨x, e1, h1, ⟨N, ev⟩, q⟩ := w
  refine ⟨x, e1, h1, ⟨N, fun m hm R hR => ?_⟩, q⟩
  show ((light o (fun a => a.ev vs env) h).kd (light o (fun a => a.ev vs env)) h fun l' v h => Env.setC i j v (fun env => opsD l (levR c R m) (v :: vs) (l' :: lg) env h) env) = _
  rw [hl]
  show v.force (fun v => Env.setC i j v (fun env => opsD l (levR c R m) (v :: vs) (.rd (light o (fun a => a.ev vs _)) v :: lg) env h) env) = _
  rw [V.force_eq, Env.setC_eq]; exact ev m hm R hR
theorem WD.new {o : OpL} {uo : List Nat} {l : List Opd} {vs : List V} {lg : List Log} {v : V} {ob : Obj} (hl : light o (fun a => a.ev vs env) h = .new ob v) (hs : okSize ob = true) (w : WD c l Q (v :: vs) (.nw h.next ob :: lg) env (h.add ob)) : WD c (⟨.p (.L o), uo⟩ :: l) Q vs lg env h := by
  obtain ⟨x, e1, h1, ⟨N, ev⟩, q⟩ := w
  refine ⟨x, e1, h1, ⟨N, fun m hm R hR => ?_⟩, q⟩
  show ((light o (fun a => a.ev vs env) h).kd (light o (fun a => a.ev vs env)) h fun l' v h => opsD l (levR c R m) (v :: vs) (l' :: lg) env h) = _
  rw [hl]
  show force h.next (fun id => newK (fun v h => opsD l (levR c R m) (v :: vs) (.nw id ob :: lg) env h) h ob v) = _
  rw [force_eq]
  show (Bool.rec .bad (h.newC ob fun h' => opsD l (levR c R m) (v :: vs) (.nw h.next ob :: lg) env h') (okSize ob) : CR) = _
  rw [hs, newC_eq]; exact ev m hm R hR
theorem WD.act {o : OpH} {uo : List Nat} {l : List Opd} {vs : List V} {lg : List Log} {v : V} {h2 : Heap} (hl : ∀ call, heavy o call (fun a => a.ev vs env) h = .ok v h2) (hs : stills uo h2 lg = true) (w : WD c l Q (v :: vs) (.no :: lg) env h2) : WD c (⟨.p (.H o), uo⟩ :: l) Q vs lg env h := by
  obtain ⟨x, e1, h1, ⟨N, ev⟩, q⟩ := w
  refine ⟨x, e1, h1, ⟨N, fun m hm R hR => ?_⟩, q⟩
  show ((heavy o (levR c R m) (fun a => a.ev vs env) h).k env fun v h' => Bool.rec .bad (opsD l (levR c R m) (v :: vs) (.no :: lg) env h') (stills uo h' lg)) = _
  rw [hl]
  show v.force (fun v => (Bool.rec .bad (opsD l (levR c R m) (v :: vs) (.no :: lg) env h2) (stills uo h2 lg) : CR)) = _
  rw [V.force_eq, hs]; exact ev m hm R hR
theorem WD.call {f : Nat} {as : List A} {uo : List Nat} {l : List Opd} {vs : List V} {lg : List Log} {v : V} {h2 : Heap} (hl : Runs c f (evs as fun a => a.ev vs env) h (.ok v h2)) (hs : stills uo h2 lg = true) (w : WD c l Q (v :: vs) (.no :: lg) env h2) : WD c (⟨.p (.H (.call f as)), uo⟩ :: l) Q vs lg env h := by
  obtain ⟨x, e1, h1, ⟨N, ev⟩, q⟩ := w
  obtain ⟨N2, hl⟩ := hl
  refine ⟨x, e1, h1, ⟨max N N2, fun m hm R hR => ?_⟩, q⟩
  show ((ofC h (levR c R m f (evs as fun a => a.ev vs env) .none h).1).k env fun v h' => Bool.rec .bad (opsD l (levR c R m) (v :: vs) (.no :: lg) env h') (stills uo h' lg)) = _
  rw [ofC_eq, hl m (by omega) R (by omega)]
  show v.force (fun v => (Bool.rec .bad (opsD l (levR c R m) (v :: vs) (.no :: lg) env h2) (stills uo h2 lg) : CR)) = _
  rw [V.force_eq, hs]; exact ev m (by omega) R (by omega)
/-! ### guards, in a region of fixed order -/
theorem WO.yes {g : A} {b : Bool} {op : Op} {l : List Opr} {vs : List V} (hg : (g.ev vs env).gd b = some true) (w : WO c (.p op :: l) Q vs env h) : WO c (.g g b op :: l) Q vs env h := by
  obtain ⟨x, e1, h1, ⟨N, ev⟩, q⟩ := w
  refine ⟨x, e1, h1, ⟨N, fun m hm R hR => ?_⟩, q⟩
  show (Option.rec .bad (fun c1 => Bool.rec (opsN l (levR c R m) (un :: vs) env h) (oP op (opsN l) (levR c R m) vs env h) c1) ((g.ev vs env).gd b) : CR) = _
  rw [hg]; exact ev m hm R hR
theorem WO.no {g : A} {b : Bool} {op : Op} {l : List Opr} {vs : List V} (hg : (g.ev vs env).gd b = some false) (w : WO c l Q (un :: vs) env h) : WO c (.g g b op :: l) Q vs env h := by
  obtain ⟨x, e1, h1, ⟨N, ev⟩, q⟩ := w
  refine ⟨x, e1, h1, ⟨N, fun m hm R hR => ?_⟩, q⟩
  show (Option.rec .bad (fun c1 => Bool.rec (opsN l (levR c R m) (un :: vs) env h) (oP op (opsN l) (levR c R m) vs env h) c1) ((g.ev vs env).gd b) : CR) = _
  rw [hg]; exact ev m hm R hR
end
end
end Go.Eng
namespace Go.Eng
noncomputable section

/-! ### frames: blocks of M and families of F may have changed; all others are as they were -/
structure Fr (M F : List Nat) (h h' : Heap) : Prop where
  next : h.next ≤ h'.next
  t : ∀ b, b < h.next → b ∉ M → T.get b h'.t = T.get b h.t
  f : ∀ b, b < h.next → b ∉ F → T.get b h'.fams = T.get b h.fams
  wf : Wf h → Wf h'
theorem Fr.add (h : Heap) (ob : Obj) : Fr [] [] h (h.add ob) := by
  refine ⟨Nat.le_succ _, fun b hb _ => get_add_old (by omega), fun _ _ _ => rfl, fun w => ⟨fun b hb => ?_, fun b hb => Nat.lt_succ_of_lt (w.f b hb), Nat.le_succ_of_le w.lim⟩⟩
  rw [get_add] at hb
  by_cases e : b = h.next
  · show b < h.next + 1; omega
  · rw [if_neg e] at hb; exact Nat.lt_succ_of_lt (w.t b hb)
def Heap.put (h : Heap) (b : Nat) (o : Obj) : Heap := ⟨T.set b o h.t, h.next, h.fams, h.ds, h.pc⟩
theorem get_put (h : Heap) (b : Nat) (o : Obj) (k : Nat) : T.get k (h.put b o).t = if k = b then some o else T.get k h.t := T.get_set (Nat.zero_le _) (Nat.zero_le _) ..
theorem get_put_same (h : Heap) (b : Nat) (o : Obj) : T.get b (h.put b o).t = some o := by rw [get_put, if_pos rfl]
theorem putC_eq' {R : Type} (h : Heap) (b : Nat) (o : Obj) (k : Heap → R) : h.putC b o k = k (h.put b o) := by
  show T.setC b o h.t (fun t => k ⟨t, h.next, h.fams, h.ds, h.pc⟩) = _
  rw [T.setC_eq]; rfl
theorem Wf.lt {h : Heap} (w : Wf h) {b : Nat} {o : Obj} (hb : T.get b h.t = some o) : b < h.next := w.t b (by rw [hb]; simp)

end
end Go.Eng
namespace Go.Eng
noncomputable section

/-! ### what an operation comes to, by the shape of its operands -/
namespace L
variable {ev : Ev} {h : Heap} {x y : A}
def In64 (n : Int) : Prop := -9223372036854775808 ≤ n ∧ n < 9223372036854775808
theorem wrap64 {n : Int} (hn : In64 n) : IntKind.wrap .i64 n = n := by
  obtain ⟨h1, h2⟩ := hn
  have e : IntKind.wrap .i64 n = if (n % 18446744073709551616 ≥ 9223372036854775808) then n % 18446744073709551616 - 18446744073709551616 else n % 18446744073709551616 := by
    unfold IntKind.wrap
    simp [IntKind.bits, IntKind.signed]
  rw [e]
  split <;> omega
theorem add {a b : Int} (hx : ev x = .int .i64 a) (hy : ev y = .int .i64 b) (hn : In64 (a + b)) : light (.bin .add x y) ev h = .val (.int .i64 (a + b)) := by
  show (ev x).onInt (fun k a => (ev y).onInt fun j b => bin1 .add k a j b) = _
  rw [hx, hy]
  show LR.of (some (wrapV .i64 (iadd a b))) = _
  rw [wrapV_eq, iadd_eq, wrap64 hn]; rfl
theorem sub {a b : Int} (hx : ev x = .int .i64 a) (hy : ev y = .int .i64 b) (hn : In64 (a - b)) : light (.bin .sub x y) ev h = .val (.int .i64 (a - b)) := by
  show (ev x).onInt (fun k a => (ev y).onInt fun j b => bin1 .sub k a j b) = _
  rw [hx, hy]
  show LR.of (some (wrapV .i64 (isub a b))) = _
  rw [wrapV_eq, isub_eq, wrap64 hn]; rfl
theorem addE {a b n : Int} (hx : ev x = .int .i64 a) (hy : ev y = .int .i64 b) (hc : a + b = n) (hn : In64 n) : light (.bin .add x y) ev h = .val (.int .i64 n) := by subst hc; exact add hx hy hn
theorem subE {a b n : Int} (hx : ev x = .int .i64 a) (hy : ev y = .int .i64 b) (hc : a - b = n) (hn : In64 n) : light (.bin .sub x y) ev h = .val (.int .i64 n) := by subst hc; exact sub hx hy hn
theorem lss {k : IntKind} {a b : Int} (hx : ev x = .int k a) (hy : ev y = .int k b) : light (.bin .lss x y) ev h = .val (.bool (decide (a < b))) := by
  show (ev x).onInt (fun k a => (ev y).onInt fun j b => bin1 .lss k a j b) = _
  rw [hx, hy]
  show (Bool.rec .bad (.of (binI .lss k a b)) (kEq k k) : LR) = _
  rw [kEq_eq, decide_eq_true rfl]
  show LR.val (.bool (ilt a b)) = _
  rw [ilt_eq]
theorem gtr {k : IntKind} {a b : Int} (hx : ev x = .int k a) (hy : ev y = .int k b) : light (.bin .gtr x y) ev h = .val (.bool (decide (b < a))) := by
  show (ev x).onInt (fun k a => (ev y).onInt fun j b => bin1 .gtr k a j b) = _
  rw [hx, hy]
  show (Bool.rec .bad (.of (binI .gtr k a b)) (kEq k k) : LR) = _
  rw [kEq_eq, decide_eq_true rfl]
  show LR.val (.bool (ilt b a)) = _
  rw [ilt_eq]
theorem geq {k : IntKind} {a b : Int} (hx : ev x = .int k a) (hy : ev y = .int k b) : light (.bin .geq x y) ev h = .val (.bool (decide (b ≤ a))) := by
  show (ev x).onInt (fun k a => (ev y).onInt fun j b => bin1 .geq k a j b) = _
  rw [hx, hy]
  show (Bool.rec .bad (.of (binI .geq k a b)) (kEq k k) : LR) = _
  rw [kEq_eq, decide_eq_true rfl]
  show LR.val (.bool (bnot (ilt a b))) = _
  rw [ilt_eq, bnot_eq]; congr 2; rw [Bool.eq_iff_iff]; simp
theorem eql {k : IntKind} {a b : Int} (hx : ev x = .int k a) (hy : ev y = .int k b) : light (.bin .eql x y) ev h = .val (.bool (decide (a = b))) := by
  show (ev x).onInt (fun k a => (ev y).onInt fun j b => bin1 .eql k a j b) = _
  rw [hx, hy]
  show (Bool.rec .bad (.of (binI .eql k a b)) (kEq k k) : LR) = _
  rw [kEq_eq, decide_eq_true rfl]
  show LR.val (.bool (ieq a b)) = _
  rw [ieq_eq]
theorem neq {k : IntKind} {a b : Int} (hx : ev x = .int k a) (hy : ev y = .int k b) : light (.bin .neq x y) ev h = .val (.bool (decide (a ≠ b))) := by
  show (ev x).onInt (fun k a => (ev y).onInt fun j b => bin1 .neq k a j b) = _
  rw [hx, hy]
  show (Bool.rec .bad (.of (binI .neq k a b)) (kEq k k) : LR) = _
  rw [kEq_eq, decide_eq_true rfl]
  show LR.val (.bool (bnot (ieq a b))) = _
  rw [ieq_eq, bnot_eq]; congr 2; rw [Bool.eq_iff_iff]; simp

/-! strings are the bytes' list -/
def str (l : List UInt8) : V := .str l.length (enc l)
theorem seq {l m : List UInt8} (hx : ev x = str l) (hy : ev y = str m) : light (.bins .eql x y) ev h = .val (.bool (decide (l = m))) := by
  show (ev x).onStr (fun n a => (ev y).onStr fun m b => .of (binS .eql n a m b)) = _
  rw [hx, hy]
  show LR.val (.bool (sEq l.length (enc l) m.length (enc m))) = _
  congr 2
  have e : ∀ l m : List UInt8, sEq l.length (enc l) m.length (enc m) = decide (l = m) := by
    intro l m
    have := strOk_eq (s := ⟨⟨l⟩⟩) (t := ⟨⟨m⟩⟩) (n := l.length) (x := enc l) (m := m.length) (y := enc m) ⟨rfl, rfl⟩ ⟨rfl, rfl⟩
    rw [this]; congr 1
    rw [eq_iff_iff]
    constructor
    · intro h; cases h; rfl
    · intro h; rw [h]
  exact e l m
theorem sne {l m : List UInt8} (hx : ev x = str l) (hy : ev y = str m) : light (.bins .neq x y) ev h = .val (.bool (decide (l ≠ m))) := by
  have h1 := seq (h := h) hx hy
  have e1 : light (.bins .eql x y) ev h = (ev x).onStr (fun n a => (ev y).onStr fun m b => .of (binS .eql n a m b)) := rfl
  rw [e1, hx, hy] at h1
  show (ev x).onStr (fun n a => (ev y).onStr fun m b => .of (binS .neq n a m b)) = _
  rw [hx, hy]
  show LR.val (.bool (bnot (sEq l.length (enc l) m.length (enc m)))) = _
  have h1 : LR.val (.bool (sEq l.length (enc l) m.length (enc m))) = .val (.bool (decide (l = m))) := h1
  have h2 : sEq l.length (enc l) m.length (enc m) = decide (l = m) := by simpa using h1
  rw [h2, bnot_eq]; congr 2; simp
theorem llenN (hx : ev x = .slN) : light (.len false x) ev h = .val (.int .i64 ((0 : Nat) : Int)) := by
  show (ev x).onLen (fun n => .val (natV .i64 n)) = _
  rw [hx]; rfl
theorem llen {b o n : Nat} {cap : Option Nat} (hx : ev x = .sl b o n cap) : light (.len false x) ev h = .val (.int .i64 (n : Int)) := by
  show (ev x).onLen (fun n => .val (natV .i64 n)) = _
  rw [hx]
  show LR.val (natV .i64 n) = _
  rw [natV_eq]; rfl
/-! memory -/
theorem load {b o : Nat} {v : V} (hx : ev x = .ptr b o) (hl : h.load1 b o = some v) : light (.load x) ev h = .val v := by
  show (ev x).onPtr (fun b o => .of (h.load1 b o)) = _
  rw [hx]
  show LR.of (h.load1 b o) = _
  rw [hl]; rfl
theorem forceL_eq' {α R : Type} (l : List α) (k : List α → R) : forceL l k = k l := by
  have : ∀ (l : List α) (k : List α → R), forceL l k = k l := by
    intro l
    induction l with
    | nil => intro k; rfl
    | cons a l ih => intro k; exact ih _
  exact this l k
theorem loadn {b o n : Nat} {l : List V} (hx : ev x = .ptr b o) (hl : h.load b o n = some l) : light (.loadn n x) ev h = .val (.agg l) := by
  show (ev x).onPtr (fun b o => Option.rec .bad (fun l => forceL l fun l => .val (.agg l)) (h.load b o n)) = _
  rw [hx]
  show (Option.rec .bad (fun l => forceL l fun l => .val (.agg l)) (h.load b o n) : LR) = _
  rw [hl]; exact forceL_eq' l _
theorem load1_box {b o : Nat} {row : List V} {v : V} (hb : T.get b h.t = some (.box row)) (hr : hd (dropV o row) = some v) : h.load1 b o = some v := by
  unfold Heap.load1; rw [show h.obj b = _ from hb]; exact hr
theorem load_box {b o n : Nat} {row l : List V} (hb : T.get b h.t = some (.box row)) (hn : n.beq 0 = false) (ho : (Nat.add o n).ble (lenV row) = true) (hr : takeV n (dropV o row) = l) : h.load b o n = some l := by
  unfold Heap.load; rw [hn, show h.obj b = _ from hb]
  show (bif (Nat.add o n).ble (lenV row) then some (takeV n (dropV o row)) else none) = _
  rw [ho, hr]; rfl
theorem loadB {b o : Nat} {row : List V} {v : V} (hx : ev x = .ptr b o) (hb : T.get b h.t = some (.box row)) (hr : hd (dropV o row) = some v) : light (.load x) ev h = .val v := load hx (load1_box hb hr)
theorem loadnB {b o n : Nat} {row l : List V} (hx : ev x = .ptr b o) (hb : T.get b h.t = some (.box row)) (hn : n.beq 0 = false) (ho : (Nat.add o n).ble (lenV row) = true) (hr : takeV n (dropV o row) = l) : light (.loadn n x) ev h = .val (.agg l) := loadn hx (load_box hb hn ho hr)
theorem iaddr {r b o n i : Nat} {cap : Option Nat} (hx : ev x = .sl b o n cap) (hy : ev y = .int .i64 (i : Int)) (hi : i < n) : light (.iaddr r x y) ev h = .val (.ptr b (o + i * r)) := by
  show (ev x).onSl (fun b o n => (ev y).onNat fun j => iaddr1 r b o n j) = _
  rw [hx, hy]
  show (Bool.rec .bad (force (Nat.add o (Nat.mul i r)) fun o => .val (.ptr b o)) (i.blt n) : LR) = _
  rw [nblt, decide_eq_true hi]
  show force (Nat.add o (Nat.mul i r)) (fun o => LR.val (.ptr b o)) = _
  rw [force_eq]; rfl
theorem faddr {b o f : Nat} (hx : ev x = .ptr b o) : light (.faddr f x) ev h = .val (.ptr b (o + f)) := by
  show (ev x).onPtr (fun b o => force (Nat.add o f) fun o => .val (.ptr b o)) = _
  rw [hx]
  show force (Nat.add o f) (fun o => LR.val (.ptr b o)) = _
  rw [force_eq]; rfl
theorem alloc {cs : List V} : light (.alloc cs) ev h = .new (.box cs) (.ptr h.next 0) := by
  show force h.next (fun b => LR.new (.box cs) (.ptr b 0)) = _
  rw [force_eq]
theorem box {n : Nat} {l : List V} (hx : (ev x).asCells = some l) (hl : lenV l = n) : light (.box n x) ev h = .new (.box l) (.ptr h.next 0) := by
  show force h.next (fun b => (Option.rec .bad (fun l => Bool.rec .bad (forceL l fun l => .new (.box l) (.ptr b 0)) ((lenV l).beq n)) (ev x).asCells : LR)) = _
  rw [force_eq, hx]
  show (Bool.rec .bad (forceL l fun l => .new (.box l) (.ptr h.next 0)) ((lenV l).beq n) : LR) = _
  rw [hl, Nat.beq_refl]; exact forceL_eq' l _
theorem build {zero l : List V} {ps : List (Nat × Nat × A)} (hf : fill ps ev zero = some l) : light (.build zero ps) ev h = .val (.agg l) := by
  show (Option.rec .bad (fun l => forceL l fun l => .val (.agg l)) (fill ps ev zero) : LR) = _
  rw [hf]; exact forceL_eq' l _
theorem storeB {call : CallT} {n b o : Nat} {cs row row' : List V} (hx : ev x = .ptr b o) (hy : (ev y).asCells = some cs) (hn : lenV cs = n) (h0 : n.beq 0 = false) (h8 : 8 ≤ b) (hb : T.get b h.t = some (.box row)) (ho : (Nat.add o n).ble (lenV row) = true) (hr : overV o cs row = row') :
    heavy (.store n x y) call ev h = .ok un (h.put b (.box row')) := by
  show (Option.rec .bad (fun p => Option.rec .bad (fun l => Bool.rec .bad (h.storeC p.1 p.2 n l .bad fun h => .ok un h) ((lenV l).beq n)) (ev y).asCells) (ev x).asPtr : OR) = _
  rw [hx, hy]
  show (Bool.rec .bad (h.storeC b o n cs .bad fun h => .ok un h) ((lenV cs).beq n) : OR) = _
  rw [hn, Nat.beq_refl]
  show h.storeC b o n cs .bad (fun h => OR.ok un h) = _
  unfold Heap.storeC
  rw [h0, show b.blt 8 = false by rw [nblt]; simpa using h8, show h.obj b = _ from hb]
  show (bif (Nat.add o n).ble (lenV row) then forceL (overV o cs row) fun row => h.putC b (.box row) (fun h => OR.ok un h) else .bad) = _
  rw [ho, hr]
  show forceL row' (fun row => h.putC b (.box row) (fun h => OR.ok un h)) = _
  rw [forceL_eq', putC_eq']
end L
end
end Go.Eng
namespace Go.Eng
noncomputable section

/-! ### what is known of memory: things that are owned, and what hangs on frozen blocks alone -/
inductive Fact where
  | box (b : Nat) (row : List V)
  | map (b : Nat) (es : List Ent) (clock : Nat)
  /-- a slice that is appended to alone: nobody else appends to its family -/
  | acc (f r : Nat) (v : V) (rows : List (List V))
  | stb (P : Heap → Prop)
  /-- a block of its own, of which nothing but P is told -/
  | obj (b : Nat) (P : Obj → Prop)
  /-- a slice that is written and appended to: all blocks of its family are its own -/
  | acu (bs : List Nat) (f r : Nat) (v : V) (rows : List (List V))

structure AccR (f r : Nat) (h : Heap) (b : Nat) (rows : List (List V)) : Prop where
  ge : 8 ≤ b
  pos : 0 < rows.length
  fb : f ≤ b
  ob : ∃ ap t, T.get b h.t = some (.cells r f ap (rows.length * r) t) ∧ (∀ i row, rows[i]? = some row → T.get i t = some row) ∧ ∀ F, T.get f h.fams = some F → F.last ≤ ap + rows.length * r
  len : ∀ row ∈ rows, row.length = r
inductive AccV (f r : Nat) (h : Heap) : V → List (List V) → Prop
  | nil : AccV f r h .slN []
  | row {b : Nat} {rows : List (List V)} (a : AccR f r h b rows) : AccV f r h (.sl b 0 rows.length none) rows

inductive AcuV (bs : List Nat) (f r : Nat) (h : Heap) : V → List (List V) → Prop
  | nil (hb : bs = []) : AcuV bs f r h .slN []
  | row {b ap : Nat} {rows hid : List (List V)} {t : T (List V)} (ge : 8 ≤ b) (hb : b ∈ bs) (hf : f ∈ bs) (ob : T.get b h.t = some (.cells r f ap ((rows.length + hid.length) * r) t))
      (hrow : ∀ i row, (rows ++ hid)[i]? = some row → T.get i t = some row) (len : ∀ row ∈ rows ++ hid, row.length = r) (mem : ∀ F, T.get f h.fams = some F → ∀ m ∈ F.mem, m ∈ bs) : AcuV bs f r h (.sl b 0 rows.length none) rows
theorem AcuV.stay {bs : List Nat} {f r : Nat} {h h' : Heap} {v : V} {rows : List (List V)} (a : AcuV bs f r h v rows) (hb : ∀ b ∈ bs, T.get b h'.t = T.get b h.t) (hf : ∀ b ∈ bs, T.get b h'.fams = T.get b h.fams) : AcuV bs f r h' v rows := by
  cases a with
  | nil e => exact .nil e
  | row ge h1 h2 ob hrow len mem => exact .row ge h1 h2 ((hb _ h1).trans ob) hrow len (fun F hF => mem F ((hf _ h2).symm.trans hF))
def Fact.own : Fact → List Nat
  | .box b _ => [b]
  | .map b _ _ => [b]
  | .acc .. => []
  | .stb _ => []
  | .obj b _ => [b]
  | .acu bs .. => bs
def Fact.fam : Fact → List Nat
  | .acc f _ v _ => match v with
    | .slN => []
    | _ => [f]
  | _ => []
def Fact.holds (Z : Nat → Prop) (h : Heap) : Fact → Prop
  | .box b row => T.get b h.t = some (.box row) ∧ T.get b h.fams = none
  | .map b es c => T.get b h.t = some (.map es c) ∧ T.get b h.fams = none
  | .acc f r v rows => AccV f r h v rows ∧ ∀ b o n c, v = .sl b o n c → Z b
  | .stb P => ∀ h', (∀ b, Z b → T.get b h'.t = T.get b h.t) → P h'
  | .obj b P => (∃ o, T.get b h.t = some o ∧ P o) ∧ T.get b h.fams = none
  | .acu bs f r v rows => AcuV bs f r h v rows ∧ ∀ b ∈ bs, T.get b h.t ≠ none
def owns (fs : List Fact) : List Nat := fs.flatMap Fact.own
def fams (fs : List Fact) : List Nat := fs.flatMap Fact.fam

structure StZ (Z : Nat → Prop) (fs : List Fact) (h : Heap) : Prop where
  wf : Wf h
  z : ∀ b, Z b → T.get b h.t ≠ none
  oz : ∀ b ∈ owns fs, ¬ Z b ∧ 8 ≤ b
  nb : (owns fs).Nodup
  nf : (fams fs).Nodup
  nd : ∀ b ∈ owns fs, b ∉ fams fs
  all : ∀ x ∈ fs, x.holds Z h
def St (fs : List Fact) (h : Heap) : Prop := ∃ Z, StZ Z fs h

theorem owns_lt {Z : Nat → Prop} {fs : List Fact} {h : Heap} (s : StZ Z fs h) {b : Nat} (hb : b ∈ owns fs) : b < h.next := by
  obtain ⟨x, hx, hb⟩ := List.mem_flatMap.1 hb
  have := s.all x hx
  cases x with
  | box c row => obtain rfl : b = c := by simpa [Fact.own] using hb
                 exact s.wf.lt this.1
  | map c es k => obtain rfl : b = c := by simpa [Fact.own] using hb
                  exact s.wf.lt this.1
  | acc f r v rows => simp [Fact.own] at hb
  | stb P => simp [Fact.own] at hb
  | obj c P => obtain rfl : b = c := by simpa [Fact.own] using hb
               obtain ⟨⟨o, ho, _⟩, _⟩ := this
               exact s.wf.lt ho
  | acu bs f r v rows => exact s.wf.t b (this.2 b hb)
theorem fams_lt {Z : Nat → Prop} {fs : List Fact} {h : Heap} (s : StZ Z fs h) {f : Nat} (hf : f ∈ fams fs) : f < h.next := by
  obtain ⟨x, hx, hf⟩ := List.mem_flatMap.1 hf
  have hh := s.all x hx
  cases x with
  | box c row => simp [Fact.fam] at hf
  | map c es k => simp [Fact.fam] at hf
  | stb P => simp [Fact.fam] at hf
  | obj c P => simp [Fact.fam] at hf
  | acu bs f r v rows => simp [Fact.fam] at hf
  | acc g r v rows =>
    obtain ⟨a, _⟩ := hh
    cases a with
    | nil => simp [Fact.fam] at hf
    | row a =>
      obtain rfl : f = g := by simpa [Fact.fam] using hf
      obtain ⟨ap, t, hob, _⟩ := a.ob
      exact Nat.lt_of_le_of_lt a.fb (s.wf.lt hob)
theorem z_lt {Z : Nat → Prop} {fs : List Fact} {h : Heap} (s : StZ Z fs h) {b : Nat} (hb : Z b) : b < h.next := s.wf.t b (s.z b hb)

theorem flat_sub (g : Fact → List Nat) {fs gs : List Fact} (hs : gs.Sublist fs) : (gs.flatMap g).Sublist (fs.flatMap g) := by
  induction hs with
  | slnil => exact List.Sublist.refl _
  | cons a _ ih => rw [List.flatMap_cons]; exact ih.trans (List.sublist_append_right _ _)
  | cons_cons a _ ih => rw [List.flatMap_cons, List.flatMap_cons]; exact List.Sublist.append (List.Sublist.refl _) ih
theorem flat_perm (g : Fact → List Nat) {fs gs : List Fact} (hs : fs.Perm gs) : (fs.flatMap g).Perm (gs.flatMap g) := by
  induction hs with
  | nil => exact List.Perm.refl _
  | cons a _ ih => rw [List.flatMap_cons, List.flatMap_cons]; exact List.Perm.append_left _ ih
  | swap a b l =>
    simp only [List.flatMap_cons]
    rw [← List.append_assoc, ← List.append_assoc]
    exact List.Perm.append_right _ List.perm_append_comm
  | trans _ _ ih1 ih2 => exact ih1.trans ih2
theorem St.sub {fs gs : List Fact} {h : Heap} (s : St fs h) (hs : gs.Sublist fs) : St gs h := by
  obtain ⟨Z, s⟩ := s
  have e1 : (owns gs).Sublist (owns fs) := by
    exact flat_sub _ hs
  have e2 : (fams gs).Sublist (fams fs) := by
    exact flat_sub _ hs
  exact ⟨Z, s.wf, s.z, fun b hb => s.oz b (e1.subset hb), s.nb.sublist e1, s.nf.sublist e2, fun b hb hf => s.nd b (e1.subset hb) (e2.subset hf), fun x hx => s.all x (hs.subset hx)⟩
theorem St.perm {fs gs : List Fact} {h : Heap} (s : St fs h) (hs : fs.Perm gs) : St gs h := by
  obtain ⟨Z, s⟩ := s
  have e1 : (owns fs).Perm (owns gs) := flat_perm _ hs
  have e2 : (fams fs).Perm (fams gs) := flat_perm _ hs
  exact ⟨Z, s.wf, s.z, fun b hb => s.oz b (e1.symm.subset hb), e1.nodup_iff.1 s.nb, e2.nodup_iff.1 s.nf, fun b hb hf => s.nd b (e1.symm.subset hb) (e2.symm.subset hf), fun x hx => s.all x (hs.symm.subset hx)⟩
theorem perm_pick : ∀ (fs : List Fact) (k : Nat) (x : Fact), fs[k]? = some x → fs.Perm (x :: fs.eraseIdx k)
  | [], k, x, h => by simp at h
  | a :: fs, 0, x, h => by simp at h; subst h; exact List.Perm.refl _
  | a :: fs, k + 1, x, h => by
    have := perm_pick fs k x (by simpa using h)
    exact (List.Perm.cons a this).trans (List.Perm.swap ..)
theorem St.pick {fs : List Fact} {h : Heap} (s : St fs h) (k : Nat) {x : Fact} (hk : fs[k]? = some x) : St (x :: fs.eraseIdx k) h := s.perm (perm_pick fs k x hk)
theorem St.tail {x : Fact} {fs : List Fact} {h : Heap} (s : St (x :: fs) h) : St fs h := s.sub (List.sublist_cons_self _ _)
theorem St.wf {fs : List Fact} {h : Heap} (s : St fs h) : Wf h := let ⟨_, s⟩ := s; s.wf
theorem St.box_at {fs : List Fact} {h : Heap} (s : St fs h) (k : Nat) {b : Nat} {row : List V} (hk : fs[k]? = some (.box b row)) : T.get b h.t = some (.box row) := by
  obtain ⟨Z, s⟩ := s
  exact (s.all (.box b row) (List.mem_of_getElem? hk)).1
theorem St.box_ge {fs : List Fact} {h : Heap} (s : St fs h) (k : Nat) {b : Nat} {row : List V} (hk : fs[k]? = some (.box b row)) : 8 ≤ b := by
  obtain ⟨Z, s⟩ := s
  exact (s.oz b (List.mem_flatMap.2 ⟨_, List.mem_of_getElem? hk, by simp [Fact.own]⟩)).2
theorem St.obj_ge {fs : List Fact} {h : Heap} (s : St fs h) (k : Nat) {b : Nat} {P : Obj → Prop} (hk : fs[k]? = some (.obj b P)) : 8 ≤ b := by
  obtain ⟨Z, s⟩ := s
  exact (s.oz b (List.mem_flatMap.2 ⟨_, List.mem_of_getElem? hk, by simp [Fact.own]⟩)).2
theorem St.stb_at {fs : List Fact} {h : Heap} (s : St fs h) (k : Nat) {P : Heap → Prop} (hk : fs[k]? = some (.stb P)) : P h := by
  obtain ⟨Z, s⟩ := s
  exact s.all (.stb P) (List.mem_of_getElem? hk) h fun _ _ => rfl
theorem St.acc_at {fs : List Fact} {h : Heap} (s : St fs h) (k : Nat) {f r : Nat} {v : V} {rows : List (List V)} (hk : fs[k]? = some (.acc f r v rows)) : AccV f r h v rows := by
  obtain ⟨Z, s⟩ := s
  exact (s.all (.acc f r v rows) (List.mem_of_getElem? hk)).1
theorem St.imp {P Q : Heap → Prop} {fs : List Fact} {h : Heap} (s : St (.stb P :: fs) h) (hpq : ∀ h, P h → Q h) : St (.stb Q :: .stb P :: fs) h := by
  obtain ⟨Z, s⟩ := s
  refine ⟨Z, s.wf, s.z, s.oz, s.nb, s.nf, s.nd, fun x hx => ?_⟩
  rcases List.mem_cons.1 hx with rfl | hx
  · exact fun h' hz => hpq h' (s.all (.stb P) (by simp) h' hz)
  · exact s.all x hx
theorem St.imp0 {P Q : Heap → Prop} {fs : List Fact} {h : Heap} (s : St (.stb P :: fs) h) (hpq : ∀ h, P h → Q h) : St (.stb Q :: fs) h := by
  have := s.imp hpq
  exact this.sub (List.Sublist.cons_cons _ (List.sublist_cons_self _ _))
theorem St.pure {Q : Prop} {fs : List Fact} {h : Heap} (s : St fs h) (hq : Q) : St (.stb (fun _ => Q) :: fs) h := by
  obtain ⟨Z, s⟩ := s
  refine ⟨Z, s.wf, s.z, s.oz, s.nb, s.nf, s.nd, fun x hx => ?_⟩
  rcases List.mem_cons.1 hx with rfl | hx
  · exact fun h' _ => hq
  · exact s.all x hx
theorem St.and {P Q : Heap → Prop} {fs : List Fact} {h : Heap} (s : St (.stb P :: .stb Q :: fs) h) : St (.stb (fun h => P h ∧ Q h) :: fs) h := by
  obtain ⟨Z, s⟩ := s
  refine ⟨Z, s.wf, s.z, s.oz, s.nb, s.nf, s.nd, fun x hx => ?_⟩
  rcases List.mem_cons.1 hx with rfl | hx
  · exact fun h' hz => ⟨s.all (.stb P) (by simp) h' hz, s.all (.stb Q) (by simp) h' hz⟩
  · exact s.all x (by simp [hx])

/-! ### memory turns -/
theorem Fact.stay {Z Z' : Nat → Prop} {h h' : Heap} {x : Fact} (hx : x.holds Z h) (hZ : ∀ b, Z b → Z' b ∧ T.get b h'.t = T.get b h.t) (hb : ∀ b ∈ x.own, T.get b h'.t = T.get b h.t) (hbf : ∀ b ∈ x.own, T.get b h'.fams = T.get b h.fams) (hf : ∀ f ∈ x.fam, T.get f h'.fams = T.get f h.fams) : x.holds Z' h' := by
  cases x with
  | box b row => exact ⟨(hb b (by simp [Fact.own])).trans hx.1, (hbf b (by simp [Fact.own])).trans hx.2⟩
  | map b es c => exact ⟨(hb b (by simp [Fact.own])).trans hx.1, (hbf b (by simp [Fact.own])).trans hx.2⟩
  | obj b P => obtain ⟨⟨o, ho, hp⟩, hn⟩ := hx; exact ⟨⟨o, (hb b (by simp [Fact.own])).trans ho, hp⟩, (hbf b (by simp [Fact.own])).trans hn⟩
  | acu bs f r v rows => exact ⟨hx.1.stay hb hbf, fun b hm => by rw [hb b hm]; exact hx.2 b hm⟩
  | stb P => exact fun h2 hz => hx h2 fun b hb => (hz b (hZ b hb).1).trans (hZ b hb).2
  | acc f r v rows =>
    obtain ⟨a, hz⟩ := hx
    refine ⟨?_, fun b o n c e => (hZ b (hz b o n c e)).1⟩
    cases a with
    | nil => exact .nil
    | row a =>
      obtain ⟨ap, t, h1, h2, h3⟩ := a.ob
      refine .row ⟨a.ge, a.pos, a.fb, ⟨ap, t, ?_, h2, fun F hF => h3 F ?_⟩, a.len⟩
      · rw [(hZ _ (hz _ _ _ _ rfl)).2]; exact h1
      · rw [← hf f (by simp [Fact.fam])]; exact hF
theorem owns_cons (x : Fact) (fs : List Fact) : owns (x :: fs) = x.own ++ owns fs := rfl
theorem fams_cons (x : Fact) (fs : List Fact) : fams (x :: fs) = x.fam ++ fams fs := rfl
theorem mem_owns {x : Fact} {fs : List Fact} (hx : x ∈ fs) {b : Nat} (hb : b ∈ x.own) : b ∈ owns fs := List.mem_flatMap.2 ⟨x, hx, hb⟩
theorem mem_fams {x : Fact} {fs : List Fact} (hx : x ∈ fs) {b : Nat} (hb : b ∈ x.fam) : b ∈ fams fs := List.mem_flatMap.2 ⟨x, hx, hb⟩
theorem St.new {fs : List Fact} {h : Heap} (s : St fs h) (ob : Obj) {x : Fact} (ho : x.own = [h.next]) (hf : x.fam = []) (hx : T.get h.next h.fams = none → ∀ Z, x.holds Z (h.add ob)) : St (x :: fs) (h.add ob) := by
  obtain ⟨Z, s⟩ := s
  have hz : ∀ b, Z b → T.get b (h.add ob).t = T.get b h.t := fun b hb => get_add_old (z_lt s hb)
  have hnn : T.get h.next h.fams = none := by
    cases e : T.get h.next h.fams with
    | none => rfl
    | some F => have := s.wf.f h.next (by rw [e]; simp); omega
  refine ⟨Z, (Fr.add h ob).wf s.wf, fun b hb => by rw [hz b hb]; exact s.z b hb, fun b hb => ?_, ?_, ?_, fun b hb hf2 => ?_, fun y hy => ?_⟩
  · rw [owns_cons, ho] at hb
    rcases List.mem_append.1 hb with hb | hb
    · obtain rfl : b = h.next := by simpa using hb
      exact ⟨fun hz => Nat.lt_irrefl _ (z_lt s hz), s.wf.lim⟩
    · exact s.oz b hb
  · rw [owns_cons, ho]
    refine List.nodup_cons.2 ⟨fun hb => Nat.lt_irrefl _ (owns_lt s hb), s.nb⟩
  · rw [fams_cons, hf]; exact s.nf
  · rw [fams_cons, hf] at hf2
    rw [owns_cons, ho] at hb
    rcases List.mem_append.1 hb with hb | hb
    · obtain rfl : b = h.next := by simpa using hb
      exact Nat.lt_irrefl _ (fams_lt s hf2)
    · exact s.nd b hb hf2
  · rcases List.mem_cons.1 hy with rfl | hy
    · exact hx hnn Z
    · exact Fact.stay (s.all y hy) (fun b hb => ⟨hb, hz b hb⟩) (fun b hb => get_add_old (owns_lt s (mem_owns hy hb))) (fun _ _ => rfl) fun _ _ => rfl
theorem St.box {fs : List Fact} {h : Heap} (s : St fs h) (row : List V) : St (.box h.next row :: fs) (h.add (.box row)) := s.new _ rfl rfl fun hn _ => ⟨get_add_new .., hn⟩
theorem St.put1 {x y : Fact} {fs : List Fact} {h : Heap} {b : Nat} {o : Obj} (s : St (x :: fs) h) (hx : x.own = [b]) (hxf : x.fam = []) (hy : y.own = [b]) (hyf : y.fam = []) (hh : ∀ Z, x.holds Z h → y.holds Z (h.put b o)) : St (y :: fs) (h.put b o) := by
  obtain ⟨Z, s⟩ := s
  have hbz : ¬ Z b := (s.oz b (by rw [owns_cons, hx]; simp)).1
  have hbo : b ∉ owns fs := by
    have := s.nb; rw [owns_cons, hx] at this
    exact (List.nodup_cons.1 this).1
  have hz : ∀ k, k ≠ b → T.get k (h.put b o).t = T.get k h.t := fun k hk => by rw [get_put, if_neg hk]
  have hne : ∀ k, Z k → k ≠ b := fun k hk e => hbz (e ▸ hk)
  have hlt : b < h.next := owns_lt s (by rw [owns_cons, hx]; simp)
  refine ⟨Z, ⟨fun k hk => ?_, fun k hk => s.wf.f k hk, s.wf.lim⟩, fun k hk => by rw [hz k (hne k hk)]; exact s.z k hk, fun k hk => s.oz k ?_, ?_, ?_, fun k hk hf => s.nd k ?_ ?_, fun w hw => ?_⟩
  · by_cases e : k = b
    · subst e; exact hlt
    · rw [hz k e] at hk; exact s.wf.t k hk
  · rw [owns_cons, hx]; rw [owns_cons, hy] at hk; exact hk
  · rw [owns_cons, hy]; have := s.nb; rw [owns_cons, hx] at this; exact this
  · rw [fams_cons, hyf]; have := s.nf; rw [fams_cons, hxf] at this; exact this
  · rw [owns_cons, hx]; rw [owns_cons, hy] at hk; exact hk
  · rw [fams_cons, hxf]; rw [fams_cons, hyf] at hf; exact hf
  · rcases List.mem_cons.1 hw with rfl | hw
    · exact hh Z (s.all x (by simp))
    · exact Fact.stay (s.all w (by simp [hw])) (fun k hk => ⟨hk, hz k (hne k hk)⟩) (fun k hk => hz k fun e => hbo (e ▸ mem_owns hw hk)) (fun _ _ => rfl) fun _ _ => rfl
theorem perm_set : ∀ (fs : List Fact) (k : Nat) (x y : Fact), fs[k]? = some x → (y :: fs.eraseIdx k).Perm (fs.set k y)
  | [], k, x, y, h => by simp at h
  | a :: fs, 0, x, y, h => List.Perm.refl _
  | a :: fs, k + 1, x, y, h => by
    have := perm_set fs k x y (by simpa using h)
    exact (List.Perm.swap ..).trans (List.Perm.cons a this)
theorem St.put {fs : List Fact} {h : Heap} (s : St fs h) (k : Nat) {x y : Fact} {b : Nat} {o : Obj} (hk : fs[k]? = some x) (hx : x.own = [b]) (hxf : x.fam = []) (hy : y.own = [b]) (hyf : y.fam = []) (hh : ∀ Z, x.holds Z h → y.holds Z (h.put b o)) : St (fs.set k y) (h.put b o) :=
  ((s.pick k hk).put1 hx hxf hy hyf hh).perm (perm_set fs k x y hk)
theorem St.putBox {fs : List Fact} {h : Heap} (s : St fs h) (k : Nat) {b : Nat} {row : List V} (row' : List V) (hk : fs[k]? = some (.box b row)) : St (fs.set k (.box b row')) (h.put b (.box row')) :=
  s.put k hk rfl rfl rfl rfl fun _ hx => ⟨get_put_same .., hx.2⟩
end
end Go.Eng
namespace Go.Eng
noncomputable section

def Heap.fm (h : Heap) (fm : T Fam) : Heap := ⟨h.t, h.next, fm, h.ds, h.pc⟩
theorem St.grow {x : Fact} {fs : List Fact} {h : Heap} (s : St (x :: fs) h) (hxo : x.own = []) {fm : T Fam} {f : Nat} {ob : Obj} {y : Fact}
    (hfm : ∀ g, g ≠ f → T.get g fm = T.get g h.fams) (hf : f ≤ h.next) (hfx : f ∉ fams fs) (hfo : f ∉ owns fs) (hyo : y.own = []) (hyf : y.fam = [f])
    (hy : ∀ Z : Nat → Prop, Z h.next → y.holds Z ((h.fm fm).add ob)) : St (y :: fs) ((h.fm fm).add ob) := by
  obtain ⟨Z, s⟩ := s
  have hz : ∀ b, b < h.next → T.get b ((h.fm fm).add ob).t = T.get b h.t := fun b hb => get_add_old (h := h.fm fm) hb
  have ho : owns (x :: fs) = owns fs := by rw [owns_cons, hxo]; rfl
  refine ⟨fun b => Z b ∨ b = h.next, ⟨fun b hb => ?_, fun g hg => ?_, Nat.le_succ_of_le s.wf.lim⟩, fun b hb => ?_, fun b hb => ?_, ?_, ?_, fun b hb hf2 => ?_, fun w hw => ?_⟩
  · show b < h.next + 1
    by_cases e : b < h.next + 1
    · exact e
    · have e2 : T.get b ((h.fm fm).add ob).t = T.get b h.t := by
        rw [get_add]; rw [if_neg (show ¬ b = (h.fm fm).next from fun e3 => e (by rw [e3]; exact Nat.lt_succ_self _))]; rfl
      rw [e2] at hb
      have := s.wf.t b hb; omega
  · show g < h.next + 1
    have hg : T.get g fm ≠ none := hg
    by_cases e : g = f
    · omega
    · rw [hfm g e] at hg; have := s.wf.f g hg; omega
  · rcases hb with hb | rfl
    · rw [hz b (z_lt s hb)]; exact s.z b hb
    · rw [show T.get h.next ((h.fm fm).add ob).t = some ob from get_add_new (h.fm fm) ob]; simp
  · rw [owns_cons, hyo] at hb
    refine ⟨?_, (s.oz b (by rw [ho]; exact hb)).2⟩
    rintro (hzb | rfl)
    · exact (s.oz b (by rw [ho]; exact hb)).1 hzb
    · exact Nat.lt_irrefl _ (owns_lt s (by rw [ho]; exact hb))
  · rw [owns_cons, hyo]; have := s.nb; rw [ho] at this; exact this
  · rw [fams_cons, hyf]
    have : (fams fs).Nodup := by
      have := s.nf; rw [fams_cons] at this
      exact (List.nodup_append.1 this).2.1
    exact List.nodup_cons.2 ⟨hfx, this⟩
  · rw [owns_cons, hyo] at hb
    rw [fams_cons, hyf] at hf2
    rcases List.mem_append.1 hf2 with hf2 | hf2
    · obtain rfl : b = f := by simpa using hf2
      exact hfo hb
    · exact s.nd b (by rw [ho]; exact hb) (by rw [fams_cons]; exact List.mem_append_right _ hf2)
  · rcases List.mem_cons.1 hw with rfl | hw
    · exact hy _ (Or.inr rfl)
    · refine Fact.stay (s.all w (by simp [hw])) (fun b hb => ⟨Or.inl hb, hz b (z_lt s hb)⟩) (fun b hb => hz b (owns_lt s ?_)) (fun b hb => hfm b fun e => ?_) fun g hg => hfm g fun e => ?_
      · rw [ho]; exact mem_owns hw hb
      · subst e; exact hfo (mem_owns hw hb)
      · subst e; exact hfx (mem_fams hw hg)
theorem flatten_row {r : Nat} : ∀ {l : List (List V)} (i : Nat) {row : List V}, (∀ row ∈ l, row.length = r) → l[i]? = some row → (l.flatten.drop (i * r)).take r = row
  | [], i, row, _, h => by simp at h
  | a :: l, 0, row, hl, h => by
    simp at h; subst h
    rw [Nat.zero_mul, List.drop_zero, List.flatten_cons, ← hl a (by simp), List.take_left']
    rfl
  | a :: l, i + 1, row, hl, h => by
    have h : l[i]? = some row := by simpa using h
    rw [List.flatten_cons, show (i + 1) * r = a.length + i * r by rw [hl a (by simp), Nat.add_mul]; omega, ← List.drop_drop, List.drop_left' rfl]
    exact flatten_row i (fun row hm => hl row (by simp [hm])) h
theorem St.appendA {fs : List Fact} {h : Heap} {f r bytes : Nat} {v : V} {rows new : List (List V)} (s : St (.acc f r v rows :: fs) h) (hr : 0 < r) (hl : ∀ row ∈ new, row.length = r) (hfit : (rows.length + new.length) * bytes ≤ 1099511627776) :
    ∃ f' v' h', appendTo h r bytes v new.flatten new.length = .ok v' h' ∧ St (.acc f' r v' (rows ++ new) :: fs) h' := by
  have a := s.acc_at 0 rfl
  have w := s.wf
  by_cases hm0 : new.length = 0
  · obtain rfl : new = [] := by simpa using hm0
    refine ⟨f, v, h, ?_, by rw [List.append_nil]; exact s⟩
    cases a with
    | nil => rfl
    | row a => rfl
  have hb0 : Nat.beq new.length 0 = false := by
    cases e : Nat.beq new.length 0 with
    | false => rfl
    | true => exact absurd (Nat.eq_of_beq_eq_true e) hm0
  have hfn : T.get h.next h.fams = none := by
    cases e : T.get h.next h.fams with
    | none => rfl
    | some F => have := w.f h.next (by rw [e]; simp); omega
  cases a with
  | nil =>
    have hok : okSize (.cells r h.next 0 (new.length * r) (setRowsP r new.length 0 new.flatten T.e)) = true := by show Nat.blt 0 r = true; rw [nblt]; simpa using hr
    refine ⟨h.next, .sl h.next 0 new.length none, (h.fm h.fams).add (.cells r h.next 0 (new.length * r) (setRowsP r new.length 0 new.flatten T.e)), ?_, ?_⟩
    · unfold appendTo
      have h1 : (Nat.mul new.length bytes).ble 1099511627776 = true := by
        rw [nble]; have : new.length * bytes ≤ 1099511627776 := by simpa using hfit
        simpa using this
      simp only [hb0, cond_false, h1, cond_true, force_eq, setRows_eq]
      show (Bool.rec .bad (h.newC (.cells r h.next 0 (Nat.mul new.length r) (setRowsP r new.length 0 new.flatten T.e)) fun h2 => .ok (.sl h.next 0 new.length none) h2) (okSize (.cells r h.next 0 (Nat.mul new.length r) (setRowsP r new.length 0 new.flatten T.e))) : OR) = _
      rw [show okSize (.cells r h.next 0 (Nat.mul new.length r) (setRowsP r new.length 0 new.flatten T.e)) = true from hok, newC_eq]; rfl
    · refine s.grow rfl (f := h.next) (fun _ _ => rfl) (Nat.le_refl _) (fun hm => ?_) (fun hm => ?_) rfl rfl fun Z hZ => ⟨?_, fun b o n c e => ?_⟩
      · obtain ⟨Z, s⟩ := s
        exact Nat.lt_irrefl _ (fams_lt s (by rw [fams_cons]; exact List.mem_append_right _ hm))
      · obtain ⟨Z, s⟩ := s
        exact Nat.lt_irrefl _ (owns_lt s (by rw [owns_cons]; exact hm))
      · have := AccV.row (f := h.next) (r := r) (h := (h.fm h.fams).add (.cells r h.next 0 (new.length * r) (setRowsP r new.length 0 new.flatten T.e))) (b := h.next) (rows := new)
          ⟨w.lim, by omega, Nat.le_refl _, ⟨0, _, get_add_new (h.fm h.fams) _, fun i row hi => ?_, fun F hF => ?_⟩, hl⟩
        · rw [List.nil_append]; exact this
        · rw [setRowsP_get r _ 0 _ T.e i (by omega) (by omega), if_pos ⟨by omega, by have := (List.getElem?_eq_some_iff.1 hi).1; omega⟩, Nat.sub_zero, flatten_row i hl hi]
        · have hF : T.get h.next h.fams = some F := hF
          rw [hfn] at hF; cases hF
      · cases e; exact hZ
  | row a =>
    rename_i b
    obtain ⟨ap, t, hob, hrow, hfam⟩ := a.ob
    have hn := a.pos
    have hlen := a.len
    have hbn : b < h.next := w.t b (by rw [hob]; simp)
    have hflt : f < h.next := Nat.lt_of_le_of_lt a.fb hbn
    have hfx : f ∉ Go.Eng.fams fs := by
      obtain ⟨Z, s⟩ := s
      have := s.nf
      rw [fams_cons] at this
      exact (List.nodup_cons.1 this).1
    have hfo : f ∉ owns fs := by
      obtain ⟨Z, s⟩ := s
      exact fun hm => s.nd f hm (by rw [fams_cons]; exact List.mem_append_left _ (by simp [Fact.fam]))
    have hbn2 : (rows ++ new).length = rows.length + new.length := by simp
    -- memory behind it
    have fin : ∀ l, St (.acc f r (.sl h.next 0 (rows.length + new.length) none) (rows ++ new) :: fs) ((h.fm (T.set f ⟨ap + rows.length * r + new.length * r, l⟩ h.fams)).add (.cells r f ap ((rows.length + new.length) * r) (setRowsP r new.length rows.length new.flatten t))) := by
      intro l
      refine s.grow rfl (f := f) (fun g hg => by rw [T.get_set (Nat.zero_le _) (Nat.zero_le _), if_neg hg]) (by omega) hfx hfo rfl rfl fun Z hZ => ⟨?_, fun b o n c e => by cases e; exact hZ⟩
      have := AccV.row (f := f) (r := r) (h := (h.fm (T.set f ⟨ap + rows.length * r + new.length * r, l⟩ h.fams)).add (.cells r f ap ((rows.length + new.length) * r) (setRowsP r new.length rows.length new.flatten t))) (b := h.next) (rows := rows ++ new)
        ⟨w.lim, by omega, by omega, ⟨ap, setRowsP r new.length rows.length new.flatten t, by rw [hbn2]; exact get_add_new (h.fm _) _, fun i row hi => ?_, fun F hF => ?_⟩, fun row hx => ?_⟩
      · rw [hbn2] at this; exact this
      · rw [setRowsP_get r _ _ _ t i (by omega) (by omega)]
        have hi1 := (List.getElem?_eq_some_iff.1 hi).1
        rw [hbn2] at hi1
        by_cases hlt : i < rows.length
        · rw [if_neg (by omega)]
          rw [List.getElem?_append_left hlt] at hi
          exact hrow i row hi
        · rw [if_pos ⟨by omega, by omega⟩]
          rw [List.getElem?_append_right (by omega)] at hi
          rw [flatten_row _ hl hi]
      · have hF : T.get f (T.set f (⟨ap + rows.length * r + new.length * r, l⟩ : Fam) h.fams) = some F := hF
        rw [T.get_set_same] at hF; cases hF
        show ap + rows.length * r + new.length * r ≤ ap + (rows ++ new).length * r
        rw [hbn2, Nat.add_mul]; omega
      · rcases List.mem_append.1 hx with hx | hx
        · exact hlen row hx
        · exact hl row hx
    have run : ∃ l, appendTo h r bytes (.sl b 0 rows.length none) new.flatten new.length = .ok (.sl h.next 0 (rows.length + new.length) none) ((h.fm (T.set f ⟨ap + rows.length * r + new.length * r, l⟩ h.fams)).add (.cells r f ap ((rows.length + new.length) * r) (setRowsP r new.length rows.length new.flatten t))) := by
      unfold appendTo Go.Eng.append1
      have h1 : (Nat.mul (Nat.add rows.length new.length) bytes).ble 1099511627776 = true := by rw [nble]; simpa using hfit
      have h2 : Nat.ble 8 b = true := Nat.ble_eq_true_of_le a.ge
      simp only [hb0, cond_false, force_eq, h1, h2, Bool.and_self, cond_true]
      show ∃ l, (Obj.cells? .bad _ (h.obj b) : OR) = _
      rw [show h.obj b = some (.cells r f ap (rows.length * r) t) from hob]
      have c1 : (r.beq r && (Nat.mod 0 r).beq 0) = true := by
        have : Nat.mod 0 r = 0 := Nat.zero_mod r
        rw [this, Nat.beq_refl]; rfl
      have hmr : 0 < new.length * r := Nat.mul_pos (by omega) hr
      have c2 : (Nat.add 0 (Nat.mul (Nat.add rows.length new.length) r)).ble (rows.length * r) = false := by
        rw [nble]
        have : ¬ (0 + (rows.length + new.length) * r ≤ rows.length * r) := by rw [Nat.add_mul]; omega
        simpa using this
      have c3 : (Nat.add 0 (Nat.mul rows.length r)).ble (rows.length * r) = true := by
        rw [nble]
        simp
      show ∃ l, (bif (r.beq r && (Nat.mod 0 r).beq 0) then _ else _) = _
      rw [c1, cond_true]
      show ∃ l, (bif (Nat.add 0 (Nat.mul (Nat.add rows.length new.length) r)).ble (rows.length * r) then _ else _) = _
      rw [c2, cond_false]
      show ∃ l, (bif (Nat.add 0 (Nat.mul rows.length r)).ble (rows.length * r) then _ else _) = _
      rw [c3, cond_true]
      have hs : okSize (.cells r f ap (Nat.mul (Nat.add rows.length new.length) r) (setRowsP r new.length rows.length new.flatten t)) = true := by show Nat.blt 0 r = true; rw [nblt]; simpa using hr
      have last : ∀ h3 : Heap, (bif Nat.beq 0 0 then setRows r new.length rows.length new.flatten t fun t => mk h3 (.cells r f ap (Nat.mul (Nat.add rows.length new.length) r) t) (.sl h.next 0 (Nat.add rows.length new.length) none)
          else Option.rec .bad (fun old => force (Nat.add ap 0) fun ap => setRows r (Nat.add rows.length new.length) 0 (appV old new.flatten) T.e fun t => mk h3 (.cells r f ap (Nat.mul (Nat.add rows.length new.length) r) t) (.sl h.next 0 (Nat.add rows.length new.length) none)) (getRows t rows.length (Nat.div 0 r)) : OR) =
          .ok (.sl h.next 0 (rows.length + new.length) none) (h3.add (.cells r f ap ((rows.length + new.length) * r) (setRowsP r new.length rows.length new.flatten t))) := by
        intro h3
        rw [show Nat.beq 0 0 = true from rfl, cond_true, setRows_eq]
        show (Bool.rec .bad (h3.newC (.cells r f ap (Nat.mul (Nat.add rows.length new.length) r) (setRowsP r new.length rows.length new.flatten t)) fun h2 => .ok (.sl h.next 0 (rows.length + new.length) none) h2) (okSize (.cells r f ap (Nat.mul (Nat.add rows.length new.length) r) (setRowsP r new.length rows.length new.flatten t))) : OR) = _
        rw [hs, newC_eq]; rfl
      have htop : (Nat.add (Nat.add ap 0) (Nat.mul (Nat.add rows.length new.length) r)) = ap + rows.length * r + new.length * r := by
        show ap + 0 + (rows.length + new.length) * r = _
        rw [Nat.add_mul]; omega
      unfold grown
      cases hF : T.get f h.fams with
      | none =>
        have c4 : (Nat.add (Nat.add ap 0) (Nat.mul rows.length r)).blt (Nat.add ap (rows.length * r)) = false := by
          rw [nblt]
          simp
        refine ⟨[h.next, b], ?_⟩
        show (Bool.rec (famAdd h f _ [h.next, b] _) _ ((Nat.add (Nat.add ap 0) (Nat.mul rows.length r)).blt (Nat.add ap (rows.length * r))) : OR) = _
        rw [c4]
        show famAdd h f _ [h.next, b] _ = _
        rw [famAdd_eq, htop]
        exact last _
      | some F =>
        have c5 : (Fam.last F).ble (Nat.add (Nat.add ap 0) (Nat.mul rows.length r)) = true := by
          rw [nble]
          have : F.last ≤ ap + 0 + rows.length * r := by have := hfam F hF; omega
          simpa using this
        refine ⟨h.next :: F.mem, ?_⟩
        show (Bool.rec _ (famAdd h f _ (h.next :: Fam.mem F) _) ((Fam.last F).ble (Nat.add (Nat.add ap 0) (Nat.mul rows.length r))) : OR) = _
        rw [c5]
        show famAdd h f _ (h.next :: Fam.mem F) _ = _
        rw [famAdd_eq, htop]
        exact last _
    obtain ⟨l, hrun⟩ := run
    exact ⟨f, _, _, hrun, fin l⟩
theorem St.append {fs : List Fact} {h : Heap} {f r bytes : Nat} {v : V} {rows new : List (List V)} (s : St fs h) (k : Nat) (hk : fs[k]? = some (.acc f r v rows)) (hr : 0 < r) (hl : ∀ row ∈ new, row.length = r) (hfit : (rows.length + new.length) * bytes ≤ 1099511627776) :
    ∃ f' v' h', appendTo h r bytes v new.flatten new.length = .ok v' h' ∧ St (fs.set k (.acc f' r v' (rows ++ new))) h' := by
  obtain ⟨f', v', h', e, s'⟩ := (s.pick k hk).appendA hr hl hfit
  exact ⟨f', v', h', e, s'.perm (perm_set fs k _ _ hk)⟩
theorem St.acc0 {fs : List Fact} {h : Heap} (s : St fs h) (r : Nat) : St (.acc 0 r .slN [] :: fs) h := by
  obtain ⟨Z, s⟩ := s
  refine ⟨Z, s.wf, s.z, s.oz, s.nb, s.nf, s.nd, fun x hx => ?_⟩
  rcases List.mem_cons.1 hx with rfl | hx
  · exact ⟨.nil, fun b o n c e => by cases e⟩
  · exact s.all x hx
theorem AccV.rows {f r : Nat} {h : Heap} {v : V} {rows : List (List V)} (hr : 0 < r) (a : AccV f r h v rows) : Rows r h v rows := by
  cases a with
  | nil => exact .nil
  | row a =>
    obtain ⟨ap, t, hob, hrow, hfam⟩ := a.ob
    exact .row hr hob (Nat.zero_mod r) (fun i row hi => by rw [Nat.zero_div, Nat.zero_add]; exact hrow i row hi) (by omega) a.len
theorem St.shut {fs : List Fact} {h : Heap} {f r : Nat} {v : V} {rows : List (List V)} (s : St (.acc f r v rows :: fs) h) (hr : 0 < r) : St (.stb (fun h => Rows r h v rows) :: fs) h := by
  obtain ⟨Z, s⟩ := s
  refine ⟨Z, s.wf, s.z, s.oz, s.nb, ?_, fun b hb hf => s.nd b hb (by rw [fams_cons]; exact List.mem_append_right _ hf), fun x hx => ?_⟩
  · have := s.nf; rw [fams_cons] at this
    exact (List.nodup_append.1 this).2.1
  · rcases List.mem_cons.1 hx with rfl | hx
    · intro h' hz
      obtain ⟨a, hzb⟩ := s.all (.acc f r v rows) (by simp)
      have ar := a.rows hr
      cases a with
      | nil => exact .nil
      | row a =>
        obtain ⟨ap, t, hob, hrow, hfam⟩ := a.ob
        refine .row (f := f) (ap := ap) hr ?_ (Nat.zero_mod r) (fun i row hi => by rw [Nat.zero_div, Nat.zero_add]; exact hrow i row hi) (Nat.le_of_eq (by rw [Nat.zero_add])) a.len
        rw [hz _ (hzb _ _ _ _ rfl)]; exact hob
    · exact s.all x (by simp [hx])
theorem St.accRows {fs : List Fact} {h : Heap} (s : St fs h) (k : Nat) {f r : Nat} {v : V} {rows : List (List V)} (hk : fs[k]? = some (.acc f r v rows)) (hr : 0 < r) : Rows r h v rows := (s.acc_at k hk).rows hr
end
end Go.Eng
namespace Go.Eng
noncomputable section

theorem St.frozen {fs : List Fact} {h : Heap} (s : St fs h) (ob : Obj) {P : Heap → Prop} (hP : ∀ h', T.get h.next h'.t = some ob → P h') : St (.stb P :: fs) (h.add ob) := by
  obtain ⟨Z, s⟩ := s
  have hz : ∀ b, b < h.next → T.get b (h.add ob).t = T.get b h.t := fun b hb => get_add_old hb
  refine ⟨fun b => Z b ∨ b = h.next, (Fr.add h ob).wf s.wf, fun b hb => ?_, fun b hb => ?_, s.nb, s.nf, s.nd, fun w hw => ?_⟩
  · rcases hb with hb | rfl
    · rw [hz b (z_lt s hb)]; exact s.z b hb
    · rw [get_add_new]; simp
  · refine ⟨?_, (s.oz b hb).2⟩
    rintro (hzb | rfl)
    · exact (s.oz b hb).1 hzb
    · exact Nat.lt_irrefl _ (owns_lt s hb)
  · rcases List.mem_cons.1 hw with rfl | hw
    · intro h' hh
      exact hP h' ((hh _ (Or.inr rfl)).trans (get_add_new ..))
    · exact Fact.stay (s.all w hw) (fun b hb => ⟨Or.inl hb, hz b (z_lt s hb)⟩) (fun b hb => hz b (owns_lt s (mem_owns hw hb))) (fun _ _ => rfl) fun _ _ => rfl

theorem getRows_eq {r : Nat} {t : T (List V)} : ∀ (rows : List (List V)) (i : Nat), (∀ k row, rows[k]? = some row → T.get (i + k) t = some row) → getRows t rows.length i = some rows.flatten
  | [], i, h => rfl
  | a :: l, i, h => by
    show (Option.rec none (fun row => Option.rec none (fun l => some (appV row l)) (getRows t l.length (Nat.succ i))) (T.get i t) : Option (List V)) = _
    have h0 := h 0 a rfl
    rw [Nat.add_zero] at h0
    rw [h0]
    have ih := getRows_eq (r := r) (t := t) l (i + 1) fun k row hk => by
      have := h (k + 1) row (by simpa using hk)
      rw [← this]; congr 1; omega
    show (Option.rec none (fun l => some (appV a l)) (getRows t l.length (Nat.succ i)) : Option (List V)) = _
    rw [show Nat.succ i = i + 1 from rfl, ih]
    show some (appV a l.flatten) = _
    rw [appV_eq]; rfl
theorem Rows.loadAll {r b o n : Nat} {cap : Option Nat} {h : Heap} {rows : List (List V)} (a : Rows r h (.sl b o n cap) rows) : h.load b o (Nat.mul n r) = some rows.flatten := by
  cases a with
  | row hr hob ho hrow hsz hlen =>
    rename_i f ap sz t
    by_cases h0 : rows.length = 0
    · obtain rfl : rows = [] := by simpa using h0
      unfold Heap.load
      have : (Nat.mul ([] : List (List V)).length r).beq 0 = true := by
        show (Nat.mul 0 r).beq 0 = true
        rw [show Nat.mul 0 r = 0 from Nat.zero_mul r]; rfl
      rw [this]; rfl
    · unfold Heap.load
      have hpos : 0 < rows.length * r := Nat.mul_pos (by omega) hr
      have e0 : (Nat.mul rows.length r).beq 0 = false := by
        cases hb : (Nat.mul rows.length r).beq 0 with
        | false => rfl
        | true => have : rows.length * r = 0 := Nat.eq_of_beq_eq_true hb; omega
      rw [e0, cond_false, show h.obj b = _ from hob]
      show (bif (Nat.add o (Nat.mul rows.length r)).ble sz then cut r o (Nat.mul rows.length r) t else none) = _
      have e1 : (Nat.add o (Nat.mul rows.length r)).ble sz = true := by rw [nble]; simpa using hsz
      rw [e1, cond_true]
      unfold cut
      have m0 : (o.mod r).beq 0 = true := by rw [show o.mod r = 0 from ho]; rfl
      have d0 : o.div r = o / r := rfl
      by_cases h1 : rows.length = 1
      · have e2 : ((Nat.mul rows.length r).beq r && (o.mod r).beq 0) = true := by
          rw [m0, Bool.and_true, h1, show Nat.mul 1 r = r from Nat.one_mul r, Nat.beq_refl]
        rw [e2, cond_true]
        obtain ⟨x, rfl⟩ : ∃ x, rows = [x] := List.length_eq_one_iff.1 h1
        have := hrow 0 x rfl
        rw [Nat.add_zero] at this
        rw [d0, this]; simp
      · have hr2 : r < rows.length * r := by
          have : 2 * r ≤ rows.length * r := Nat.mul_le_mul_right r (by omega)
          omega
        have e2 : ((Nat.mul rows.length r).beq r && (o.mod r).beq 0) = false := by
          have : (Nat.mul rows.length r).beq r = false := by
            cases hb : (Nat.mul rows.length r).beq r with
            | false => rfl
            | true => have : rows.length * r = r := Nat.eq_of_beq_eq_true hb; omega
          rw [this]; rfl
        rw [e2, cond_false]
        have e3 : (Nat.add (o.mod r) (Nat.mul rows.length r)).ble r = false := by
          rw [nble, show o.mod r = 0 from ho]
          have : ¬ (0 + rows.length * r ≤ r) := by omega
          simpa using this
        rw [e3, cond_false]
        have e4 : ((o.mod r).beq 0 && ((Nat.mul rows.length r).mod r).beq 0) = true := by
          rw [m0, show (Nat.mul rows.length r).mod r = 0 from Nat.mul_mod_left _ _]; rfl
        rw [e4, cond_true]
        have : (Nat.mul rows.length r).div r = rows.length := Nat.mul_div_cancel _ hr
        rw [this, d0]
        exact getRows_eq (r := r) rows _ hrow

section
variable {c : Ctx} {Q : QT} {env : Env} {h : Heap} {fs : List Fact} {l : List Opr} {vs : List V} {i j : D8}
theorem WO.boxFS {o : OpL} {row : List V} (st : St fs h) (hl : light o (fun a => a.ev vs env) h = .new (.box row) (.ptr h.next 0)) (K : ∀ b h1, St (.box b row :: fs) h1 → WO c l Q (.ptr b 0 :: vs) (Env.set i j (.ptr b 0) env) h1) : WO c (.s i j (.L o) :: l) Q vs env h :=
  WO.newS hl rfl (K _ _ (st.box row))
theorem L.bsl {ev : Ev} {h : Heap} {r n : Nat} {zero : List V} {ps : List (Nat × Nat × A)} {l : List V} (hf : fill ps ev (rep n zero) = some l) :
    light (.bsl r n zero ps) ev h = .new (.cells r h.next 0 (Nat.mul n r) (setRowsP r n 0 l T.e)) (.sl h.next 0 n (some n)) := by
  show force h.next (fun b => (Option.rec .bad (fun l => setRows r n 0 l T.e fun t => .new (.cells r b 0 (Nat.mul n r) t) (.sl b 0 n (some n))) (fill ps ev (rep n zero)) : LR)) = _
  rw [force_eq, hf]
  show setRows r n 0 l T.e (fun t => LR.new (.cells r h.next 0 (Nat.mul n r) t) (.sl h.next 0 n (some n))) = _
  rw [setRows_eq]
theorem rows_new {r n b : Nat} {rows : List (List V)} {cap : Option Nat} {h' : Heap} (hr : 0 < r) (hn : rows.length = n) (hl : ∀ row ∈ rows, row.length = r) (hg : T.get b h'.t = some (.cells r b 0 (Nat.mul n r) (setRowsP r n 0 rows.flatten T.e))) : Rows r h' (.sl b 0 n cap) rows := by
  subst hn
  refine .row hr hg (Nat.zero_mod r) (fun i row hi => ?_) (by rw [Nat.zero_add]; exact Nat.le_refl _) hl
  rw [Nat.zero_div, Nat.zero_add, setRowsP_get r _ 0 _ T.e i (by omega) (by omega), if_pos ⟨by omega, by have := (List.getElem?_eq_some_iff.1 hi).1; omega⟩, Nat.sub_zero, flatten_row i hl hi]
theorem okSize_cl {r f a n : Nat} {t : T (List V)} (hr : 0 < r) : okSize (.cells r f a n t) = true := by show Nat.blt 0 r = true; rw [nblt]; simpa using hr
theorem WO.bslF {r n : Nat} {zero : List V} {ps : List (Nat × Nat × A)} {rows : List (List V)} (st : St fs h) (hf : fill ps (fun a => a.ev vs env) (rep n zero) = some rows.flatten) (hr : 0 < r) (hn : rows.length = n) (hl : ∀ row ∈ rows, row.length = r)
    (K : ∀ b h1, St (.stb (fun h => Rows r h (.sl b 0 n (some n)) rows) :: fs) h1 → WO c l Q (.sl b 0 n (some n) :: vs) env h1) : WO c (.p (.L (.bsl r n zero ps)) :: l) Q vs env h :=
  WO.new (L.bsl hf) (okSize_cl hr) (K _ _ (st.frozen _ fun h' hg => rows_new hr hn hl hg))
theorem WO.storeF {n b o : Nat} {x y : A} {cs row row' : List V} (st : St fs h) (k : Nat) (hk : fs[k]? = some (.box b row)) (hx : x.ev vs env = .ptr b o) (hy : (y.ev vs env).asCells = some cs) (hn : lenV cs = n) (h0 : n.beq 0 = false) (ho : (Nat.add o n).ble (lenV row) = true) (hr : overV o cs row = row')
    (K : ∀ h1, St (fs.set k (.box b row')) h1 → WO c l Q (un :: vs) env h1) : WO c (.p (.H (.store n x y)) :: l) Q vs env h :=
  WO.act (fun _ => L.storeB hx hy hn h0 (st.box_ge k hk) (st.box_at k hk) ho hr) (K _ (st.putBox k row' hk))
theorem L.append {call : CallT} {ev : Ev} {s x : A} {r bytes : Nat} {v xv : V} {new : List (List V)} {out : OR} (hs : ev s = v) (hx : ev x = xv) (hn : Rows r h xv new) (ho : appendTo h r bytes v new.flatten new.length = out) : heavy (.append r bytes s x) call ev h = out := by
  subst ho hs hx
  show (match ev x with
    | .slN => appendTo h r bytes (ev s) [] 0
    | .sl b o m _ => (Option.rec .bad (fun new => appendTo h r bytes (ev s) new m) (h.load b o (Nat.mul m r)) : OR)
    | .str m a => bif r.beq 1 then appendTo h r bytes (ev s) (strCells (sBytes m a)) m else .bad
    | _ => .bad) = _
  generalize hv : ev x = xv at hn
  cases hn with
  | nil => rfl
  | row hr hob ho hrow hsz hlen =>
    have := (Rows.row (cap := none) hr hob ho hrow hsz hlen).loadAll
    simp only [this]
theorem WO.appF {r bytes f : Nat} {s x : A} {v xv : V} {rows new : List (List V)} (st : St fs h) (k : Nat) (hk : fs[k]? = some (.acc f r v rows)) (hs : s.ev vs env = v) (hx : x.ev vs env = xv) (hn : Rows r h xv new) (hr : 0 < r) (hfit : (rows.length + new.length) * bytes ≤ 1099511627776)
    (K : ∀ f' v' h1, St (fs.set k (.acc f' r v' (rows ++ new))) h1 → WO c l Q (v' :: vs) env h1) : WO c (.p (.H (.append r bytes s x)) :: l) Q vs env h := by
  have hl : ∀ row ∈ new, row.length = r := by
    cases hn with
    | nil => intro row hm; simp at hm
    | row _ _ _ _ _ hlen => exact hlen
  obtain ⟨f', v', h', e, s'⟩ := st.append k hk hr hl hfit
  exact WO.act (fun _ => L.append (ev := fun a => a.ev vs env) hs hx hn e) (K _ _ _ s')
theorem WO.appFS {r bytes f : Nat} {s x : A} {v xv : V} {rows new : List (List V)} (st : St fs h) (k : Nat) (hk : fs[k]? = some (.acc f r v rows)) (hs : s.ev vs env = v) (hx : x.ev vs env = xv) (hn : Rows r h xv new) (hr : 0 < r) (hfit : (rows.length + new.length) * bytes ≤ 1099511627776)
    (K : ∀ f' v' h1, St (fs.set k (.acc f' r v' (rows ++ new))) h1 → WO c l Q (v' :: vs) (Env.set i j v' env) h1) : WO c (.s i j (.H (.append r bytes s x)) :: l) Q vs env h := by
  have hl : ∀ row ∈ new, row.length = r := by
    cases hn with
    | nil => intro row hm; simp at hm
    | row _ _ _ _ _ hlen => exact hlen
  obtain ⟨f', v', h', e, s'⟩ := st.append k hk hr hl hfit
  exact WO.actS (fun _ => L.append (ev := fun a => a.ev vs env) hs hx hn e) (K _ _ _ s')
theorem WO.callF {f : Nat} {as : List A} {as' : List V} {P : V → Heap → Prop} (ha : evs as (fun a => a.ev vs env) = as') (hr : ∃ v h1, Runs c f as' h (.ok v h1) ∧ P v h1) (K : ∀ v h1, P v h1 → WO c l Q (v :: vs) env h1) : WO c (.p (.H (.call f as)) :: l) Q vs env h := by
  obtain ⟨v, h1, hr, hp⟩ := hr
  exact WO.call (by rw [ha]; exact hr) (K v h1 hp)
theorem WO.callFS {f : Nat} {as : List A} {as' : List V} {P : V → Heap → Prop} (ha : evs as (fun a => a.ev vs env) = as') (hr : ∃ v h1, Runs c f as' h (.ok v h1) ∧ P v h1) (K : ∀ v h1, P v h1 → WO c l Q (v :: vs) (Env.set i j v env) h1) : WO c (.s i j (.H (.call f as)) :: l) Q vs env h := by
  obtain ⟨v, h1, hr, hp⟩ := hr
  exact WO.callS (by rw [ha]; exact hr) (K v h1 hp)
theorem WO.callv {x : A} {as : List A} {f : Nat} {a b : List V} {v : V} {h2 : Heap} (hx : x.ev vs env = .fn f a b) (hl : Runs c f (appV a (appV (evs as fun a => a.ev vs env) b)) h (.ok v h2)) (w : WO c l Q (v :: vs) env h2) : WO c (.p (.H (.callv x as)) :: l) Q vs env h := by
  obtain ⟨x1, e1, h1, ⟨N, ev⟩, q⟩ := w
  obtain ⟨N2, hl⟩ := hl
  refine ⟨x1, e1, h1, ⟨max N N2, fun m hm R hR => ?_⟩, q⟩
  show ((Option.rec .bad (fun x => ofC h (levR c R m x.1 (appV x.2.1 (appV (evs as fun a => a.ev vs env) x.2.2)) .none h).1) (x.ev vs env).asFn : OR).k env fun v h => opsN l (levR c R m) (v :: vs) env h) = _
  rw [hx]
  show ((ofC h (levR c R m f (appV a (appV (evs as fun a => a.ev vs env) b)) .none h).1).k env fun v h => opsN l (levR c R m) (v :: vs) env h) = _
  rw [ofC_eq, hl m (by omega) R (by omega)]
  show v.force (fun v => opsN l (levR c R m) (v :: vs) env h2) = _
  rw [V.force_eq]; exact ev m (by omega) R (by omega)
theorem WO.callvS {x : A} {as : List A} {f : Nat} {a b : List V} {v : V} {h2 : Heap} (hx : x.ev vs env = .fn f a b) (hl : Runs c f (appV a (appV (evs as fun a => a.ev vs env) b)) h (.ok v h2)) (w : WO c l Q (v :: vs) (Env.set i j v env) h2) : WO c (.s i j (.H (.callv x as)) :: l) Q vs env h := by
  obtain ⟨x1, e1, h1, ⟨N, ev⟩, q⟩ := w
  obtain ⟨N2, hl⟩ := hl
  refine ⟨x1, e1, h1, ⟨max N N2, fun m hm R hR => ?_⟩, q⟩
  show ((Option.rec .bad (fun x => ofC h (levR c R m x.1 (appV x.2.1 (appV (evs as fun a => a.ev vs env) x.2.2)) .none h).1) (x.ev vs env).asFn : OR).k env fun v h => Env.setC i j v (fun env => opsN l (levR c R m) (v :: vs) env h) env) = _
  rw [hx]
  show ((ofC h (levR c R m f (appV a (appV (evs as fun a => a.ev vs env) b)) .none h).1).k env fun v h => Env.setC i j v (fun env => opsN l (levR c R m) (v :: vs) env h) env) = _
  rw [ofC_eq, hl m (by omega) R (by omega)]
  show v.force (fun v => Env.setC i j v (fun env => opsN l (levR c R m) (v :: vs) env h2) env) = _
  rw [V.force_eq, Env.setC_eq]; exact ev m (by omega) R (by omega)
theorem WO.callvF {x : A} {as : List A} {f : Nat} {a b as' : List V} {P : V → Heap → Prop} (hx : x.ev vs env = .fn f a b) (ha : appV a (appV (evs as (fun a => a.ev vs env)) b) = as') (hr : ∃ v h1, Runs c f as' h (.ok v h1) ∧ P v h1) (K : ∀ v h1, P v h1 → WO c l Q (v :: vs) env h1) : WO c (.p (.H (.callv x as)) :: l) Q vs env h := by
  obtain ⟨v, h1, hr, hp⟩ := hr
  exact WO.callv hx (by rw [ha]; exact hr) (K v h1 hp)
theorem WO.callvFS {x : A} {as : List A} {f : Nat} {a b as' : List V} {P : V → Heap → Prop} (hx : x.ev vs env = .fn f a b) (ha : appV a (appV (evs as (fun a => a.ev vs env)) b) = as') (hr : ∃ v h1, Runs c f as' h (.ok v h1) ∧ P v h1) (K : ∀ v h1, P v h1 → WO c l Q (v :: vs) (Env.set i j v env) h1) : WO c (.s i j (.H (.callv x as)) :: l) Q vs env h := by
  obtain ⟨v, h1, hr, hp⟩ := hr
  exact WO.callvS hx (by rw [ha]; exact hr) (K v h1 hp)
/-! ### where it parts -/
theorem WO.ifV {o : OpL} {p : Prop} [Decidable p] (hl : light o (fun a => a.ev vs env) h = .val (.bool (decide p))) (ht : p → WO c l Q (.bool true :: vs) env h) (hf : ¬ p → WO c l Q (.bool false :: vs) env h) : WO c (.p (.L o) :: l) Q vs env h := by
  by_cases hp : p
  · exact WO.val (hl.trans (by rw [decide_eq_true hp])) (ht hp)
  · exact WO.val (hl.trans (by rw [decide_eq_false hp])) (hf hp)
theorem WO.ifS {o : OpL} {p : Prop} [Decidable p] (hl : light o (fun a => a.ev vs env) h = .val (.bool (decide p))) (ht : p → WO c l Q (.bool true :: vs) (Env.set i j (.bool true) env) h) (hf : ¬ p → WO c l Q (.bool false :: vs) (Env.set i j (.bool false) env) h) : WO c (.s i j (.L o) :: l) Q vs env h := by
  by_cases hp : p
  · exact WO.valS (hl.trans (by rw [decide_eq_true hp])) (ht hp)
  · exact WO.valS (hl.trans (by rw [decide_eq_false hp])) (hf hp)
theorem WP.seqCut {a b : C} (R : Env → Heap → Prop) (w : WP c a (fun x e h => match x with | .nrm => R e h | x => Q x e h) env h) (k : ∀ e h, R e h → WP c b Q e h) : WP c (.seq a b) Q env h :=
  WP.seq (w.mono fun x e h q => by cases x <;> first | exact k e h q | exact q)
theorem WP.loopG {α : Type} {a : C} (I : α → Env → Heap → Prop) (μ : α → Nat) (g : α) (h0 : I g env h) (step : ∀ g e1 h1, I g e1 h1 → WP c a (fun x e2 h2 => match x with | .nrm => ∃ g', μ g' < μ g ∧ I g' e2 h2 | x => Q x e2 h2) e1 h1) : WP c (.loop a) Q env h := by
  have key : ∀ k g e1 h1, μ g = k → I g e1 h1 → ∃ x e2 h2, (∃ N, ∀ m, N ≤ m → ∀ R, N ≤ R → ∀ n, N ≤ n → rounds (fun env h => code a (levR c R m) R env h) n e1 h1 = .ok x e2 h2) ∧ Q x e2 h2 := by
    intro k
    induction k using Nat.strongRecOn with
    | _ k ih =>
      intro g e1 h1 hk hI
      obtain ⟨x, e2, h2, ⟨N, ev⟩, q⟩ := step g e1 h1 hI
      have one : ∀ m, N ≤ m → ∀ R, N ≤ R → ∀ n, rounds (fun env h => code a (levR c R m) R env h) (n + 1) e1 h1 = (X.rec (rounds (fun env h => code a (levR c R m) R env h) n e2 h2) (.ok .ret e2 h2) (fun i => .ok (.exit i) e2 h2) (fun v => .ok (.pan v) e2 h2) x : CR) := by
        intro m hm R hR n
        show (CR.rec (fun x env h => X.rec (rounds (fun env h => code a (levR c R m) R env h) n env h) (.ok .ret env h) (fun i => .ok (.exit i) env h) (fun v => .ok (.pan v) env h) x) .bad (code a (levR c R m) R e1 h1) : CR) = _
        rw [ev m hm R hR]
      cases x with
      | nrm =>
        obtain ⟨g', hlt, hI2⟩ := q
        obtain ⟨x3, e3, h3, ⟨N3, ev3⟩, q3⟩ := ih (μ g') (hk ▸ hlt) g' e2 h2 rfl hI2
        refine ⟨x3, e3, h3, ⟨max N N3 + 1, fun m hm R hR n hn => ?_⟩, q3⟩
        obtain ⟨n', rfl⟩ : ∃ n', n = n' + 1 := ⟨n - 1, by omega⟩
        rw [one m (by omega) R (by omega)]
        exact ev3 m (by omega) R (by omega) n' (by omega)
      | ret =>
        refine ⟨.ret, e2, h2, ⟨N + 1, fun m hm R hR n hn => ?_⟩, q⟩
        obtain ⟨n', rfl⟩ : ∃ n', n = n' + 1 := ⟨n - 1, by omega⟩
        rw [one m (by omega) R (by omega)]
      | exit i =>
        refine ⟨.exit i, e2, h2, ⟨N + 1, fun m hm R hR n hn => ?_⟩, q⟩
        obtain ⟨n', rfl⟩ : ∃ n', n = n' + 1 := ⟨n - 1, by omega⟩
        rw [one m (by omega) R (by omega)]
      | pan v =>
        refine ⟨.pan v, e2, h2, ⟨N + 1, fun m hm R hR n hn => ?_⟩, q⟩
        obtain ⟨n', rfl⟩ : ∃ n', n = n' + 1 := ⟨n - 1, by omega⟩
        rw [one m (by omega) R (by omega)]
  obtain ⟨x, e2, h2, ⟨N, ev⟩, q⟩ := key _ g env h rfl h0
  exact ⟨x, e2, h2, ⟨N, fun m hm R hR => ev m hm R hR R hR⟩, q⟩
end
end
end Go.Eng
namespace Go.Eng
noncomputable section

section
variable {c : Ctx} {Q : QT} {env : Env} {h : Heap} {fs : List Fact} {l : List Opd} {vs : List V} {lg : List Log} {uo : List Nat} {i j : D8}
theorem WD.bslF {r n : Nat} {zero : List V} {ps : List (Nat × Nat × A)} {rows : List (List V)} (st : St fs h) (hf : fill ps (fun a => a.ev vs env) (rep n zero) = some rows.flatten) (hr : 0 < r) (hn : rows.length = n) (hl : ∀ row ∈ rows, row.length = r)
    (K : ∀ b h1 lo, St (.stb (fun h => Rows r h (.sl b 0 n (some n)) rows) :: fs) h1 → WD c l Q (.sl b 0 n (some n) :: vs) (lo :: lg) env h1) : WD c (⟨.p (.L (.bsl r n zero ps)), uo⟩ :: l) Q vs lg env h :=
  WD.new (L.bsl hf) (okSize_cl hr) (K _ _ _ (st.frozen _ fun h' hg => rows_new hr hn hl hg))
theorem WD.storeF {n b o : Nat} {x y : A} {cs row row' : List V} (st : St fs h) (k : Nat) (hk : fs[k]? = some (.box b row)) (hx : x.ev vs env = .ptr b o) (hy : (y.ev vs env).asCells = some cs) (hn : lenV cs = n) (h0 : n.beq 0 = false) (ho : (Nat.add o n).ble (lenV row) = true) (hr : overV o cs row = row')
    (hs : ∀ h1, St (fs.set k (.box b row')) h1 → stills uo h1 lg = true) (K : ∀ h1, St (fs.set k (.box b row')) h1 → WD c l Q (un :: vs) (.no :: lg) env h1) : WD c (⟨.p (.H (.store n x y)), uo⟩ :: l) Q vs lg env h :=
  WD.act (fun _ => L.storeB hx hy hn h0 (st.box_ge k hk) (st.box_at k hk) ho hr) (hs _ (st.putBox k row' hk)) (K _ (st.putBox k row' hk))
theorem WD.appF {r bytes f : Nat} {s x : A} {v xv : V} {rows new : List (List V)} (st : St fs h) (k : Nat) (hk : fs[k]? = some (.acc f r v rows)) (hs : s.ev vs env = v) (hx : x.ev vs env = xv) (hn : Rows r h xv new) (hr : 0 < r) (hfit : (rows.length + new.length) * bytes ≤ 1099511627776)
    (hst : ∀ f' v' h1, St (fs.set k (.acc f' r v' (rows ++ new))) h1 → stills uo h1 lg = true) (K : ∀ f' v' h1, St (fs.set k (.acc f' r v' (rows ++ new))) h1 → WD c l Q (v' :: vs) (.no :: lg) env h1) : WD c (⟨.p (.H (.append r bytes s x)), uo⟩ :: l) Q vs lg env h := by
  have hl : ∀ row ∈ new, row.length = r := by
    cases hn with
    | nil => intro row hm; simp at hm
    | row _ _ _ _ _ hlen => exact hlen
  obtain ⟨f', v', h', e, s'⟩ := st.append k hk hr hl hfit
  exact WD.act (fun _ => L.append (ev := fun a => a.ev vs env) hs hx hn e) (hst _ _ _ s') (K _ _ _ s')
theorem WD.callF {f : Nat} {as : List A} {as' : List V} {P : V → Heap → Prop} (ha : evs as (fun a => a.ev vs env) = as') (hr : ∃ v h1, Runs c f as' h (.ok v h1) ∧ P v h1) (hs : ∀ v h1, P v h1 → stills uo h1 lg = true) (K : ∀ v h1, P v h1 → WD c l Q (v :: vs) (.no :: lg) env h1) : WD c (⟨.p (.H (.call f as)), uo⟩ :: l) Q vs lg env h := by
  obtain ⟨v, h1, hr, hp⟩ := hr
  exact WD.call (by rw [ha]; exact hr) (hs v h1 hp) (K v h1 hp)
theorem WD.ifV {o : OpL} {p : Prop} [Decidable p] (hl : light o (fun a => a.ev vs env) h = .val (.bool (decide p))) (ht : ∀ lo, p → WD c l Q (.bool true :: vs) (lo :: lg) env h) (hf : ∀ lo, ¬ p → WD c l Q (.bool false :: vs) (lo :: lg) env h) : WD c (⟨.p (.L o), uo⟩ :: l) Q vs lg env h := by
  by_cases hp : p
  · exact WD.val (hl.trans (by rw [decide_eq_true hp])) (ht _ hp)
  · exact WD.val (hl.trans (by rw [decide_eq_false hp])) (hf _ hp)
theorem WD.ifS {o : OpL} {p : Prop} [Decidable p] (hl : light o (fun a => a.ev vs env) h = .val (.bool (decide p))) (ht : ∀ lo, p → WD c l Q (.bool true :: vs) (lo :: lg) (Env.set i j (.bool true) env) h) (hf : ∀ lo, ¬ p → WD c l Q (.bool false :: vs) (lo :: lg) (Env.set i j (.bool false) env) h) : WD c (⟨.s i j (.L o), uo⟩ :: l) Q vs lg env h := by
  by_cases hp : p
  · exact WD.valS (hl.trans (by rw [decide_eq_true hp])) (ht _ hp)
  · exact WD.valS (hl.trans (by rw [decide_eq_false hp])) (hf _ hp)
end

/-! ### functions -/
def RunP (c : Ctx) (f : Nat) (as : List V) (h : Heap) (P : V → Heap → Prop) : Prop := ∃ v h1, Runs c f as h (.ok v h1) ∧ P v h1
def QF (rs : List Res) (P : V → Heap → Prop) : QT := fun x e h => match x with
  | .nrm => ∃ vs, results e h rs = some vs ∧ P (one vs) h
  | .ret => ∃ vs, results e h rs = some vs ∧ P (one vs) h
  | .pan _ => False
  | .exit _ => False
section
variable {c : Ctx} {h : Heap}
theorem RunP.fun_ {f : Nat} {F : Fun} {as : List V} {P : V → Heap → Prop} (hF : T.get f c.funs = some F) (hn : as.length = F.np) (w : WP c F.body (QF F.results P) (argsP as 0 Env.nil) h) : RunP c f as h P := by
  obtain ⟨x, e1, h1, ev, q⟩ := w
  cases x with
  | nrm =>
    obtain ⟨vs, hv, hp⟩ := q
    exact ⟨_, _, Runs.fun_ hF hn ⟨_, _, _, ev, ⟨vs, hv, rfl⟩⟩, hp⟩
  | ret =>
    obtain ⟨vs, hv, hp⟩ := q
    exact ⟨_, _, Runs.fun_ hF hn ⟨_, _, _, ev, ⟨vs, hv, rfl⟩⟩, hp⟩
  | pan v => exact q.elim
  | exit i => exact q.elim
end
end
end Go.Eng
namespace Go.Eng
noncomputable section
theorem res_nil (e : Env) (h : Heap) : results e h [] = some [] := rfl
theorem res_cons {e : Env} {h : Heap} {r : Res} {rs : List Res} {v : V} {vs : List V} (h1 : res1 h e r = some v) (h2 : results e h rs = some vs) : results e h (r :: rs) = some (v :: vs) := by
  show (Option.rec none (fun v => Option.rec none (fun vs => some (v :: vs)) (results e h rs)) (res1 h e r) : Option (List V)) = _
  rw [h1, h2]
theorem res_tmp {e : Env} {h : Heap} {i j : D8} {v : V} (hv : Env.get i j e = v) : res1 h e (.tmp i j) = some v := by rw [← hv]; rfl
theorem res_cellA {e : Env} {h : Heap} {i j : D8} {b o n : Nat} {l : List V} (hx : Env.get i j e = .ptr b o) (hl : h.load b o n = some l) : res1 h e (.cell i j (some n)) = some (.agg l) := by
  show (match (Env.get i j e).asPtr with
    | some (b, o) => (match h.load b o n with | some cs => some (V.agg cs) | none => none)
    | none => none) = _
  rw [hx]
  show (match h.load b o n with | some cs => some (V.agg cs) | none => none) = _
  rw [hl]
end
end Go.Eng
namespace Go.Eng
noncomputable section
theorem AccV.cells {f r : Nat} {h : Heap} {v : V} {rows : List (List V)} (a : AccV f r h v rows) : v.asCells = some [v] := by cases a <;> rfl
theorem L.llenR {r : Nat} {ev : Ev} {h : Heap} {x : A} {v : V} {rows : List (List V)} (hx : ev x = v) (a : Rows r h v rows) : light (.len false x) ev h = .val (.int .i64 (rows.length : Int)) := by
  subst hx
  generalize hv : ev x = v at a
  cases a with
  | nil => exact L.llenN hv
  | row => exact L.llen hv
end
end Go.Eng
namespace Go.Eng
noncomputable section
namespace L
variable {ev : Ev} {h : Heap} {x y : A}
theorem wrapU8 {n : Nat} (hn : n < 256) : IntKind.wrap .u8 (n : Int) = (n : Int) := by
  have e : IntKind.wrap .u8 (n : Int) = (n : Int) % 256 := by unfold IntKind.wrap; simp [IntKind.bits, IntKind.signed]
  rw [e]; omega
theorem addU8 {a b n : Nat} (hx : ev x = .int .u8 (a : Int)) (hy : ev y = .int .u8 (b : Int)) (hc : a + b = n) (hn : n < 256) : light (.bin .add x y) ev h = .val (.int .u8 (n : Int)) := by
  show (ev x).onInt (fun k a => (ev y).onInt fun j b => bin1 .add k a j b) = _
  rw [hx, hy]
  show LR.of (some (wrapV .u8 (iadd (a : Int) (b : Int)))) = _
  rw [wrapV_eq, iadd_eq, show (a : Int) + (b : Int) = (n : Int) by omega, wrapU8 hn]; rfl
theorem conv64 {k : IntKind} {a : Int} (hx : ev x = .int k a) (hn : In64 a) : light (.conv .i64 x) ev h = .val (.int .i64 a) := by
  show (ev x).onInt (fun _ a => .val (wrapV .i64 a)) = _
  rw [hx]
  show LR.val (wrapV .i64 a) = _
  rw [wrapV_eq, wrap64 hn]
end L
end
end Go.Eng
namespace Go.Eng
noncomputable section
/-! ### functions that defer one closure, which recovers -/
end
end Go.Eng
namespace Go.Eng
noncomputable section
theorem overV_all {row : List V} {z : List V} {n : Nat} (hr : row.length = n) (hz : z.length = n := by rfl) : overV 0 row z = row := by
  show appV row (dropV (lenV row) z) = row
  rw [appV_eq, dropV_eq, lenV_eq, hr, ← hz, List.drop_length, List.append_nil]
end
end Go.Eng
namespace Go.Eng
noncomputable section
theorem intV_eq' (k : IntKind) (n : Nat) : intV k (n : Int) = .int k (n : Int) := by
  show natV k n = _
  rw [natV_eq]; rfl
theorem L.rem {ev : Ev} {h : Heap} {x y : A} {k : IntKind} {a b n : Nat} (hx : ev x = .int k (a : Int)) (hy : ev y = .int k (b : Int)) (hc : a % b = n) (hb : b ≠ 0) : light (.bin .rem x y) ev h = .val (.int k (n : Int)) := by
  show (ev x).onInt (fun k a => (ev y).onInt fun j b => bin1 .rem k a j b) = _
  rw [hx, hy]
  show (Bool.rec .bad (.of (Bool.rec (some (intV k ((a : Int).tmod (b : Int)))) none (ieq (b : Int) 0))) (kEq k k) : LR) = _
  have h1 : kEq k k = true := by cases k <;> rfl
  have h2 : ieq (b : Int) 0 = false := by
    show b.beq 0 = false
    cases b with
    | zero => exact absurd rfl hb
    | succ n => rfl
  rw [h1, h2]
  show LR.of (some (intV k ((a : Int).tmod (b : Int)))) = _
  rw [show (a : Int).tmod (b : Int) = ((a % b : Nat) : Int) from rfl, hc, intV_eq']; rfl
theorem Rows.load1F {r b o n i j : Nat} {cap : Option Nat} {h : Heap} {rows : List (List V)} {row : List V} {v : V} (a : Rows r h (.sl b o n cap) rows) (hi : rows[i]? = some row) (hj : row[j]? = some v) : h.load1 b (o + i * r + j) = some v := by
  cases a with
  | row hr hob ho hrow hsz hlen =>
    rename_i f ap sz t
    have hlt : i < rows.length := (List.getElem?_eq_some_iff.1 hi).1
    have hl := hlen row (List.mem_of_getElem? hi)
    have hjl : j < row.length := (List.getElem?_eq_some_iff.1 hj).1
    have hle : (i + 1) * r ≤ rows.length * r := Nat.mul_le_mul_right r hlt
    rw [Nat.add_mul] at hle
    unfold Heap.load1
    rw [show h.obj b = _ from hob]
    show (Bool.rec none (load1R r (o + i * r + j) t) ((o + i * r + j).blt sz) : Option V) = _
    have h1 : (o + i * r + j).blt sz = true := by rw [nblt]; simp; omega
    rw [h1]
    show load1R r (o + i * r + j) t = _
    unfold load1R
    obtain ⟨m, hm⟩ : ∃ m, o = m * r := ⟨o / r, by have := Nat.div_add_mod o r; rw [ho, Nat.mul_comm] at this; omega⟩
    have he : o + i * r + j = r * (m + i) + j := by rw [hm, Nat.mul_comm r (m + i), Nat.add_mul]
    have h2 : (o + i * r + j).div r = o / r + i := by
      show (o + i * r + j) / r = _
      rw [he, Nat.mul_add_div hr, Nat.div_eq_of_lt (by omega), hm, Nat.mul_div_cancel _ hr]; omega
    have h3 : (o + i * r + j).mod r = j := by
      show (o + i * r + j) % r = j
      rw [he, Nat.mul_add_mod, Nat.mod_eq_of_lt (by omega)]
    rw [h2, h3, hrow i row hi]
    show hd (dropV j row) = some v
    rw [hd_eq, dropV_eq, List.head?_drop, hj]
theorem Runs.more {c : Ctx} {funs : T Fun} {dfuns : T FunD} {more : Nat → List V → Heap → OR} (hc : c = Ctx.of funs dfuns more) {f : Nat} (h0 : T.get f funs = none) (h1 : T.get f dfuns = none) {as : List V} {h : Heap} {r : OR} (e : more f as h = r) : Runs c f as h r := by
  subst hc
  refine ⟨1, fun m hm R _ => ?_⟩
  obtain ⟨m', rfl⟩ : ∃ m', m = m' + 1 := ⟨m - 1, by omega⟩
  show (Option.rec (Option.rec (more f as h) (fun F => runD F (levR _ R m') as h) (T.get f dfuns)) (fun fn => runFunR fn R (levR _ R m') as h) (T.get f funs) : OR) = r
  rw [h0, h1]; exact e
end
end Go.Eng
namespace Go.Eng
noncomputable section
/-! ### slices that may be nil: their parts by name -/
def slB : V → Nat
  | .sl b _ _ _ => b
  | _ => 0
def slO : V → Nat
  | .sl _ o _ _ => o
  | _ => 0
def slC : V → Option Nat
  | .sl _ _ _ c => c
  | _ => none
theorem Rows.sl {r i : Nat} {h : Heap} {v : V} {rows : List (List V)} (a : Rows r h v rows) (hi : i < rows.length) : v = .sl (slB v) (slO v) rows.length (slC v) := by
  cases a with
  | nil => exact absurd hi (Nat.not_lt_zero _)
  | row => rfl
theorem Rows.load1R {r i j : Nat} {h : Heap} {v x : V} {rows : List (List V)} {row : List V} (a : Rows r h v rows) (hi : rows[i]? = some row) (hj : row[j]? = some x) : h.load1 (slB v) (slO v + i * r + j) = some x := by
  have e := a.sl (List.getElem?_eq_some_iff.1 hi).1
  rw [e] at a
  exact a.load1F hi hj
theorem Rows.load1Z {i : Nat} {h : Heap} {v x : V} {rows : List (List V)} (a : Rows 1 h v rows) (hi : rows[i]? = some [x]) : h.load1 (slB v) (slO v + i * 1) = some x := by
  have := a.load1R (j := 0) hi rfl
  rwa [Nat.add_zero] at this
theorem L.neBool_same {ev : Ev} {h : Heap} {x y : A} {b : Bool} (hx : ev x = .bool b) (hy : ev y = .bool b) : light (.eq true .bool x y) ev h = .val (.bool false) := by
  show (Option.rec .bad (fun b => .val (.bool (b != true))) (Eq1.eq .bool (ev x) (ev y)) : LR) = _
  rw [hx, hy]
  cases b <;> rfl
theorem L.llenRn {r n : Nat} {ev : Ev} {h : Heap} {x : A} {v : V} {rows : List (List V)} (hx : ev x = v) (a : Rows r h v rows) (hn : rows.length = n) : light (.len false x) ev h = .val (.int .i64 (n : Int)) := by
  subst hn; exact L.llenR hx a
theorem Rows.det {r : Nat} {h h' : Heap} {v : V} {rows rows' : List (List V)} (a : Rows r h v rows) (a' : Rows r h' v rows') (hb : T.get (slB v) h'.t = T.get (slB v) h.t) : rows' = rows := by
  cases a with
  | nil =>
    generalize hv : V.slN = v at a'
    cases a' with
    | nil => rfl
    | row => cases hv
  | @row b o f ap sz cap t rows hr hob ho hrow hsz hlen =>
    generalize hv : V.sl b o rows.length cap = v at a'
    cases a' with
    | nil => cases hv
    | @row b' o' f' ap' sz' cap' t' rows' hr' hob' ho' hrow' hsz' hlen' =>
      injection hv with e1 e2 e3 e4
      subst e1; subst e2; subst e4
      have hb : T.get b h'.t = T.get b h.t := hb
      rw [hob, hob'] at hb
      injection hb with hb
      injection hb with e5 e6 e7 e8 e9
      subst e9
      refine List.ext_getElem? fun i => ?_
      by_cases hi : i < rows.length
      · have h1 := List.getElem?_eq_getElem hi
        have h2 := List.getElem?_eq_getElem (l := rows') (i := i) (by omega)
        have h3 := hrow i _ h1
        have h4 := hrow' i _ h2
        rw [h3] at h4
        rw [h1, h2, Option.some.inj h4]
      · rw [List.getElem?_eq_none (by omega), List.getElem?_eq_none (by omega)]
theorem St.exRows {r : Nat} {v : V} {Q : Heap → List (List V) → Prop} {fs : List Fact} {h : Heap} (s : St (.stb (fun h => ∃ rows, Rows r h v rows ∧ Q h rows) :: fs) h) : ∃ rows, St (.stb (fun h => Rows r h v rows) :: .stb (fun h => Q h rows) :: fs) h := by
  obtain ⟨Z, s⟩ := s
  have hall := s.all _ (List.mem_cons_self ..)
  obtain ⟨rows, h1, h2⟩ := hall h fun _ _ => rfl
  have hz : v = .slN ∨ Z (slB v) := by
    apply Classical.byContradiction
    intro hn
    have hn1 : v ≠ .slN := fun e => hn (Or.inl e)
    have hn2 : ¬ Z (slB v) := fun e => hn (Or.inr e)
    obtain ⟨rows', h3, _⟩ := hall { h with t := T.set (slB v) (.box []) h.t } fun b hb => by
      show T.get b (T.set (slB v) (.box []) h.t) = _
      rw [T.get_set (Nat.zero_le _) (Nat.zero_le _), if_neg (by intro e; subst e; exact hn2 hb)]
    generalize hv : v = w at h3
    cases h3 with
    | nil => exact hn1 hv
    | @row b o f ap sz cap t rows hr hob ho hrow hsz hlen =>
      subst hv
      have e : T.get b (T.set b (.box []) h.t) = some (.cells r f ap sz t) := hob
      rw [T.get_set_same] at e; cases e
  have dep : ∀ h', (∀ b, Z b → T.get b h'.t = T.get b h.t) → Rows r h' v rows ∧ Q h' rows := by
    intro h' hh
    obtain ⟨rows', h3, h4⟩ := hall h' hh
    rcases hz with rfl | hz
    · have e1 : rows = [] := by cases h1; rfl
      have e2 : rows' = [] := by cases h3; rfl
      subst e1; subst e2; exact ⟨h3, h4⟩
    · have e := h1.det h3 (hh _ hz)
      subst e; exact ⟨h3, h4⟩
  refine ⟨rows, Z, s.wf, s.z, s.oz, s.nb, s.nf, s.nd, fun x hx => ?_⟩
  rcases List.mem_cons.1 hx with rfl | hx
  · exact fun h' hh => (dep h' hh).1
  · rcases List.mem_cons.1 hx with rfl | hx
    · exact fun h' hh => (dep h' hh).2
    · exact s.all x (List.mem_cons_of_mem _ hx)
section
variable {c : Ctx} {Q : QT} {env : Env} {h : Heap}
theorem WD.yes {g : A} {b : Bool} {op : Op} {uo : List Nat} {l : List Opd} {vs : List V} {lg : List Log} (hg : (g.ev vs env).gd b = some true) (w : WD c (⟨.p op, uo⟩ :: l) Q vs lg env h) : WD c (⟨.g g b op, uo⟩ :: l) Q vs lg env h := by
  obtain ⟨x, e1, h1, ⟨N, ev⟩, q⟩ := w
  refine ⟨x, e1, h1, ⟨N, fun m hm R hR => ?_⟩, q⟩
  show (Option.rec .bad (fun c1 => Bool.rec (opsD l (levR c R m) (un :: vs) (.no :: lg) env h) (dOp op uo (levR c R m) (fun a => a.ev vs env) lg env h fun l' v h => opsD l (levR c R m) (v :: vs) (l' :: lg) env h) c1) ((g.ev vs env).gd b) : CR) = _
  rw [hg]; exact ev m hm R hR
theorem WD.no {g : A} {b : Bool} {op : Op} {uo : List Nat} {l : List Opd} {vs : List V} {lg : List Log} (hg : (g.ev vs env).gd b = some false) (w : WD c l Q (un :: vs) (.no :: lg) env h) : WD c (⟨.g g b op, uo⟩ :: l) Q vs lg env h := by
  obtain ⟨x, e1, h1, ⟨N, ev⟩, q⟩ := w
  refine ⟨x, e1, h1, ⟨N, fun m hm R hR => ?_⟩, q⟩
  show (Option.rec .bad (fun c1 => Bool.rec (opsD l (levR c R m) (un :: vs) (.no :: lg) env h) (dOp op uo (levR c R m) (fun a => a.ev vs env) lg env h fun l' v h => opsD l (levR c R m) (v :: vs) (l' :: lg) env h) c1) ((g.ev vs env).gd b) : CR) = _
  rw [hg]; exact ev m hm R hR
end
end
end Go.Eng
namespace Go.Eng
noncomputable section

/-! ### slices of one's own that are written into -/
abbrev Fact.cel (b r : Nat) (rows : List (List V)) : Fact := .obj b fun o => ∃ t, o = .cells r b 0 (rows.length * r) t ∧ 0 < r ∧ ∀ i row, rows[i]? = some row → T.get i t = some row ∧ row.length = r
theorem St.obj_at {fs : List Fact} {h : Heap} (s : St fs h) (k : Nat) {b : Nat} {P : Obj → Prop} (hk : fs[k]? = some (.obj b P)) : ∃ o, T.get b h.t = some o ∧ P o := by
  obtain ⟨Z, s⟩ := s
  exact (s.all (.obj b P) (List.mem_of_getElem? hk)).1
theorem cel_rows {h : Heap} {b r : Nat} {rows : List (List V)} {o : Obj} {cap : Option Nat} (ho : T.get b h.t = some o) (hp : ∃ t, o = .cells r b 0 (rows.length * r) t ∧ 0 < r ∧ ∀ i row, rows[i]? = some row → T.get i t = some row ∧ row.length = r) : Rows r h (.sl b 0 rows.length cap) rows := by
  obtain ⟨t, rfl, hr, hrow⟩ := hp
  exact .row hr ho (Nat.zero_mod r) (fun i row hi => by rw [Nat.zero_div, Nat.zero_add]; exact (hrow i row hi).1) (by omega) (fun row hm => by
    obtain ⟨i, hi⟩ := List.mem_iff_getElem?.1 hm
    exact (hrow i row hi).2)
theorem St.celRows {fs : List Fact} {h : Heap} (s : St fs h) (k : Nat) {b r : Nat} {rows : List (List V)} {cap : Option Nat} (hk : fs[k]? = some (.cel b r rows)) : Rows r h (.sl b 0 rows.length cap) rows := by
  obtain ⟨o, ho, hp⟩ := s.obj_at k hk
  exact cel_rows ho hp
theorem St.cel {fs : List Fact} {h : Heap} (s : St fs h) {r : Nat} {rows : List (List V)} {t : T (List V)} (hr : 0 < r) (ht : ∀ i row, rows[i]? = some row → T.get i t = some row ∧ row.length = r) : St (.cel h.next r rows :: fs) (h.add (.cells r h.next 0 (rows.length * r) t)) :=
  s.new _ rfl rfl fun hn _ => ⟨⟨_, get_add_new .., t, rfl, hr, ht⟩, hn⟩
theorem St.still {fs : List Fact} {h : Heap} {b : Nat} {P : Obj → Prop} {Q : Heap → Prop} (s : St (.obj b P :: fs) h) (hq : ∀ h' o, T.get b h'.t = some o → P o → Q h') : St (.stb Q :: fs) h := by
  obtain ⟨Z, s⟩ := s
  have hx := s.all (.obj b P) (by simp)
  obtain ⟨⟨o, ho, hp⟩, _⟩ := hx
  have hbo : b ∉ owns fs := by
    have := s.nb; rw [owns_cons] at this
    exact (List.nodup_cons.1 this).1
  refine ⟨fun k => Z k ∨ k = b, s.wf, fun k hk => ?_, fun k hk => ⟨fun hz => ?_, (s.oz k (by rw [owns_cons]; exact List.mem_append_right _ hk)).2⟩, ?_, s.nf, fun k hk hf => s.nd k (by rw [owns_cons]; exact List.mem_append_right _ hk) hf, fun x hx => ?_⟩
  · rcases hk with hk | rfl
    · exact s.z k hk
    · rw [ho]; simp
  · have hk : k ∈ owns fs := hk
    rcases hz with hz | rfl
    · exact (s.oz k (by rw [owns_cons]; exact List.mem_append_right _ hk)).1 hz
    · exact hbo hk
  · have := s.nb; rw [owns_cons] at this
    exact (List.nodup_cons.1 this).2
  · rcases List.mem_cons.1 hx with rfl | hx
    · exact fun h' hz => hq h' o ((hz b (.inr rfl)).trans ho) hp
    · exact Fact.stay (s.all x (by simp [hx])) (fun k hk => ⟨.inl hk, rfl⟩) (fun _ _ => rfl) (fun _ _ => rfl) fun _ _ => rfl
theorem St.celStill {fs : List Fact} {h : Heap} {b r : Nat} {rows : List (List V)} (s : St (.cel b r rows :: fs) h) (cap : Option Nat) : St (.stb (fun h => Rows r h (.sl b 0 rows.length cap) rows) :: fs) h :=
  St.still s fun h' o ho hp => cel_rows ho hp
/-! ### many facts of one kind, ahead of others -/
theorem St.at_ {l fs : List Fact} {h : Heap} (s : St (l ++ fs) h) {i : Nat} {x : Fact} (hi : l[i]? = some x) : St (x :: (l.eraseIdx i ++ fs)) h :=
  s.perm (((perm_pick l i x hi).append_right fs))
theorem St.back {l fs : List Fact} {h : Heap} {i : Nat} {x y : Fact} (s : St (y :: (l.eraseIdx i ++ fs)) h) (hi : l[i]? = some x) : St (l.set i y ++ fs) h :=
  s.perm ((perm_set l i x y hi).append_right fs)
theorem St.out {x : Fact} {l fs : List Fact} {h : Heap} (s : St (l ++ x :: fs) h) : St (x :: (l ++ fs)) h := s.perm List.perm_middle
theorem St.in_ {x : Fact} {l fs : List Fact} {h : Heap} (s : St (x :: (l ++ fs)) h) : St (l ++ x :: fs) h := s.perm List.perm_middle.symm
/-! ### stores -/
theorem storeC_cel {R : Type} {h : Heap} {b n i : Nat} {t : T (List V)} {v : V} {d : R} {k : Heap → R} (h8 : 8 ≤ b) (hb : T.get b h.t = some (.cells 1 b 0 (n * 1) t)) (hf : T.get b h.fams = none) (hi : i < n) :
    h.storeC b (0 + i * 1) 1 [v] d k = k (h.put b (.cells 1 b 0 (n * 1) (T.set i [v] t))) := by
  unfold Heap.storeC
  rw [show b.blt 8 = false by rw [nblt]; simpa using h8, show h.obj b = _ from hb]
  show (bif (Nat.add (0 + i * 1) 1).ble (n * 1) then over d 1 (0 + i * 1) 1 [v] t (fun rows => h.killC b _ _ b fun h => h.putC b (.cells 1 b 0 (n * 1) rows) k) else d) = _
  have e1 : (Nat.add (0 + i * 1) 1).ble (n * 1) = true := by rw [nble]; simp; omega
  rw [e1, cond_true]
  unfold over
  have e2 : ((1 : Nat).beq 1 && ((0 + i * 1).mod 1).beq 0) = true := by
    have : (0 + i * 1).mod 1 = 0 := Nat.mod_one _
    rw [this]; rfl
  rw [e2, cond_true, forceL_eq]
  have e3 : (0 + i * 1).div 1 = i := by show (0 + i * 1) / 1 = i; omega
  rw [e3, T.setC_eq]
  unfold Heap.killC
  rw [hf]
  show h.putC b (.cells 1 b 0 (n * 1) (T.set i [v] t)) k = _
  rw [putC_eq']
theorem L.storeC_ok {call : CallT} {ev : Ev} {h : Heap} {x y : A} {b n i : Nat} {t : T (List V)} {v : V} (hx : ev x = .ptr b (0 + i * 1)) (hy : (ev y).asCells = some [v]) (h8 : 8 ≤ b) (hb : T.get b h.t = some (.cells 1 b 0 (n * 1) t)) (hf : T.get b h.fams = none) (hi : i < n) :
    heavy (.store 1 x y) call ev h = .ok un (h.put b (.cells 1 b 0 (n * 1) (T.set i [v] t))) := by
  show (Option.rec .bad (fun p => Option.rec .bad (fun l => Bool.rec .bad (h.storeC p.1 p.2 1 l .bad fun h => .ok un h) ((lenV l).beq 1)) (ev y).asCells) (ev x).asPtr : OR) = _
  rw [hx, hy]
  show h.storeC b (0 + i * 1) 1 [v] .bad (fun h => OR.ok un h) = _
  rw [storeC_cel h8 hb hf hi]
theorem St.putCel {fs : List Fact} {h : Heap} {b i : Nat} {rows : List (List V)} {v : V} (s : St (.cel b 1 rows :: fs) h) (hi : i < rows.length) :
    ∃ t, 8 ≤ b ∧ T.get b h.t = some (.cells 1 b 0 (rows.length * 1) t) ∧ T.get b h.fams = none ∧ St (.cel b 1 (rows.set i [v]) :: fs) (h.put b (.cells 1 b 0 (rows.length * 1) (T.set i [v] t))) := by
  have s0 := s
  obtain ⟨Z, s⟩ := s
  obtain ⟨⟨o, ho, t, rfl, hr, ht⟩, hn⟩ := s.all (.cel b 1 rows) (by simp)
  refine ⟨t, s0.obj_ge 0 rfl, ho, hn, s0.put1 rfl rfl rfl rfl fun Z hx => ⟨⟨_, get_put_same .., T.set i [v] t, by rw [List.length_set], hr, fun j row hj => ?_⟩, hx.2⟩⟩
  rw [List.getElem?_set] at hj
  rw [T.get_set (Nat.zero_le _) (Nat.zero_le _)]
  by_cases e : i = j
  · subst e
    rw [if_pos rfl, if_pos hi] at hj
    cases hj
    rw [if_pos rfl]; exact ⟨rfl, rfl⟩
  · rw [if_neg e] at hj
    rw [if_neg (fun h => e h.symm)]
    exact ht j row hj
end
end Go.Eng
namespace Go.Eng
noncomputable section

/-! ### tables of truths -/
def celB (b : Nat) (row : List Bool) : Fact := .cel b 1 (row.map fun x => [.bool x])
def tabF (bs : List Nat) (M : List (List Bool)) : List Fact := List.zipWith celB bs M
def TabV (ob oo n : Nat) (bs : List Nat) (h : Heap) : Prop := ∀ a b, bs[a]? = some b → ∃ cap, h.load1 ob (oo + a * 1) = some (.sl b 0 n cap)
structure Sq (n : Nat) (M : List (List Bool)) : Prop where
  len : M.length = n
  row : ∀ r ∈ M, r.length = n
theorem Sq.at {n : Nat} {M : List (List Bool)} (s : Sq n M) {a : Nat} (ha : a < n) : ∃ r, M[a]? = some r ∧ r.length = n :=
  ⟨M[a]'(by rw [s.len]; exact ha), List.getElem?_eq_getElem (by rw [s.len]; exact ha), s.row _ (List.getElem_mem _)⟩
theorem tabF_at {bs : List Nat} {M : List (List Bool)} {a b : Nat} {r : List Bool} (hb : bs[a]? = some b) (hr : M[a]? = some r) : (tabF bs M)[a]? = some (celB b r) := by
  unfold tabF; rw [List.getElem?_zipWith, hb, hr]
theorem tabF_set {bs : List Nat} {M : List (List Bool)} {a b : Nat} (r : List Bool) (hb : bs[a]? = some b) : (tabF bs M).set a (celB b r) = tabF bs (M.set a r) := by
  unfold tabF
  apply List.ext_getElem?
  intro i
  rw [List.getElem?_zipWith]
  by_cases e : a = i
  · subst e
    rw [List.getElem?_set, if_pos rfl, hb]
    by_cases hl : a < M.length
    · rw [if_pos (by rw [List.length_zipWith]; have := (List.getElem?_eq_some_iff.1 hb).1; omega), List.getElem?_set, if_pos rfl, if_pos hl]
    · rw [if_neg (by simp [List.length_zipWith]; omega), List.getElem?_set, if_pos rfl, if_neg hl]
  · rw [List.getElem?_set, if_neg e, List.getElem?_zipWith, List.getElem?_set, if_neg e]
theorem cel_load {h : Heap} {b : Nat} {row : List Bool} (a : Rows 1 h (.sl b 0 (row.map fun x => [V.bool x]).length none) (row.map fun x => [V.bool x])) {j : Nat} {x : Bool} (hj : row[j]? = some x) : h.load1 b (0 + j * 1) = some (.bool x) :=
  a.load1 (by rw [List.getElem?_map, hj]; rfl)
theorem tab_at {fs : List Fact} {h : Heap} {ob oo n : Nat} {bs : List Nat} {M : List (List Bool)} (st : St (.stb (TabV ob oo n bs) :: (tabF bs M ++ fs)) h) {a b : Nat} {r : List Bool} (hb : bs[a]? = some b) (hr : M[a]? = some r) :
    (∃ cap, h.load1 ob (oo + a * 1) = some (.sl b 0 n cap)) ∧ ∀ j x, r[j]? = some x → h.load1 b (0 + j * 1) = some (.bool x) := by
  refine ⟨st.stb_at 0 rfl a b hb, fun j x hj => ?_⟩
  have s2 := st.tail.at_ (tabF_at hb hr)
  exact cel_load (s2.celRows 0 rfl) hj
theorem tab_put {fs : List Fact} {h : Heap} {ob oo n : Nat} {bs : List Nat} {M : List (List Bool)} (st : St (.stb (TabV ob oo n bs) :: (tabF bs M ++ fs)) h) {a b j : Nat} {r : List Bool} (hb : bs[a]? = some b) (hr : M[a]? = some r) (hj : j < r.length) (x : Bool) :
    ∃ t, 8 ≤ b ∧ T.get b h.t = some (.cells 1 b 0 (r.length * 1) t) ∧ T.get b h.fams = none ∧ St (.stb (TabV ob oo n bs) :: (tabF bs (M.set a (r.set j x)) ++ fs)) (h.put b (.cells 1 b 0 (r.length * 1) (T.set j [.bool x] t))) := by
  have s1 : St (tabF bs M ++ .stb (TabV ob oo n bs) :: fs) h := st.in_
  have s2 := s1.at_ (tabF_at hb hr)
  obtain ⟨t, h8, h1, h2, s3⟩ := St.putCel (v := .bool x) s2 (i := j) (by simpa using hj)
  have hl : (r.map fun x => [V.bool x]).length = r.length := List.length_map ..
  rw [hl] at h1 s3
  refine ⟨t, h8, h1, h2, ?_⟩
  have e : (r.map fun x => [V.bool x]).set j [.bool x] = (r.set j x).map fun x => [V.bool x] := by rw [List.map_set]
  rw [e] at s3
  have s4 : St ((tabF bs M).set a (celB b (r.set j x)) ++ .stb (TabV ob oo n bs) :: fs) _ := St.back (y := celB b (r.set j x)) s3 (tabF_at hb hr)
  rw [tabF_set _ hb] at s4
  exact s4.out

namespace Lab
/-! ### ways of two steps are one -/
def at2 (M : List (List Bool)) (a b : Nat) : Bool := ((M[a]?.getD [])[b]?).getD false
def orRow (r s : List Bool) : List Bool := List.zipWith (· || ·) r s
def clRow (k : Nat) (M : List (List Bool)) (row : List Bool) : List Bool := if (row[k]?).getD false then orRow row (M[k]?.getD []) else row
def clStep (M : List (List Bool)) (k : Nat) : List (List Bool) := M.map (clRow k M)
def closed (n : Nat) (M : List (List Bool)) : List (List Bool) := (List.range n).foldl clStep M
def clPart (k a : Nat) (M : List (List Bool)) : List (List Bool) := (M.take a).map (clRow k M) ++ M.drop a
def rowPart (b : Nat) (r s : List Bool) : List Bool := (orRow r s).take b ++ r.drop b
theorem orRow_self (r : List Bool) : orRow r r = r := by
  unfold orRow
  induction r with
  | nil => rfl
  | cons a r ih => rw [List.zipWith_cons_cons, ih]; cases a <;> rfl
theorem orRow_len {r s : List Bool} {n : Nat} (hr : r.length = n) (hs : s.length = n) : (orRow r s).length = n := by unfold orRow; rw [List.length_zipWith, hr, hs, Nat.min_self]
theorem clRow_len {k n : Nat} {M : List (List Bool)} {row : List Bool} (s : Sq n M) (hk : k < n) (hr : row.length = n) : (clRow k M row).length = n := by
  obtain ⟨r, h1, h2⟩ := s.at hk
  unfold clRow
  rw [h1]
  split
  · exact orRow_len hr h2
  · exact hr
theorem clStep_sq {k n : Nat} {M : List (List Bool)} (s : Sq n M) (hk : k < n) : Sq n (clStep M k) := by
  refine ⟨by unfold clStep; rw [List.length_map, s.len], fun r hr => ?_⟩
  obtain ⟨r0, h0, rfl⟩ := List.mem_map.1 hr
  exact clRow_len s hk (s.row r0 h0)
theorem closed_succ (n : Nat) (M : List (List Bool)) : closed (n + 1) M = clStep (closed n M) n := by
  unfold closed; rw [List.range_succ, List.foldl_append]; rfl
theorem closed_sq {n : Nat} {M : List (List Bool)} (s : Sq n M) : ∀ k, k ≤ n → Sq n (closed k M)
  | 0, _ => s
  | k + 1, h => by rw [closed_succ]; exact clStep_sq (closed_sq s k (by omega)) (by omega)
theorem clPart_zero (k : Nat) (M : List (List Bool)) : clPart k 0 M = M := by unfold clPart; simp
theorem clPart_all {k n : Nat} {M : List (List Bool)} (s : Sq n M) : clPart k n M = clStep M k := by
  unfold clPart clStep
  rw [List.take_of_length_le (by rw [s.len]; exact Nat.le_refl _), List.drop_of_length_le (by rw [s.len]; exact Nat.le_refl _), List.append_nil]
theorem clPart_at {k a i n : Nat} {M : List (List Bool)} (s : Sq n M) (ha : a ≤ n) : (clPart k a M)[i]? = (M[i]?).map fun r => if i < a then clRow k M r else r := by
  unfold clPart
  by_cases h : i < a
  · rw [List.getElem?_append_left (by rw [List.length_map, List.length_take, s.len]; omega), List.getElem?_map, List.getElem?_take_of_lt h]
    cases M[i]? with
    | none => rfl
    | some r => simp [h]
  · rw [List.getElem?_append_right (by rw [List.length_map, List.length_take, s.len]; omega), List.length_map, List.length_take, s.len, List.getElem?_drop]
    have : a + (i - min a n) = i := by omega
    rw [this]
    cases M[i]? with
    | none => rfl
    | some r => simp [h]
theorem clPart_succ {k a n : Nat} {M : List (List Bool)} {r : List Bool} (s : Sq n M) (ha : a < n) (hr : M[a]? = some r) : (clPart k a M).set a (clRow k M r) = clPart k (a + 1) M := by
  apply List.ext_getElem?
  intro i
  rw [List.getElem?_set, clPart_at s (by omega)]
  have hlen : (clPart k a M).length = n := by unfold clPart; rw [List.length_append, List.length_map, List.length_take, List.length_drop, s.len]; omega
  by_cases e : a = i
  · subst e
    rw [if_pos rfl, hlen, if_pos ha, clPart_at s (by omega), hr]; simp
  · rw [if_neg e, clPart_at s (by omega)]
    cases M[i]? with
    | none => rfl
    | some q => simp; congr 1; simp; omega
theorem clRow_self {k : Nat} {M : List (List Bool)} {r : List Bool} (hr : M[k]? = some r) : clRow k M r = r := by
  unfold clRow; rw [hr]; split
  · exact orRow_self r
  · rfl
theorem rowPart_zero (r s : List Bool) : rowPart 0 r s = r := by unfold rowPart; simp
theorem rowPart_all {n : Nat} {r s : List Bool} (hr : r.length = n) (hs : s.length = n) : rowPart n r s = orRow r s := by
  unfold rowPart; rw [List.take_of_length_le (by rw [orRow_len hr hs]; exact Nat.le_refl _), List.drop_of_length_le (by rw [hr]; exact Nat.le_refl _), List.append_nil]
theorem rowPart_len {b n : Nat} {r s : List Bool} (hr : r.length = n) (hs : s.length = n) (hb : b ≤ n) : (rowPart b r s).length = n := by
  unfold rowPart; rw [List.length_append, List.length_take, List.length_drop, orRow_len hr hs, hr]; omega
theorem rowPart_at {b n i : Nat} {r s : List Bool} (hr : r.length = n) (hs : s.length = n) (hb : b ≤ n) : (rowPart b r s)[i]? = if i < b then (orRow r s)[i]? else r[i]? := by
  unfold rowPart
  by_cases h : i < b
  · rw [if_pos h, List.getElem?_append_left (by rw [List.length_take, orRow_len hr hs]; omega), List.getElem?_take_of_lt h]
  · rw [if_neg h, List.getElem?_append_right (by rw [List.length_take, orRow_len hr hs]; omega), List.length_take, orRow_len hr hs, List.getElem?_drop]
    congr 1; omega
theorem rowPart_succ {b n : Nat} {r s : List Bool} {x y : Bool} (hr : r.length = n) (hs : s.length = n) (hb : b < n) (hx : r[b]? = some x) (hy : s[b]? = some y) : (rowPart b r s).set b (x || y) = rowPart (b + 1) r s := by
  apply List.ext_getElem?
  intro i
  rw [List.getElem?_set, rowPart_len hr hs (by omega), rowPart_at hr hs (by omega), rowPart_at hr hs (by omega)]
  by_cases e : b = i
  · subst e
    rw [if_pos rfl, if_pos hb, if_pos (by omega)]
    unfold orRow; rw [List.getElem?_zipWith, hx, hy]
  · rw [if_neg e]
    by_cases h : i < b
    · rw [if_pos h, if_pos (by omega)]
    · rw [if_neg h, if_neg (by omega)]
theorem rowPart_self (b : Nat) (r : List Bool) : rowPart b r r = r := by unfold rowPart; rw [orRow_self, List.take_append_drop]
end Lab
end
end Go.Eng
