/- Part of a proof of a law, by an evaluator that the machine follows: rules, contracts of functions, what they come to. No condition of its own. -/
import Derived.Test.YtjobofnpmmjeoaaDoorSym
import Derived.ProofKit
set_option linter.unusedVariables false
set_option linter.unusedSimpArgs false
namespace Go.Eng
noncomputable section

/-! ### tokens, and the reader of them -/
structure Tok where
  kind : Nat
  text : List UInt8
  at_ : Nat
def Tok.row (t : Tok) : List V := [.int .i64 (t.kind : Int), L.str t.text, .int .i64 (t.at_ : Int)]
/-- the reader's box, and its tokens -/
structure RP where
  rb : Nat
  tb : Nat
  to : Nat
  cap : Option Nat
  ts : List Tok
def RP.box (p : RP) (i d : Nat) : Fact := .box p.rb [.sl p.tb p.to p.ts.length p.cap, .int .i64 (i : Int), .int .i64 (d : Int)]
def RP.toks (p : RP) : Fact := .stb (fun h => Rows 3 h (.sl p.tb p.to p.ts.length p.cap) (p.ts.map Tok.row))
/-- one to nine digits -/
structure Digits (s : List UInt8) : Prop where
  ne : s ≠ []
  len : s.length ≤ 9
  dig : ∀ b ∈ s, 48 ≤ b.toNat ∧ b.toNat ≤ 57
def num (s : List UInt8) : Nat := s.foldl (fun n b => n * 10 + (b.toNat - 48)) 0
theorem num_take {s : List UInt8} {k : Nat} {b : UInt8} (hb : s[k]? = some b) : num (s.take (k + 1)) = num (s.take k) * 10 + (b.toNat - 48) := by
  unfold num
  rw [List.take_add_one, hb]; simp
theorem num_lt : ∀ (n : Nat) (s : List UInt8), s.length = n → (∀ b ∈ s, b.toNat ≤ 57) → num s < 10 ^ n
  | 0, s, hl, _ => by
    obtain rfl : s = [] := by simpa using hl
    simp [num]
  | n + 1, s, hl, hd => by
    have hk : n < s.length := by omega
    have h1 := num_take (s := s) (k := n) (List.getElem?_eq_getElem hk)
    have h2 := num_lt n (s.take n) (by simp; omega) (fun b hb => hd b (List.mem_of_mem_take hb))
    have h3 := hd _ (List.getElem_mem hk)
    rw [List.take_of_length_le (by omega)] at h1
    rw [h1, Nat.pow_succ]; omega
theorem Digits.bound {s : List UInt8} (d : Digits s) (k : Nat) : num (s.take k) < 1000000000 := by
  have h1 := num_lt (s.take k).length (s.take k) rfl fun b hb => (d.dig b (List.mem_of_mem_take hb)).2
  have h2 : (s.take k).length ≤ 9 := by simp; have := d.len; omega
  have h3 : 10 ^ (s.take k).length ≤ 10 ^ 9 := Nat.pow_le_pow_right (by omega) h2
  omega
/-- the tokens that are left: never none; the last one alone is of kind 0 -/
structure Left (p : RP) (i : Nat) (l : List Tok) : Prop where
  drop : p.ts.drop i = l
  ne : l ≠ []
  last : ∀ t, l.getLast? = some t → t.kind = 0
  num : ∀ t ∈ l, t.kind = 2 → Digits t.text
  small : p.ts.length < 4294967296
theorem Left.get {p : RP} {i : Nat} {t : Tok} {l : List Tok} (h : Left p i (t :: l)) : p.ts[i]? = some t ∧ i < p.ts.length := by
  have h1 : (p.ts.drop i)[0]? = some t := by rw [h.drop]; rfl
  rw [List.getElem?_drop, Nat.add_zero] at h1
  exact ⟨h1, (List.getElem?_eq_some_iff.1 h1).1⟩
theorem Left.row {p : RP} {i : Nat} {t : Tok} {l : List Tok} (h : Left p i (t :: l)) : (p.ts.map Tok.row)[i]? = some t.row := by
  rw [List.getElem?_map, h.get.1]; rfl
theorem Left.next {p : RP} {i : Nat} {t : Tok} {l : List Tok} (h : Left p i (t :: l)) (hk : t.kind ≠ 0) : Left p (i + 1) l := by
  have hne : l ≠ [] := by
    intro e; subst e
    exact hk (h.last t rfl)
  refine ⟨?_, hne, fun u hu => h.last u ?_, fun u hu => h.num u (List.mem_cons_of_mem _ hu), h.small⟩
  · rw [← List.drop_drop, h.drop]; rfl
  · rw [List.getLast?_cons_of_ne_nil hne]; exact hu
theorem Left.cons {p : RP} {i : Nat} {l : List Tok} (h : Left p i l) : ∃ t l', l = t :: l' := by
  cases l with
  | nil => exact absurd rfl h.ne
  | cons t l' => exact ⟨t, l', rfl⟩

/-! ### what the parser does, as functions of the tokens that are left -/
namespace Par
def hd : List Tok → Tok
  | [] => ⟨0, [], 0⟩
  | t :: _ => t
/-- a sign (4) or a key word (3) -/
def is (s : List UInt8) (l : List Tok) : Bool := decide ((hd l).text = s) && (decide ((hd l).kind = 4) || decide ((hd l).kind = 3))
def here (l : List Tok) : Nat := (hd l).at_
abbrev R (α : Type) := Except (Nat × Nat) (α × List Tok)
def fail {α : Type} (e : Nat) (l : List Tok) : R α := .error (e, here l)
def must (s : List UInt8) (l : List Tok) : R Nat := if is s l = true then .ok (here l, l.tail) else fail 11 l
def of (kind : Nat) (l : List Tok) : R Tok := if (hd l).kind = kind then .ok (hd l, l.tail) else fail 11 l
def name (l : List Tok) : R (List UInt8) := match of 1 l with
  | .ok (t, l) => .ok (t.text, l)
  | .error e => .error e
def number (l : List Tok) : R Nat := match of 2 l with
  | .ok (t, l) => .ok (Go.Eng.num t.text, l)
  | .error e => .error e
def qname (l : List Tok) : R (List UInt8 × List UInt8) := match name l with
  | .error e => .error e
  | .ok (a, l) => if is [46] l = true then (match name l.tail with
    | .error e => .error e
    | .ok (b, l) => .ok ((a, b), l)) else .ok (([], a), l)
end Par
theorem Left.tail {p : RP} {i : Nat} {l : List Tok} (h : Left p i l) (hk : (Par.hd l).kind ≠ 0) : Left p (i + 1) l.tail := by
  obtain ⟨t, l, rfl⟩ := h.cons
  exact h.next hk
theorem Left.is {p : RP} {i : Nat} {l : List Tok} {s : List UInt8} (h : Left p i l) (hi : Par.is s l = true) : Left p (i + 1) l.tail := h.tail fun e => by simp [Par.is, e] at hi
theorem Par.of_num {p : RP} {i : Nat} {l l' : List Tok} {t : Tok} (h : Left p i l) (ho : Par.of 2 l = .ok (t, l')) : Digits t.text := by
  obtain ⟨u, l, rfl⟩ := h.cons
  unfold Par.of Par.hd at ho
  by_cases hk : u.kind = 2
  · rw [if_pos hk] at ho; cases ho; exact h.num u (by simp) hk
  · rw [if_neg hk] at ho; cases ho
theorem Left.lt {p : RP} {i : Nat} {l : List Tok} (h : Left p i l) : i < p.ts.length := by
  obtain ⟨t, l, rfl⟩ := h.cons
  exact h.get.2
theorem Left.len {p : RP} {i : Nat} {l : List Tok} (h : Left p i l) : l.length = p.ts.length - i := by rw [← h.drop, List.length_drop]
end
end Go.Eng
namespace Go.Eng
noncomputable section
/-- what a reader's function comes to: a value, and fewer tokens; or it gives up -/
def stopV (T : Nat) (e a : Nat) : V := .ifc T (.agg [.int .i64 (e : Int), .int .i64 (a : Int)])
def Outc {α : Type} (p : RP) (T : Nat) (res : Par.R α) (P : α → Nat → V → Heap → Prop) (E : Heap → Prop) (r : OR) : Prop := match res with
  | .ok (a, l) => ∃ v h1 i, r = .ok v h1 ∧ Left p i l ∧ P a i v h1
  | .error (e, a) => ∃ h1, r = .pan (stopV T e a) h1 ∧ E h1
theorem Outc.pan {α : Type} {p : RP} {T : Nat} {res : Par.R α} {P : α → Nat → V → Heap → Prop} {E : Heap → Prop} {e a : Nat} {h1 : Heap} (hr : res = .error (e, a)) (hE : E h1) : Outc p T res P E (.pan (stopV T e a) h1) := by
  subst hr; exact ⟨h1, rfl, hE⟩
theorem Outc.ok {α : Type} {p : RP} {T : Nat} {res : Par.R α} {P : α → Nat → V → Heap → Prop} {E : Heap → Prop} {x : α} {l : List Tok} {v : V} {i : Nat} {h1 : Heap} (hr : res = .ok (x, l)) (hl : Left p i l) (hP : P x i v h1) : Outc p T res P E (.ok v h1) := by
  subst hr; exact ⟨v, h1, i, rfl, hl, hP⟩
section
variable {c : Ctx} {Q : QT} {env : Env} {h : Heap} {fs : List Fact} {vs : List V} {i j : D8}
theorem WO.callO {α : Type} {l : List Opr} {f : Nat} {as : List A} {as' : List V} {p : RP} {T : Nat} {res : Par.R α} {P : α → Nat → V → Heap → Prop} {E : Heap → Prop} (ha : evs as (fun a => a.ev vs env) = as') (hr : RunR c f as' h (Outc p T res P E))
    (pan : ∀ e a h1, res = .error (e, a) → E h1 → Q (.pan (stopV T e a)) env h1) (ok : ∀ x l' v h1 i, res = .ok (x, l') → Left p i l' → P x i v h1 → WO c l Q (v :: vs) env h1) : WO c (.p (.H (.call f as)) :: l) Q vs env h := by
  obtain ⟨r, hr, ho⟩ := hr
  cases res with
  | ok x =>
    obtain ⟨x, l'⟩ := x
    obtain ⟨v, h1, i, rfl, hl, hp⟩ := ho
    exact WO.call (by rw [ha]; exact hr) (ok _ _ _ _ _ rfl hl hp)
  | error x =>
    obtain ⟨e, a⟩ := x
    obtain ⟨h1, rfl, hE⟩ := ho
    exact WO.callPan ha hr (pan _ _ _ rfl hE)
theorem WO.callOS {α : Type} {l : List Opr} {f : Nat} {as : List A} {as' : List V} {p : RP} {T : Nat} {res : Par.R α} {P : α → Nat → V → Heap → Prop} {E : Heap → Prop} (ha : evs as (fun a => a.ev vs env) = as') (hr : RunR c f as' h (Outc p T res P E))
    (pan : ∀ e a h1, res = .error (e, a) → E h1 → Q (.pan (stopV T e a)) env h1) (ok : ∀ x l' v h1 i', res = .ok (x, l') → Left p i' l' → P x i' v h1 → WO c l Q (v :: vs) (Env.set i j v env) h1) : WO c (.s i j (.H (.call f as)) :: l) Q vs env h := by
  obtain ⟨r, hr, ho⟩ := hr
  cases res with
  | ok x =>
    obtain ⟨x, l'⟩ := x
    obtain ⟨v, h1, i, rfl, hl, hp⟩ := ho
    exact WO.callS (by rw [ha]; exact hr) (ok _ _ _ _ _ rfl hl hp)
  | error x =>
    obtain ⟨e, a⟩ := x
    obtain ⟨h1, rfl, hE⟩ := ho
    exact WO.callPanS ha hr (pan _ _ _ rfl hE)
theorem WO.callvO {α : Type} {l : List Opr} {x : A} {f : Nat} {as : List A} {a b as' : List V} {p : RP} {T : Nat} {res : Par.R α} {P : α → Nat → V → Heap → Prop} {E : Heap → Prop} (hx : x.ev vs env = .fn f a b) (ha : appV a (appV (evs as (fun a => a.ev vs env)) b) = as') (hr : RunR c f as' h (Outc p T res P E))
    (pan : ∀ e a h1, res = .error (e, a) → E h1 → Q (.pan (stopV T e a)) env h1) (ok : ∀ x l' v h1 i, res = .ok (x, l') → Left p i l' → P x i v h1 → WO c l Q (v :: vs) env h1) : WO c (.p (.H (.callv x as)) :: l) Q vs env h := by
  obtain ⟨r, hr, ho⟩ := hr
  cases res with
  | ok x =>
    obtain ⟨x, l'⟩ := x
    obtain ⟨v, h1, i, rfl, hl, hp⟩ := ho
    exact WO.callv hx (by rw [ha]; exact hr) (ok _ _ _ _ _ rfl hl hp)
  | error x =>
    obtain ⟨e, a⟩ := x
    obtain ⟨h1, rfl, hE⟩ := ho
    exact WO.callvPan hx ha hr (pan _ _ _ rfl hE)
theorem WO.callvOS {α : Type} {l : List Opr} {x : A} {f : Nat} {as : List A} {a b as' : List V} {p : RP} {T : Nat} {res : Par.R α} {P : α → Nat → V → Heap → Prop} {E : Heap → Prop} (hx : x.ev vs env = .fn f a b) (ha : appV a (appV (evs as (fun a => a.ev vs env)) b) = as') (hr : RunR c f as' h (Outc p T res P E))
    (pan : ∀ e a h1, res = .error (e, a) → E h1 → Q (.pan (stopV T e a)) env h1) (ok : ∀ x l' v h1 i', res = .ok (x, l') → Left p i' l' → P x i' v h1 → WO c l Q (v :: vs) (Env.set i j v env) h1) : WO c (.s i j (.H (.callv x as)) :: l) Q vs env h := by
  obtain ⟨r, hr, ho⟩ := hr
  cases res with
  | ok x =>
    obtain ⟨x, l'⟩ := x
    obtain ⟨v, h1, i, rfl, hl, hp⟩ := ho
    exact WO.callvS hx (by rw [ha]; exact hr) (ok _ _ _ _ _ rfl hl hp)
  | error x =>
    obtain ⟨e, a⟩ := x
    obtain ⟨h1, rfl, hE⟩ := ho
    exact WO.callvPanS hx ha hr (pan _ _ _ rfl hE)
theorem WD.callO {α : Type} {l : List Opd} {lg : List Log} {uo : List Nat} {f : Nat} {as : List A} {as' : List V} {p : RP} {T : Nat} {res : Par.R α} {P : α → Nat → V → Heap → Prop} {E : Heap → Prop} (ha : evs as (fun a => a.ev vs env) = as') (hr : RunR c f as' h (Outc p T res P E))
    (pan : ∀ e a h1, res = .error (e, a) → E h1 → Q (.pan (stopV T e a)) env h1) (hs : ∀ x v h1 i, P x i v h1 → stills uo h1 lg = true) (ok : ∀ x l' v h1 i, res = .ok (x, l') → Left p i l' → P x i v h1 → WD c l Q (v :: vs) (.no :: lg) env h1) : WD c (⟨.p (.H (.call f as)), uo⟩ :: l) Q vs lg env h := by
  obtain ⟨r, hr, ho⟩ := hr
  cases res with
  | ok x =>
    obtain ⟨x, l'⟩ := x
    obtain ⟨v, h1, i, rfl, hl, hp⟩ := ho
    exact WD.call (by rw [ha]; exact hr) (hs _ _ _ _ hp) (ok _ _ _ _ _ rfl hl hp)
  | error x =>
    obtain ⟨e, a⟩ := x
    obtain ⟨h1, rfl, hE⟩ := ho
    exact WD.callPan ha hr (pan _ _ _ rfl hE)
end
end
end Go.Eng
namespace Go.Eng
noncomputable section
def RunPan (c : Ctx) (f : Nat) (as : List V) (h : Heap) (v : V) (E : Heap → Prop) : Prop := ∃ h1, Runs c f as h (.pan v h1) ∧ E h1
def QP (v : V) (E : Heap → Prop) : QT := fun x _ h => match x with
  | .pan w => w = v ∧ E h
  | _ => False
theorem RunPan.fun_ {c : Ctx} {h : Heap} {f : Nat} {F : Fun} {as : List V} {v : V} {E : Heap → Prop} (hF : T.get f c.funs = some F) (hn : as.length = F.np) (w : WP c F.body (QP v E) (argsP as 0 Env.nil) h) : RunPan c f as h v E := by
  obtain ⟨x, e1, h1, ev, q⟩ := w
  cases x with
  | nrm => exact q.elim
  | ret => exact q.elim
  | exit i => exact q.elim
  | pan u =>
    obtain ⟨rfl, q⟩ := q
    exact ⟨_, Runs.fun_ hF hn ⟨_, _, _, ev, rfl⟩, q⟩
section
variable {c : Ctx} {Q : QT} {env : Env} {h : Heap} {fs : List Fact} {vs : List V} {i j : D8}
theorem WO.callPanF {l : List Opr} {f : Nat} {as : List A} {as' : List V} {v : V} {E : Heap → Prop} (ha : evs as (fun a => a.ev vs env) = as') (hr : RunPan c f as' h v E) (K : ∀ h1, E h1 → Q (.pan v) env h1) : WO c (.p (.H (.call f as)) :: l) Q vs env h := by
  obtain ⟨h1, hr, hE⟩ := hr
  exact WO.callPan ha hr (K h1 hE)
end
end
end Go.Eng
namespace Go.Eng
noncomputable section
/-! ### expressions -/
structure Nd where
  kind : Nat
  num : Int
  mod : List UInt8
  name : List UInt8
  a : Int
  b : Int
  at_ : Nat
def Nd.row (n : Nd) : List V := [.int .i64 (n.kind : Int), .int .i64 n.num, L.str n.mod, L.str n.name, .int .i64 n.a, .int .i64 n.b, .int .i64 (n.at_ : Int)]
/-- an operator: its sign, its kind -/
abbrev Opn := List UInt8 × Nat
def Opn.row (o : Opn) : List V := [L.str o.1, .int .i64 (o.2 : Int)]
namespace Par
def find (ops : List Opn) (l : List Tok) : Option Opn := ops.find? fun o => is o.1 l
/-- what an expression's reader does: how deep, the tokens left, the nodes so far -/
abbrev E := Nat → List Tok → List Nd → R (Nat × List Nd)
def put (n : Nd) (ns : List Nd) : Nat × List Nd := (ns.length, ns ++ [n])
def chainL (un : E) (ops : List Opn) : Nat → Nat → List Tok → Nat → List Nd → R (Nat × List Nd)
  | 0, _, l, a, ns => .ok ((a, ns), l)
  | f + 1, d, l, a, ns => match find ops l with
    | none => .ok ((a, ns), l)
    | some o => match un d l.tail ns with
      | .error e => .error e
      | .ok ((b, ns), l') => chainL un ops f d l' ns.length (ns ++ [⟨o.2, 0, [], [], (a : Int), (b : Int), here l⟩])
def chain (un : E) (ops : List Opn) : E := fun d l ns => match un d l ns with
  | .error e => .error e
  | .ok ((a, ns), l) => chainL un ops l.length d l a ns
def mulOps : List Opn := [([42], 7), ([47], 8), ([37], 9)]
def addOps : List Opn := [([43], 5), ([45], 6)]
def cmpOps : List Opn := [([61, 61], 10), ([60, 61], 12), ([60], 11)]
def negOps : List Opn := [([45], 3), ([33], 4)]
def term (un : E) : E := chain un mulOps
def sum (un : E) : E := chain (term un) addOps
def whole (un : E) : E := fun d l ns => match sum un d l ns with
  | .error e => .error e
  | .ok ((a, ns), l) => match find cmpOps l with
    | none => .ok ((a, ns), l)
    | some o => match sum un d l.tail ns with
      | .error e => .error e
      | .ok ((b, ns), l') => .ok ((ns.length, ns ++ [⟨o.2, 0, [], [], (a : Int), (b : Int), here l⟩]), l')
def unaryS (un : E) : E := fun d l ns => match find negOps l with
  | some o => if 40 ≤ d then fail 12 l else (match un (d + 1) l.tail ns with
    | .error e => .error e
    | .ok ((a, ns), l') => .ok ((ns.length, ns ++ [⟨o.2, 0, [], [], (a : Int), -1, here l⟩]), l'))
  | none => if is [40] l = true then (if 40 ≤ d then fail 12 l else (match whole un (d + 1) l.tail ns with
      | .error e => .error e
      | .ok ((a, ns), l') => match must [41] l' with
        | .error e => .error e
        | .ok (_, l') => .ok ((a, ns), l')))
    else if (hd l).kind = 2 then (match number l with
      | .error e => .error e
      | .ok (n, l') => .ok ((ns.length, ns ++ [⟨1, (n : Int), [], [], -1, -1, here l⟩]), l'))
    else (match qname l with
      | .error e => .error e
      | .ok ((m, n), l') => .ok ((ns.length, ns ++ [⟨2, 0, m, n, -1, -1, here l⟩]), l'))
def unary : Nat → E
  | 0 => fun _ _ _ => .error (0, 0)
  | f + 1 => unaryS (unary f)
end Par
/-- it goes by a token at least; nodes come of tokens -/
def Par.Good (un : Par.E) (N : Nat) : Prop := ∀ {d : Nat} {l : List Tok} {ns : List Nd} {a : Nat} {ns' : List Nd} {l' : List Tok}, l.length ≤ N → un d l ns = .ok ((a, ns'), l') → l'.length < l.length ∧ ns'.length + l'.length ≤ ns.length + l.length
theorem Par.Good.mono {un : Par.E} {N N' : Nat} (h : Par.Good un N) (hn : N' ≤ N) : Par.Good un N' := fun hl hr => h (Nat.le_trans hl hn) hr
theorem chainL_good {un : Par.E} {N : Nat} {ops : List Opn} (hg : Par.Good un N) : ∀ {f d : Nat} {l : List Tok} {a : Nat} {ns : List Nd} {b : Nat} {ns' : List Nd} {l' : List Tok}, l.length ≤ N → Par.chainL un ops f d l a ns = .ok ((b, ns'), l') → l'.length ≤ l.length ∧ ns'.length + l'.length ≤ ns.length + l.length
  | 0, d, l, a, ns, b, ns', l', hl, hr => by
    simp only [Par.chainL] at hr; cases hr; exact ⟨Nat.le_refl _, Nat.le_refl _⟩
  | f + 1, d, l, a, ns, b, ns', l', hl, hr => by
    simp only [Par.chainL] at hr
    cases hf : Par.find ops l with
    | none => rw [hf] at hr; cases hr; exact ⟨Nat.le_refl _, Nat.le_refl _⟩
    | some o =>
      rw [hf] at hr
      have hne : l ≠ [] := by
        rintro rfl
        have := List.find?_some hf
        simp [Par.is, Par.hd] at this
      have hlp : 0 < l.length := List.length_pos_iff.2 hne
      have htl : l.tail.length = l.length - 1 := List.length_tail
      cases hu : un d l.tail ns with
      | error e => rw [hu] at hr; cases hr
      | ok x =>
        obtain ⟨⟨b1, ns1⟩, l1⟩ := x
        rw [hu] at hr
        obtain ⟨g1, g2⟩ := hg (by omega) hu
        obtain ⟨k1, k2⟩ := chainL_good hg (by omega) hr
        simp only [List.length_append, List.length_cons, List.length_nil] at k2
        omega
theorem chain_good {un : Par.E} {N : Nat} {ops : List Opn} (hg : Par.Good un N) : Par.Good (Par.chain un ops) N := by
  intro d l ns a ns' l' hl hr
  unfold Par.chain at hr
  cases hu : un d l ns with
  | error e => rw [hu] at hr; cases hr
  | ok x =>
    obtain ⟨⟨b1, ns1⟩, l1⟩ := x
    rw [hu] at hr
    obtain ⟨g1, g2⟩ := hg hl hu
    obtain ⟨k1, k2⟩ := chainL_good hg (by omega) hr
    omega
theorem sum_good {un : Par.E} {N : Nat} (hg : Par.Good un N) : Par.Good (Par.sum un) N := chain_good (chain_good hg)
theorem find_pos {ops : List Opn} {l : List Tok} {o : Opn} (hf : Par.find ops l = some o) : 0 < l.length := by
  refine List.length_pos_iff.2 ?_
  rintro rfl
  have := List.find?_some hf
  simp [Par.is, Par.hd] at this
theorem whole_good {un : Par.E} {N : Nat} (hg : Par.Good un N) : Par.Good (Par.whole un) N := by
  intro d l ns a ns' l' hl hr
  unfold Par.whole at hr
  cases hu : Par.sum un d l ns with
  | error e => rw [hu] at hr; cases hr
  | ok x =>
    obtain ⟨⟨b1, ns1⟩, l1⟩ := x
    obtain ⟨g1, g2⟩ := sum_good hg hl hu
    simp only [hu] at hr
    cases hf : Par.find Par.cmpOps l1 with
    | none => rw [hf] at hr; cases hr; omega
    | some o =>
      rw [hf] at hr
      have hlp := find_pos hf
      have htl : l1.tail.length = l1.length - 1 := List.length_tail
      cases hv : Par.sum un d l1.tail ns1 with
      | error e => simp only [hv] at hr; cases hr
      | ok x =>
        obtain ⟨⟨b2, ns2⟩, l2⟩ := x
        simp only [hv] at hr
        cases hr
        obtain ⟨k1, k2⟩ := sum_good hg (by omega) hv
        simp; omega
theorem Par.of_len {k : Nat} {l l' : List Tok} {t : Tok} (hk : k ≠ 0) (h : Par.of k l = .ok (t, l')) : l'.length < l.length := by
  unfold Par.of at h
  by_cases hh : (Par.hd l).kind = k
  · rw [if_pos hh] at h; cases h
    cases l with
    | nil => exact absurd hh.symm hk
    | cons a l => simp
  · rw [if_neg hh] at h; cases h
theorem Par.is_pos {s : List UInt8} {l : List Tok} (h : Par.is s l = true) : 0 < l.length := by
  cases l with
  | nil => simp [Par.is, Par.hd] at h
  | cons a l => simp
theorem Par.must_len {s : List UInt8} {l l' : List Tok} {a : Nat} (h : Par.must s l = .ok (a, l')) : l'.length < l.length := by
  unfold Par.must at h
  by_cases hh : Par.is s l = true
  · rw [if_pos hh] at h; cases h
    have := Par.is_pos hh
    have htl : l.tail.length = l.length - 1 := List.length_tail
    omega
  · rw [if_neg hh] at h; cases h
theorem Par.name_len {l l' : List Tok} {a : List UInt8} (h : Par.name l = .ok (a, l')) : l'.length < l.length := by
  unfold Par.name at h
  cases ho : Par.of 1 l with
  | error e => rw [ho] at h; cases h
  | ok x => obtain ⟨t, l1⟩ := x; rw [ho] at h; cases h; exact Par.of_len (by decide) ho
theorem Par.number_len {l l' : List Tok} {a : Nat} (h : Par.number l = .ok (a, l')) : l'.length < l.length := by
  unfold Par.number at h
  cases ho : Par.of 2 l with
  | error e => rw [ho] at h; cases h
  | ok x => obtain ⟨t, l1⟩ := x; rw [ho] at h; cases h; exact Par.of_len (by decide) ho
theorem Par.qname_len {l l' : List Tok} {a : List UInt8 × List UInt8} (h : Par.qname l = .ok (a, l')) : l'.length < l.length := by
  unfold Par.qname at h
  cases ho : Par.name l with
  | error e => rw [ho] at h; cases h
  | ok x =>
    obtain ⟨t, l1⟩ := x
    have h1 := Par.name_len ho
    simp only [ho] at h
    by_cases hi : Par.is [46] l1 = true
    · rw [if_pos hi] at h
      cases hn : Par.name l1.tail with
      | error e => simp only [hn] at h; cases h
      | ok y =>
        obtain ⟨b, l2⟩ := y
        simp only [hn] at h; cases h
        have h2 := Par.name_len hn
        have htl : l1.tail.length = l1.length - 1 := List.length_tail
        omega
    · rw [if_neg hi] at h; cases h; exact h1
theorem unaryS_good {un : Par.E} {N : Nat} (hg : Par.Good un N) : Par.Good (Par.unaryS un) (N + 1) := by
  intro d l ns a ns' l' hl hr
  unfold Par.unaryS at hr
  have htl : l.tail.length = l.length - 1 := List.length_tail
  cases hf : Par.find Par.negOps l with
  | some o =>
    have hp := find_pos hf
    simp only [hf] at hr
    by_cases hd : 40 ≤ d
    · rw [if_pos hd] at hr; cases hr
    · rw [if_neg hd] at hr
      cases hu : un (d + 1) l.tail ns with
      | error e => simp only [hu] at hr; cases hr
      | ok x =>
        obtain ⟨⟨b, ns1⟩, l1⟩ := x
        simp only [hu] at hr; cases hr
        have := hg (by omega) hu
        simp; omega
  | none =>
    simp only [hf] at hr
    by_cases hi : Par.is [40] l = true
    · have hp := Par.is_pos hi
      rw [if_pos hi] at hr
      by_cases hd : 40 ≤ d
      · rw [if_pos hd] at hr; cases hr
      · rw [if_neg hd] at hr
        cases hu : Par.whole un (d + 1) l.tail ns with
        | error e => simp only [hu] at hr; cases hr
        | ok x =>
          obtain ⟨⟨b, ns1⟩, l1⟩ := x
          have hwg : Par.Good (Par.whole un) N := whole_good hg
          have h1 := hwg (by omega) hu
          simp only [hu] at hr
          cases hm : Par.must [41] l1 with
          | error e => simp only [hm] at hr; cases hr
          | ok y =>
            obtain ⟨q, l2⟩ := y
            have h2 := Par.must_len hm
            simp only [hm] at hr; cases hr; omega
    · rw [if_neg hi] at hr
      by_cases hk : (Par.hd l).kind = 2
      · rw [if_pos hk] at hr
        cases hn : Par.number l with
        | error e => simp only [hn] at hr; cases hr
        | ok x =>
          obtain ⟨n, l1⟩ := x
          have h1 := Par.number_len hn
          simp only [hn] at hr; cases hr; simp; omega
      · rw [if_neg hk] at hr
        cases hn : Par.qname l with
        | error e => simp only [hn] at hr; cases hr
        | ok x =>
          obtain ⟨⟨m, n⟩, l1⟩ := x
          have h1 := Par.qname_len hn
          simp only [hn] at hr; cases hr; simp; omega
/-- an expression's nodes -/
def Par.expr (d : Nat) (l : List Tok) : Par.R (List Nd) := match Par.whole (Par.unary l.length) d l [] with
  | .error e => .error e
  | .ok ((_, ns), l) => .ok (ns, l)
theorem opn_len (ops : List Opn) : ∀ row ∈ ops.map Opn.row, row.length = 2 := by
  intro row hm; simp at hm; obtain ⟨a, b, _, rfl⟩ := hm; rfl
theorem find_some {ops : List Opn} {l : List Tok} : ∀ {k : Nat} {o : Opn}, ops[k]? = some o → (∀ j o', ops[j]? = some o' → j < k → Par.is o'.1 l = false) → Par.is o.1 l = true → Par.find ops l = some o := by
  induction ops with
  | nil => intro k o ho; simp at ho
  | cons a ops ih =>
    intro k o ho hno hi
    unfold Par.find
    cases k with
    | zero =>
      simp at ho; subst ho
      simp [hi]
    | succ k =>
      have h0 := hno 0 a rfl (by omega)
      simp only [List.find?_cons, h0]
      exact ih (by simpa using ho) (fun j o' hj hlt => hno (j + 1) o' (by simpa using hj) (by omega)) hi
theorem find_none {ops : List Opn} {l : List Tok} (hno : ∀ j o, ops[j]? = some o → j < ops.length → Par.is o.1 l = false) : Par.find ops l = none := by
  unfold Par.find
  rw [List.find?_eq_none]
  intro o ho
  obtain ⟨j, hj⟩ := List.mem_iff_getElem?.1 ho
  simp [hno j o hj (List.getElem?_eq_some_iff.1 hj).1]
end
end Go.Eng
namespace Go.Eng
noncomputable section
/-! ### statements -/
inductive Sm where
  | mk (kind at_ : Nat) (mod name label : List UInt8) (has : Bool) (tomod to : List UInt8) (e : List Nd) (args : List (List Nd)) (body els : List Sm)
def ArgRows (h : Heap) : List (List Nd) → List V → Prop
  | [], [] => True
  | e :: as, v :: vs => Rows 7 h v (e.map Nd.row) ∧ ArgRows h as vs
  | _, _ => False
def ArgsR (h : Heap) (v : V) (as : List (List Nd)) : Prop := ∃ vs : List V, Rows 1 h v (vs.map fun x => [x]) ∧ ArgRows h as vs
mutual
def SmR (h : Heap) : Sm → List V → Prop
  | .mk k a m n l hs tm t e as b el, row => ∃ ve va vb vl, row = [.int .i64 (k : Int), .int .i64 (a : Int), L.str m, L.str n, L.str l, .bool hs, L.str tm, L.str t, ve, va, vb, vl] ∧
      Rows 7 h ve (e.map Nd.row) ∧ ArgsR h va as ∧ (∃ rows, Rows 12 h vb rows ∧ SmRows h b rows) ∧ (∃ rows, Rows 12 h vl rows ∧ SmRows h el rows)
def SmRows (h : Heap) : List Sm → List (List V) → Prop
  | [], rows => rows = []
  | s :: l, rows => ∃ r rs, rows = r :: rs ∧ SmR h s r ∧ SmRows h l rs
end
def SmsR (h : Heap) (v : V) (l : List Sm) : Prop := ∃ rows, Rows 12 h v rows ∧ SmRows h l rows
theorem ArgRows.snoc {h : Heap} : ∀ {as : List (List Nd)} {vs : List V} {e : List Nd} {v : V}, ArgRows h as vs → Rows 7 h v (e.map Nd.row) → ArgRows h (as ++ [e]) (vs ++ [v])
  | [], [], e, v, _, hr => ⟨hr, trivial⟩
  | _ :: _, _ :: _, e, v, ha, hr => ⟨ha.1, ha.2.snoc hr⟩
  | [], _ :: _, _, _, ha, _ => ha.elim
  | _ :: _, [], _, _, ha, _ => ha.elim
theorem SmRows.nil {h : Heap} : SmRows h [] [] := by simp [SmRows]
theorem SmRows.snoc {h : Heap} : ∀ {l : List Sm} {rows : List (List V)} {s : Sm} {row : List V}, SmRows h l rows → SmR h s row → SmRows h (l ++ [s]) (rows ++ [row])
  | [], rows, s, row, hl, hs => by
    simp only [SmRows] at hl; subst hl
    simp only [List.nil_append, SmRows]
    exact ⟨row, [], rfl, hs, rfl⟩
  | a :: l, rows, s, row, hl, hs => by
    simp only [SmRows] at hl
    obtain ⟨r, rs, rfl, h1, h2⟩ := hl
    simp only [List.cons_append, SmRows]
    exact ⟨r, rs ++ [row], rfl, h1, SmRows.snoc h2 hs⟩
theorem SmR.len {h : Heap} {s : Sm} {row : List V} (hs : SmR h s row) : row.length = 12 := by
  cases s with
  | mk k a m n l hs' tm t e as b el =>
    simp only [SmR] at hs
    obtain ⟨ve, va, vb, vl, rfl, _⟩ := hs
    rfl
theorem fill_one {ev : Ev} {x : A} {z v : V} (hc : (ev x).asCells = some [v]) : fill [(0, 1, x)] ev (rep 1 [z]) = some [v] := by
  show (Option.rec none (fun l => bif (lenV l).beq 1 && (Nat.add 0 1).ble (lenV (rep 1 [z])) then some (overV 0 l (rep 1 [z])) else none) (ev x).asCells : Option (List V)) = _
  rw [hc]; rfl
theorem fill_agg {ev : Ev} {x : A} {n : Nat} {zero row : List V} (hx : ev x = .agg row) (hl : row.length = n) (hz : zero.length = n := by rfl) : fill [(0, n, x)] ev (rep 1 zero) = some [row].flatten := by
  show (Option.rec none (fun l => bif (lenV l).beq n && (Nat.add 0 n).ble (lenV (rep 1 zero)) then some (overV 0 l (rep 1 zero)) else none) (ev x).asCells : Option (List V)) = _
  rw [hx]
  have e1 : rep 1 zero = zero := by
    show appV zero [] = zero
    rw [appV_eq, List.append_nil]
  show (bif (lenV row).beq n && (Nat.add 0 n).ble (lenV (rep 1 zero)) then some (overV 0 row (rep 1 zero)) else none) = _
  have e2 : (Nat.add 0 n).ble n = true := by rw [nble]; simp
  rw [e1, lenV_eq, lenV_eq, hl, hz, Nat.beq_refl, e2]
  show some (appV row (dropV (lenV row) zero)) = _
  rw [appV_eq, dropV_eq, lenV_eq, hl, ← hz, List.drop_length]; simp
theorem ArgRows.len {h : Heap} : ∀ {as : List (List Nd)} {vs : List V}, ArgRows h as vs → vs.length = as.length
  | [], [], _ => rfl
  | _ :: _, _ :: _, ha => by simp [ha.2.len]
  | [], _ :: _, ha => ha.elim
  | _ :: _, [], ha => ha.elim
namespace Par
def fin (s : Sm) (l : List Tok) : R Sm := match must [59] l with
  | .error e => .error e
  | .ok (_, l') => .ok (s, l')
/-- arguments -/
def argsL (d : Nat) : Nat → List Tok → List (List Nd) → R (List (List Nd))
  | 0, _, _ => .error (0, 0)
  | f + 1, l, as => if is [41] l = true then .ok (as, l.tail) else
      match as with
      | [] => (match expr d l with
        | .error e => .error e
        | .ok (e, l') => argsL d f l' [e])
      | a :: as => (match must [44] l with
        | .error e => .error e
        | .ok (_, l1) => match expr d l1 with
          | .error e => .error e
          | .ok (e, l') => argsL d f l' ((a :: as) ++ [e]))
/-- a call behind its word -/
structure Cl where
  has : Bool
  mod : List UInt8
  name : List UInt8
  tomod : List UInt8
  to : List UInt8
  args : List (List Nd)
def callA (d : Nat) (c : Cl) (l : List Tok) : R Cl := match must [40] l with
  | .error e => .error e
  | .ok (_, l1) => match argsL d l1.length l1 [] with
    | .error e => .error e
    | .ok (as, l2) => .ok ({ c with args := as }, l2)
def call (d : Nat) (l : List Tok) : R Cl := match qname l with
  | .error e => .error e
  | .ok (q, l1) => if is [61] l1 = true then (match qname l1.tail with
      | .error e => .error e
      | .ok (r, l2) => callA d ⟨true, q.1, q.2, r.1, r.2, []⟩ l2)
    else callA d ⟨false, [], [], q.1, q.2, []⟩ l1
abbrev Bk := Nat → List Tok → R (List Sm)
def stIf (blk : Bk) (d a : Nat) (l : List Tok) : R Sm := match expr d l with
  | .error e => .error e
  | .ok (e, l1) => match blk d l1 with
    | .error e => .error e
    | .ok (b, l2) => if is [101, 108, 115, 101] l2 = true then (match blk d l2.tail with
        | .error e => .error e
        | .ok (el, l3) => .ok (.mk 5 a [] [] [] false [] [] e [] b el, l3))
      else .ok (.mk 5 a [] [] [] false [] [] e [] b [], l2)
def stWhile (blk : Bk) (d a : Nat) (l : List Tok) : R Sm := match expr d l with
  | .error e => .error e
  | .ok (e, l1) => match blk d l1 with
    | .error e => .error e
    | .ok (b, l2) => .ok (.mk 6 a [] [] [] false [] [] e [] b [], l2)
def stLet (d a : Nat) (l : List Tok) : R Sm := match name l with
  | .error e => .error e
  | .ok (n, l1) => match must [58] l1 with
    | .error e => .error e
    | .ok (_, l2) => match name l2 with
      | .error e => .error e
      | .ok (lb, l3) => match must [61] l3 with
        | .error e => .error e
        | .ok (_, l4) => match expr d l4 with
          | .error e => .error e
          | .ok (e, l5) => fin (.mk 1 a [] n lb false [] [] e [] [] []) l5
def stResult (d a : Nat) (l : List Tok) : R Sm := match must [61] l with
  | .error e => .error e
  | .ok (_, l1) => match expr d l1 with
    | .error e => .error e
    | .ok (e, l2) => fin (.mk 3 a [] [] [] false [] [] e [] [] []) l2
def stCall (d a : Nat) (l : List Tok) : R Sm := match call d l with
  | .error e => .error e
  | .ok (c, l1) => fin (.mk 4 a c.mod c.name [] c.has c.tomod c.to [] c.args [] []) l1
def stEmit (a : Nat) (l : List Tok) : R Sm := match name l with
  | .error e => .error e
  | .ok (n, l1) => fin (.mk 7 a [] n [] false [] [] [] [] [] []) l1
def stSkip (a : Nat) (l : List Tok) : R Sm := fin (.mk 8 a [] [] [] false [] [] [] [] [] []) l
def stSet (d a : Nat) (l : List Tok) : R Sm := match qname l with
  | .error e => .error e
  | .ok (q, l1) => match must [61] l1 with
    | .error e => .error e
    | .ok (_, l2) => match expr d l2 with
      | .error e => .error e
      | .ok (e, l3) => fin (.mk 2 a q.1 q.2 [] false [] [] e [] [] []) l3
def stmtS (blk : Bk) (d : Nat) (l : List Tok) : R Sm :=
  if is [105, 102] l = true then stIf blk d (here l) l.tail else
  if is [119, 104, 105, 108, 101] l = true then stWhile blk d (here l) l.tail else
  if is [108, 101, 116] l = true then stLet d (here l) l.tail else
  if is [114, 101, 115, 117, 108, 116] l = true then stResult d (here l) l.tail else
  if is [99, 97, 108, 108] l = true then stCall d (here l) l.tail else
  if is [101, 109, 105, 116] l = true then stEmit (here l) l.tail else
  if is [115, 107, 105, 112] l = true then stSkip (here l) l.tail else stSet d (here l) l
def blockL (stm : Nat → List Tok → R Sm) (d : Nat) : Nat → List Tok → List Sm → R (List Sm)
  | 0, _, _ => .error (0, 0)
  | f + 1, l, ss => if is [125] l = true then .ok (ss, l.tail) else match stm d l with
    | .error e => .error e
    | .ok (s, l') => blockL stm d f l' (ss ++ [s])
def blockS (stm : Nat → List Tok → R Sm) : Bk := fun d l => if is [123] l = true then (if 40 ≤ d then fail 12 l else blockL stm (d + 1) l.tail.length l.tail []) else fail 11 l
def stmt : Nat → Nat → List Tok → R Sm
  | 0 => fun _ _ => .error (0, 0)
  | f + 1 => stmtS (blockS (stmt f))
def block (d : Nat) (l : List Tok) : R (List Sm) := blockS (stmt l.length) d l
/-- it goes by a token at least -/
def Goes {α : Type} (g : Nat → List Tok → R α) (N : Nat) : Prop := ∀ d l a l', l.length ≤ N → g d l = .ok (a, l') → l'.length < l.length
end Par
theorem expr_len {d : Nat} {l l' : List Tok} {ns : List Nd} (h : Par.expr d l = .ok (ns, l')) : l'.length < l.length := by
  unfold Par.expr at h
  have hg : ∀ f, Par.Good (Par.unary f) f := by
    intro f
    induction f with
    | zero => intro d l ns a ns' l' hl hr; cases hr
    | succ f ih => exact unaryS_good ih
  cases hu : Par.whole (Par.unary l.length) d l [] with
  | error e => simp only [hu] at h; cases h
  | ok x =>
    obtain ⟨⟨a, ns1⟩, l1⟩ := x
    simp only [hu] at h; cases h
    have hw : Par.Good (Par.whole (Par.unary l.length)) l.length := whole_good (hg _)
    exact (hw (Nat.le_refl _) hu).1
theorem argsL_len {d : Nat} : ∀ {f : Nat} {l l' : List Tok} {as bs : List (List Nd)}, Par.argsL d f l as = .ok (bs, l') → l'.length < l.length
  | 0, l, l', as, bs, h => by cases h
  | f + 1, l, l', as, bs, h => by
    unfold Par.argsL at h
    by_cases hi : Par.is [41] l = true
    · rw [if_pos hi] at h; cases h
      have := Par.is_pos hi
      have htl : l.tail.length = l.length - 1 := List.length_tail
      omega
    · rw [if_neg hi] at h
      cases as with
      | nil =>
        cases he : Par.expr d l with
        | error e => simp only [he] at h; cases h
        | ok x =>
          obtain ⟨e, l1⟩ := x
          simp only [he] at h
          have h1 := expr_len he
          have h2 := argsL_len h
          omega
      | cons a as =>
        cases hm : Par.must [44] l with
        | error e => simp only [hm] at h; cases h
        | ok x =>
          obtain ⟨q, l1⟩ := x
          simp only [hm] at h
          have h0 := Par.must_len hm
          cases he : Par.expr d l1 with
          | error e => simp only [he] at h; cases h
          | ok x =>
            obtain ⟨e, l2⟩ := x
            simp only [he] at h
            have h1 := expr_len he
            have h2 := argsL_len h
            omega
theorem callA_len {d : Nat} {l l' : List Tok} {c c' : Par.Cl} (h : Par.callA d c l = .ok (c', l')) : l'.length < l.length := by
  unfold Par.callA at h
  cases hm : Par.must [40] l with
  | error e => simp only [hm] at h; cases h
  | ok x =>
    obtain ⟨q, l1⟩ := x
    simp only [hm] at h
    have h0 := Par.must_len hm
    cases ha : Par.argsL d l1.length l1 [] with
    | error e => simp only [ha] at h; cases h
    | ok x =>
      obtain ⟨as, l2⟩ := x
      simp only [ha] at h; cases h
      have := argsL_len ha
      omega
theorem call_len {d : Nat} {l l' : List Tok} {c : Par.Cl} (h : Par.call d l = .ok (c, l')) : l'.length < l.length := by
  unfold Par.call at h
  cases hq : Par.qname l with
  | error e => simp only [hq] at h; cases h
  | ok x =>
    obtain ⟨q, l1⟩ := x
    simp only [hq] at h
    have h0 := Par.qname_len hq
    by_cases hi : Par.is [61] l1 = true
    · rw [if_pos hi] at h
      cases hr : Par.qname l1.tail with
      | error e => simp only [hr] at h; cases h
      | ok x =>
        obtain ⟨r, l2⟩ := x
        simp only [hr] at h
        have h1 := Par.qname_len hr
        have h2 := callA_len h
        have htl : l1.tail.length = l1.length - 1 := List.length_tail
        omega
    · rw [if_neg hi] at h
      have := callA_len h
      omega
end
end Go.Eng
namespace Go.Eng
noncomputable section
/-! ### modules, and labels -/
structure Pm where
  name : List UInt8
  label : List UInt8
  at_ : Nat
def Pm.row (x : Pm) : List V := [L.str x.name, L.str x.label, .int .i64 (x.at_ : Int)]
structure Vr where
  name : List UInt8
  label : List UInt8
  init : Int
  at_ : Nat
def Vr.row (x : Vr) : List V := [L.str x.name, L.str x.label, .int .i64 x.init, .int .i64 (x.at_ : Int)]
structure Im where
  name : List UInt8
  at_ : Nat
def Im.row (x : Im) : List V := [L.str x.name, .int .i64 (x.at_ : Int)]
structure Pr where
  name : List UInt8
  params : List Pm
  has : Bool
  result : List UInt8
  pc : List UInt8
  uses : List (List UInt8)
  body : List Sm
  at_ : Nat
def useRow (u : List UInt8) : List V := [L.str u]
def PrR (h : Heap) (p : Pr) (row : List V) : Prop := ∃ vp vu vb, row = [L.str p.name, vp, .bool p.has, L.str p.result, L.str p.pc, vu, vb, .int .i64 (p.at_ : Int)] ∧ Rows 3 h vp (p.params.map Pm.row) ∧ Rows 1 h vu (p.uses.map useRow) ∧ SmsR h vb p.body
def PrRows (h : Heap) : List Pr → List (List V) → Prop
  | [], rows => rows = []
  | p :: l, rows => ∃ r rs, rows = r :: rs ∧ PrR h p r ∧ PrRows h l rs
structure Md where
  name : List UInt8
  at_ : Nat
  imports : List Im
  vars : List Vr
  procs : List Pr
def MdR (h : Heap) (m : Md) (row : List V) : Prop := ∃ vi vv vp, row = [L.str m.name, .int .i64 (m.at_ : Int), vi, vv, vp] ∧ Rows 2 h vi (m.imports.map Im.row) ∧ Rows 4 h vv (m.vars.map Vr.row) ∧ ∃ rows, Rows 8 h vp rows ∧ PrRows h m.procs rows
theorem PrRows.nil {h : Heap} : PrRows h [] [] := rfl
theorem PrRows.snoc {h : Heap} : ∀ {l : List Pr} {rows : List (List V)} {s : Pr} {row : List V}, PrRows h l rows → PrR h s row → PrRows h (l ++ [s]) (rows ++ [row])
  | [], rows, s, row, hl, hs => by
    have hl : rows = [] := hl
    subst hl; exact ⟨row, [], rfl, hs, rfl⟩
  | a :: l, rows, s, row, hl, hs => by
    obtain ⟨r, rs, rfl, h1, h2⟩ := hl
    exact ⟨r, rs ++ [row], rfl, h1, h2.snoc hs⟩
namespace Par
def severalL {α : Type} (one : α → List Tok → R α) (e : List UInt8) : Nat → Nat → List Tok → α → R α
  | 0, _, _, _ => .error (0, 0)
  | f + 1, n, l, x => if is e l = true then .ok (x, l.tail) else
      if n = 0 then (match one x l with
        | .error e => .error e
        | .ok (y, l') => severalL one e f 1 l' y)
      else (match must [44] l with
        | .error e => .error e
        | .ok (_, l1) => match one x l1 with
          | .error e => .error e
          | .ok (y, l') => severalL one e f (n + 1) l' y)
def several {α : Type} (one : α → List Tok → R α) (e : List UInt8) (l : List Tok) (x : α) : R α := severalL one e l.length 0 l x
def parm (x : List Pm) (l : List Tok) : R (List Pm) := match name l with
  | .error e => .error e
  | .ok (n, l1) => match must [58] l1 with
    | .error e => .error e
    | .ok (_, l2) => match name l2 with
      | .error e => .error e
      | .ok (b, l3) => .ok (x ++ [⟨n, b, here l⟩], l3)
def use (x : List (List UInt8)) (l : List Tok) : R (List (List UInt8)) := match name l with
  | .error e => .error e
  | .ok (n, l1) => .ok (x ++ [n], l1)
def procB (d : Nat) (q : Pr) (l : List Tok) : R Pr := match must [112, 99] l with
  | .error e => .error e
  | .ok (_, l1) => match name l1 with
    | .error e => .error e
    | .ok (pc, l2) => match must [117, 115, 101, 115] l2 with
      | .error e => .error e
      | .ok (_, l3) => match must [123] l3 with
        | .error e => .error e
        | .ok (_, l4) => match several use [125] l4 [] with
          | .error e => .error e
          | .ok (us, l5) => match block d l5 with
            | .error e => .error e
            | .ok (b, l6) => .ok ({ q with pc := pc, uses := us, body := b }, l6)
def proc (d : Nat) (l : List Tok) : R Pr := match name l with
  | .error e => .error e
  | .ok (n, l1) => match must [40] l1 with
    | .error e => .error e
    | .ok (_, l2) => match several parm [41] l2 [] with
      | .error e => .error e
      | .ok (ps, l3) => if is [45, 62] l3 = true then (match name l3.tail with
          | .error e => .error e
          | .ok (r, l4) => procB d ⟨n, ps, true, r, [], [], [], here l⟩ l4)
        else procB d ⟨n, ps, false, [], [], [], [], here l⟩ l3
def varE (n lb : List UInt8) (at_ : Nat) (neg : Bool) (l : List Tok) : R Vr := match number l with
  | .error e => .error e
  | .ok (k, l1) => match must [59] l1 with
    | .error e => .error e
    | .ok (_, l2) => .ok (⟨n, lb, if neg then -(k : Int) else (k : Int), at_⟩, l2)
def varD (l : List Tok) : R Vr := match name l with
  | .error e => .error e
  | .ok (n, l1) => match must [58] l1 with
    | .error e => .error e
    | .ok (_, l2) => match name l2 with
      | .error e => .error e
      | .ok (b, l3) => match must [61] l3 with
        | .error e => .error e
        | .ok (_, l4) => if is [45] l4 = true then varE n b (here l) true l4.tail else varE n b (here l) false l4
/-- imports -/
def impsL : Nat → List Tok → List Im → R (List Im)
  | 0, _, _ => .error (0, 0)
  | f + 1, l, x => if is [105, 109, 112, 111, 114, 116] l = true then (match name l.tail with
      | .error e => .error e
      | .ok (n, l1) => match must [59] l1 with
        | .error e => .error e
        | .ok (_, l2) => impsL f l2 (x ++ [⟨n, here l.tail⟩]))
    else .ok (x, l)
def declsL (d : Nat) : Nat → List Tok → List Vr → List Pr → R (List Vr × List Pr)
  | 0, _, _, _ => .error (0, 0)
  | f + 1, l, vs, ps => if (hd l).kind = 0 then .ok ((vs, ps), l) else
      if is [118, 97, 114] l = true then (match varD l.tail with
        | .error e => .error e
        | .ok (v, l1) => declsL d f l1 (vs ++ [v]) ps)
      else (match must [112, 114, 111, 99] l with
        | .error e => .error e
        | .ok (_, l1) => match proc d l1 with
          | .error e => .error e
          | .ok (p, l2) => declsL d f l2 vs (ps ++ [p]))
def modul (d : Nat) (l : List Tok) : R Md := match must [109, 111, 100, 117, 108, 101] l with
  | .error e => .error e
  | .ok (_, l1) => match name l1 with
    | .error e => .error e
    | .ok (n, l2) => match must [59] l2 with
      | .error e => .error e
      | .ok (_, l3) => match impsL l3.length l3 [] with
        | .error e => .error e
        | .ok (is, l4) => match declsL d l4.length l4 [] [] with
          | .error e => .error e
          | .ok (x, l5) => .ok (⟨n, here l1, is, x.1, x.2⟩, l5)
/-- labels: one row of names, each ahead of the next -/
def rowL : Nat → List Tok → List UInt8 → List Pm → Bool → R ((List UInt8 × Bool) × List Pm)
  | 0, _, _, _, _ => .error (0, 0)
  | f + 1, l, last, x, alone => if is [60] l = true then (match name l.tail with
      | .error e => .error e
      | .ok (n, l1) => rowL f l1 n (x ++ [⟨last, n, here l.tail⟩]) false)
    else .ok (((last, alone), x), l)
def labelsL : Nat → List Tok → List Pm → R (List Pm)
  | 0, _, _ => .error (0, 0)
  | f + 1, l, x => if (hd l).kind = 0 then .ok (x, l) else match name l with
    | .error e => .error e
    | .ok (n, l1) => match rowL l1.length l1 n x true with
      | .error e => .error e
      | .ok (((last, alone), y), l2) => match must [59] l2 with
        | .error e => .error e
        | .ok (_, l3) => labelsL f l3 (if alone then y ++ [⟨last, [], here l⟩] else y)
def labels (l : List Tok) : R (List Pm) := match must [108, 97, 98, 101, 108, 115] l with
  | .error e => .error e
  | .ok (_, l1) => labelsL l1.length l1 []
end Par
theorem Left.rb_ {p : RP} {i : Nat} {l : List Tok} (h : Left p i l) (b : Nat) : Left { p with rb := b } i l := ⟨h.drop, h.ne, h.last, h.num, h.small⟩
theorem Par.number_lt {p : RP} {i : Nat} {l l' : List Tok} {n : Nat} (h : Left p i l) (hn : Par.number l = .ok (n, l')) : n < 1000000000 := by
  unfold Par.number at hn
  cases ho : Par.of 2 l with
  | error e => rw [ho] at hn; cases hn
  | ok x =>
    obtain ⟨t, l1⟩ := x
    rw [ho] at hn; cases hn
    have hd := Par.of_num h ho
    have := hd.bound t.text.length
    rwa [List.take_length] at this
end
end Go.Eng
namespace Go.Eng
noncomputable section
/-! ### tokens of a text -/
namespace Lex
def small (c : UInt8) : Bool := decide (97 ≤ c.toNat) && decide (c.toNat ≤ 122)
def digit (c : UInt8) : Bool := decide (48 ≤ c.toNat) && decide (c.toNat ≤ 57)
def within (c : UInt8) : Bool := small c || (digit c || decide (c.toNat = 95))
def notNl (c : UInt8) : Bool := decide (c.toNat ≠ 10)
def blank (c : UInt8) : Bool := decide (c.toNat = 32) || (decide (c.toNat = 9) || (decide (c.toNat = 10) || decide (c.toNat = 13)))
def keys : List (List UInt8) := [[109, 111, 100, 117, 108, 101], [105, 109, 112, 111, 114, 116], [118, 97, 114], [112, 114, 111, 99], [112, 99], [117, 115, 101, 115], [108, 101, 116], [99, 97, 108, 108], [105, 102], [101, 108, 115, 101], [119, 104, 105, 108, 101], [101, 109, 105, 116], [114, 101, 115, 117, 108, 116], [115, 107, 105, 112], [108, 97, 98, 101, 108, 115]]
def twos : List (List UInt8) := [[61, 61], [60, 61], [45, 62]]
def ones : List UInt8 := [40, 41, 123, 125, 44, 59, 58, 46, 61, 60, 43, 45, 42, 47, 37, 33]
def isPre (p l : List UInt8) : Bool := decide (p.length ≤ l.length) && decide (l.take p.length = p)
def sign (l : List UInt8) : List UInt8 := match twos.find? (isPre · l) with
  | some t => t
  | none => match l with
    | [] => []
    | c :: _ => if 0 ≤ Lib.indexByte ones c then [c] else []
/-- kind, and error -/
def word (w : List UInt8) : Nat × Nat := if w ∈ keys then (3, 0) else if w.length > 20 then (0, 9) else (1, 0)
def number (w f : List UInt8) : Nat × Nat := if w.length > 9 then (0, 9) else
  if w.head? = some 48 ∧ w.length > 1 then (0, 10) else
  match f with
  | [] => (2, 0)
  | c :: _ => if within c then (0, 10) else (2, 0)
def put (t : Nat × Nat) (w : List UInt8) (pos : Nat) (out : List Tok) (k : List Tok → Except (Nat × Nat) (List Tok)) : Except (Nat × Nat) (List Tok) := if t.2 ≠ 0 then .error (t.2, pos) else k (out ++ [⟨t.1, w, pos⟩])
def all : Nat → Nat → List UInt8 → List Tok → Except (Nat × Nat) (List Tok)
  | 0, _, _, _ => .error (0, 0)
  | _ + 1, pos, [], out => .ok (out ++ [⟨0, [], pos⟩])
  | f + 1, pos, c :: r, out =>
    if blank c then all f (pos + 1) r out else
    if c.toNat = 35 then all f (pos + ((c :: r).takeWhile notNl).length) ((c :: r).drop ((c :: r).takeWhile notNl).length) out else
    if small c then put (word ((c :: r).takeWhile within)) ((c :: r).takeWhile within) pos out (all f (pos + ((c :: r).takeWhile within).length) ((c :: r).drop ((c :: r).takeWhile within).length)) else
    if digit c then put (number ((c :: r).takeWhile digit) ((c :: r).drop ((c :: r).takeWhile digit).length)) ((c :: r).takeWhile digit) pos out (all f (pos + ((c :: r).takeWhile digit).length) ((c :: r).drop ((c :: r).takeWhile digit).length)) else
    put (if sign (c :: r) = [] then (4, 10) else (4, 0)) (sign (c :: r)) pos out (all f (pos + (sign (c :: r)).length) ((c :: r).drop (sign (c :: r)).length))
def lex (s : List UInt8) : Except (Nat × Nat) (List Tok) := if 8192 < s.length then .error (9, 8192) else all (s.length + 1) 0 s []
end Lex
theorem takeWhile_drop {f : UInt8 → Bool} {l : List UInt8} {k : Nat} {c : UInt8} (hk : l[k]? = some c) (hf : f c = true) : (l.drop k).takeWhile f = c :: (l.drop (k + 1)).takeWhile f := by
  obtain ⟨hlt, rfl⟩ := List.getElem?_eq_some_iff.1 hk
  rw [List.drop_eq_getElem_cons hlt, List.takeWhile_cons, if_pos hf]
theorem takeWhile_stop {f : UInt8 → Bool} {l : List UInt8} {k : Nat} {c : UInt8} (hk : l[k]? = some c) (hf : f c = false) : (l.drop k).takeWhile f = [] := by
  obtain ⟨hlt, rfl⟩ := List.getElem?_eq_some_iff.1 hk
  rw [List.drop_eq_getElem_cons hlt, List.takeWhile_cons, if_neg (by simp [hf])]
theorem lfind_some {α : Type} {p : α → Bool} : ∀ {l : List α} {k : Nat} {x : α}, l[k]? = some x → (∀ j y, l[j]? = some y → j < k → p y = false) → p x = true → l.find? p = some x
  | [], k, x, h, _, _ => by simp at h
  | a :: l, 0, x, h, _, hp => by simp at h; subst h; simp [hp]
  | a :: l, k + 1, x, h, hno, hp => by
    have h0 := hno 0 a rfl (by omega)
    rw [List.find?_cons, h0]
    exact lfind_some (by simpa using h) (fun j y hj hlt => hno (j + 1) y (by simpa using hj) (by omega)) hp
theorem lfind_none {α : Type} {p : α → Bool} {l : List α} (hno : ∀ j y, l[j]? = some y → j < l.length → p y = false) : l.find? p = none := by
  rw [List.find?_eq_none]
  intro x hx
  obtain ⟨j, hj⟩ := List.mem_iff_getElem?.1 hx
  simp [hno j x hj (List.getElem?_eq_some_iff.1 hj).1]
/-- the numbers among the tokens are digits -/
def NumOk (ts : List Tok) : Prop := ∀ t ∈ ts, t.kind = 2 → Digits t.text
theorem NumOk.snoc {ts : List Tok} {t : Tok} (h : NumOk ts) (ht : t.kind = 2 → Digits t.text) : NumOk (ts ++ [t]) := by
  intro u hu
  rcases List.mem_append.1 hu with hu | hu
  · exact h u hu
  · simp at hu; subst hu; exact ht
theorem Lex.put_ok {t : Nat × Nat} {w : List UInt8} {pos : Nat} {out ts : List Tok} {k : List Tok → Except (Nat × Nat) (List Tok)} (h : Lex.put t w pos out k = .ok ts) : t.2 = 0 ∧ k (out ++ [⟨t.1, w, pos⟩]) = .ok ts := by
  unfold Lex.put at h
  by_cases he : t.2 ≠ 0
  · rw [if_pos he] at h; cases h
  · rw [if_neg he] at h; exact ⟨by omega, h⟩
theorem Lex.word_kind (w : List UInt8) : (Lex.word w).1 ≠ 2 := by
  unfold Lex.word; split
  · decide
  · split <;> decide
theorem Lex.number_digits {w f : List UInt8} (hw : ∀ b ∈ w, Lex.digit b = true) (hne : w ≠ []) (h : (Lex.number w f).2 = 0) : Digits w := by
  refine ⟨hne, ?_, fun b hb => ?_⟩
  · unfold Lex.number at h
    by_cases hl : w.length > 9
    · rw [if_pos hl] at h; cases h
    · omega
  · have := hw b hb
    simp [Lex.digit] at this; exact this
theorem mem_takeWhile {α : Type} {p : α → Bool} : ∀ {l : List α} {x : α}, x ∈ l.takeWhile p → p x = true
  | [], x, h => by simp at h
  | a :: l, x, h => by
    rw [List.takeWhile_cons] at h
    by_cases hp : p a = true
    · rw [if_pos hp] at h
      rcases List.mem_cons.1 h with rfl | h
      · exact hp
      · exact mem_takeWhile h
    · rw [if_neg hp] at h; simp at h
theorem Lex.all_ok : ∀ {f pos : Nat} {r : List UInt8} {out ts : List Tok}, Lex.all f pos r out = .ok ts → NumOk out → ∃ us a, ts = us ++ [⟨0, [], a⟩] ∧ NumOk us
  | 0, _, _, _, _, h, _ => by cases h
  | f + 1, pos, [], out, ts, h, ho => by
    simp only [Lex.all] at h; cases h; exact ⟨out, pos, rfl, ho⟩
  | f + 1, pos, c :: r, out, ts, h, ho => by
    simp only [Lex.all] at h
    by_cases h1 : Lex.blank c = true
    · rw [if_pos h1] at h; exact Lex.all_ok h ho
    rw [if_neg h1] at h
    by_cases h2 : c.toNat = 35
    · rw [if_pos h2] at h; exact Lex.all_ok h ho
    rw [if_neg h2] at h
    by_cases h3 : Lex.small c = true
    · rw [if_pos h3] at h
      obtain ⟨e0, h⟩ := Lex.put_ok h
      exact Lex.all_ok h (ho.snoc fun hk => absurd hk (Lex.word_kind _))
    rw [if_neg h3] at h
    by_cases h4 : Lex.digit c = true
    · rw [if_pos h4] at h
      obtain ⟨e0, h⟩ := Lex.put_ok h
      refine Lex.all_ok h (ho.snoc fun _ => Lex.number_digits (fun b hb => mem_takeWhile hb) ?_ e0)
      rw [List.takeWhile_cons, if_pos h4]; simp
    rw [if_neg h4] at h
    obtain ⟨e0, h⟩ := Lex.put_ok h
    refine Lex.all_ok h (ho.snoc fun hk => ?_)
    by_cases hs : Lex.sign (c :: r) = []
    · simp [hs] at e0
    · simp [hs] at hk
theorem Left.start {p : RP} {us : List Tok} {a : Nat} (h : p.ts = us ++ [⟨0, [], a⟩]) (hn : NumOk us) (hs : p.ts.length < 4294967296) : Left p 0 p.ts := by
  refine ⟨rfl, by rw [h]; simp, fun t ht => ?_, fun t ht hk => ?_, hs⟩
  · rw [h] at ht; simp at ht; rw [← ht]
  · rw [h] at ht
    rcases List.mem_append.1 ht with ht | ht
    · exact hn t ht hk
    · simp at ht; subst ht; cases hk
theorem Lex.all_len : ∀ {f pos : Nat} {r : List UInt8} {out ts : List Tok}, Lex.all f pos r out = .ok ts → ts.length ≤ out.length + f
  | 0, _, _, _, _, h => by cases h
  | f + 1, pos, [], out, ts, h => by
    simp only [Lex.all] at h; cases h; simp
  | f + 1, pos, c :: r, out, ts, h => by
    simp only [Lex.all] at h
    by_cases h1 : Lex.blank c = true
    · rw [if_pos h1] at h; have := Lex.all_len h; omega
    rw [if_neg h1] at h
    by_cases h2 : c.toNat = 35
    · rw [if_pos h2] at h; have := Lex.all_len h; omega
    rw [if_neg h2] at h
    by_cases h3 : Lex.small c = true
    · rw [if_pos h3] at h
      have := Lex.all_len (Lex.put_ok h).2; simp at this; omega
    rw [if_neg h3] at h
    by_cases h4 : Lex.digit c = true
    · rw [if_pos h4] at h
      have := Lex.all_len (Lex.put_ok h).2; simp at this; omega
    rw [if_neg h4] at h
    have := Lex.all_len (Lex.put_ok h).2; simp at this; omega
end
end Go.Eng
namespace Go.Eng
noncomputable section
/-! ### a sum of products, as a text, and its tree (ParseLeft) -/
namespace Sum
theorem tw_app {f : UInt8 → Bool} : ∀ {w r : List UInt8}, (∀ b ∈ w, f b = true) → (∀ c, r.head? = some c → f c = false) → (w ++ r).takeWhile f = w
  | [], [], _, _ => rfl
  | [], c :: r, _, h => by rw [List.nil_append, List.takeWhile_cons, if_neg (by rw [h c rfl]; decide)]
  | a :: w, r, h1, h2 => by
    rw [List.cons_append, List.takeWhile_cons, if_pos (h1 a (by simp)), tw_app (fun b hb => h1 b (by simp [hb])) h2]
def digL : Nat → Nat → List UInt8 → List UInt8
  | 0, _, s => s
  | f + 1, u, s => if 10 ≤ u then digL f (u / 10) (UInt8.ofNat (48 + u % 10) :: s) else UInt8.ofNat (48 + u) :: s
def dig (u : Nat) : List UInt8 := digL 20 u []
def digOk (u : Nat) : Bool := (dig u).all Lex.digit && (decide (dig u ≠ []) && (decide ((dig u).length ≤ 3) && ((decide ((dig u).head? ≠ some 48) || decide ((dig u).length ≤ 1)) && decide (num (dig u) = u))))
set_option maxRecDepth 100000 in
theorem digOks : (List.range 256).all digOk = true := by kernel_rfl
theorem digOk_of {u : Nat} (h : u < 256) : digOk u = true := List.all_eq_true.1 digOks u (List.mem_range.2 h)
def gap : List UInt8 := [32, 43, 32, 50, 32, 42, 32]
def mids : List Nat → List UInt8
  | [] => [59, 32, 125]
  | n :: ns => gap ++ (dig n ++ mids ns)
def preB : List UInt8 := [109, 111, 100, 117, 108, 101, 32, 109, 59, 32, 112, 114, 111, 99, 32, 112, 40, 41, 32, 112, 99, 32, 97, 32, 117, 115, 101, 115, 32, 123, 125, 32, 123, 32, 114, 101, 115, 117, 108, 116, 32, 61, 32]
abbrev KT := Nat × List UInt8
def kt (t : Tok) : KT := (t.kind, t.text)
def ktm : List Nat → List KT
  | [] => [(4, [59]), (4, [125]), (0, [])]
  | n :: ns => (4, [43]) :: (2, [50]) :: (4, [42]) :: (2, dig n) :: ktm ns
theorem all_dig {n f pos : Nat} {r : List UInt8} {out : List Tok} (hn : n < 256) (hr : ∃ m, r = 32 :: m ∨ r = 59 :: m) : Lex.all (f + 1) pos (dig n ++ r) out = Lex.all f (pos + (dig n).length) r (out ++ [⟨2, dig n, pos⟩]) := by
  have h := digOk_of hn
  unfold digOk at h
  generalize dig n = w at h
  simp only [Bool.and_eq_true, Bool.or_eq_true, decide_eq_true_eq, List.all_eq_true] at h
  obtain ⟨h1, h2, h3, h4, _⟩ := h
  cases w with
  | nil => exact absurd rfl h2
  | cons c w =>
    have hc : Lex.digit c = true := h1 c (by simp)
    have hc' : 48 ≤ c.toNat ∧ c.toNat ≤ 57 := by simpa [Lex.digit] using hc
    have b1 : ¬ Lex.blank c = true := by simp [Lex.blank]; omega
    have b2 : ¬ c.toNat = 35 := by omega
    have b3 : ¬ Lex.small c = true := by simp [Lex.small]; omega
    have hr0 : ∀ b, r.head? = some b → Lex.digit b = false := by
      obtain ⟨m, rfl | rfl⟩ := hr <;> (intro b hb; cases hb; rfl)
    have hw : (c :: w ++ r).takeWhile Lex.digit = c :: w := tw_app h1 hr0
    have hnum : Lex.number (c :: w) r = (2, 0) := by
      unfold Lex.number
      have hz : ¬ ((c :: w).head? = some 48 ∧ (c :: w).length > 1) := by
        rintro ⟨k1, k2⟩
        rcases h4 with h4 | h4
        · exact h4 k1
        · omega
      rw [if_neg (by omega), if_neg hz]
      obtain ⟨m, rfl | rfl⟩ := hr <;> rfl
    rw [List.cons_append] at hw ⊢
    simp only [Lex.all]
    rw [if_neg b1, if_neg b2, if_neg b3, if_pos hc, hw, ← List.cons_append, List.drop_left' rfl, hnum]
    rfl
theorem all_gap (f pos : Nat) (r : List UInt8) (out : List Tok) : Lex.all (f + 7) pos (gap ++ r) out = Lex.all f (pos + 7) r (((out ++ [⟨4, [43], pos + 1⟩]) ++ [⟨2, [50], pos + 3⟩]) ++ [⟨4, [42], pos + 5⟩]) := by kernel_rfl
theorem all_pre (f : Nat) (r : List UInt8) : ∃ us, us.map kt = [(3, [109, 111, 100, 117, 108, 101]), (1, [109]), (4, [59]), (3, [112, 114, 111, 99]), (1, [112]), (4, [40]), (4, [41]), (3, [112, 99]), (1, [97]), (3, [117, 115, 101, 115]), (4, [123]), (4, [125]), (4, [123]), (3, [114, 101, 115, 117, 108, 116]), (4, [61])] ∧
    Lex.all (f + 26) 0 (preB ++ r) [] = Lex.all f 43 r us := by
  refine ⟨[⟨3, [109, 111, 100, 117, 108, 101], 0⟩, ⟨1, [109], 7⟩, ⟨4, [59], 8⟩, ⟨3, [112, 114, 111, 99], 10⟩, ⟨1, [112], 15⟩, ⟨4, [40], 16⟩, ⟨4, [41], 17⟩, ⟨3, [112, 99], 19⟩, ⟨1, [97], 22⟩, ⟨3, [117, 115, 101, 115], 24⟩, ⟨4, [123], 29⟩, ⟨4, [125], 30⟩, ⟨4, [123], 32⟩, ⟨3, [114, 101, 115, 117, 108, 116], 34⟩, ⟨4, [61], 41⟩], rfl, ?_⟩
  kernel_rfl
theorem all_end (f pos : Nat) (out : List Tok) : Lex.all (f + 4) pos [59, 32, 125] out = .ok (((out ++ [⟨4, [59], pos⟩]) ++ [⟨4, [125], pos + 2⟩]) ++ [⟨0, [], pos + 3⟩]) := by kernel_rfl
theorem mids_head (ns : List Nat) : ∃ m, mids ns = 32 :: m ∨ mids ns = 59 :: m := by
  cases ns with
  | nil => exact ⟨_, .inr rfl⟩
  | cons n ns => exact ⟨_, .inl rfl⟩
theorem lex_mids : ∀ (ns : List Nat) (f pos : Nat) (out : List Tok), (∀ n ∈ ns, n < 256) → (mids ns).length < f → ∃ us, Lex.all f pos (mids ns) out = .ok (out ++ us) ∧ us.map kt = ktm ns
  | [], f, pos, out, _, hf => by
    obtain ⟨g, rfl⟩ : ∃ g, f = g + 4 := ⟨f - 4, by simp [mids] at hf; omega⟩
    exact ⟨_, (by show Lex.all (g + 4) pos [59, 32, 125] out = _; rw [all_end, List.append_assoc, List.append_assoc]), rfl⟩
  | n :: ns, f, pos, out, hn, hf => by
    simp only [mids, List.length_append, gap, List.length_cons, List.length_nil] at hf
    obtain ⟨g, rfl⟩ : ∃ g, f = (g + 1) + 7 := ⟨f - 8, by omega⟩
    show ∃ us, Lex.all ((g + 1) + 7) pos (gap ++ (dig n ++ mids ns)) out = _ ∧ _
    rw [all_gap, all_dig (hn n (by simp)) (mids_head ns)]
    have hd0 : (dig n).length ≠ 0 := by
      have h := digOk_of (hn n (by simp))
      unfold digOk at h
      simp only [Bool.and_eq_true, decide_eq_true_eq] at h
      exact fun e => h.2.1 (List.eq_nil_of_length_eq_zero e)
    obtain ⟨us, h1, h2⟩ := lex_mids ns g _ _ (fun m hm => hn m (by simp [hm])) (by omega)
    refine ⟨⟨4, [43], pos + 1⟩ :: ⟨2, [50], pos + 3⟩ :: ⟨4, [42], pos + 5⟩ :: ⟨2, dig n, pos + 7⟩ :: us, ?_, ?_⟩
    · rw [h1]; simp only [List.append_assoc, List.cons_append, List.nil_append]
    · simp only [List.map_cons, h2]; rfl
def text (n : Nat) (ns : List Nat) : List UInt8 := preB ++ (dig n ++ mids ns)
def kts (n : Nat) (ns : List Nat) : List KT := [(3, [109, 111, 100, 117, 108, 101]), (1, [109]), (4, [59]), (3, [112, 114, 111, 99]), (1, [112]), (4, [40]), (4, [41]), (3, [112, 99]), (1, [97]), (3, [117, 115, 101, 115]), (4, [123]), (4, [125]), (4, [123]), (3, [114, 101, 115, 117, 108, 116]), (4, [61])] ++ (2, dig n) :: ktm ns
theorem dig_len {n : Nat} (h : n < 256) : 0 < (dig n).length ∧ (dig n).length ≤ 3 := by
  have h := digOk_of h
  unfold digOk at h
  simp only [Bool.and_eq_true, decide_eq_true_eq] at h
  exact ⟨List.length_pos_iff.2 h.2.1, h.2.2.1⟩
theorem mids_len : ∀ {ns : List Nat}, (∀ n ∈ ns, n < 256) → (mids ns).length ≤ 3 + 10 * ns.length
  | [], _ => Nat.le_refl _
  | n :: ns, h => by
    have h1 := (dig_len (h n (by simp))).2
    have h2 := mids_len (ns := ns) fun m hm => h m (by simp [hm])
    simp only [mids, List.length_append, gap, List.length_cons, List.length_nil]
    omega
/-- the text's tokens -/
theorem lex_text {n : Nat} {ns : List Nat} (hn : n < 256) (hns : ∀ m ∈ ns, m < 256) (hl : ns.length ≤ 60) : ∃ ts, Lex.lex (text n ns) = .ok ts ∧ ts.map kt = kts n ns := by
  have h1 := dig_len hn
  have h2 := mids_len hns
  have hlen : (text n ns).length = 43 + ((dig n).length + (mids ns).length) := by
    unfold text
    rw [List.length_append, List.length_append]; rfl
  unfold Lex.lex
  rw [if_neg (by omega)]
  obtain ⟨g, hg⟩ : ∃ g, (text n ns).length + 1 = (g + 1) + 26 := ⟨(text n ns).length - 26, by omega⟩
  rw [hg]
  obtain ⟨us, e1, e2⟩ := all_pre (g + 1) (dig n ++ mids ns)
  unfold text
  rw [e2, all_dig hn (mids_head ns)]
  obtain ⟨vs, e3, e4⟩ := lex_mids ns g _ _ hns (by omega)
  refine ⟨_, e3, ?_⟩
  simp only [List.map_append, e1, e4]
  rfl
end Sum
end
end Go.Eng
namespace Go.Eng
noncomputable section
namespace Sum
/-- without its place -/
def z (n : Nd) : Nd := { n with at_ := 0 }
def lit (n : Nat) : Nd := ⟨1, (n : Int), [], [], -1, -1, 0⟩
def opn (k a b : Nat) : Nd := ⟨k, 0, [], [], (a : Int), (b : Int), 0⟩
/-- the law's list -/
def step (L : List Nd) (n : Nat) : List Nd := L ++ [lit 2, lit n, opn 7 (L.length - 1 + 1) (L.length - 1 + 2), opn 5 (L.length - 1) (L.length - 1 + 3)]
def tree (n : Nat) (ns : List Nat) : List Nd := ns.foldl step [lit n]
theorem is_kt {t : Tok} {k : Nat} {w s : List UInt8} (h : kt t = (k, w)) (l : List Tok) : Par.is s (t :: l) = (decide (w = s) && (decide (k = 4) || decide (k = 3))) := by
  cases h; rfl
theorem find_num {t : Tok} {w : List UInt8} (h : kt t = (2, w)) (l : List Tok) (ops : List Opn) : Par.find ops (t :: l) = none := by
  unfold Par.find
  rw [List.find?_eq_none]
  intro o _
  rw [is_kt h]
  simp
theorem unary_num {f d : Nat} {t : Tok} {w : List UInt8} {l : List Tok} {ns : List Nd} (h : kt t = (2, w)) : Par.unary (f + 1) d (t :: l) ns = .ok ((ns.length, ns ++ [⟨1, (num w : Nat), [], [], -1, -1, t.at_⟩]), l) := by
  show Par.unaryS (Par.unary f) d (t :: l) ns = _
  unfold Par.unaryS
  rw [find_num h, is_kt h]
  obtain ⟨h1, h2⟩ : t.kind = 2 ∧ t.text = w := by simpa [kt] using h
  have hk : (Par.hd (t :: l)).kind = 2 := h1
  simp only
  rw [if_neg (by simp), if_pos hk]
  have hn : Par.number (t :: l) = .ok (num w, l) := by
    unfold Par.number Par.of
    rw [if_pos hk]
    subst h2; rfl
  rw [hn]; rfl
theorem find_sign {t : Tok} {w : List UInt8} (h : kt t = (4, w)) (l : List Tok) (ops : List Opn) : Par.find ops (t :: l) = ops.find? fun o => decide (w = o.1) := by
  unfold Par.find
  congr 1
  funext o
  rw [is_kt h]; simp
/-- one product -/
theorem term_one {f d : Nat} {t s : Tok} {w x : List UInt8} {l : List Tok} {ns : List Nd} (h : kt t = (2, w)) (hs : kt s = (4, x)) (hx : x = [43] ∨ x = [59]) :
    Par.term (Par.unary (f + 1)) d (t :: s :: l) ns = .ok ((ns.length, ns ++ [⟨1, (num w : Nat), [], [], -1, -1, t.at_⟩]), s :: l) := by
  unfold Par.term Par.chain
  rw [unary_num h]
  simp only [List.length_cons, Par.chainL]
  rw [find_sign hs]
  rcases hx with rfl | rfl <;> rfl
theorem term_two {f d : Nat} {t m u s : Tok} {v w x : List UInt8} {l : List Tok} {ns : List Nd} (h : kt t = (2, v)) (hm : kt m = (4, [42])) (hu : kt u = (2, w)) (hs : kt s = (4, x)) (hx : x = [43] ∨ x = [59]) :
    Par.term (Par.unary (f + 1)) d (t :: m :: u :: s :: l) ns = .ok ((ns.length + 2, ns ++ [⟨1, (num v : Nat), [], [], -1, -1, t.at_⟩, ⟨1, (num w : Nat), [], [], -1, -1, u.at_⟩, ⟨7, 0, [], [], (ns.length : Nat), ((ns.length + 1 : Nat) : Int), m.at_⟩]), s :: l) := by
  unfold Par.term Par.chain
  rw [unary_num h]
  simp only [List.length_cons, Par.chainL]
  rw [find_sign hm]
  have e : (Par.mulOps.find? fun o => decide ([42] = o.1)) = some ([42], 7) := by kernel_rfl
  rw [e]
  simp only [List.tail_cons]
  rw [unary_num hu]
  simp only
  rw [find_sign hs]
  have e2 : (Par.mulOps.find? fun o => decide (x = o.1)) = none := by rcases hx with rfl | rfl <;> kernel_rfl
  rw [e2]
  simp only [List.length_append, List.length_cons, List.length_nil, List.append_assoc, List.cons_append, List.nil_append]
  rfl
/-- what stands behind the first number -/
theorem ktm_cons {ns : List Nat} {ts : List Tok} (h : ts.map kt = ktm ns) : ∃ s l x, ts = s :: l ∧ kt s = (4, x) ∧ (x = [43] ∨ x = [59]) := by
  cases ts with
  | nil => cases ns <;> cases h
  | cons s l =>
    cases ns with
    | nil => exact ⟨s, l, [59], rfl, (List.cons.inj h).1, .inr rfl⟩
    | cons n ns => exact ⟨s, l, [43], rfl, (List.cons.inj h).1, .inl rfl⟩
theorem ktm_split {n : Nat} {ns : List Nat} {ts : List Tok} (h : ts.map kt = ktm (n :: ns)) : ∃ p t m u l, ts = p :: t :: m :: u :: l ∧ kt p = (4, [43]) ∧ kt t = (2, [50]) ∧ kt m = (4, [42]) ∧ kt u = (2, dig n) ∧ l.map kt = ktm ns := by
  match ts, h with
  | [], h => cases h
  | [_], h => simp [ktm] at h
  | [_, _], h => simp [ktm] at h
  | [_, _, _], h => simp [ktm] at h
  | p :: t :: m :: u :: l, h =>
    simp only [List.map_cons, ktm, List.cons.injEq] at h
    exact ⟨p, t, m, u, l, rfl, h.1, h.2.1, h.2.2.1, h.2.2.2.1, h.2.2.2.2⟩
theorem num_dig {n : Nat} (h : n < 256) : num (dig n) = n := by
  have h := digOk_of h
  unfold digOk at h
  simp only [Bool.and_eq_true, decide_eq_true_eq] at h
  exact h.2.2.2.2
theorem chain_sum {f d : Nat} : ∀ (ns : List Nat) (g : Nat) (ts : List Tok) (a : Nat) (nds : List Nd), (∀ n ∈ ns, n < 256) → ts.map kt = ktm ns → ns.length < g → nds.length = a + 1 →
    ∃ b ds l, Par.chainL (Par.term (Par.unary (f + 1))) Par.addOps g d ts a nds = .ok ((b, ds), l) ∧ ds.map z = ns.foldl step (nds.map z) ∧ l.map kt = ktm []
  | [], g, ts, a, nds, _, h, hg, _ => by
    obtain ⟨g, rfl⟩ : ∃ k, g = k + 1 := ⟨g - 1, by simp at hg; omega⟩
    obtain ⟨s, l, x, rfl, hs, _⟩ := ktm_cons h
    have hx : x = [59] := by
      have := (List.cons.inj h).1
      rw [hs] at this; cases this; rfl
    subst hx
    refine ⟨a, nds, s :: l, ?_, rfl, h⟩
    simp only [Par.chainL]
    rw [find_sign hs]; rfl
  | n :: ns, g, ts, a, nds, hn, h, hg, hl => by
    obtain ⟨g, rfl⟩ : ∃ k, g = k + 1 := ⟨g - 1, by simp at hg; omega⟩
    obtain ⟨p, t, m, u, l, rfl, hp, ht, hm, hu, hrest⟩ := ktm_split h
    obtain ⟨s, l', x, rfl, hs, hx⟩ := ktm_cons hrest
    simp only [Par.chainL]
    rw [find_sign hp]
    have e : (Par.addOps.find? fun o => decide ([43] = o.1)) = some ([43], 5) := by kernel_rfl
    rw [e]
    simp only [List.tail_cons]
    rw [term_two ht hm hu hs hx]
    simp only
    obtain ⟨b, ds, l1, e1, e2, e3⟩ := chain_sum (f := f) (d := d) ns g (s :: l') (nds ++ ([⟨1, (num [50] : Nat), [], [], -1, -1, t.at_⟩, ⟨1, (num (dig n) : Nat), [], [], -1, -1, u.at_⟩, ⟨7, 0, [], [], (nds.length : Nat), ((nds.length + 1 : Nat) : Int), m.at_⟩] : List Nd)).length ((nds ++ ([⟨1, (num [50] : Nat), [], [], -1, -1, t.at_⟩, ⟨1, (num (dig n) : Nat), [], [], -1, -1, u.at_⟩, ⟨7, 0, [], [], (nds.length : Nat), ((nds.length + 1 : Nat) : Int), m.at_⟩] : List Nd)) ++ [⟨5, 0, [], [], (a : Nat), ((nds.length + 2 : Nat) : Int), p.at_⟩]) (fun k hk => hn k (by simp [hk])) hrest (by simp at hg; omega) (by simp)
    refine ⟨b, ds, l1, e1, ?_, e3⟩
    rw [e2]
    show ns.foldl step _ = ns.foldl step (step (nds.map z) n)
    congr 1
    unfold step
    rw [List.length_map, hl, num_dig (hn n (by simp)), show num [50] = 2 by kernel_rfl]
    simp [z, lit, opn, List.append_assoc]
    omega
theorem expr_sum {n : Nat} {ns : List Nat} {ts : List Tok} {t : Tok} {d : Nat} (hn : n < 256) (hns : ∀ m ∈ ns, m < 256) (ht : kt t = (2, dig n)) (h : ts.map kt = ktm ns) :
    ∃ ds l, Par.expr d (t :: ts) = .ok (ds, l) ∧ ds.map z = tree n ns ∧ l.map kt = ktm [] := by
  obtain ⟨s, l', x, rfl, hs, hx⟩ := ktm_cons h
  have hlen : ns.length < (s :: l').length := by
    have := congrArg List.length h
    rw [List.length_map] at this
    rw [this]
    clear h this hns
    induction ns with
    | nil => decide
    | cons m ns ih => simp only [ktm, List.length_cons]; omega
  obtain ⟨b, ds, l, e1, e2, e3⟩ := chain_sum (f := (s :: l').length) (d := d) ns (s :: l').length (s :: l') 0 [⟨1, (num (dig n) : Nat), [], [], -1, -1, t.at_⟩] hns h hlen rfl
  refine ⟨ds, l, ?_, ?_, e3⟩
  · unfold Par.expr Par.whole Par.sum
    have hs1 : Par.chain (Par.term (Par.unary (t :: s :: l').length)) Par.addOps d (t :: s :: l') [] = .ok ((b, ds), l) := by
      unfold Par.chain
      show (match Par.term (Par.unary ((s :: l').length + 1)) d (t :: s :: l') [] with
        | .error e => Except.error e
        | .ok ((a, ns), l) => Par.chainL (Par.term (Par.unary ((s :: l').length + 1))) Par.addOps l.length d l a ns) = _
      rw [term_one ht hs hx]
      exact e1
    rw [hs1]
    obtain ⟨s2, l2, x2, rfl, hs2, _⟩ := ktm_cons e3
    have hx2 : x2 = [59] := by
      have := (List.cons.inj e3).1
      rw [hs2] at this; cases this; rfl
    subst hx2
    simp only
    rw [find_sign hs2]
    rfl
  · rw [e2, num_dig hn]; rfl
end Sum
end
end Go.Eng
namespace Go.Eng
noncomputable section
namespace Sum
theorem cons_split {ts : List Tok} {k : Nat} {w : List UInt8} {ks : List KT} (h : ts.map kt = (k, w) :: ks) : ∃ a l, ts = ⟨k, w, a⟩ :: l ∧ l.map kt = ks := by
  cases ts with
  | nil => cases h
  | cons t l =>
    obtain ⟨k', w', a⟩ := t
    obtain ⟨h1, h2⟩ := List.cons.inj h
    cases h1
    exact ⟨a, l, rfl, h2⟩
def sumMd (a1 a2 a3 : Nat) (ds : List Nd) : Md := ⟨[109], a1, [], [], [⟨[112], [], false, [], [97], [], [.mk 3 a2 [] [] [] false [] [] ds [] [] []], a3⟩]⟩
theorem modul_sum {n : Nat} {ns : List Nat} {ts : List Tok} (hn : n < 256) (hns : ∀ m ∈ ns, m < 256) (h : ts.map kt = kts n ns) :
    ∃ l ds a1 a2 a3, Par.modul 0 ts = .ok (sumMd a1 a2 a3 ds, l) ∧ ds.map z = tree n ns := by
  obtain ⟨a1, l1, e1, h1⟩ := cons_split h
  obtain ⟨a2, l2, e2, h2⟩ := cons_split h1
  obtain ⟨a3, l3, e3, h3⟩ := cons_split h2
  obtain ⟨a4, l4, e4, h4⟩ := cons_split h3
  obtain ⟨a5, l5, e5, h5⟩ := cons_split h4
  obtain ⟨a6, l6, e6, h6⟩ := cons_split h5
  obtain ⟨a7, l7, e7, h7⟩ := cons_split h6
  obtain ⟨a8, l8, e8, h8⟩ := cons_split h7
  obtain ⟨a9, l9, e9, h9⟩ := cons_split h8
  obtain ⟨a10, l10, e10, h10⟩ := cons_split h9
  obtain ⟨a11, l11, e11, h11⟩ := cons_split h10
  obtain ⟨a12, l12, e12, h12⟩ := cons_split h11
  obtain ⟨a13, l13, e13, h13⟩ := cons_split h12
  obtain ⟨a14, l14, e14, h14⟩ := cons_split h13
  obtain ⟨a15, l15, e15, h15⟩ := cons_split h14
  obtain ⟨a16, l16, e16, h16⟩ := cons_split h15
  subst e1 e2 e3 e4 e5 e6 e7 e8 e9 e10 e11 e12 e13 e14 e15 e16
  obtain ⟨ds, k0, he, hz, g0⟩ := expr_sum (d := 1) (t := ⟨2, dig n, a16⟩) hn hns rfl h16
  obtain ⟨b1, k1, f1, g1⟩ := cons_split g0
  obtain ⟨b2, k2, f2, g2⟩ := cons_split g1
  obtain ⟨b3, k3, f3, g3⟩ := cons_split g2
  subst f1 f2 f3
  refine ⟨⟨0, [], b3⟩ :: k3, ds, a2, a14, a5, ?_, hz⟩
  simp [Par.modul, Par.must, Par.is, Par.hd, Par.here, Par.name, Par.of, Par.impsL, Par.declsL, Par.proc, Par.procB, Par.several, Par.severalL, Par.block, Par.blockS, Par.blockL, Par.stmt, Par.stmtS, Par.stResult, Par.fin, he, sumMd]
end Sum
end
end Go.Eng
namespace Go.Eng
noncomputable section
namespace Sum
def part (n : Nat) (ms : List Nat) : List UInt8 := dig n ++ ms.flatMap fun m => gap ++ dig m
theorem part_snoc (n m : Nat) (ms : List Nat) : part n (ms ++ [m]) = part n ms ++ gap ++ dig m := by simp [part, List.append_assoc]
theorem part_text (n : Nat) (ms : List Nat) : preB ++ (part n ms ++ [59, 32, 125]) = text n ms := by
  have h : ∀ ms, mids ms = (ms.flatMap fun m => gap ++ dig m) ++ [59, 32, 125] := by
    intro ms
    induction ms with
    | nil => rfl
    | cons m ms ih => simp [mids, ih, List.append_assoc]
  simp [text, part, h, List.append_assoc]
theorem part_len {n : Nat} {ms : List Nat} (hn : n < 256) (hm : ∀ m ∈ ms, m < 256) : (part n ms).length ≤ 3 + 10 * ms.length := by
  have h1 := (dig_len hn).2
  have h2 := mids_len hm
  have h3 := congrArg List.length (part_text n ms)
  simp [text] at h3
  omega
theorem tree_snoc (n m : Nat) (ms : List Nat) : tree n (ms ++ [m]) = step (tree n ms) m := by simp [tree]
theorem tree_len (n : Nat) (ms : List Nat) : (tree n ms).length = 1 + 4 * ms.length := by
  have h : ∀ (ms : List Nat) (L : List Nd), (ms.foldl step L).length = L.length + 4 * ms.length := by
    intro ms
    induction ms with
    | nil => intro L; rfl
    | cons m ms ih => intro L; rw [List.foldl_cons, ih]; simp [step]; omega
  exact h ms [lit n]
/-- what the law's loop has made of the first k -/
structure At (n : Nat) (ms : List Nat) (k : Nat) (L : List Nd) (x : List UInt8) : Prop where
  le : k ≤ ms.length
  tree : L = tree n (ms.take k)
  text : x = part n (ms.take k)
theorem At.zero (n : Nat) (ms : List Nat) : At n ms 0 [lit n] (dig n) := ⟨Nat.zero_le _, rfl, by simp [part]⟩
theorem At.few {n k : Nat} {ms : List Nat} {L : List Nd} {x : List UInt8} (h : At n ms k L x) (hn : n < 256) (hm : ∀ m ∈ ms, m < 256) : L.length = 1 + 4 * k ∧ x.length ≤ 3 + 10 * k := by
  obtain ⟨h1, rfl, rfl⟩ := h
  have e : (ms.take k).length = k := by simp; omega
  refine ⟨by rw [tree_len, e], ?_⟩
  have := part_len (ms := ms.take k) hn fun m hk => hm m (List.mem_of_mem_take hk)
  rwa [e] at this
theorem At.step {n m k : Nat} {ms : List Nat} {L : List Nd} {x : List UInt8} (h : At n ms k L x) (hk : ms[k]? = some m) : At n ms (k + 1) (step L m) (x ++ gap ++ dig m) := by
  obtain ⟨h1, rfl, rfl⟩ := h
  refine ⟨(List.getElem?_eq_some_iff.1 hk).1, ?_, ?_⟩
  · rw [List.take_add_one, hk]; exact (tree_snoc ..).symm
  · rw [List.take_add_one, hk]; exact (part_snoc ..).symm
end Sum
theorem toNat_lt (b : UInt8) : b.toNat < 256 := by simpa using b.toNat_lt
theorem all_lt (bs : List UInt8) : ∀ m ∈ bs.map (·.toNat), m < 256 := by
  intro m hm
  obtain ⟨b, _, rfl⟩ := List.mem_map.1 hm
  exact toNat_lt b
end
end Go.Eng
