/- Part of a proof of a law, by an evaluator that the machine follows: rules, contracts of functions, what they come to. No condition of its own. -/
import Derived.Test.YtjobofnpmmjeoaaDoorBehind
import Derived.Test.YtjobofnpmmjeoaaDoorSym
namespace Go.Eng
noncomputable section
def Nd.er (n : Nd) : Nd := { n with at_ := 0 }
def NdsEq (b : Bool) (es es' : List Nd) : Prop := es.map Nd.er = es'.map Nd.er ∧ (b = true → es = es')
theorem NdsEq.len {b : Bool} {es es' : List Nd} (h : NdsEq b es es') : es'.length = es.length := by simpa using (congrArg List.length h.1).symm
theorem NdsEq.at_ {b : Bool} {es es' : List Nd} (h : NdsEq b es es') {i : Nat} {x y : Nd} (hb : b = true) (hx : es[i]? = some x) (hy : es'[i]? = some y) : x.at_ = y.at_ := by
 rw [← h.2 hb, hx] at hy; cases hy; rfl
def ArgsEq (b : Bool) (as as' : List (List Nd)) : Prop := as'.length = as.length ∧ ∀ (i : Nat) (e e' : List Nd), as[i]? = some e → as'[i]? = some e' → NdsEq b e e'
mutual
inductive SmEq (b : Bool) : Sm → Sm → Prop
 | mk {k a a' : Nat} {m n l : List UInt8} {hs : Bool} {tm t : List UInt8} {e e' : List Nd} {as as' : List (List Nd)} {bd bd' el el' : List Sm} (ha : b = true → a = a') (he : NdsEq b e e') (has : ArgsEq b as as') (hb : SmsEq b bd bd') (hl : SmsEq b el el') :
   SmEq b (.mk k a m n l hs tm t e as bd el) (.mk k a' m n l hs tm t e' as' bd' el')
inductive SmsEq (b : Bool) : List Sm → List Sm → Prop
 | nil : SmsEq b [] []
 | cons {s s' : Sm} {l l' : List Sm} (hs : SmEq b s s') (hl : SmsEq b l l') : SmsEq b (s :: l) (s' :: l')
end
theorem SmsEq.len {b : Bool} : ∀ {l l' : List Sm}, SmsEq b l l' → l'.length = l.length
 | _, _, .nil => rfl
 | _, _, .cons _ h => by simp [h.len]
theorem SmsEq.at_ {b : Bool} : ∀ {l l' : List Sm} {i : Nat} {s : Sm}, SmsEq b l l' → l[i]? = some s → ∃ s', l'[i]? = some s' ∧ SmEq b s s'
 | _, _, _, _, .nil, h => by simp at h
 | _, _, 0, s, .cons hs _, h => by simp at h; subst h; exact ⟨_, rfl, hs⟩
 | _, _, i + 1, s, .cons _ hl, h => by
  obtain ⟨s', h1, h2⟩ := hl.at_ (i := i) (s := s) (by simpa using h)
  exact ⟨s', by simpa using h1, h2⟩
def argsSz (as : List (List Nd)) : Nat := as.foldr (fun e n => 1 + e.length + n) 0
theorem argsSz_at : ∀ {as : List (List Nd)} {i : Nat} {e : List Nd}, as[i]? = some e → e.length ≤ argsSz as
 | [], _, _, h => by simp at h
 | a :: as, 0, e, h => by simp at h; subst h; simp [argsSz]; omega
 | a :: as, i + 1, e, h => by
  have := argsSz_at (as := as) (i := i) (e := e) (by simpa using h)
  simp [argsSz] at this ⊢; omega
theorem argsSz_len : ∀ as : List (List Nd), as.length ≤ argsSz as
 | [] => by simp
 | a :: as => by have := argsSz_len as; simp [argsSz] at this ⊢; omega
mutual
def Sm.sz : Sm → Nat
 | .mk _ _ _ _ _ _ _ _ e as bd el => 1 + e.length + argsSz as + Sms.sz bd + Sms.sz el
def Sms.sz : List Sm → Nat
 | [] => 0
 | s :: l => Sm.sz s + Sms.sz l
end
theorem Sms.sz_at : ∀ {l : List Sm} {i : Nat} {s : Sm}, l[i]? = some s → Sm.sz s ≤ Sms.sz l
 | [], _, _, h => by simp at h
 | a :: l, 0, s, h => by simp at h; subst h; simp [Sms.sz]
 | a :: l, i + 1, s, h => by
  have := Sms.sz_at (l := l) (i := i) (s := s) (by simpa using h)
  simp [Sms.sz]; omega
theorem Sm.sz_pos (s : Sm) : 1 ≤ Sm.sz s := by cases s; simp [Sm.sz]; omega
theorem Sms.sz_len : ∀ l : List Sm, l.length ≤ Sms.sz l
 | [] => by simp
 | s :: l => by have := Sms.sz_len l; have := Sm.sz_pos s; simp [Sms.sz]; omega
theorem SmRows.at_ {h : Heap} : ∀ {l : List Sm} {rw : List (List V)} {i : Nat} {s : Sm}, SmRows h l rw → l[i]? = some s → ∃ row, rw[i]? = some row ∧ SmR h s row
 | [], _, _, _, _, h => by simp at h
 | a :: l, rw, 0, s, hr, h => by
  simp only [SmRows] at hr
  obtain ⟨r, rs, rfl, h1, _⟩ := hr
  simp at h; subst h; exact ⟨r, rfl, h1⟩
 | a :: l, rw, i + 1, s, hr, h => by
  simp only [SmRows] at hr
  obtain ⟨r, rs, rfl, _, h2⟩ := hr
  obtain ⟨row, h3, h4⟩ := SmRows.at_ (i := i) (s := s) h2 (by simpa using h)
  exact ⟨row, by simpa using h3, h4⟩
theorem SmRows.len {h : Heap} : ∀ {l : List Sm} {rw : List (List V)}, SmRows h l rw → rw.length = l.length
 | [], rw, hr => by simp only [SmRows] at hr; subst hr; rfl
 | a :: l, rw, hr => by
  simp only [SmRows] at hr
  obtain ⟨r, rs, rfl, _, h2⟩ := hr
  simp [h2.len]
theorem St.smAt {fs : List Fact} {h : Heap} {l : List Sm} {rw : List (List V)} {i k a : Nat} {m n lb : List UInt8} {hs : Bool} {tm t : List UInt8} {e : List Nd} {as : List (List Nd)} {bd el : List Sm} (st : St (.stb (fun h => SmRows h l rw) :: fs) h) (hi : l[i]? = some (.mk k a m n lb hs tm t e as bd el)) :
  ∃ ve va vb vl, rw[i]? = some [.int .i64 (k : Int), .int .i64 (a : Int), L.str m, L.str n, L.str lb, .bool hs, L.str tm, L.str t, ve, va, vb, vl] ∧
   St (.stb (fun h => Rows 7 h ve (e.map Nd.row)) :: .stb (fun h => ArgsR h va as) :: .stb (fun h => SmsR h vb bd) :: .stb (fun h => SmsR h vl el) :: .stb (fun h => SmRows h l rw) :: fs) h := by
 obtain ⟨row, h1, h2⟩ := (st.stb_at 0 rfl).at_ hi
 simp only [SmR] at h2
 obtain ⟨ve, va, vb, vl, rfl, _⟩ := h2
 refine ⟨ve, va, vb, vl, h1, ?_⟩
 have all : ∀ h, SmRows h l rw → Rows 7 h ve (e.map Nd.row) ∧ ArgsR h va as ∧ SmsR h vb bd ∧ SmsR h vl el := by
  intro h hr
  obtain ⟨row', g1, g2⟩ := hr.at_ hi
  rw [h1] at g1
  cases g1
  simp only [SmR] at g2
  obtain ⟨ve', va', vb', vl', ge, g3, g4, g5, g6⟩ := g2
  simp only [List.cons.injEq, true_and, and_true] at ge
  obtain ⟨rfl, rfl, rfl, rfl⟩ := ge
  exact ⟨g3, g4, g5, g6⟩
 have s1 := st.imp fun h hr => (all h hr).2.2.2
 have s2 := ((s1.pick 1 rfl).imp fun h hr => (all h hr).2.2.1)
 have s3 := ((s2.pick 1 rfl).imp fun h hr => (all h hr).2.1)
 have s4 := ((s3.pick 1 rfl).imp fun h hr => (all h hr).1)
 exact ((((s4.pick 1 rfl).pick 4 rfl).pick 4 rfl).pick 4 rfl).pick 4 rfl
theorem St.argsAt {fs : List Fact} {h : Heap} {va : V} {as : List (List Nd)} (st : St (.stb (fun h => ArgsR h va as) :: fs) h) :
  ∃ vs : List V, St (.stb (fun h => Rows 1 h va (vs.map fun x => [x])) :: .stb (fun h => ArgRows h as vs) :: fs) h := by
 have s0 : St (.stb (fun h => ∃ rows, Rows 1 h va rows ∧ ∃ vs : List V, rows = vs.map (fun x => [x]) ∧ ArgRows h as vs) :: fs) h :=
  st.imp0 fun h ⟨vs, h1, h2⟩ => ⟨_, h1, vs, rfl, h2⟩
 obtain ⟨rows, s1⟩ := s0.exRows
 obtain ⟨vs, rfl, _⟩ := s1.stb_at 1 rfl
 refine ⟨vs, ?_⟩
 have s2 := (s1.pick 1 rfl).imp0 (Q := fun h => ArgRows h as vs) fun h ⟨vs', e, hr⟩ => by
  have hinj : vs' = vs := by
   have := congrArg (fun l : List (List V) => l.map fun r => r.headD .bot) e
   simpa [List.map_map, Function.comp_def] using this.symm
  subst hinj; exact hr
 exact s2.pick 1 rfl
theorem ArgRows.at_ {h : Heap} : ∀ {as : List (List Nd)} {vs : List V} {i : Nat} {e : List Nd}, ArgRows h as vs → as[i]? = some e → ∃ v, vs[i]? = some v ∧ Rows 7 h v (e.map Nd.row)
 | [], _, _, _, _, h => by simp at h
 | a :: as, [], _, _, hr, _ => by simp [ArgRows] at hr
 | a :: as, v :: vs, 0, e, hr, h => by
  simp only [ArgRows] at hr
  simp at h; subst h; exact ⟨v, rfl, hr.1⟩
 | a :: as, v :: vs, i + 1, e, hr, h => by
  simp only [ArgRows] at hr
  obtain ⟨w, h1, h2⟩ := ArgRows.at_ (i := i) (e := e) hr.2 (by simpa using h)
  exact ⟨w, by simpa using h1, h2⟩
theorem St.argAt {fs : List Fact} {h : Heap} {as : List (List Nd)} {vs : List V} {i : Nat} {e : List Nd} (st : St (.stb (fun h => ArgRows h as vs) :: fs) h) (hi : as[i]? = some e) :
  ∃ v, vs[i]? = some v ∧ St (.stb (fun h => Rows 7 h v (e.map Nd.row)) :: .stb (fun h => ArgRows h as vs) :: fs) h := by
 obtain ⟨v, h1, _⟩ := (st.stb_at 0 rfl).at_ hi
 refine ⟨v, h1, st.imp fun h hr => ?_⟩
 obtain ⟨w, g1, g2⟩ := hr.at_ hi
 rw [h1] at g1; cases g1; exact g2
end
end Go.Eng
namespace Go.Eng
noncomputable section
structure PwEq {α : Type} (R : α → α → Prop) (l l' : List α) : Prop where
 len : l'.length = l.length
 at_ : ∀ (i : Nat) (x y : α), l[i]? = some x → l'[i]? = some y → R x y
structure ImEq (b : Bool) (x y : Im) : Prop where
 name : x.name = y.name
 at_ : b = true → x.at_ = y.at_
structure VrEq (b : Bool) (x y : Vr) : Prop where
 name : x.name = y.name
 label : x.label = y.label
 init : x.init = y.init
 at_ : b = true → x.at_ = y.at_
structure PmEq (b : Bool) (x y : Pm) : Prop where
 name : x.name = y.name
 label : x.label = y.label
 at_ : b = true → x.at_ = y.at_
structure PrEq (b : Bool) (x y : Pr) : Prop where
 name : x.name = y.name
 has : x.has = y.has
 result : x.result = y.result
 pc : x.pc = y.pc
 uses : x.uses = y.uses
 params : PwEq (PmEq b) x.params y.params
 body : SmsEq b x.body y.body
 at_ : b = true → x.at_ = y.at_
structure MdEq (b : Bool) (x y : Md) : Prop where
 name : x.name = y.name
 at_ : b = true → x.at_ = y.at_
 imports : PwEq (ImEq b) x.imports y.imports
 vars : PwEq (VrEq b) x.vars y.vars
 procs : PwEq (PrEq b) x.procs y.procs
structure MdFew (m : Md) : Prop where
 imports : m.imports.length < 4294967296
 vars : m.vars.length < 4294967296
 procs : m.procs.length < 4294967296
 proc : ∀ p ∈ m.procs, p.params.length < 4294967296 ∧ p.uses.length < 4294967296 ∧ Sms.sz p.body < 4294967296
theorem PrRows.at_ {h : Heap} : ∀ {l : List Pr} {rw : List (List V)} {i : Nat} {s : Pr}, PrRows h l rw → l[i]? = some s → ∃ row, rw[i]? = some row ∧ PrR h s row
 | [], _, _, _, _, h => by simp at h
 | a :: l, rw, 0, s, hr, h => by
  simp only [PrRows] at hr
  obtain ⟨r, rs, rfl, h1, _⟩ := hr
  simp at h; subst h; exact ⟨r, rfl, h1⟩
 | a :: l, rw, i + 1, s, hr, h => by
  simp only [PrRows] at hr
  obtain ⟨r, rs, rfl, _, h2⟩ := hr
  obtain ⟨row, h3, h4⟩ := PrRows.at_ (i := i) (s := s) h2 (by simpa using h)
  exact ⟨row, by simpa using h3, h4⟩
theorem PrRows.len {h : Heap} : ∀ {l : List Pr} {rw : List (List V)}, PrRows h l rw → rw.length = l.length
 | [], rw, hr => by simp only [PrRows] at hr; subst hr; rfl
 | a :: l, rw, hr => by
  simp only [PrRows] at hr
  obtain ⟨r, rs, rfl, _, h2⟩ := hr
  simp [h2.len]
theorem St.prAt {fs : List Fact} {h : Heap} {l : List Pr} {rw : List (List V)} {i : Nat} {p : Pr} (st : St (.stb (fun h => PrRows h l rw) :: fs) h) (hi : l[i]? = some p) :
  ∃ vp vu vb, rw[i]? = some [L.str p.name, vp, .bool p.has, L.str p.result, L.str p.pc, vu, vb, .int .i64 (p.at_ : Int)] ∧
   St (.stb (fun h => Rows 3 h vp (p.params.map Pm.row)) :: .stb (fun h => Rows 1 h vu (p.uses.map useRow)) :: .stb (fun h => SmsR h vb p.body) :: .stb (fun h => PrRows h l rw) :: fs) h := by
 obtain ⟨row, h1, vp, vu, vb, rfl, _⟩ := (st.stb_at 0 rfl).at_ hi
 refine ⟨vp, vu, vb, h1, ?_⟩
 have all : ∀ h, PrRows h l rw → Rows 3 h vp (p.params.map Pm.row) ∧ Rows 1 h vu (p.uses.map useRow) ∧ SmsR h vb p.body := by
  intro h hr
  obtain ⟨row', g1, vp', vu', vb', ge, g3, g4, g5⟩ := hr.at_ hi
  rw [h1, ge] at g1
  simp only [Option.some.injEq, List.cons.injEq, true_and, and_true] at g1
  obtain ⟨rfl, rfl, rfl⟩ := g1
  exact ⟨g3, g4, g5⟩
 have s1 := st.imp fun h hr => (all h hr).2.2
 have s2 := ((s1.pick 1 rfl).imp fun h hr => (all h hr).2.1)
 have s3 := ((s2.pick 1 rfl).imp fun h hr => (all h hr).1)
 exact (((s3.pick 1 rfl).pick 3 rfl).pick 3 rfl).pick 3 rfl
theorem St.mdAt {fs : List Fact} {h : Heap} {m : Md} {row : List V} (st : St (.stb (fun h => MdR h m row) :: fs) h) :
  ∃ vi vv vp rw, row = [L.str m.name, .int .i64 (m.at_ : Int), vi, vv, vp] ∧
   St (.stb (fun h => Rows 2 h vi (m.imports.map Im.row)) :: .stb (fun h => Rows 4 h vv (m.vars.map Vr.row)) :: .stb (fun h => Rows 8 h vp rw) :: .stb (fun h => PrRows h m.procs rw) :: fs) h := by
 obtain ⟨vi, vv, vp, rfl, _⟩ := st.stb_at 0 rfl
 have all : ∀ h, MdR h m [L.str m.name, .int .i64 (m.at_ : Int), vi, vv, vp] → Rows 2 h vi (m.imports.map Im.row) ∧ Rows 4 h vv (m.vars.map Vr.row) ∧ ∃ rows, Rows 8 h vp rows ∧ PrRows h m.procs rows := by
  intro h hr
  obtain ⟨vi', vv', vp', ge, g3, g4, g5⟩ := hr
  simp only [List.cons.injEq, true_and, and_true] at ge
  obtain ⟨rfl, rfl, rfl⟩ := ge
  exact ⟨g3, g4, g5⟩
 have s1 := st.imp fun h hr => (all h hr).1
 have s2 := ((s1.pick 1 rfl).imp fun h hr => (all h hr).2.1)
 have s3 := ((s2.pick 1 rfl).imp0 fun h hr => (all h hr).2.2)
 obtain ⟨rw, s4⟩ := s3.exRows
 refine ⟨vi, vv, vp, rw, rfl, ?_⟩
 exact (s4.pick 2 rfl).pick 3 rfl
end
end Go.Eng
namespace Go.Eng
noncomputable section
namespace Par
def Tok.er (t : Tok) : Nat × List UInt8 := (t.kind, t.text)
def Alike (l l' : List Tok) : Prop := l.map Tok.er = l'.map Tok.er
theorem Alike.len {l l' : List Tok} (h : Alike l l') : l.length = l'.length := by simpa using congrArg List.length h
theorem Alike.hd {l l' : List Tok} (h : Alike l l') : (Par.hd l).kind = (Par.hd l').kind ∧ (Par.hd l).text = (Par.hd l').text := by
 cases l with
 | nil => cases l' with
  | nil => exact ⟨rfl, rfl⟩
  | cons a l' => cases h
 | cons b l => cases l' with
  | nil => cases h
  | cons a l' =>
   have := (List.cons.inj h).1
   exact ⟨congrArg Prod.fst this, congrArg Prod.snd this⟩
theorem Alike.tail {l l' : List Tok} (h : Alike l l') : Alike l.tail l'.tail := by
 cases l with
 | nil => cases l' with
  | nil => exact rfl
  | cons a l' => cases h
 | cons b l => cases l' with
  | nil => cases h
  | cons a l' => exact (List.cons.inj h).2
theorem Alike.is {l l' : List Tok} (h : Alike l l') (s : List UInt8) : Par.is s l = Par.is s l' := by
 unfold Par.is; rw [h.hd.1, h.hd.2]
theorem Alike.find {l l' : List Tok} (h : Alike l l') (ops : List Opn) : Par.find ops l = Par.find ops l' := by
 unfold Par.find; congr 1; funext o; rw [h.is]
section
variable {α β : Type}
def Lk (X : α → α → Prop) (r r' : R α) : Prop := (∃ x x' l l', r = .ok (x, l) ∧ r' = .ok (x', l') ∧ X x x' ∧ Alike l l') ∨ ∃ e a a', r = .error (e, a) ∧ r' = .error (e, a')
theorem Lk.ret {X : α → α → Prop} {x x' : α} {l l' : List Tok} (hx : X x x') (hl : Alike l l') : Lk X (.ok (x, l)) (.ok (x', l')) := Or.inl ⟨x, x', l, l', rfl, rfl, hx, hl⟩
theorem Lk.bnd {X : α → α → Prop} {Y : β → β → Prop} {r r' : R α} {f f' : α → List Tok → R β} (h : Lk X r r') (K : ∀ x x' l l', X x x' → Alike l l' → Lk Y (f x l) (f' x' l')) : Lk Y (Par.bnd r f) (Par.bnd r' f') := by
 rcases h with ⟨x, x', l, l', rfl, rfl, hx, hl⟩ | ⟨e, a, a', rfl, rfl⟩
 ·exact K x x' l l' hx hl
 ·exact Or.inr ⟨e, a, a', rfl, rfl⟩
theorem Lk.ite {X : α → α → Prop} {c c' : Prop} [Decidable c] [Decidable c'] {a a' b b' : R α} (hc : c ↔ c') (h1 : Lk X a a') (h2 : Lk X b b') : Lk X (if c then a else b) (if c' then a' else b') := by
 by_cases h : c
 ·rw [if_pos h, if_pos (hc.1 h)]; exact h1
 ·rw [if_neg h, if_neg fun g => h (hc.2 g)]; exact h2
theorem Lk.isc {X : α → α → Prop} {l l' : List Tok} {s : List UInt8} {a a' b b' : R α} (hl : Alike l l') (h1 : Lk X a a') (h2 : Lk X b b') : Lk X (if is s l = true then a else b) (if is s l' = true then a' else b') := Lk.ite (by rw [hl.is]) h1 h2
theorem fail_lk {X : α → α → Prop} {e : Nat} {l l' : List Tok} : Lk X (fail e l) (fail e l') := Or.inr ⟨e, _, _, rfl, rfl⟩
def Any (_ _ : Nat) : Prop := True
theorem must_lk {l l' : List Tok} (s : List UInt8) (h : Alike l l') : Lk Any (must s l) (must s l') := by
 unfold must
 exact Lk.isc h (Lk.ret trivial h.tail) fail_lk
theorem of_lk {l l' : List Tok} (k : Nat) (h : Alike l l') : Lk (fun t t' : Tok => t.text = t'.text) (of k l) (of k l') := by
 unfold of
 exact Lk.ite (by rw [h.hd.1]) (Lk.ret h.hd.2 h.tail) fail_lk
theorem name_lk {l l' : List Tok} (h : Alike l l') : Lk Eq (name l) (name l') := by
 rw [name_eq, name_eq]
 exact Lk.bnd (of_lk 1 h) fun t t' m m' ht hm => Lk.ret ht hm
theorem number_lk {l l' : List Tok} (h : Alike l l') : Lk Eq (number l) (number l') := by
 rw [number_eq, number_eq]
 exact Lk.bnd (of_lk 2 h) fun t t' m m' ht hm => Lk.ret (by rw [ht]) hm
theorem qname_lk {l l' : List Tok} (h : Alike l l') : Lk Eq (qname l) (qname l') := by
 rw [qname_eq, qname_eq]
 refine Lk.bnd (name_lk h) fun a a' m m' ha hm => ?_
 subst ha
 refine Lk.isc hm ?_ (Lk.ret rfl hm)
 exact Lk.bnd (name_lk hm.tail) fun b b' n n' hb hn => Lk.ret (by rw [hb]) hn
def NX (x x' : Nat × List Nd) : Prop := x.1 = x'.1 ∧ x.2.map Nd.er = x'.2.map Nd.er
theorem NX.snoc {ns ns' : List Nd} (h : ns.map Nd.er = ns'.map Nd.er) {n n' : Nd} (hn : n.er = n'.er) : NX (ns.length, ns ++ [n]) (ns'.length, ns' ++ [n']) := by
 refine ⟨by simpa using congrArg List.length h, ?_⟩
 simp only [List.map_append, h, List.map_cons, hn]
def UnLk (un : E) : Prop := ∀ d l l' ns ns', Alike l l' → ns.map Nd.er = ns'.map Nd.er → Lk NX (un d l ns) (un d l' ns')
theorem fnd_lk {X : α → α → Prop} {ops : List Opn} {l l' : List Tok} {a a' : R α} {g g' : Opn → R α} (h : Alike l l') (h0 : Lk X a a') (h1 : ∀ o, Lk X (g o) (g' o)) : Lk X (fnd (find ops l) a g) (fnd (find ops l') a' g') := by
 rw [h.find]
 cases find ops l' with
 | none => exact h0
 | some o => exact h1 o
theorem chainL_lk {un : E} (U : UnLk un) {ops : List Opn} {d : Nat} : ∀ (f : Nat) {l l' : List Tok} {a a' : Nat} {ns ns' : List Nd}, Alike l l' → a = a' → ns.map Nd.er = ns'.map Nd.er → Lk NX (chainL un ops f d l a ns) (chainL un ops f d l' a' ns')
 | 0, _, _, _, _, _, _, hl, ha, hn => Lk.ret ⟨ha, hn⟩ hl
 | f + 1, l, l', a, a', ns, ns', hl, ha, hn => by
  subst ha
  rw [chainL_eq, chainL_eq]
  refine fnd_lk hl (Lk.ret ⟨rfl, hn⟩ hl) fun o => ?_
  refine Lk.bnd (U d _ _ _ _ hl.tail hn) fun x x' m m' hx hm => ?_
  have hs := NX.snoc hx.2 (n := ⟨o.2, 0, [], [], (a : Int), (x.1 : Int), here l⟩) (n' := ⟨o.2, 0, [], [], (a : Int), (x'.1 : Int), here l'⟩) (by simp [Nd.er, hx.1])
  exact chainL_lk U f hm hs.1 hs.2
theorem chain_lk {un : E} (U : UnLk un) (ops : List Opn) : UnLk (chain un ops) := by
 intro d l l' ns ns' hl hn
 rw [chain_eq, chain_eq]
 refine Lk.bnd (U d _ _ _ _ hl hn) fun x x' m m' hx hm => ?_
 rw [hm.len]
 exact chainL_lk U _ hm hx.1 hx.2
theorem sum_lk {un : E} (U : UnLk un) : UnLk (sum un) := chain_lk (chain_lk U _) _
theorem whole_lk {un : E} (U : UnLk un) : UnLk (whole un) := by
 intro d l l' ns ns' hl hn
 rw [whole_eq, whole_eq]
 refine Lk.bnd (sum_lk U d _ _ _ _ hl hn) fun x x' m m' hx hm => ?_
 refine fnd_lk hm (Lk.ret hx hm) fun o => ?_
 refine Lk.bnd (sum_lk U d _ _ _ _ hm.tail hx.2) fun y y' n n' hy hn => ?_
 exact Lk.ret (NX.snoc hy.2 (by simp [Nd.er, hx.1, hy.1])) hn
theorem unaryS_lk {un : E} (U : UnLk un) : UnLk (unaryS un) := by
 intro d l l' ns ns' hl hn
 rw [unaryS_eq, unaryS_eq]
 refine fnd_lk hl ?_ fun o => ?_
 ·refine Lk.isc hl (Lk.ite Iff.rfl fail_lk ?_) (Lk.ite (by rw [hl.hd.1]) ?_ ?_)
  ·refine Lk.bnd (whole_lk U _ _ _ _ _ hl.tail hn) fun x x' m m' hx hm => ?_
   exact Lk.bnd (must_lk _ hm) fun _ _ n n' _ hn => Lk.ret hx hn
  ·refine Lk.bnd (number_lk hl) fun k k' m m' hk hm => ?_
   exact Lk.ret (NX.snoc hn (by simp [Nd.er, hk])) hm
  ·refine Lk.bnd (qname_lk hl) fun q q' m m' hq hm => ?_
   exact Lk.ret (NX.snoc hn (by simp [Nd.er, hq])) hm
 ·refine Lk.ite Iff.rfl fail_lk (Lk.bnd (U _ _ _ _ _ hl.tail hn) fun x x' m m' hx hm => ?_)
  exact Lk.ret (NX.snoc hx.2 (by simp [Nd.er, hx.1])) hm
theorem unary_lk : ∀ f, UnLk (unary f)
 | 0 => fun _ _ _ _ _ _ _ => Or.inr ⟨0, 0, 0, rfl, rfl⟩
 | f + 1 => unaryS_lk (unary_lk f)
def EX (e e' : List Nd) : Prop := NdsEq false e e'
theorem EX.mk {e e' : List Nd} (h : e.map Nd.er = e'.map Nd.er) : EX e e' := ⟨h, fun h => by cases h⟩
theorem expr_lk {d : Nat} {l l' : List Tok} (h : Alike l l') : Lk EX (expr d l) (expr d l') := by
 rw [expr_eq, expr_eq, h.len]
 exact Lk.bnd (whole_lk (unary_lk _) d _ _ [] [] h rfl) fun x x' m m' hx hm => Lk.ret (EX.mk hx.2) hm
def SX (s s' : Sm) : Prop := SmEq false s s'
theorem noat {a a' : Nat} : false = true → a = a' := fun h => by cases h
theorem fin_lk {s s' : Sm} {l l' : List Tok} (hs : SX s s') (h : Alike l l') : Lk SX (fin s l) (fin s' l') := by
 rw [fin_eq, fin_eq]
 exact Lk.bnd (must_lk _ h) fun _ _ m m' _ hm => Lk.ret hs hm
def AX (as as' : List (List Nd)) : Prop := ArgsEq false as as'
theorem AX.nil : AX [] [] := ⟨rfl, fun i e e' h => by simp at h⟩
theorem getElem_snoc {l : List α} {x y : α} {i : Nat} (h : (l ++ [x])[i]? = some y) : l[i]? = some y ∨ (i = l.length ∧ x = y) := by
 by_cases hi : i < l.length
 ·rw [List.getElem?_append_left hi] at h; exact Or.inl h
 ·rw [List.getElem?_append_right (by omega)] at h
  have hlt := (List.getElem?_eq_some_iff.1 h).1
  simp at hlt
  obtain rfl : i = l.length := by omega
  simp at h; exact Or.inr ⟨rfl, h⟩
theorem AX.snoc {as as' : List (List Nd)} {e e' : List Nd} (h : AX as as') (he : EX e e') : AX (as ++ [e]) (as' ++ [e']) := by
 refine ⟨by simp [h.1], fun i x y hx hy => ?_⟩
 rcases getElem_snoc hx with hx | ⟨hi, rfl⟩ <;> rcases getElem_snoc hy with hy | ⟨hj, rfl⟩
 ·exact h.2 i x y hx hy
 ·have := (List.getElem?_eq_some_iff.1 hx).1; have := h.1; omega
 ·have := (List.getElem?_eq_some_iff.1 hy).1; have := h.1; omega
 ·exact he
theorem argsL_lk {d : Nat} : ∀ (f : Nat) {l l' : List Tok} {as as' : List (List Nd)}, Alike l l' → AX as as' → Lk AX (argsL d f l as) (argsL d f l' as')
 | 0, _, _, _, _, _, _ => Or.inr ⟨0, 0, 0, rfl, rfl⟩
 | f + 1, l, l', [], as', hl, ha => by
  obtain rfl : as' = [] := by simpa using ha.1
  rw [argsL_nil, argsL_nil]
  refine Lk.isc hl (Lk.ret AX.nil hl.tail) ?_
  exact Lk.bnd (expr_lk hl) fun e e' m m' he hm => argsL_lk f hm (AX.nil.snoc he)
 | f + 1, l, l', a :: as, [], hl, ha => by have := ha.1; simp at this
 | f + 1, l, l', a :: as, a' :: as', hl, ha => by
  rw [argsL_cons, argsL_cons]
  refine Lk.isc hl (Lk.ret ha hl.tail) (Lk.bnd (must_lk _ hl) fun _ _ m m' _ hm => ?_)
  exact Lk.bnd (expr_lk hm) fun e e' n n' he hn => argsL_lk f hn (ha.snoc he)
structure CX (c c' : Cl) : Prop where
 has : c.has = c'.has
 mod : c.mod = c'.mod
 name : c.name = c'.name
 tomod : c.tomod = c'.tomod
 to : c.to = c'.to
 args : AX c.args c'.args
theorem callA_lk {d : Nat} {c : Cl} {l l' : List Tok} (hl : Alike l l') : Lk CX (callA d c l) (callA d c l') := by
 rw [callA_eq, callA_eq]
 refine Lk.bnd (must_lk _ hl) fun _ _ m m' _ hm => ?_
 rw [hm.len]
 exact Lk.bnd (argsL_lk _ hm AX.nil) fun as as' n n' ha hn => Lk.ret ⟨rfl, rfl, rfl, rfl, rfl, ha⟩ hn
theorem call_lk {d : Nat} {l l' : List Tok} (hl : Alike l l') : Lk CX (call d l) (call d l') := by
 rw [call_eq, call_eq]
 refine Lk.bnd (qname_lk hl) fun q q' m m' hq hm => ?_
 subst hq
 refine Lk.isc hm ?_ (callA_lk hm)
 refine Lk.bnd (qname_lk hm.tail) fun r r' n n' hr hn => ?_
 subst hr
 exact callA_lk hn
def SsX (s s' : List Sm) : Prop := SmsEq false s s'
theorem SsX.snoc : ∀ {l l' : List Sm} {s s' : Sm}, SsX l l' → SX s s' → SsX (l ++ [s]) (l' ++ [s'])
 | _, _, _, _, .nil, h => .cons h .nil
 | _, _, _, _, .cons h1 h2, h => .cons h1 (SsX.snoc h2 h)
def BkLk (blk : Bk) : Prop := ∀ d l l', Alike l l' → Lk SsX (blk d l) (blk d l')
def StLk (stm : Nat → List Tok → R Sm) : Prop := ∀ d l l', Alike l l' → Lk SX (stm d l) (stm d l')
theorem NdsEq.refl0 : NdsEq false [] [] := ⟨rfl, fun _ => rfl⟩
theorem stIf_lk {blk : Bk} (K : BkLk blk) {d a a' : Nat} {l l' : List Tok} (hl : Alike l l') : Lk SX (stIf blk d a l) (stIf blk d a' l') := by
 rw [stIf_eq, stIf_eq]
 refine Lk.bnd (expr_lk hl) fun e e' m m' he hm => ?_
 refine Lk.bnd (K d _ _ hm) fun b b' n n' hb hn => ?_
 refine Lk.isc hn ?_ (Lk.ret (.mk noat he AX.nil hb .nil) hn)
 exact Lk.bnd (K d _ _ hn.tail) fun el el' k k' hel hk => Lk.ret (.mk noat he AX.nil hb hel) hk
theorem stWhile_lk {blk : Bk} (K : BkLk blk) {d a a' : Nat} {l l' : List Tok} (hl : Alike l l') : Lk SX (stWhile blk d a l) (stWhile blk d a' l') := by
 rw [stWhile_eq, stWhile_eq]
 refine Lk.bnd (expr_lk hl) fun e e' m m' he hm => ?_
 exact Lk.bnd (K d _ _ hm) fun b b' n n' hb hn => Lk.ret (.mk noat he AX.nil hb .nil) hn
theorem stLet_lk {d a a' : Nat} {l l' : List Tok} (hl : Alike l l') : Lk SX (stLet d a l) (stLet d a' l') := by
 rw [stLet_eq, stLet_eq]
 refine Lk.bnd (name_lk hl) fun n n' m m' hn hm => ?_
 subst hn
 refine Lk.bnd (must_lk _ hm) fun _ _ m m' _ hm => ?_
 refine Lk.bnd (name_lk hm) fun n n' m m' hn hm => ?_
 subst hn
 refine Lk.bnd (must_lk _ hm) fun _ _ m m' _ hm => ?_
 exact Lk.bnd (expr_lk hm) fun e e' m m' he hm => fin_lk (.mk noat he AX.nil .nil .nil) hm
theorem stResult_lk {d a a' : Nat} {l l' : List Tok} (hl : Alike l l') : Lk SX (stResult d a l) (stResult d a' l') := by
 rw [stResult_eq, stResult_eq]
 refine Lk.bnd (must_lk _ hl) fun _ _ m m' _ hm => ?_
 exact Lk.bnd (expr_lk hm) fun e e' m m' he hm => fin_lk (.mk noat he AX.nil .nil .nil) hm
theorem stCall_lk {d a a' : Nat} {l l' : List Tok} (hl : Alike l l') : Lk SX (stCall d a l) (stCall d a' l') := by
 rw [stCall_eq, stCall_eq]
 refine Lk.bnd (call_lk hl) fun c c' m m' hc hm => ?_
 obtain ⟨h1, h2, h3, h4, h5, h6⟩ := hc
 rw [h1, h2, h3, h4, h5]
 exact fin_lk (.mk noat NdsEq.refl0 h6 .nil .nil) hm
theorem stEmit_lk {a a' : Nat} {l l' : List Tok} (hl : Alike l l') : Lk SX (stEmit a l) (stEmit a' l') := by
 rw [stEmit_eq, stEmit_eq]
 refine Lk.bnd (name_lk hl) fun n n' m m' hn hm => ?_
 subst hn
 exact fin_lk (.mk noat NdsEq.refl0 AX.nil .nil .nil) hm
theorem stSkip_lk {a a' : Nat} {l l' : List Tok} (hl : Alike l l') : Lk SX (stSkip a l) (stSkip a' l') := fin_lk (.mk noat NdsEq.refl0 AX.nil .nil .nil) hl
theorem stSet_lk {d a a' : Nat} {l l' : List Tok} (hl : Alike l l') : Lk SX (stSet d a l) (stSet d a' l') := by
 rw [stSet_eq, stSet_eq]
 refine Lk.bnd (qname_lk hl) fun q q' m m' hq hm => ?_
 subst hq
 refine Lk.bnd (must_lk _ hm) fun _ _ m m' _ hm => ?_
 exact Lk.bnd (expr_lk hm) fun e e' m m' he hm => fin_lk (.mk noat he AX.nil .nil .nil) hm
theorem stmtS_lk {blk : Bk} (K : BkLk blk) : StLk (stmtS blk) := by
 intro d l l' hl
 unfold stmtS
 exact Lk.isc hl (stIf_lk K hl.tail) (Lk.isc hl (stWhile_lk K hl.tail) (Lk.isc hl (stLet_lk hl.tail) (Lk.isc hl (stResult_lk hl.tail) (Lk.isc hl (stCall_lk hl.tail) (Lk.isc hl (stEmit_lk hl.tail) (Lk.isc hl (stSkip_lk hl.tail) (stSet_lk hl)))))))
theorem blockL_lk {stm : Nat → List Tok → R Sm} (K : StLk stm) {d : Nat} : ∀ (f : Nat) {l l' : List Tok} {ss ss' : List Sm}, Alike l l' → SsX ss ss' → Lk SsX (blockL stm d f l ss) (blockL stm d f l' ss')
 | 0, _, _, _, _, _, _ => Or.inr ⟨0, 0, 0, rfl, rfl⟩
 | f + 1, l, l', ss, ss', hl, hs => by
  rw [blockL_eq, blockL_eq]
  refine Lk.isc hl (Lk.ret hs hl.tail) ?_
  exact Lk.bnd (K d _ _ hl) fun s s' m m' h hm => blockL_lk K f hm (SsX.snoc hs h)
theorem blockS_lk {stm : Nat → List Tok → R Sm} (K : StLk stm) : BkLk (blockS stm) := by
 intro d l l' hl
 unfold blockS
 refine Lk.isc hl (Lk.ite Iff.rfl fail_lk ?_) fail_lk
 rw [hl.tail.len]
 exact blockL_lk K _ hl.tail .nil
theorem stmt_lk : ∀ f, StLk (stmt f)
 | 0 => fun _ _ _ _ => Or.inr ⟨0, 0, 0, rfl, rfl⟩
 | f + 1 => stmtS_lk (blockS_lk (stmt_lk f))
theorem block_lk {d : Nat} {l l' : List Tok} (hl : Alike l l') : Lk SsX (block d l) (block d l') := by
 unfold block
 rw [hl.len]
 exact blockS_lk (stmt_lk _) d _ _ hl
theorem severalL_lk {X : α → α → Prop} {one : α → List Tok → R α} {e : List UInt8} (K : ∀ x x' l l', X x x' → Alike l l' → Lk X (one x l) (one x' l')) : ∀ (f n : Nat) {l l' : List Tok} {x x' : α}, Alike l l' → X x x' → Lk X (severalL one e f n l x) (severalL one e f n l' x')
 | 0, _, _, _, _, _, _, _ => Or.inr ⟨0, 0, 0, rfl, rfl⟩
 | f + 1, n, l, l', x, x', hl, hx => by
  rw [severalL_eq, severalL_eq]
  refine Lk.isc hl (Lk.ret hx hl.tail) (Lk.ite Iff.rfl ?_ ?_)
  ·exact Lk.bnd (K x x' _ _ hx hl) fun y y' m m' hy hm => severalL_lk K f 1 hm hy
  ·refine Lk.bnd (must_lk _ hl) fun _ _ m m' _ hm => ?_
   exact Lk.bnd (K x x' _ _ hx hm) fun y y' m m' hy hm => severalL_lk K f (n + 1) hm hy
theorem several_lk {X : α → α → Prop} {one : α → List Tok → R α} {e : List UInt8} (K : ∀ x x' l l', X x x' → Alike l l' → Lk X (one x l) (one x' l')) {l l' : List Tok} {x x' : α} (hl : Alike l l') (hx : X x x') : Lk X (several one e l x) (several one e l' x') := by
 unfold several
 rw [hl.len]
 exact severalL_lk K _ _ hl hx
theorem PwEq.nil {Rr : α → α → Prop} : PwEq Rr [] [] := ⟨rfl, fun i x y h => by simp at h⟩
theorem PwEq.snoc {Rr : α → α → Prop} {l l' : List α} {a a' : α} (h : PwEq Rr l l') (ha : Rr a a') : PwEq Rr (l ++ [a]) (l' ++ [a']) := by
 refine ⟨by simp [h.len], fun i x y hx hy => ?_⟩
 rcases getElem_snoc hx with hx | ⟨hi, rfl⟩ <;> rcases getElem_snoc hy with hy | ⟨hj, rfl⟩
 ·exact h.at_ i x y hx hy
 ·have := (List.getElem?_eq_some_iff.1 hx).1; have := h.len; omega
 ·have := (List.getElem?_eq_some_iff.1 hy).1; have := h.len; omega
 ·exact ha
theorem parm_lk (x x' : List Pm) (l l' : List Tok) (hx : PwEq (PmEq false) x x') (hl : Alike l l') : Lk (PwEq (PmEq false)) (parm x l) (parm x' l') := by
 rw [parm_eq, parm_eq]
 refine Lk.bnd (name_lk hl) fun n n' m m' hn hm => ?_
 refine Lk.bnd (must_lk _ hm) fun _ _ m m' _ hm => ?_
 exact Lk.bnd (name_lk hm) fun b b' m m' hb hm => Lk.ret (PwEq.snoc hx ⟨hn, hb, noat⟩) hm
theorem use_lk (x x' : List (List UInt8)) (l l' : List Tok) (hx : x = x') (hl : Alike l l') : Lk Eq (use x l) (use x' l') := by
 subst hx
 rw [use_eq, use_eq]
 exact Lk.bnd (name_lk hl) fun n n' m m' hn hm => Lk.ret (by rw [hn]) hm
def PX (p p' : Pr) : Prop := PrEq false p p'
theorem procB_lk {d : Nat} {q q' : Pr} {l l' : List Tok} (h1 : q.name = q'.name) (h2 : q.has = q'.has) (h3 : q.result = q'.result) (h4 : PwEq (PmEq false) q.params q'.params) (hl : Alike l l') : Lk PX (procB d q l) (procB d q' l') := by
 rw [procB_eq, procB_eq]
 refine Lk.bnd (must_lk _ hl) fun _ _ m m' _ hm => ?_
 refine Lk.bnd (name_lk hm) fun pc pc' m m' hpc hm => ?_
 refine Lk.bnd (must_lk _ hm) fun _ _ m m' _ hm => ?_
 refine Lk.bnd (must_lk _ hm) fun _ _ m m' _ hm => ?_
 refine Lk.bnd (several_lk use_lk hm rfl) fun us us' m m' hu hm => ?_
 exact Lk.bnd (block_lk hm) fun b b' m m' hb hm => Lk.ret ⟨h1, h2, h3, hpc, hu, h4, hb, noat⟩ hm
theorem proc_lk {d : Nat} {l l' : List Tok} (hl : Alike l l') : Lk PX (proc d l) (proc d l') := by
 rw [proc_eq, proc_eq]
 refine Lk.bnd (name_lk hl) fun n n' m m' hn hm => ?_
 refine Lk.bnd (must_lk _ hm) fun _ _ m m' _ hm => ?_
 refine Lk.bnd (several_lk parm_lk hm PwEq.nil) fun ps ps' m m' hp hm => ?_
 refine Lk.isc hm ?_ (procB_lk hn rfl rfl hp hm)
 exact Lk.bnd (name_lk hm.tail) fun r r' m m' hr hm => procB_lk hn rfl hr hp hm
theorem varE_lk {n n' lb lb' : List UInt8} {a a' : Nat} {neg : Bool} {l l' : List Tok} (hn : n = n') (hb : lb = lb') (hl : Alike l l') : Lk (VrEq false) (varE n lb a neg l) (varE n' lb' a' neg l') := by
 rw [varE_eq, varE_eq]
 refine Lk.bnd (number_lk hl) fun k k' m m' hk hm => ?_
 exact Lk.bnd (must_lk _ hm) fun _ _ m m' _ hm => Lk.ret ⟨hn, hb, by rw [hk], noat⟩ hm
theorem varD_lk {l l' : List Tok} (hl : Alike l l') : Lk (VrEq false) (varD l) (varD l') := by
 rw [varD_eq, varD_eq]
 refine Lk.bnd (name_lk hl) fun n n' m m' hn hm => ?_
 refine Lk.bnd (must_lk _ hm) fun _ _ m m' _ hm => ?_
 refine Lk.bnd (name_lk hm) fun b b' m m' hb hm => ?_
 refine Lk.bnd (must_lk _ hm) fun _ _ m m' _ hm => ?_
 exact Lk.isc hm (varE_lk hn hb hm.tail) (varE_lk hn hb hm)
theorem impsL_lk : ∀ (f : Nat) {l l' : List Tok} {x x' : List Im}, Alike l l' → PwEq (ImEq false) x x' → Lk (PwEq (ImEq false)) (impsL f l x) (impsL f l' x')
 | 0, _, _, _, _, _, _ => Or.inr ⟨0, 0, 0, rfl, rfl⟩
 | f + 1, l, l', x, x', hl, hx => by
  rw [impsL_eq, impsL_eq]
  refine Lk.isc hl ?_ (Lk.ret hx hl)
  refine Lk.bnd (name_lk hl.tail) fun n n' m m' hn hm => ?_
  exact Lk.bnd (must_lk _ hm) fun _ _ m m' _ hm => impsL_lk f hm (PwEq.snoc hx ⟨hn, noat⟩)
def DX (x x' : List Vr × List Pr) : Prop := PwEq (VrEq false) x.1 x'.1 ∧ PwEq PX x.2 x'.2
theorem declsL_lk {d : Nat} : ∀ (f : Nat) {l l' : List Tok} {vs vs' : List Vr} {ps ps' : List Pr}, Alike l l' → PwEq (VrEq false) vs vs' → PwEq PX ps ps' → Lk DX (declsL d f l vs ps) (declsL d f l' vs' ps')
 | 0, _, _, _, _, _, _, _, _, _ => Or.inr ⟨0, 0, 0, rfl, rfl⟩
 | f + 1, l, l', vs, vs', ps, ps', hl, hv, hp => by
  rw [declsL_eq, declsL_eq]
  refine Lk.ite (by rw [hl.hd.1]) (Lk.ret ⟨hv, hp⟩ hl) (Lk.isc hl ?_ ?_)
  ·exact Lk.bnd (varD_lk hl.tail) fun v v' m m' h hm => declsL_lk f hm (PwEq.snoc hv h) hp
  ·refine Lk.bnd (must_lk _ hl) fun _ _ m m' _ hm => ?_
   exact Lk.bnd (proc_lk hm) fun p p' m m' h hm => declsL_lk f hm hv (PwEq.snoc hp h)
theorem modul_lk {d : Nat} {l l' : List Tok} (hl : Alike l l') : Lk (MdEq false) (modul d l) (modul d l') := by
 rw [modul_eq, modul_eq]
 refine Lk.bnd (must_lk _ hl) fun _ _ m m' _ hm => ?_
 refine Lk.bnd (name_lk hm) fun n n' m m' hn hm => ?_
 refine Lk.bnd (must_lk _ hm) fun _ _ m m' _ hm => ?_
 rw [hm.len]
 refine Lk.bnd (impsL_lk _ hm PwEq.nil) fun is is' m m' hi hm => ?_
 rw [hm.len]
 exact Lk.bnd (declsL_lk _ hm PwEq.nil PwEq.nil) fun x x' m m' hx hm => Lk.ret ⟨hn, noat, hi, hx.1, hx.2⟩ hm
end
end Par
end
end Go.Eng
namespace Go.Eng
noncomputable section
namespace Lex
def seps : List (List UInt8) := [[32], [10], [32, 35, 32, 105, 102, 32, 120, 10], [9, 13, 10]]
def sep (w i : Nat) : List UInt8 := seps.getD ((i + w) % 4) []
def bt (w : Nat) : Nat → List Tok → List UInt8
 | _, [] => []
 | i, t :: l => sep w i ++ t.text ++ bt w (i + 1) l
theorem bt_snoc (w : Nat) (x : Tok) : ∀ (l : List Tok) (i : Nat), bt w i (l ++ [x]) = bt w i l ++ sep w (i + l.length) ++ x.text
 | [], i => by simp [bt]
 | t :: l, i => by
  rw [List.cons_append, bt, bt, bt_snoc w x l (i + 1), List.length_cons, show i + 1 + l.length = i + (l.length + 1) by omega]
  simp [List.append_assoc]
theorem sep_mem (w i : Nat) : sep w i ∈ seps := by
 unfold sep
 have h : (i + w) % 4 < seps.length := Nat.mod_lt _ (by decide)
 rw [List.getD_eq_getElem?_getD, List.getElem?_eq_getElem h]
 exact List.getElem_mem h
theorem sep_bl {w i : Nat} (r : List UInt8) : Bl (sep w i ++ r) := by
 have h := sep_mem w i
 generalize sep w i = s at h
 simp [seps] at h
 rcases h with rfl | rfl | rfl | rfl
 ·exact ⟨32, rfl, rfl⟩
 ·exact ⟨10, rfl, rfl⟩
 ·exact ⟨32, rfl, rfl⟩
 ·exact ⟨9, rfl, rfl⟩
theorem blank_step {c : UInt8} (hc : blank c = true) (f pos : Nat) (r : List UInt8) (out : List Tok) : all (f + 1) pos (c :: r) out = all f (pos + 1) r out := by
 simp only [all]; rw [if_pos hc]
theorem remark_step (f pos : Nat) (r : List UInt8) (out : List Tok) : all (f + 1) pos (35 :: 32 :: 105 :: 102 :: 32 :: 120 :: 10 :: r) out = all f (pos + 6) (10 :: r) out := by
 have e : (35 :: 32 :: 105 :: 102 :: 32 :: 120 :: 10 :: r).takeWhile notNl = [35, 32, 105, 102, 32, 120] := by
  have := tw_app (f := notNl) (w := [35, 32, 105, 102, 32, 120]) (r := 10 :: r) (by decide) (fun c hc => by cases hc; rfl)
  simpa using this
 simp only [all]
 rw [if_neg (by decide), if_pos (by decide), e]
 rfl
theorem sep_step {s : List UInt8} (hs : s ∈ seps) {f pos : Nat} {r : List UInt8} {out : List Tok} (hf : (s ++ r).length < f) : ∃ f' pos', r.length < f' ∧ all f pos (s ++ r) out = all f' pos' r out := by
 simp [seps] at hs
 rcases hs with rfl | rfl | rfl | rfl
 ·obtain ⟨n, rfl⟩ : ∃ n, f = n + 1 := ⟨f - 1, by omega⟩
  exact ⟨n, pos + 1, by simp at hf; omega, blank_step (by decide) ..⟩
 ·obtain ⟨n, rfl⟩ : ∃ n, f = n + 1 := ⟨f - 1, by omega⟩
  exact ⟨n, pos + 1, by simp at hf; omega, blank_step (by decide) ..⟩
 ·obtain ⟨n, rfl⟩ : ∃ n, f = n + 3 := ⟨f - 3, by simp at hf; omega⟩
  refine ⟨n, pos + 1 + 6 + 1, by simp at hf; omega, ?_⟩
  show all (n + 2 + 1) pos (32 :: 35 :: 32 :: 105 :: 102 :: 32 :: 120 :: 10 :: r) out = _
  rw [blank_step (by decide), remark_step, blank_step (by decide)]
 ·obtain ⟨n, rfl⟩ : ∃ n, f = n + 3 := ⟨f - 3, by simp at hf; omega⟩
  refine ⟨n, pos + 1 + 1 + 1, by simp at hf; omega, ?_⟩
  show all (n + 2 + 1) pos (9 :: 13 :: 10 :: r) out = _
  rw [blank_step (by decide), blank_step (by decide), blank_step (by decide)]
def TokOk (t : Tok) : Prop := ∃ c r u, cls (c :: r) = some u ∧ u.2 = 0 ∧ t.kind = u.1 ∧ t.text = cutl (c :: r)
theorem tok_step {t : Tok} (ht : TokOk t) {f pos : Nat} {r : List UInt8} {out : List Tok} (hr : Bl r) : all (f + 1) pos (t.text ++ r) out = all f (pos + t.text.length) r (out ++ [⟨t.kind, t.text, pos⟩]) := by
 obtain ⟨c, x, u, h1, h2, h3, h4⟩ := ht
 have hne := cut_ne (Or.inr ⟨u, h1, h2⟩)
 obtain ⟨l1, l2⟩ := local_ (r' := r) hne (Or.inr ⟨hr, u, h1, h2⟩)
 rw [h4, all_eq' (by simp [hne]), l1, l2, h1, go_mk h2, List.drop_left' rfl, h3]
theorem tok_ne {t : Tok} (ht : TokOk t) : 0 < t.text.length := by
 obtain ⟨c, x, u, h1, h2, _, h4⟩ := ht
 rw [h4]; exact List.length_pos_iff.2 (cut_ne (Or.inr ⟨u, h1, h2⟩))
theorem all_toks : ∀ {f pos : Nat} {r : List UInt8} {out ts : List Tok}, all f pos r out = .ok ts → (∀ t ∈ out, TokOk t) → ∃ us a, ts = us ++ [⟨0, [], a⟩] ∧ ∀ t ∈ us, TokOk t
 | 0, _, _, _, _, h, _ => by cases h
 | f + 1, pos, [], out, ts, h, ho => by simp only [all] at h; cases h; exact ⟨out, pos, rfl, ho⟩
 | f + 1, pos, c :: r, out, ts, h, ho => by
  rw [all_eq] at h
  rcases go_ok h with ⟨_, h⟩ | ⟨u, e, h0, h⟩
  ·exact all_toks h ho
  ·refine all_toks h fun t ht => ?_
   rcases List.mem_append.1 ht with ht | ht
   ·exact ho t ht
   ·simp at ht; subst ht; exact ⟨c, r, u, e, h0, rfl, rfl⟩
theorem bt_all {w a : Nat} : ∀ {l : List Tok} {i f pos : Nat} {out : List Tok}, (∀ t ∈ l, TokOk t) → (bt w i (l ++ [⟨0, [], a⟩])).length < f → ∃ vs, all f pos (bt w i (l ++ [⟨0, [], a⟩])) out = .ok (out ++ vs) ∧ Par.Alike (l ++ [⟨0, [], a⟩]) vs
 | [], i, f, pos, out, _, hf => by
  have e : bt w i ([] ++ [(⟨0, [], a⟩ : Tok)]) = sep w i ++ [] := by simp [bt]
  rw [e] at hf ⊢
  obtain ⟨f', pos', h1, h2⟩ := sep_step (sep_mem w i) (out := out) (pos := pos) hf
  rw [h2]
  obtain ⟨n, rfl⟩ : ∃ n, f' = n + 1 := ⟨f' - 1, by omega⟩
  exact ⟨[⟨0, [], pos'⟩], rfl, rfl⟩
 | t :: l, i, f, pos, out, ht, hf => by
  have e : bt w i (t :: l ++ [(⟨0, [], a⟩ : Tok)]) = sep w i ++ (t.text ++ bt w (i + 1) (l ++ [⟨0, [], a⟩])) := by rw [List.cons_append, bt, List.append_assoc]
  rw [e] at hf ⊢
  obtain ⟨f', pos', h1, h2⟩ := sep_step (sep_mem w i) (out := out) (pos := pos) hf
  rw [h2]
  obtain ⟨n, rfl⟩ : ∃ n, f' = n + 1 := ⟨f' - 1, by omega⟩
  have hb : Bl (bt w (i + 1) (l ++ [(⟨0, [], a⟩ : Tok)])) := by
   cases l with
   | nil => rw [List.nil_append, bt, List.append_assoc]; exact sep_bl _
   | cons x l => rw [List.cons_append, bt, List.append_assoc]; exact sep_bl _
  rw [tok_step (ht t (by simp)) hb]
  have hne := tok_ne (ht t (by simp))
  obtain ⟨vs, h3, h4⟩ := bt_all (w := w) (a := a) (l := l) (i := i + 1) (f := n) (pos := pos' + t.text.length) (out := out ++ [⟨t.kind, t.text, pos'⟩]) (fun x hx => ht x (by simp [hx])) (by rw [List.length_append] at h1; omega)
  refine ⟨⟨t.kind, t.text, pos'⟩ :: vs, by rw [h3, List.append_assoc]; rfl, ?_⟩
  exact congrArg (Par.Tok.er t :: ·) h4
end Lex
theorem rebuilt {s : List UInt8} {ts : List Tok} (w : Nat) (hs : Lex.lex s = .ok ts) (hl : (Lex.bt w 0 ts).length ≤ 8192) : ∃ ts', Lex.lex (Lex.bt w 0 ts) = .ok ts' ∧ Par.Alike ts ts' := by
 obtain ⟨us, a, rfl, ho⟩ := Lex.all_toks (lex_all hs) (fun t ht => by simp at ht)
 obtain ⟨vs, h1, h2⟩ := Lex.bt_all (w := w) (a := a) (i := 0) (pos := 0) (out := []) ho (Nat.lt_succ_self _)
 refine ⟨vs, ?_, h2⟩
 unfold Lex.lex
 rw [if_neg (by omega)]
 simpa using h1
end
end Go.Eng
namespace Go.Eng
noncomputable section
namespace Par
section
variable {α β : Type}
def Fw (z : α → Nat) (n : Nat) (r : R α) : Prop := ∀ x l', r = .ok (x, l') → z x + l'.length ≤ n
theorem Fw.bnd {z : α → Nat} {z2 : β → Nat} {n n2 : Nat} {r : R α} {f : α → List Tok → R β} (h : Fw z n r) (K : ∀ x l', z x + l'.length ≤ n → Fw z2 n2 (f x l')) : Fw z2 n2 (Par.bnd r f) := by
 intro y l' e
 cases r with
 | error x => cases e
 | ok x =>
  obtain ⟨x, l1⟩ := x
  exact K x l1 (h x l1 rfl) y l' e
theorem Fw.ret {z : α → Nat} {n : Nat} {x : α} {l : List Tok} (h : z x + l.length ≤ n) : Fw z n (.ok (x, l)) := by
 intro y l' e; cases e; exact h
theorem Fw.err {z : α → Nat} {n : Nat} {e : Nat × Nat} : Fw z n (.error e : R α) := by intro y l' h; cases h
theorem Fw.fail {z : α → Nat} {n e : Nat} {l : List Tok} : Fw z n (fail e l : R α) := by intro y l' h; cases h
theorem Fw.ite {z : α → Nat} {n : Nat} {c : Prop} [Decidable c] {a b : R α} (h1 : c → Fw z n a) (h2 : ¬ c → Fw z n b) : Fw z n (if c then a else b) := by
 by_cases h : c
 ·rw [if_pos h]; exact h1 h
 ·rw [if_neg h]; exact h2 h
theorem Fw.le {z : α → Nat} {n m : Nat} {r : R α} (h : Fw z n r) (hm : n ≤ m) : Fw z m r := fun x l e => Nat.le_trans (h x l e) hm
theorem is_len {s : List UInt8} {l : List Tok} (h : is s l = true) : l.tail.length + 1 = l.length := by
 cases l with
 | nil => simp [is, hd] at h
 | cons a l => rfl
theorem must_fw (s : List UInt8) (l : List Tok) : Fw (fun _ => 1) l.length (must s l) := by
 unfold must
 exact Fw.ite (fun h => Fw.ret (by have := is_len h; omega)) fun _ => Fw.fail
theorem of_fw {k : Nat} (hk : k ≠ 0) (l : List Tok) : Fw (fun _ => 1) l.length (of k l) := by
 unfold of
 refine Fw.ite (fun h => Fw.ret ?_) fun _ => Fw.fail
 cases l with
 | nil => exact absurd h.symm hk
 | cons a l => simp; omega
theorem name_fw (l : List Tok) : Fw (fun _ => 1) l.length (name l) := by
 rw [name_eq]; exact Fw.bnd (of_fw (by decide) l) fun _ _ h => Fw.ret h
theorem number_fw (l : List Tok) : Fw (fun _ => 1) l.length (number l) := by
 rw [number_eq]; exact Fw.bnd (of_fw (by decide) l) fun _ _ h => Fw.ret h
theorem qname_fw (l : List Tok) : Fw (fun _ => 1) l.length (qname l) := by
 rw [qname_eq]
 refine Fw.bnd (name_fw l) fun a m h => Fw.ite (fun hi => ?_) fun _ => Fw.ret h
 exact Fw.bnd (name_fw m.tail) fun b k h2 => Fw.ret (by simp at h2 ⊢; omega)
def NZ (x : Nat × List Nd) : Nat := x.2.length
def UnFw (un : E) : Prop := ∀ d l ns, Fw NZ (ns.length + l.length) (un d l ns)
theorem fnd_fw {z : α → Nat} {n : Nat} {ops : List Opn} {l : List Tok} {a : R α} {g : Opn → R α} (h0 : Fw z n a) (h1 : ∀ o, l.tail.length + 1 = l.length → Fw z n (g o)) : Fw z n (fnd (find ops l) a g) := by
 cases hf : find ops l with
 | none => exact h0
 | some o =>
  have ho : is o.1 l = true := List.find?_some (p := fun o : Opn => is o.1 l) hf
  exact h1 o (is_len ho)
theorem chainL_fw {un : E} (U : UnFw un) {ops : List Opn} {d : Nat} : ∀ (f a : Nat) (l : List Tok) (ns : List Nd), Fw NZ (ns.length + l.length) (chainL un ops f d l a ns)
 | 0, a, l, ns => Fw.ret (Nat.le_refl _)
 | f + 1, a, l, ns => by
  rw [chainL_eq]
  refine fnd_fw (Fw.ret (Nat.le_refl _)) fun o ht => ?_
  refine Fw.bnd (U d l.tail ns) fun x m h => (chainL_fw U f _ _ _).le ?_
  simp [NZ] at h ⊢; omega
theorem chain_fw {un : E} (U : UnFw un) (ops : List Opn) : UnFw (chain un ops) := by
 intro d l ns
 rw [chain_eq]
 exact Fw.bnd (U d l ns) fun x m h => (chainL_fw U _ _ _ _).le h
theorem sum_fw {un : E} (U : UnFw un) : UnFw (sum un) := chain_fw (chain_fw U _) _
theorem whole_fw {un : E} (U : UnFw un) : UnFw (whole un) := by
 intro d l ns
 rw [whole_eq]
 refine Fw.bnd (sum_fw U d l ns) fun x m h => fnd_fw (Fw.ret h) fun o ht => ?_
 refine Fw.bnd (sum_fw U d m.tail x.2) fun y k h2 => Fw.ret ?_
 simp [NZ] at h h2 ⊢; omega
theorem unaryS_fw {un : E} (U : UnFw un) : UnFw (unaryS un) := by
 intro d l ns
 rw [unaryS_eq]
 refine fnd_fw (Fw.ite (fun hi => Fw.ite (fun _ => Fw.fail) fun _ => ?_) fun _ => Fw.ite (fun _ => ?_) fun _ => ?_) fun o ht => Fw.ite (fun _ => Fw.fail) fun _ => ?_
 ·have := is_len hi
  refine Fw.bnd (whole_fw U (d + 1) l.tail ns) fun x m h => ?_
  exact Fw.bnd (must_fw _ m) fun _ k h2 => Fw.ret (by simp [NZ] at h h2 ⊢; omega)
 ·exact Fw.bnd (number_fw l) fun k m h => Fw.ret (by simp [NZ] at h ⊢; omega)
 ·exact Fw.bnd (qname_fw l) fun k m h => Fw.ret (by simp [NZ] at h ⊢; omega)
 ·exact Fw.bnd (U (d + 1) l.tail ns) fun x m h => Fw.ret (by simp [NZ] at h ⊢; omega)
theorem unary_fw : ∀ f, UnFw (unary f)
 | 0 => fun _ _ _ => Fw.err
 | f + 1 => unaryS_fw (unary_fw f)
theorem expr_fw (d : Nat) (l : List Tok) : Fw List.length l.length (expr d l) := by
 rw [expr_eq]
 exact Fw.bnd (whole_fw (unary_fw _) d l []) fun x m h => Fw.ret (by simpa [NZ] using h)
theorem fin_fw (s : Sm) (l : List Tok) : Fw Sm.sz (Sm.sz s + l.length) (fin s l) := by
 rw [fin_eq]
 exact Fw.bnd (must_fw _ l) fun _ m h => Fw.ret (by omega)
theorem argsSz_snoc (as : List (List Nd)) (e : List Nd) : argsSz (as ++ [e]) = argsSz as + 1 + e.length := by
 induction as with
 | nil => simp [argsSz]
 | cons a as ih => simp [argsSz] at ih ⊢; omega
theorem argsL_fw {d : Nat} : ∀ (f : Nat) (l : List Tok) (as : List (List Nd)), Fw (fun x => argsSz x + 1) (argsSz as + l.length + (if as = [] then 1 else 0)) (argsL d f l as)
 | 0, _, _ => Fw.err
 | f + 1, l, [] => by
  rw [argsL_nil]
  refine Fw.ite (fun hi => Fw.ret (by have := is_len hi; simp; omega)) fun _ => ?_
  refine Fw.bnd (expr_fw d l) fun e m h => (argsL_fw f m [e]).le ?_
  simp [argsSz]; omega
 | f + 1, l, a :: as => by
  rw [argsL_cons]
  refine Fw.ite (fun hi => Fw.ret (by have := is_len hi; simp; omega)) fun _ => ?_
  refine Fw.bnd (must_fw _ l) fun _ m h => ?_
  refine Fw.bnd (expr_fw d m) fun e k h2 => (argsL_fw f k _).le ?_
  rw [argsSz_snoc]; simp; omega
def CZ (c : Cl) : Nat := argsSz c.args
theorem callA_fw {d : Nat} (c : Cl) (l : List Tok) : Fw CZ l.length (callA d c l) := by
 rw [callA_eq]
 refine Fw.bnd (must_fw _ l) fun _ m h => ?_
 refine Fw.bnd (argsL_fw _ m []) fun as k h2 => Fw.ret ?_
 simp [argsSz, CZ] at h2 ⊢; omega
theorem call_fw {d : Nat} (l : List Tok) : Fw CZ l.length (call d l) := by
 rw [call_eq]
 refine Fw.bnd (qname_fw l) fun q m h => Fw.ite (fun hi => ?_) fun _ => (callA_fw _ m).le (by omega)
 have := is_len hi
 exact Fw.bnd (qname_fw m.tail) fun r k h2 => (callA_fw _ k).le (by omega)
def BkFw (blk : Bk) : Prop := ∀ d l, Fw Sms.sz l.length (blk d l)
def StFw (stm : Nat → List Tok → R Sm) : Prop := ∀ d l, Fw Sm.sz l.length (stm d l)
theorem stIf_fw {blk : Bk} (K : BkFw blk) {d a : Nat} (l : List Tok) : Fw Sm.sz (l.length + 1) (stIf blk d a l) := by
 rw [stIf_eq]
 refine Fw.bnd (expr_fw d l) fun e m h => Fw.bnd (K d m) fun b k h2 => Fw.ite (fun hi => ?_) fun _ => Fw.ret (by simp [Sm.sz, Sms.sz, argsSz]; omega)
 have := is_len hi
 exact Fw.bnd (K d k.tail) fun el n h3 => Fw.ret (by simp [Sm.sz, argsSz] at h3 ⊢; omega)
theorem stWhile_fw {blk : Bk} (K : BkFw blk) {d a : Nat} (l : List Tok) : Fw Sm.sz (l.length + 1) (stWhile blk d a l) := by
 rw [stWhile_eq]
 exact Fw.bnd (expr_fw d l) fun e m h => Fw.bnd (K d m) fun b k h2 => Fw.ret (by simp [Sm.sz, Sms.sz, argsSz]; omega)
theorem stLet_fw {d a : Nat} (l : List Tok) : Fw Sm.sz (l.length + 1) (stLet d a l) := by
 rw [stLet_eq]
 refine Fw.bnd (name_fw l) fun n m h => Fw.bnd (must_fw _ m) fun _ m2 h2 => Fw.bnd (name_fw m2) fun lb m3 h3 => Fw.bnd (must_fw _ m3) fun _ m4 h4 => Fw.bnd (expr_fw d m4) fun e m5 h5 => (fin_fw _ m5).le ?_
 simp [Sm.sz, Sms.sz, argsSz]; omega
theorem stResult_fw {d a : Nat} (l : List Tok) : Fw Sm.sz (l.length + 1) (stResult d a l) := by
 rw [stResult_eq]
 refine Fw.bnd (must_fw _ l) fun _ m h => Fw.bnd (expr_fw d m) fun e m5 h5 => (fin_fw _ m5).le ?_
 simp [Sm.sz, Sms.sz, argsSz]; omega
theorem stCall_fw {d a : Nat} (l : List Tok) : Fw Sm.sz (l.length + 1) (stCall d a l) := by
 rw [stCall_eq]
 refine Fw.bnd (call_fw l) fun c m h => (fin_fw _ m).le ?_
 simp [Sm.sz, Sms.sz, CZ] at h ⊢; omega
theorem stEmit_fw {a : Nat} (l : List Tok) : Fw Sm.sz (l.length + 1) (stEmit a l) := by
 rw [stEmit_eq]
 refine Fw.bnd (name_fw l) fun c m h => (fin_fw _ m).le ?_
 simp [Sm.sz, Sms.sz, argsSz] at h ⊢; omega
theorem stSkip_fw {a : Nat} (l : List Tok) : Fw Sm.sz (l.length + 1) (stSkip a l) := by
 refine (fin_fw _ l).le ?_
 simp [Sm.sz, Sms.sz, argsSz]; omega
theorem stSet_fw {d a : Nat} (l : List Tok) : Fw Sm.sz l.length (stSet d a l) := by
 rw [stSet_eq]
 refine Fw.bnd (qname_fw l) fun n m h => Fw.bnd (must_fw _ m) fun _ m4 h4 => Fw.bnd (expr_fw d m4) fun e m5 h5 => (fin_fw _ m5).le ?_
 simp [Sm.sz, Sms.sz, argsSz]; omega
theorem stmtS_fw {blk : Bk} (K : BkFw blk) : StFw (stmtS blk) := by
 intro d l
 unfold stmtS
 have up : ∀ {s : List UInt8} {r : R Sm}, Fw Sm.sz (l.tail.length + 1) r → is s l = true → Fw Sm.sz l.length r := fun h hi => h.le (by have := is_len hi; omega)
 exact Fw.ite (up (stIf_fw K _)) fun _ => Fw.ite (up (stWhile_fw K _)) fun _ => Fw.ite (up (stLet_fw _)) fun _ => Fw.ite (up (stResult_fw _)) fun _ => Fw.ite (up (stCall_fw _)) fun _ => Fw.ite (up (stEmit_fw _)) fun _ => Fw.ite (up (stSkip_fw _)) fun _ => stSet_fw l
theorem Sms.sz_snoc (l : List Sm) (s : Sm) : Sms.sz (l ++ [s]) = Sms.sz l + Sm.sz s := by
 induction l with
 | nil => simp [Sms.sz]
 | cons a l ih => simp [Sms.sz, ih]; omega
theorem blockL_fw {stm : Nat → List Tok → R Sm} (K : StFw stm) {d : Nat} : ∀ (f : Nat) (l : List Tok) (ss : List Sm), Fw Sms.sz (Sms.sz ss + l.length) (blockL stm d f l ss)
 | 0, _, _ => Fw.err
 | f + 1, l, ss => by
  rw [blockL_eq]
  refine Fw.ite (fun hi => Fw.ret (by have := is_len hi; omega)) fun _ => Fw.bnd (K d l) fun s m h => (blockL_fw K f m _).le ?_
  rw [Sms.sz_snoc]; omega
theorem blockS_fw {stm : Nat → List Tok → R Sm} (K : StFw stm) : BkFw (blockS stm) := by
 intro d l
 unfold blockS
 refine Fw.ite (fun hi => Fw.ite (fun _ => Fw.fail) fun _ => (blockL_fw K _ _ _).le ?_) fun _ => Fw.fail
 have := is_len hi
 simp [Sms.sz] at this ⊢
theorem stmt_fw : ∀ f, StFw (stmt f)
 | 0 => fun _ _ => Fw.err
 | f + 1 => stmtS_fw (blockS_fw (stmt_fw f))
theorem block_fw (d : Nat) (l : List Tok) : Fw Sms.sz l.length (block d l) := blockS_fw (stmt_fw _) d l
theorem severalL_fw {z : α → Nat} {one : α → List Tok → R α} {e : List UInt8} (K : ∀ x l, Fw z (z x + l.length) (one x l)) : ∀ (f n : Nat) (l : List Tok) (x : α), Fw z (z x + l.length) (severalL one e f n l x)
 | 0, _, _, _ => Fw.err
 | f + 1, n, l, x => by
  rw [severalL_eq]
  refine Fw.ite (fun hi => Fw.ret (by have := is_len hi; omega)) fun _ => Fw.ite (fun _ => ?_) fun _ => ?_
  ·exact Fw.bnd (K x l) fun y m h => (severalL_fw K f 1 m y).le h
  ·exact Fw.bnd (must_fw _ l) fun _ m h => Fw.bnd (K x m) fun y k h2 => (severalL_fw K f (n + 1) k y).le (by omega)
theorem several_fw {z : α → Nat} {one : α → List Tok → R α} {e : List UInt8} (K : ∀ x l, Fw z (z x + l.length) (one x l)) (l : List Tok) (x : α) : Fw z (z x + l.length) (several one e l x) := severalL_fw K _ _ _ _
theorem parm_fw (x : List Pm) (l : List Tok) : Fw List.length (x.length + l.length) (parm x l) := by
 rw [parm_eq]
 exact Fw.bnd (name_fw l) fun n m h => Fw.bnd (must_fw _ m) fun _ m2 h2 => Fw.bnd (name_fw m2) fun b m3 h3 => Fw.ret (by simp; omega)
theorem use_fw (x : List (List UInt8)) (l : List Tok) : Fw List.length (x.length + l.length) (use x l) := by
 rw [use_eq]
 exact Fw.bnd (name_fw l) fun n m h => Fw.ret (by simp; omega)
def PZ (p : Pr) : Nat := 1 + p.params.length + p.uses.length + Sms.sz p.body
theorem procB_fw {d : Nat} (q : Pr) (l : List Tok) : Fw PZ (1 + q.params.length + l.length) (procB d q l) := by
 rw [procB_eq]
 refine Fw.bnd (must_fw _ l) fun _ m h => Fw.bnd (name_fw m) fun pc m2 h2 => Fw.bnd (must_fw _ m2) fun _ m3 h3 => Fw.bnd (must_fw _ m3) fun _ m4 h4 => Fw.bnd (several_fw use_fw m4 []) fun us m5 h5 => Fw.bnd (block_fw d m5) fun b m6 h6 => Fw.ret ?_
 simp [PZ] at h5 ⊢; omega
theorem proc_fw {d : Nat} (l : List Tok) : Fw PZ l.length (proc d l) := by
 rw [proc_eq]
 refine Fw.bnd (name_fw l) fun n m h => Fw.bnd (must_fw _ m) fun _ m2 h2 => Fw.bnd (several_fw parm_fw m2 []) fun ps m3 h3 => Fw.ite (fun hi => ?_) fun _ => (procB_fw _ m3).le (by simp at h3 ⊢; omega)
 have := is_len hi
 exact Fw.bnd (name_fw m3.tail) fun r m4 h4 => (procB_fw _ m4).le (by simp at h3 h4 ⊢; omega)
theorem varE_fw {n lb : List UInt8} {a : Nat} {neg : Bool} (l : List Tok) : Fw (fun _ => 1) l.length (varE n lb a neg l) := by
 rw [varE_eq]
 exact Fw.bnd (number_fw l) fun k m h => Fw.bnd (must_fw _ m) fun _ m2 h2 => Fw.ret (by omega)
theorem varD_fw (l : List Tok) : Fw (fun _ => 1) l.length (varD l) := by
 rw [varD_eq]
 refine Fw.bnd (name_fw l) fun n m h => Fw.bnd (must_fw _ m) fun _ m2 h2 => Fw.bnd (name_fw m2) fun b m3 h3 => Fw.bnd (must_fw _ m3) fun _ m4 h4 => Fw.ite (fun hi => (varE_fw _).le ?_) fun _ => (varE_fw _).le (by omega)
 have := is_len hi; omega
theorem impsL_fw : ∀ (f : Nat) (l : List Tok) (x : List Im), Fw List.length (x.length + l.length) (impsL f l x)
 | 0, _, _ => Fw.err
 | f + 1, l, x => by
  rw [impsL_eq]
  refine Fw.ite (fun hi => ?_) fun _ => Fw.ret (Nat.le_refl _)
  have := is_len hi
  exact Fw.bnd (name_fw l.tail) fun n m h => Fw.bnd (must_fw _ m) fun _ m2 h2 => (impsL_fw f m2 _).le (by simp at h ⊢; omega)
def PsZ (ps : List Pr) : Nat := ps.foldr (fun p n => PZ p + n) 0
theorem PsZ.snoc (ps : List Pr) (p : Pr) : PsZ (ps ++ [p]) = PsZ ps + PZ p := by
 induction ps with
 | nil => simp [PsZ]
 | cons a ps ih => simp [PsZ] at ih ⊢; omega
theorem PsZ.len (ps : List Pr) : ps.length ≤ PsZ ps := by
 induction ps with
 | nil => simp
 | cons a ps ih => simp [PsZ, PZ] at ih ⊢; omega
theorem PsZ.mem {p : Pr} : ∀ {ps : List Pr}, p ∈ ps → PZ p ≤ PsZ ps
 | [], h => by simp at h
 | a :: ps, h => by
  rcases List.mem_cons.1 h with rfl | h
  ·simp [PsZ]
  ·have := PsZ.mem h; simp [PsZ] at this ⊢; omega
theorem declsL_fw {d : Nat} : ∀ (f : Nat) (l : List Tok) (vs : List Vr) (ps : List Pr), Fw (fun x => x.1.length + PsZ x.2) (vs.length + PsZ ps + l.length) (declsL d f l vs ps)
 | 0, _, _, _ => Fw.err
 | f + 1, l, vs, ps => by
  rw [declsL_eq]
  refine Fw.ite (fun _ => Fw.ret (Nat.le_refl _)) fun _ => Fw.ite (fun hi => ?_) fun _ => ?_
  ·have := is_len hi
   exact Fw.bnd (varD_fw l.tail) fun v m h => (declsL_fw f m _ _).le (by simp at h ⊢; omega)
  ·exact Fw.bnd (must_fw _ l) fun _ m h => Fw.bnd (proc_fw m) fun p k h2 => (declsL_fw f k _ _).le (by rw [PsZ.snoc]; omega)
theorem modul_fw {d : Nat} (l : List Tok) : Fw (fun m => m.imports.length + m.vars.length + PsZ m.procs) l.length (modul d l) := by
 rw [modul_eq]
 refine Fw.bnd (must_fw _ l) fun _ m h => Fw.bnd (name_fw m) fun n m2 h2 => Fw.bnd (must_fw _ m2) fun _ m3 h3 => Fw.bnd (impsL_fw _ m3 []) fun is m4 h4 => Fw.bnd (declsL_fw _ m4 [] []) fun x m5 h5 => Fw.ret ?_
 simp [PsZ] at h4 h5 ⊢; omega
end
end Par
theorem modul_few {d : Nat} {l l' : List Tok} {m : Md} (h : Par.modul d l = .ok (m, l')) (hl : l.length < 4294967296) : MdFew m := by
 have hf := Par.modul_fw l m l' h
 have hp := Par.PsZ.len m.procs
 simp only at hf
 refine ⟨by omega, by omega, by omega, fun p hp => ?_⟩
 have := Par.PsZ.mem hp
 simp only [Par.PZ] at this
 refine ⟨by omega, by omega, by omega⟩
end
end Go.Eng
