/- Part of a proof of a law: rules of an evaluator, contracts, plain laws. No condition of its own. -/
import Derived.Test.YtjgmahbgfbkhnaaSymA
set_option linter.unusedVariables false
set_option linter.unusedSimpArgs false
namespace Go.Eng
noncomputable section
structure Tok where
 kind:Nat
 text:List UInt8
 at_:Nat
def Tok.row (t:Tok):List V:=[.int .i64 (t.kind:Int),L.str t.text, .int .i64 (t.at_:Int)]
structure RP where
 rb:Nat
 tb:Nat
 to:Nat
 cap:Option Nat
 ts:List Tok
def RP.box (p:RP) (i d:Nat):Fact:= .box p.rb [.sl p.tb p.to p.ts.length p.cap, .int .i64 (i:Int), .int .i64 (d:Int)]
def RP.toks (p:RP):Fact:= .stb (fun h=>Rows 3 h (.sl p.tb p.to p.ts.length p.cap) (p.ts.map Tok.row))
structure qM (s:List UInt8):Prop where
 ne:s≠[]
 len:s.length≤9
 dig:∀b∈s,48≤b.toNat∧b.toNat≤57
def num (s:List UInt8):Nat:=s.foldl (fun n b=>n * 10+(b.toNat - 48)) 0
theorem J9 {s:List UInt8} {k:Nat} {b:UInt8} (hb:s[k]? =some b):num (s.take (k+1))=num (s.take k) * 10+(b.toNat - 48):=by
 unfold num
 rw [List.take_add_one,hb];simp
theorem Ka:∀(n:Nat) (s:List UInt8),s.length=n→(∀b∈s,b.toNat≤57)→num s<10 ^ n
 |0,s,hl,_=>by
  obtain rfl:s=[]:=by simpa using hl
  simp [num]
 |n+1,s,hl,hd=>by
  have hk:n<s.length:=by omega
  have h1:=J9 (s:=s) (k:=n) (List.getElem?_eq_getElem hk)
  have h2:=Ka n (s.take n) (by simp;omega) (fun b hb=>hd b (List.mem_of_mem_take hb))
  have h3:=hd _ (List.getElem_mem hk)
  rw [List.take_of_length_le (by omega)] at h1
  rw [h1,Nat.pow_succ];omega
theorem qM.bound {s:List UInt8} (d:qM s) (k:Nat):num (s.take k)<1000000000:=by
 have h1:=Ka (s.take k).length (s.take k) rfl fun b hb=>(d.dig b (List.mem_of_mem_take hb)).2
 have h2:(s.take k).length≤9:=by simp;have:=d.len;omega
 have h3:10 ^ (s.take k).length≤10 ^ 9:=Nat.pow_le_pow_right (by omega) h2
 omega
structure Left (p:RP) (i:Nat) (l:List Tok):Prop where
 drop:p.ts.drop i=l
 ne:l≠[]
 last:∀t,l.getLast? =some t→t.kind=0
 num:∀t∈l,t.kind=2→qM t.text
 small:p.ts.length<4294967296
theorem Left.get {p:RP} {i:Nat} {t:Tok} {l:List Tok} (h:Left p i (t::l)):p.ts[i]? =some t∧i<p.ts.length:=by
 have h1:(p.ts.drop i)[0]? =some t:=by rw [h.drop];rfl
 rw [List.getElem?_drop,Nat.add_zero] at h1
 exact ⟨h1,(List.getElem?_eq_some_iff.1 h1).1⟩
theorem Left.row {p:RP} {i:Nat} {t:Tok} {l:List Tok} (h:Left p i (t::l)):(p.ts.map Tok.row)[i]? =some t.row:=by
 rw [List.getElem?_map,h.get.1];rfl
theorem Left.next {p:RP} {i:Nat} {t:Tok} {l:List Tok} (h:Left p i (t::l)) (hk:t.kind≠0):Left p (i+1) l:=by
 have hne:l≠[]:=by
  intro e;subst e
  exact hk (h.last t rfl)
 refine ⟨?_,hne,fun u hu=>h.last u ?_,fun u hu=>h.num u (List.mem_cons_of_mem _ hu),h.small⟩
 · rw [←List.drop_drop,h.drop];rfl
 · rw [List.getLast?_cons_of_ne_nil hne];exact hu
theorem Left.cons {p:RP} {i:Nat} {l:List Tok} (h:Left p i l):∃t l',l=t::l':=by
 cases l with
 |nil=>exact absurd rfl h.ne
 |cons t l'=>exact ⟨t,l',rfl⟩
namespace Par
def hd:List Tok→Tok
 |[]=>⟨0,[],0⟩
 |t::_=>t
def is (s:List UInt8) (l:List Tok):Bool:=decide ((hd l).text=s)&&(decide ((hd l).kind=4)||decide ((hd l).kind=3))
def here (l:List Tok):Nat:=(hd l).at_
abbrev R (α:Type):=Except (Nat×Nat) (α×List Tok)
def fail {α:Type} (e:Nat) (l:List Tok):R α:= .error (e,here l)
def must (s:List UInt8) (l:List Tok):R Nat:=if is s l=true then .ok (here l,l.tail) else fail 11 l
def of (kind:Nat) (l:List Tok):R Tok:=if (hd l).kind=kind then .ok (hd l,l.tail) else fail 11 l
def name (l:List Tok):R (List UInt8):=match of 1 l with
 | .ok (t,l)=> .ok (t.text,l)
 | .error e=> .error e
def number (l:List Tok):R Nat:=match of 2 l with
 | .ok (t,l)=> .ok (Go.Eng.num t.text,l)
 | .error e=> .error e
def rQ (l:List Tok):R (List UInt8×List UInt8):=match name l with
 | .error e=> .error e
 | .ok (a,l)=>if is [46] l=true then (match name l.tail with
   | .error e=> .error e
   | .ok (b,l)=> .ok ((a,b),l)) else .ok (([],a),l)
end Par
theorem Left.tail {p:RP} {i:Nat} {l:List Tok} (h:Left p i l) (hk:(Par.hd l).kind≠0):Left p (i+1) l.tail:=by
 obtain ⟨t,l,rfl⟩:=h.cons
 exact h.next hk
theorem Left.is {p:RP} {i:Nat} {l:List Tok} {s:List UInt8} (h:Left p i l) (hi:Par.is s l=true):Left p (i+1) l.tail:=h.tail fun e=>by simp [Par.is,e] at hi
theorem Par.of_num {p:RP} {i:Nat} {l l':List Tok} {t:Tok} (h:Left p i l) (ho:Par.of 2 l= .ok (t,l')):qM t.text:=by
 obtain ⟨u,l,rfl⟩:=h.cons
 unfold Par.of Par.hd at ho
 by_cases hk:u.kind=2
 · rw [if_pos hk] at ho;cases ho;exact h.num u (by simp) hk
 · rw [if_neg hk] at ho;cases ho
theorem Left.lt {p:RP} {i:Nat} {l:List Tok} (h:Left p i l):i<p.ts.length:=by
 obtain ⟨t,l,rfl⟩:=h.cons
 exact h.get.2
theorem Left.len {p:RP} {i:Nat} {l:List Tok} (h:Left p i l):l.length=p.ts.length - i:=by rw [←h.drop,List.length_drop]
end
end Go.Eng
namespace Go.Eng
noncomputable section
def uK (T:Nat) (e a:Nat):V:= .ifc T (.agg [.int .i64 (e:Int), .int .i64 (a:Int)])
def jT {α:Type} (p:RP) (T:Nat) (res:Par.R α) (P:α→Nat→V→Heap→Prop) (E:Heap→Prop) (r:OR):Prop:=match res with
 | .ok (a,l)=>∃v h1 i,r= .ok v h1∧Left p i l∧P a i v h1
 | .error (e,a)=>∃h1,r= .pan (uK T e a) h1∧E h1
theorem jT.pan {α:Type} {p:RP} {T:Nat} {res:Par.R α} {P:α→Nat→V→Heap→Prop} {E:Heap→Prop} {e a:Nat} {h1:Heap} (hr:res= .error (e,a)) (hE:E h1):jT p T res P E (.pan (uK T e a) h1):=by
 subst hr;exact ⟨h1,rfl,hE⟩
theorem jT.ok {α:Type} {p:RP} {T:Nat} {res:Par.R α} {P:α→Nat→V→Heap→Prop} {E:Heap→Prop} {x:α} {l:List Tok} {v:V} {i:Nat} {h1:Heap} (hr:res= .ok (x,l)) (hl:Left p i l) (hP:P x i v h1):jT p T res P E (.ok v h1):=by
 subst hr;exact ⟨v,h1,i,rfl,hl,hP⟩
section
variable {c:Ctx} {Q:QT} {env:Env} {h:Heap} {fs:List Fact} {vs:List V} {i j:D8}
theorem WO.xu {α:Type} {l:List Opr} {f:Nat} {as:List A} {as':List V} {p:RP} {T:Nat} {res:Par.R α} {P:α→Nat→V→Heap→Prop} {E:Heap→Prop} (ha:evs as (fun a=>a.ev vs env)=as') (hr:qL c f as' h (jT p T res P E))
  (pan:∀e a h1,res= .error (e,a)→E h1→Q (.pan (uK T e a)) env h1) (ok:∀x l' v h1 i,res= .ok (x,l')→Left p i l'→P x i v h1→WO c l Q (v::vs) env h1):WO c (.p (.H (.call f as))::l) Q vs env h:=by
 obtain ⟨r,hr,ho⟩:=hr
 cases res with
 |ok x=>
  obtain ⟨x,l'⟩:=x
  obtain ⟨v,h1,i,rfl,hl,hp⟩:=ho
  exact WO.call (by rw [ha];exact hr) (ok _ _ _ _ _ rfl hl hp)
 |error x=>
  obtain ⟨e,a⟩:=x
  obtain ⟨h1,rfl,hE⟩:=ho
  exact WO.vo ha hr (pan _ _ _ rfl hE)
theorem WO.callOS {α:Type} {l:List Opr} {f:Nat} {as:List A} {as':List V} {p:RP} {T:Nat} {res:Par.R α} {P:α→Nat→V→Heap→Prop} {E:Heap→Prop} (ha:evs as (fun a=>a.ev vs env)=as') (hr:qL c f as' h (jT p T res P E))
  (pan:∀e a h1,res= .error (e,a)→E h1→Q (.pan (uK T e a)) env h1) (ok:∀x l' v h1 i',res= .ok (x,l')→Left p i' l'→P x i' v h1→WO c l Q (v::vs) (Env.set i j v env) h1):WO c (.s i j (.H (.call f as))::l) Q vs env h:=by
 obtain ⟨r,hr,ho⟩:=hr
 cases res with
 |ok x=>
  obtain ⟨x,l'⟩:=x
  obtain ⟨v,h1,i,rfl,hl,hp⟩:=ho
  exact WO.FM (by rw [ha];exact hr) (ok _ _ _ _ _ rfl hl hp)
 |error x=>
  obtain ⟨e,a⟩:=x
  obtain ⟨h1,rfl,hE⟩:=ho
  exact WO.BR ha hr (pan _ _ _ rfl hE)
theorem WO.Kc {α:Type} {l:List Opr} {x:A} {f:Nat} {as:List A} {a b as':List V} {p:RP} {T:Nat} {res:Par.R α} {P:α→Nat→V→Heap→Prop} {E:Heap→Prop} (hx:x.ev vs env= .fn f a b) (ha:bV a (bV (evs as (fun a=>a.ev vs env)) b)=as') (hr:qL c f as' h (jT p T res P E))
  (pan:∀e a h1,res= .error (e,a)→E h1→Q (.pan (uK T e a)) env h1) (ok:∀x l' v h1 i,res= .ok (x,l')→Left p i l'→P x i v h1→WO c l Q (v::vs) env h1):WO c (.p (.H (.dS x as))::l) Q vs env h:=by
 obtain ⟨r,hr,ho⟩:=hr
 cases res with
 |ok x=>
  obtain ⟨x,l'⟩:=x
  obtain ⟨v,h1,i,rfl,hl,hp⟩:=ho
  exact WO.dS hx (by rw [ha];exact hr) (ok _ _ _ _ _ rfl hl hp)
 |error x=>
  obtain ⟨e,a⟩:=x
  obtain ⟨h1,rfl,hE⟩:=ho
  exact WO.JW hx ha hr (pan _ _ _ rfl hE)
theorem WO.callvOS {α:Type} {l:List Opr} {x:A} {f:Nat} {as:List A} {a b as':List V} {p:RP} {T:Nat} {res:Par.R α} {P:α→Nat→V→Heap→Prop} {E:Heap→Prop} (hx:x.ev vs env= .fn f a b) (ha:bV a (bV (evs as (fun a=>a.ev vs env)) b)=as') (hr:qL c f as' h (jT p T res P E))
  (pan:∀e a h1,res= .error (e,a)→E h1→Q (.pan (uK T e a)) env h1) (ok:∀x l' v h1 i',res= .ok (x,l')→Left p i' l'→P x i' v h1→WO c l Q (v::vs) (Env.set i j v env) h1):WO c (.s i j (.H (.dS x as))::l) Q vs env h:=by
 obtain ⟨r,hr,ho⟩:=hr
 cases res with
 |ok x=>
  obtain ⟨x,l'⟩:=x
  obtain ⟨v,h1,i,rfl,hl,hp⟩:=ho
  exact WO.JV hx (by rw [ha];exact hr) (ok _ _ _ _ _ rfl hl hp)
 |error x=>
  obtain ⟨e,a⟩:=x
  obtain ⟨h1,rfl,hE⟩:=ho
  exact WO.H8 hx ha hr (pan _ _ _ rfl hE)
theorem WD.xu {α:Type} {l:List Opd} {lg:List Log} {uo:List Nat} {f:Nat} {as:List A} {as':List V} {p:RP} {T:Nat} {res:Par.R α} {P:α→Nat→V→Heap→Prop} {E:Heap→Prop} (ha:evs as (fun a=>a.ev vs env)=as') (hr:qL c f as' h (jT p T res P E))
  (pan:∀e a h1,res= .error (e,a)→E h1→Q (.pan (uK T e a)) env h1) (hs:∀x v h1 i,P x i v h1→bZ uo h1 lg=true) (ok:∀x l' v h1 i,res= .ok (x,l')→Left p i l'→P x i v h1→WD c l Q (v::vs) (.no::lg) env h1):WD c (⟨.p (.H (.call f as)),uo⟩::l) Q vs lg env h:=by
 obtain ⟨r,hr,ho⟩:=hr
 cases res with
 |ok x=>
  obtain ⟨x,l'⟩:=x
  obtain ⟨v,h1,i,rfl,hl,hp⟩:=ho
  exact WD.call (by rw [ha];exact hr) (hs _ _ _ _ hp) (ok _ _ _ _ _ rfl hl hp)
 |error x=>
  obtain ⟨e,a⟩:=x
  obtain ⟨h1,rfl,hE⟩:=ho
  exact WD.vo ha hr (pan _ _ _ rfl hE)
end
end
end Go.Eng
namespace Go.Eng
noncomputable section
def xw (c:Ctx) (f:Nat) (as:List V) (h:Heap) (v:V) (E:Heap→Prop):Prop:=∃h1,Runs c f as h (.pan v h1)∧E h1
def QP (v:V) (E:Heap→Prop):QT:=fun x _ h=>match x with
 | .pan w=>w=v∧E h
 |_=>False
theorem xw.bX {c:Ctx} {h:Heap} {f:Nat} {F:Fun} {as:List V} {v:V} {E:Heap→Prop} (hF:T.get f c.aR=some F) (hn:as.length=F.np) (w:WP c F.body (QP v E) (aO as 0 Env.nil) h):xw c f as h v E:=by
 obtain ⟨x,e1,h1,ev,q⟩:=w
 cases x with
 |nrm=>exact q.elim
 |ret=>exact q.elim
 |exit i=>exact q.elim
 |pan u=>
  obtain ⟨rfl,q⟩:=q
  exact ⟨_,Runs.bX hF hn ⟨_,_,_,ev,rfl⟩,q⟩
section
variable {c:Ctx} {Q:QT} {env:Env} {h:Heap} {fs:List Fact} {vs:List V} {i j:D8}
theorem WO.Cb {l:List Opr} {f:Nat} {as:List A} {as':List V} {v:V} {E:Heap→Prop} (ha:evs as (fun a=>a.ev vs env)=as') (hr:xw c f as' h v E) (K:∀h1,E h1→Q (.pan v) env h1):WO c (.p (.H (.call f as))::l) Q vs env h:=by
 obtain ⟨h1,hr,hE⟩:=hr
 exact WO.vo ha hr (K h1 hE)
end
end
end Go.Eng
namespace Go.Eng
noncomputable section
structure Nd where
 kind:Nat
 num:Int
 mod:List UInt8
 name:List UInt8
 a:Int
 b:Int
 at_:Nat
def Nd.row (n:Nd):List V:=[.int .i64 (n.kind:Int), .int .i64 n.num,L.str n.mod,L.str n.name, .int .i64 n.a, .int .i64 n.b, .int .i64 (n.at_:Int)]
abbrev Opn:=List UInt8×Nat
def Opn.row (o:Opn):List V:=[L.str o.1, .int .i64 (o.2:Int)]
namespace Par
def find (ops:List Opn) (l:List Tok):Option Opn:=ops.find? fun o=>is o.1 l
abbrev E:=Nat→List Tok→List Nd→R (Nat×List Nd)
def put (n:Nd) (ns:List Nd):Nat×List Nd:=(ns.length,ns++[n])
def xA (un:E) (ops:List Opn):Nat→Nat→List Tok→Nat→List Nd→R (Nat×List Nd)
 |0,_,l,a,ns=> .ok ((a,ns),l)
 |f+1,d,l,a,ns=>match find ops l with
  |none=> .ok ((a,ns),l)
  |some o=>match un d l.tail ns with
   | .error e=> .error e
   | .ok ((b,ns),l')=>xA un ops f d l' ns.length (ns++[⟨o.2,0,[],[],(a:Int),(b:Int),here l⟩])
def chain (un:E) (ops:List Opn):E:=fun d l ns=>match un d l ns with
 | .error e=> .error e
 | .ok ((a,ns),l)=>xA un ops l.length d l a ns
def mulOps:List Opn:=[([42],7),([47],8),([37],9)]
def addOps:List Opn:=[([43],5),([45],6)]
def Ke:List Opn:=[([61,61],10),([60,61],12),([60],11)]
def Kg:List Opn:=[([45],3),([33],4)]
def term (un:E):E:=chain un mulOps
def sum (un:E):E:=chain (term un) addOps
def whole (un:E):E:=fun d l ns=>match sum un d l ns with
 | .error e=> .error e
 | .ok ((a,ns),l)=>match find Ke l with
   |none=> .ok ((a,ns),l)
   |some o=>match sum un d l.tail ns with
    | .error e=> .error e
    | .ok ((b,ns),l')=> .ok ((ns.length,ns++[⟨o.2,0,[],[],(a:Int),(b:Int),here l⟩]),l')
def Ep (un:E):E:=fun d l ns=>match find Kg l with
 |some o=>if 40≤d then fail 12 l else (match un (d+1) l.tail ns with
  | .error e=> .error e
  | .ok ((a,ns),l')=> .ok ((ns.length,ns++[⟨o.2,0,[],[],(a:Int), -1,here l⟩]),l'))
 |none=>if is [40] l=true then (if 40≤d then fail 12 l else (match whole un (d+1) l.tail ns with
   | .error e=> .error e
   | .ok ((a,ns),l')=>match must [41] l' with
     | .error e=> .error e
     | .ok (_,l')=> .ok ((a,ns),l')))
  else if (hd l).kind=2 then (match number l with
   | .error e=> .error e
   | .ok (n,l')=> .ok ((ns.length,ns++[⟨1,(n:Int),[],[], -1, -1,here l⟩]),l'))
  else (match rQ l with
   | .error e=> .error e
   | .ok ((m,n),l')=> .ok ((ns.length,ns++[⟨2,0,m,n, -1, -1,here l⟩]),l'))
def unary:Nat→E
 |0=>fun _ _ _=> .error (0,0)
 |f+1=>Ep (unary f)
end Par
def Par.Good (un:Par.E) (N:Nat):Prop:=∀{d:Nat} {l:List Tok} {ns:List Nd} {a:Nat} {ns':List Nd} {l':List Tok},l.length≤N→un d l ns= .ok ((a,ns'),l')→l'.length<l.length∧ns'.length+l'.length≤ns.length+l.length
theorem Par.Good.mono {un:Par.E} {N N':Nat} (h:Par.Good un N) (hn:N'≤N):Par.Good un N':=fun hl hr=>h (Nat.le_trans hl hn) hr
theorem uL {un:Par.E} {N:Nat} {ops:List Opn} (hg:Par.Good un N):∀{f d:Nat} {l:List Tok} {a:Nat} {ns:List Nd} {b:Nat} {ns':List Nd} {l':List Tok},l.length≤N→Par.xA un ops f d l a ns= .ok ((b,ns'),l')→l'.length≤l.length∧ns'.length+l'.length≤ns.length+l.length
 |0,d,l,a,ns,b,ns',l',hl,hr=>by
  simp only [Par.xA] at hr;cases hr;exact ⟨Nat.le_refl _,Nat.le_refl _⟩
 |f+1,d,l,a,ns,b,ns',l',hl,hr=>by
  simp only [Par.xA] at hr
  cases hf:Par.find ops l with
  |none=>rw [hf] at hr;cases hr;exact ⟨Nat.le_refl _,Nat.le_refl _⟩
  |some o=>
   rw [hf] at hr
   have hne:l≠[]:=by
    rintro rfl
    have:=List.find?_some hf
    simp [Par.is,Par.hd] at this
   have hlp:0<l.length:=List.length_pos_iff.2 hne
   have htl:l.tail.length=l.length - 1:=List.length_tail
   cases hu:un d l.tail ns with
   |error e=>rw [hu] at hr;cases hr
   |ok x=>
    obtain ⟨⟨b1,ns1⟩,l1⟩:=x
    rw [hu] at hr
    obtain ⟨g1,g2⟩:=hg (by omega) hu
    obtain ⟨k1,k2⟩:=uL hg (by omega) hr
    simp only [List.length_append,List.length_cons,List.length_nil] at k2
    omega
theorem xB {un:Par.E} {N:Nat} {ops:List Opn} (hg:Par.Good un N):Par.Good (Par.chain un ops) N:=by
 intro d l ns a ns' l' hl hr
 unfold Par.chain at hr
 cases hu:un d l ns with
 |error e=>rw [hu] at hr;cases hr
 |ok x=>
  obtain ⟨⟨b1,ns1⟩,l1⟩:=x
  rw [hu] at hr
  obtain ⟨g1,g2⟩:=hg hl hu
  obtain ⟨k1,k2⟩:=uL hg (by omega) hr
  omega
theorem Cc {un:Par.E} {N:Nat} (hg:Par.Good un N):Par.Good (Par.sum un) N:=xB (xB hg)
theorem Ce {ops:List Opn} {l:List Tok} {o:Opn} (hf:Par.find ops l=some o):0<l.length:=by
 refine List.length_pos_iff.2 ?_
 rintro rfl
 have:=List.find?_some hf
 simp [Par.is,Par.hd] at this
theorem xC {un:Par.E} {N:Nat} (hg:Par.Good un N):Par.Good (Par.whole un) N:=by
 intro d l ns a ns' l' hl hr
 unfold Par.whole at hr
 cases hu:Par.sum un d l ns with
 |error e=>rw [hu] at hr;cases hr
 |ok x=>
  obtain ⟨⟨b1,ns1⟩,l1⟩:=x
  obtain ⟨g1,g2⟩:=Cc hg hl hu
  simp only [hu] at hr
  cases hf:Par.find Par.Ke l1 with
  |none=>rw [hf] at hr;cases hr;omega
  |some o=>
   rw [hf] at hr
   have hlp:=Ce hf
   have htl:l1.tail.length=l1.length - 1:=List.length_tail
   cases hv:Par.sum un d l1.tail ns1 with
   |error e=>simp only [hv] at hr;cases hr
   |ok x=>
    obtain ⟨⟨b2,ns2⟩,l2⟩:=x
    simp only [hv] at hr
    cases hr
    obtain ⟨k1,k2⟩:=Cc hg (by omega) hv
    simp;omega
theorem Par.Kh {k:Nat} {l l':List Tok} {t:Tok} (hk:k≠0) (h:Par.of k l= .ok (t,l')):l'.length<l.length:=by
 unfold Par.of at h
 by_cases hh:(Par.hd l).kind=k
 · rw [if_pos hh] at h;cases h
   cases l with
   |nil=>exact absurd hh.symm hk
   |cons a l=>simp
 · rw [if_neg hh] at h;cases h
theorem Par.tC {s:List UInt8} {l:List Tok} (h:Par.is s l=true):0<l.length:=by
 cases l with
 |nil=>simp [Par.is,Par.hd] at h
 |cons a l=>simp
theorem Par.iY {s:List UInt8} {l l':List Tok} {a:Nat} (h:Par.must s l= .ok (a,l')):l'.length<l.length:=by
 unfold Par.must at h
 by_cases hh:Par.is s l=true
 · rw [if_pos hh] at h;cases h
   have:=Par.tC hh
   have htl:l.tail.length=l.length - 1:=List.length_tail
   omega
 · rw [if_neg hh] at h;cases h
theorem Par.iZ {l l':List Tok} {a:List UInt8} (h:Par.name l= .ok (a,l')):l'.length<l.length:=by
 unfold Par.name at h
 cases ho:Par.of 1 l with
 |error e=>rw [ho] at h;cases h
 |ok x=>obtain ⟨t,l1⟩:=x;rw [ho] at h;cases h;exact Par.Kh (by decide) ho
theorem Par.Er {l l':List Tok} {a:Nat} (h:Par.number l= .ok (a,l')):l'.length<l.length:=by
 unfold Par.number at h
 cases ho:Par.of 2 l with
 |error e=>rw [ho] at h;cases h
 |ok x=>obtain ⟨t,l1⟩:=x;rw [ho] at h;cases h;exact Par.Kh (by decide) ho
theorem Par.tF {l l':List Tok} {a:List UInt8×List UInt8} (h:Par.rQ l= .ok (a,l')):l'.length<l.length:=by
 unfold Par.rQ at h
 cases ho:Par.name l with
 |error e=>rw [ho] at h;cases h
 |ok x=>
  obtain ⟨t,l1⟩:=x
  have h1:=Par.iZ ho
  simp only [ho] at h
  by_cases hi:Par.is [46] l1=true
  · rw [if_pos hi] at h
    cases hn:Par.name l1.tail with
    |error e=>simp only [hn] at h;cases h
    |ok y=>
     obtain ⟨b,l2⟩:=y
     simp only [hn] at h;cases h
     have h2:=Par.iZ hn
     have htl:l1.tail.length=l1.length - 1:=List.length_tail
     omega
  · rw [if_neg hi] at h;cases h;exact h1
theorem Cg {un:Par.E} {N:Nat} (hg:Par.Good un N):Par.Good (Par.Ep un) (N+1):=by
 intro d l ns a ns' l' hl hr
 unfold Par.Ep at hr
 have htl:l.tail.length=l.length - 1:=List.length_tail
 cases hf:Par.find Par.Kg l with
 |some o=>
  have hp:=Ce hf
  simp only [hf] at hr
  by_cases hd:40≤d
  · rw [if_pos hd] at hr;cases hr
  · rw [if_neg hd] at hr
    cases hu:un (d+1) l.tail ns with
    |error e=>simp only [hu] at hr;cases hr
    |ok x=>
     obtain ⟨⟨b,ns1⟩,l1⟩:=x
     simp only [hu] at hr;cases hr
     have:=hg (by omega) hu
     simp;omega
 |none=>
  simp only [hf] at hr
  by_cases hi:Par.is [40] l=true
  · have hp:=Par.tC hi
    rw [if_pos hi] at hr
    by_cases hd:40≤d
    · rw [if_pos hd] at hr;cases hr
    · rw [if_neg hd] at hr
      cases hu:Par.whole un (d+1) l.tail ns with
      |error e=>simp only [hu] at hr;cases hr
      |ok x=>
       obtain ⟨⟨b,ns1⟩,l1⟩:=x
       have hwg:Par.Good (Par.whole un) N:=xC hg
       have h1:=hwg (by omega) hu
       simp only [hu] at hr
       cases hm:Par.must [41] l1 with
       |error e=>simp only [hm] at hr;cases hr
       |ok y=>
        obtain ⟨q,l2⟩:=y
        have h2:=Par.iY hm
        simp only [hm] at hr;cases hr;omega
  · rw [if_neg hi] at hr
    by_cases hk:(Par.hd l).kind=2
    · rw [if_pos hk] at hr
      cases hn:Par.number l with
      |error e=>simp only [hn] at hr;cases hr
      |ok x=>
       obtain ⟨n,l1⟩:=x
       have h1:=Par.Er hn
       simp only [hn] at hr;cases hr;simp;omega
    · rw [if_neg hk] at hr
      cases hn:Par.rQ l with
      |error e=>simp only [hn] at hr;cases hr
      |ok x=>
       obtain ⟨⟨m,n⟩,l1⟩:=x
       have h1:=Par.tF hn
       simp only [hn] at hr;cases hr;simp;omega
def Par.expr (d:Nat) (l:List Tok):Par.R (List Nd):=match Par.whole (Par.unary l.length) d l [] with
 | .error e=> .error e
 | .ok ((_,ns),l)=> .ok (ns,l)
theorem opn_len (ops:List Opn):∀row∈ops.map Opn.row,row.length=2:=by
 intro row hm;simp at hm;obtain ⟨a,b,_,rfl⟩:=hm;rfl
theorem tu {ops:List Opn} {l:List Tok}:∀{k:Nat} {o:Opn},ops[k]? =some o→(∀j o',ops[j]? =some o'→j<k→Par.is o'.1 l=false)→Par.is o.1 l=true→Par.find ops l=some o:=by
 induction ops with
 |nil=>intro k o ho;simp at ho
 |cons a ops ih=>
  intro k o ho hno hi
  unfold Par.find
  cases k with
  |zero=>
   simp at ho;subst ho
   simp [hi]
  |succ k=>
   have h0:=hno 0 a rfl (by omega)
   simp only [List.find?_cons,h0]
   exact ih (by simpa using ho) (fun j o' hj hlt=>hno (j+1) o' (by simpa using hj) (by omega)) hi
theorem tq {ops:List Opn} {l:List Tok} (hno:∀j o,ops[j]? =some o→j<ops.length→Par.is o.1 l=false):Par.find ops l=none:=by
 unfold Par.find
 rw [List.find?_eq_none]
 intro o ho
 obtain ⟨j,hj⟩:=List.mem_iff_getElem?.1 ho
 simp [hno j o hj (List.getElem?_eq_some_iff.1 hj).1]
end
end Go.Eng
namespace Go.Eng
noncomputable section
inductive Sm where
 |mk (kind at_:Nat) (mod name label:List UInt8) (has:Bool) (tomod to:List UInt8) (e:List Nd) (args:List (List Nd)) (body els:List Sm)
def nE (h:Heap):List (List Nd)→List V→Prop
 |[],[]=>True
 |e::as,v::vs=>Rows 7 h v (e.map Nd.row)∧nE h as vs
 |_,_=>False
def ArgsR (h:Heap) (v:V) (as:List (List Nd)):Prop:=∃vs:List V,Rows 1 h v (vs.map fun x=>[x])∧nE h as vs
mutual
def SmR (h:Heap):Sm→List V→Prop
 | .mk k a m n l hs tm t e as b el,row=>∃ve va vb vl,row=[.int .i64 (k:Int), .int .i64 (a:Int),L.str m,L.str n,L.str l, .bool hs,L.str tm,L.str t,ve,va,vb,vl]∧
     Rows 7 h ve (e.map Nd.row)∧ArgsR h va as∧(∃rows,Rows 12 h vb rows∧iG h b rows)∧(∃rows,Rows 12 h vl rows∧iG h el rows)
def iG (h:Heap):List Sm→List (List V)→Prop
 |[],rows=>rows=[]
 |s::l,rows=>∃r rs,rows=r::rs∧SmR h s r∧iG h l rs
end
def SmsR (h:Heap) (v:V) (l:List Sm):Prop:=∃rows,Rows 12 h v rows∧iG h l rows
theorem nE.snoc {h:Heap}:∀{as:List (List Nd)} {vs:List V} {e:List Nd} {v:V},nE h as vs→Rows 7 h v (e.map Nd.row)→nE h (as++[e]) (vs++[v])
 |[],[],e,v,_,hr=>⟨hr,trivial⟩
 |_::_,_::_,e,v,ha,hr=>⟨ha.1,ha.2.snoc hr⟩
 |[],_::_,_,_,ha,_=>ha.elim
 |_::_,[],_,_,ha,_=>ha.elim
theorem iG.nil {h:Heap}:iG h [] []:=by simp [iG]
theorem iG.snoc {h:Heap}:∀{l:List Sm} {rows:List (List V)} {s:Sm} {row:List V},iG h l rows→SmR h s row→iG h (l++[s]) (rows++[row])
 |[],rows,s,row,hl,hs=>by
  simp only [iG] at hl;subst hl
  simp only [List.nil_append,iG]
  exact ⟨row,[],rfl,hs,rfl⟩
 |a::l,rows,s,row,hl,hs=>by
  simp only [iG] at hl
  obtain ⟨r,rs,rfl,h1,h2⟩:=hl
  simp only [List.cons_append,iG]
  exact ⟨r,rs++[row],rfl,h1,iG.snoc h2 hs⟩
theorem SmR.len {h:Heap} {s:Sm} {row:List V} (hs:SmR h s row):row.length=12:=by
 cases s with
 |mk k a m n l hs' tm t e as b el=>
  simp only [SmR] at hs
  obtain ⟨ve,va,vb,vl,rfl,_⟩:=hs
  rfl
theorem xD {ev:Ev} {x:A} {z v:V} (hc:(ev x).aV=some [v]):fill [(0,1,x)] ev (rep 1 [z])=some [v]:=by
 show (Option.rec none (fun l=>bif (bO l).beq 1&&(Nat.add 0 1).ble (bO (rep 1 [z])) then some (fZ 0 l (rep 1 [z])) else none) (ev x).aV:Option (List V))=_
 rw [hc];rfl
theorem fill_agg {ev:Ev} {x:A} {n:Nat} {zero row:List V} (hx:ev x= .agg row) (hl:row.length=n) (hz:zero.length=n:=by rfl):fill [(0,n,x)] ev (rep 1 zero)=some [row].flatten:=by
 show (Option.rec none (fun l=>bif (bO l).beq n&&(Nat.add 0 n).ble (bO (rep 1 zero)) then some (fZ 0 l (rep 1 zero)) else none) (ev x).aV:Option (List V))=_
 rw [hx]
 have e1:rep 1 zero=zero:=by
  show bV zero []=zero
  rw [gN,List.append_nil]
 show (bif (bO row).beq n&&(Nat.add 0 n).ble (bO (rep 1 zero)) then some (fZ 0 row (rep 1 zero)) else none)=_
 have e2:(Nat.add 0 n).ble n=true:=by rw [dO];simp
 rw [e1,eG,eG,hl,hz,Nat.beq_refl,e2]
 show some (bV row (fH (bO row) zero))=_
 rw [gN,fM,eG,hl,←hz,List.drop_length];simp
theorem nE.len {h:Heap}:∀{as:List (List Nd)} {vs:List V},nE h as vs→vs.length=as.length
 |[],[],_=>rfl
 |_::_,_::_,ha=>by simp [ha.2.len]
 |[],_::_,ha=>ha.elim
 |_::_,[],ha=>ha.elim
namespace Par
def fin (s:Sm) (l:List Tok):R Sm:=match must [59] l with
 | .error e=> .error e
 | .ok (_,l')=> .ok (s,l')
def y5 (d:Nat):Nat→List Tok→List (List Nd)→R (List (List Nd))
 |0,_,_=> .error (0,0)
 |f+1,l,as=>if is [41] l=true then .ok (as,l.tail) else
   match as with
   |[]=>(match expr d l with
    | .error e=> .error e
    | .ok (e,l')=>y5 d f l' [e])
   |a::as=>(match must [44] l with
    | .error e=> .error e
    | .ok (_,l1)=>match expr d l1 with
      | .error e=> .error e
      | .ok (e,l')=>y5 d f l' ((a::as)++[e]))
structure Cl where
 has:Bool
 mod:List UInt8
 name:List UInt8
 tomod:List UInt8
 to:List UInt8
 args:List (List Nd)
def FV (d:Nat) (c:Cl) (l:List Tok):R Cl:=match must [40] l with
 | .error e=> .error e
 | .ok (_,l1)=>match y5 d l1.length l1 [] with
   | .error e=> .error e
   | .ok (as,l2)=> .ok ({c with args:=as},l2)
def call (d:Nat) (l:List Tok):R Cl:=match rQ l with
 | .error e=> .error e
 | .ok (q,l1)=>if is [61] l1=true then (match rQ l1.tail with
     | .error e=> .error e
     | .ok (r,l2)=>FV d ⟨true,q.1,q.2,r.1,r.2,[]⟩ l2)
   else FV d ⟨false,[],[],q.1,q.2,[]⟩ l1
abbrev Bk:=Nat→List Tok→R (List Sm)
def stIf (blk:Bk) (d a:Nat) (l:List Tok):R Sm:=match expr d l with
 | .error e=> .error e
 | .ok (e,l1)=>match blk d l1 with
   | .error e=> .error e
   | .ok (b,l2)=>if is [101,108,115,101] l2=true then (match blk d l2.tail with
       | .error e=> .error e
       | .ok (el,l3)=> .ok (.mk 5 a [] [] [] false [] [] e [] b el,l3))
     else .ok (.mk 5 a [] [] [] false [] [] e [] b [],l2)
def stWhile (blk:Bk) (d a:Nat) (l:List Tok):R Sm:=match expr d l with
 | .error e=> .error e
 | .ok (e,l1)=>match blk d l1 with
   | .error e=> .error e
   | .ok (b,l2)=> .ok (.mk 6 a [] [] [] false [] [] e [] b [],l2)
def stLet (d a:Nat) (l:List Tok):R Sm:=match name l with
 | .error e=> .error e
 | .ok (n,l1)=>match must [58] l1 with
   | .error e=> .error e
   | .ok (_,l2)=>match name l2 with
     | .error e=> .error e
     | .ok (lb,l3)=>match must [61] l3 with
       | .error e=> .error e
       | .ok (_,l4)=>match expr d l4 with
         | .error e=> .error e
         | .ok (e,l5)=>fin (.mk 1 a [] n lb false [] [] e [] [] []) l5
def Ki (d a:Nat) (l:List Tok):R Sm:=match must [61] l with
 | .error e=> .error e
 | .ok (_,l1)=>match expr d l1 with
   | .error e=> .error e
   | .ok (e,l2)=>fin (.mk 3 a [] [] [] false [] [] e [] [] []) l2
def stCall (d a:Nat) (l:List Tok):R Sm:=match call d l with
 | .error e=> .error e
 | .ok (c,l1)=>fin (.mk 4 a c.mod c.name [] c.has c.tomod c.to [] c.args [] []) l1
def stEmit (a:Nat) (l:List Tok):R Sm:=match name l with
 | .error e=> .error e
 | .ok (n,l1)=>fin (.mk 7 a [] n [] false [] [] [] [] [] []) l1
def stSkip (a:Nat) (l:List Tok):R Sm:=fin (.mk 8 a [] [] [] false [] [] [] [] [] []) l
def stSet (d a:Nat) (l:List Tok):R Sm:=match rQ l with
 | .error e=> .error e
 | .ok (q,l1)=>match must [61] l1 with
   | .error e=> .error e
   | .ok (_,l2)=>match expr d l2 with
     | .error e=> .error e
     | .ok (e,l3)=>fin (.mk 2 a q.1 q.2 [] false [] [] e [] [] []) l3
def stmtS (blk:Bk) (d:Nat) (l:List Tok):R Sm:=
 if is [105,102] l=true then stIf blk d (here l) l.tail else
 if is [119,104,105,108,101] l=true then stWhile blk d (here l) l.tail else
 if is [108,101,116] l=true then stLet d (here l) l.tail else
 if is [114,101,115,117,108,116] l=true then Ki d (here l) l.tail else
 if is [99,97,108,108] l=true then stCall d (here l) l.tail else
 if is [101,109,105,116] l=true then stEmit (here l) l.tail else
 if is [115,107,105,112] l=true then stSkip (here l) l.tail else stSet d (here l) l
def Kj (stm:Nat→List Tok→R Sm) (d:Nat):Nat→List Tok→List Sm→R (List Sm)
 |0,_,_=> .error (0,0)
 |f+1,l,ss=>if is [125] l=true then .ok (ss,l.tail) else match stm d l with
  | .error e=> .error e
  | .ok (s,l')=>Kj stm d f l' (ss++[s])
def Kk (stm:Nat→List Tok→R Sm):Bk:=fun d l=>if is [123] l=true then (if 40≤d then fail 12 l else Kj stm (d+1) l.tail.length l.tail []) else fail 11 l
def stmt:Nat→Nat→List Tok→R Sm
 |0=>fun _ _=> .error (0,0)
 |f+1=>stmtS (Kk (stmt f))
def block (d:Nat) (l:List Tok):R (List Sm):=Kk (stmt l.length) d l
def Goes {α:Type} (g:Nat→List Tok→R α) (N:Nat):Prop:=∀d l a l',l.length≤N→g d l= .ok (a,l')→l'.length<l.length
end Par
theorem Ch {d:Nat} {l l':List Tok} {ns:List Nd} (h:Par.expr d l= .ok (ns,l')):l'.length<l.length:=by
 unfold Par.expr at h
 have hg:∀f,Par.Good (Par.unary f) f:=by
  intro f
  induction f with
  |zero=>intro d l ns a ns' l' hl hr;cases hr
  |succ f ih=>exact Cg ih
 cases hu:Par.whole (Par.unary l.length) d l [] with
 |error e=>simp only [hu] at h;cases h
 |ok x=>
  obtain ⟨⟨a,ns1⟩,l1⟩:=x
  simp only [hu] at h;cases h
  have hw:Par.Good (Par.whole (Par.unary l.length)) l.length:=xC (hg _)
  exact (hw (Nat.le_refl _) hu).1
theorem tH {d:Nat}:∀{f:Nat} {l l':List Tok} {as bs:List (List Nd)},Par.y5 d f l as= .ok (bs,l')→l'.length<l.length
 |0,l,l',as,bs,h=>by cases h
 |f+1,l,l',as,bs,h=>by
  unfold Par.y5 at h
  by_cases hi:Par.is [41] l=true
  · rw [if_pos hi] at h;cases h
    have:=Par.tC hi
    have htl:l.tail.length=l.length - 1:=List.length_tail
    omega
  · rw [if_neg hi] at h
    cases as with
    |nil=>
     cases he:Par.expr d l with
     |error e=>simp only [he] at h;cases h
     |ok x=>
      obtain ⟨e,l1⟩:=x
      simp only [he] at h
      have h1:=Ch he
      have h2:=tH h
      omega
    |cons a as=>
     cases hm:Par.must [44] l with
     |error e=>simp only [hm] at h;cases h
     |ok x=>
      obtain ⟨q,l1⟩:=x
      simp only [hm] at h
      have h0:=Par.iY hm
      cases he:Par.expr d l1 with
      |error e=>simp only [he] at h;cases h
      |ok x=>
       obtain ⟨e,l2⟩:=x
       simp only [he] at h
       have h1:=Ch he
       have h2:=tH h
       omega
theorem za {d:Nat} {l l':List Tok} {c c':Par.Cl} (h:Par.FV d c l= .ok (c',l')):l'.length<l.length:=by
 unfold Par.FV at h
 cases hm:Par.must [40] l with
 |error e=>simp only [hm] at h;cases h
 |ok x=>
  obtain ⟨q,l1⟩:=x
  simp only [hm] at h
  have h0:=Par.iY hm
  cases ha:Par.y5 d l1.length l1 [] with
  |error e=>simp only [ha] at h;cases h
  |ok x=>
   obtain ⟨as,l2⟩:=x
   simp only [ha] at h;cases h
   have:=tH ha
   omega
theorem call_len {d:Nat} {l l':List Tok} {c:Par.Cl} (h:Par.call d l= .ok (c,l')):l'.length<l.length:=by
 unfold Par.call at h
 cases hq:Par.rQ l with
 |error e=>simp only [hq] at h;cases h
 |ok x=>
  obtain ⟨q,l1⟩:=x
  simp only [hq] at h
  have h0:=Par.tF hq
  by_cases hi:Par.is [61] l1=true
  · rw [if_pos hi] at h
    cases hr:Par.rQ l1.tail with
    |error e=>simp only [hr] at h;cases h
    |ok x=>
     obtain ⟨r,l2⟩:=x
     simp only [hr] at h
     have h1:=Par.tF hr
     have h2:=za h
     have htl:l1.tail.length=l1.length - 1:=List.length_tail
     omega
  · rw [if_neg hi] at h
    have:=za h
    omega
end
end Go.Eng
namespace Go.Eng
noncomputable section
theorem R8.gU {α:Type} {p:α→α→Bool} (hp:∀x,p x x=true) (s:R8 α):R8.same p s s=true:=by
 unfold R8.same
 simp [hp]
theorem Ag (x:Option (List V)):uX x x=true:=by
 cases x with
 |none=>rfl
 |some l=>exact V.iE l
theorem T.gU {t:T (List V)} (hy:t.y=none) (hz:t.z= .mt):T.same t t=true:=by
 unfold T.same
 rw [R8.gU (R8.gU (R8.gU Ag)),hy,hz];rfl
def Ie (b r n:Nat) (rows:List (List V)):Obj:= .cells r b 0 (Nat.mul n r) (aH r n 0 rows.flatten T.e)
theorem Ig {fs:List Fact} {h:Heap} (s:St fs h) (k:Nat) {b r n:Nat} {rows:List (List V)} (hk:fs[k]? =some (.obj b fun o=>o=Ie b r n rows)) (hy:(aH r n 0 rows.flatten (T.e:T (List V))).y=none) (hz:(aH r n 0 rows.flatten (T.e:T (List V))).z= .mt):
  still h (.nw b (Ie b r n rows))=true:=by
 obtain ⟨Z,s⟩:=s
 obtain ⟨⟨o,ho,rfl⟩,hn⟩:=s.all _ (List.mem_of_getElem? hk)
 show (match T.get b h.t,T.get b h.aJ with
  |some o,none=>Obj.same (Ie b r n rows) o
  |_,_=>false)=true
 rw [ho,hn]
 show (r.beq r&&(b.beq b&&((0:Nat).beq 0&&((Nat.mul n r).beq (Nat.mul n r)&&T.same _ _))))=true
 rw [T.gU hy hz]
 simp
theorem St.Ci {fs:List Fact} {h:Heap} (s:St fs h) (k:Nat) {b r n:Nat} {rows:List (List V)} (hk:fs[k]? =some (.obj b fun o=>o=Ie b r n rows)) (hr:0<r) (hn:rows.length=n) (hl:∀row∈rows,row.length=r):Rows r h (.sl b 0 n (some n)) rows:=by
 obtain ⟨Z,s⟩:=s
 obtain ⟨⟨o,ho,rfl⟩,_⟩:=s.all _ (List.mem_of_getElem? hk)
 exact o7 hr hn hl ho
section
variable {c:Ctx} {h:Heap} {fs:List Fact} {Q:QT} {l:List Opd} {vs:List V} {lg:List Log} {env:Env} {uo:List Nat}
theorem WD.bslO {r n:Nat} {zero:List V} {ps:List (Nat×Nat×A)} {rows:List (List V)} (st:St fs h) (hf:fill ps (fun a=>a.ev vs env) (rep n zero)=some rows.flatten) (hr:0<r)
  (K:∀b h1,St (.obj b (fun o=>o=Ie b r n rows)::fs) h1→WD c l Q (.sl b 0 n (some n)::vs) (.nw b (Ie b r n rows)::lg) env h1):WD c (⟨.p (.L (.bsl r n zero ps)),uo⟩::l) Q vs lg env h:=
 WD.new (L.bsl hf) (iK hr) (K _ _ (st.new _ rfl rfl fun hn _=>⟨⟨_,dG ..,rfl⟩,hn⟩))
end
end
end Go.Eng
