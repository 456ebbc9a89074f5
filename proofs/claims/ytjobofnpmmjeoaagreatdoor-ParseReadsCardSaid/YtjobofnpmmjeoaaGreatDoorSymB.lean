/- Part of a proof of a law: rules of an evaluator, contracts, plain laws. No condition of its own. -/
import Derived.Test.YtjobofnpmmjeoaaGreatDoorSymA
set_option linter.unusedVariables false
set_option linter.unusedSimpArgs false
namespace Go.Eng
noncomputable section
namespace Par
variable {α:Type} {S S1 S2 S3:SQ}
def fn (o:Option Opn) (a:R α) (g:Opn→R α):R α:=match o with
 |none=>a
 |some o=>g o
theorem RH (un:E) (ops:List Opn) (d:Nat) (l:List Tok) (ns:List Nd):bn (un d l ns) (fun x l'=>gQ un ops l'.length d l' x.1 x.2)=chain un ops d l ns:=by kernel_rfl
theorem Er (un:E) (ops:List Opn) (f d a:Nat) (l:List Tok) (ns:List Nd):gQ un ops (f+1) d l a ns=fn (find ops l) (.ok ((a,ns),l)) fun o=>bn (un d l.tail ns) fun x l'=>gQ un ops f d l' x.2.length (x.2++[⟨o.2,0,[],[],(a:Int),(x.1:Int),here l⟩]):=by kernel_rfl
theorem Ib (un:E) (d:Nat) (l:List Tok) (ns:List Nd):bn (sum un d l ns) (fun x l1=>fn (find jJ l1) (.ok (x,l1)) fun o=>bn (sum un d l1.tail x.2) fun y l'=> .ok ((y.2.length,y.2++[⟨o.2,0,[],[],(x.1:Int),(y.1:Int),here l1⟩]),l'))=whole un d l ns:=by kernel_rfl
theorem qP (un:E) (d:Nat) (l:List Tok) (ns:List Nd):gT un d l ns=fn (find iB l)
  (if is [40] l=true then (if 40≤d then fail 12 l else bn (whole un (d+1) l.tail ns) fun x l'=>bn (must [41] l') fun _ l'=> .ok (x,l'))
   else if (hd l).kind=2 then bn (number l) fun n l'=> .ok ((ns.length,ns++[⟨1,(n:Int),[],[], -1, -1,here l⟩]),l')
   else bn (gB l) fun q l'=> .ok ((ns.length,ns++[⟨2,0,q.1,q.2, -1, -1,here l⟩]),l'))
  fun o=>if 40≤d then fail 12 l else bn (un (d+1) l.tail ns) fun x l'=> .ok ((x.2.length,x.2++[⟨o.2,0,[],[],(x.1:Int), -1,here l⟩]),l'):=by kernel_rfl
theorem zf (l:List Tok):number l=bn (of 2 l) fun t l=> .ok (Go.Eng.num t.text,l):=by kernel_rfl
theorem Ie (l:List Tok):bn (name l) (fun a l=>if is [46] l=true then bn (name l.tail) (fun b l=> .ok ((a,b),l)) else .ok (([],a),l))=gB l:=by kernel_rfl
def nW (d:Nat) (s:List UInt8) (l:List Tok):R Unit:=if is s l=true then (if 40≤d then fail 12 l else .ok ((),l.tail)) else fail 11 l
theorem Res.eqv {f g:List Tok→R α} {x:α} (h:∀l,f l=g l) (r:Res S f x S1):Res S g x S1:=Res.cast (fun l _=>h l) r
theorem Res.one {F G:List Tok→R α} {l:List Tok} {x:α} (e:F l=G l) (r:Res (.ok l) G x S1):Res (.ok l) F x S1:=by
 unfold Res at r ⊢;simp only [e];exact r
theorem Es {un:E} {ops:List Opn} {d:Nat} {ns ns1:List Nd} {y:Nat×List Nd} (q:Res S (fun l=>un d l ns) (ns1.length - 1,ns1) S1) (r:Res S1 (fun l=>gQ un ops l.length d l (ns1.length - 1) ns1) y S2):Res S (fun l=>chain un ops d l ns) y S2:=
 Res.eqv (fun l=>RH un ops d l ns) (q.bn r)
theorem nL {un:E} {ops:List Opn} {o:Opn} {k d a b at_:Nat} {ai bi:Int} {l:List Tok} {ns ns1:List Nd} {y:Nat×List Nd} (hf:find ops l=some o) (hh:at_=here l) (ha:ai=(a:Int)) (q:Res (.ok l.tail) (fun l=>un d l ns) (b,ns1) S1) (hb:∀l,S1= .ok l→bi=(b:Int))
  (r:Res S1 (fun l=>gQ un ops k d l ((ns1++[(⟨o.2,0,[],[],ai,bi,at_⟩:Nd)]).length - 1) (ns1++[⟨o.2,0,[],[],ai,bi,at_⟩])) y S2):Res (.ok l) (fun l=>gQ un ops (k+1) d l a ns) y S2:=by
 subst hh;subst ha
 refine Res.one (G:=fun _=>bn (un d l.tail ns) fun x l'=>gQ un ops k d l' x.2.length (x.2++[⟨o.2,0,[],[],(a:Int),(x.1:Int),here l⟩])) (by show gQ un ops (k+1) d l a ns=_;rw [Er,hf];rfl) ?_
 exact (q.bn (g:=fun x l'=>gQ un ops k d l' x.2.length (x.2++[⟨o.2,0,[],[],(a:Int),(x.1:Int),here l⟩])) (r.cast fun l' e=>by rw [hb l' e];simp))
theorem zS {un:E} {ops:List Opn} {k d a:Nat} {l:List Tok} {ns:List Nd} (hf:find ops l=none):Res (.ok l) (fun l=>gQ un ops (k+1) d l a ns) (a,ns) (.ok l):=Res.qN (by rw [Er,hf];rfl)
theorem NS {un:E} {d:Nat} {ns ns1:List Nd} (q:Res S (fun l=>sum un d l ns) (ns1.length - 1,ns1) S1) (hf:∀l,S1= .ok l→find jJ l=none):Res S (fun l=>whole un d l ns) (ns1.length - 1,ns1) S1:=
 Res.eqv (fun l=>Ib un d l ns) (q.bn (Res.cast (fun l e=>by rw [hf l e];rfl) (Res.pure S1 (ns1.length - 1,ns1))))
theorem NT {un:E} {o:Opn} {d b at_:Nat} {ai bi:Int} {l:List Tok} {ns ns1 ns2:List Nd} (q:Res S (fun l=>sum un d l ns) (ns1.length - 1,ns1) (.ok l)) (hf:find jJ l=some o) (hh:at_=here l) (ha:ai=((ns1.length - 1:Nat):Int)) (r:Res (.ok l.tail) (fun l=>sum un d l ns1) (b,ns2) S2) (hb:∀l,S2= .ok l→bi=(b:Int)):
  Res S (fun l=>whole un d l ns) ((ns2++[(⟨o.2,0,[],[],ai,bi,at_⟩:Nd)]).length - 1,ns2++[⟨o.2,0,[],[],ai,bi,at_⟩]) S2:=by
 subst hh;subst ha
 refine Res.eqv (fun l=>Ib un d l ns) (q.bn ?_)
 refine Res.one (G:=fun _=>bn (sum un d l.tail ns1) fun y l'=> .ok ((y.2.length,y.2++[⟨o.2,0,[],[],((ns1.length - 1:Nat):Int),(y.1:Int),here l⟩]),l')) (by show fn (find jJ l) _ _=_;rw [hf];rfl) ?_
 refine r.bn (g:=fun y l'=> .ok ((y.2.length,y.2++[⟨o.2,0,[],[],((ns1.length - 1:Nat):Int),(y.1:Int),here l⟩]),l')) ?_
 exact Res.cast (fun l' e=>by rw [hb l' e];simp) (Res.pure S2 _)
theorem unary_neg {un:E} {o:Opn} {d b at_:Nat} {ai:Int} {l:List Tok} {ns ns1:List Nd} (hf:find iB l=some o) (hi:is o.1 l=true) (hh:at_=here l) (q:Res (.ok l) (nW d o.1) () S1) (r:Res S1 (fun l=>un (d+1) l ns) (b,ns1) S2) (hb:∀l,S2= .ok l→ai=(b:Int)):
  Res (.ok l) (fun l=>gT un d l ns) ((ns1++[(⟨o.2,0,[],[],ai, -1,at_⟩:Nd)]).length - 1,ns1++[⟨o.2,0,[],[],ai, -1,at_⟩]) S2:=by
 subst hh
 refine Res.one (G:=fun l0=>bn (nW d o.1 l0) fun _ l'=>bn (un (d+1) l' ns) fun x l'=> .ok ((x.2.length,x.2++[⟨o.2,0,[],[],(x.1:Int), -1,here l⟩]),l')) (by
  show gT un d l ns=_;rw [qP,hf];unfold nW fn;simp only [hi,if_true]
  by_cases h:40≤d
  · simp [h,fail,bn]
  · simp [h,bn]) ?_
 refine q.bn (r.bn (g:=fun x l'=> .ok ((x.2.length,x.2++[⟨o.2,0,[],[],(x.1:Int), -1,here l⟩]),l')) ?_)
 exact Res.cast (fun l' e=>by rw [hb l' e];simp) (Res.pure S2 _)
theorem NU {un:E} {d z:Nat} {l:List Tok} {ns ns1:List Nd} (hf:find iB l=none) (hi:is [40] l=true) (q:Res (.ok l) (nW d [40]) () S1) (r:Res S1 (fun l=>whole un (d+1) l ns) (ns1.length - 1,ns1) S2) (w:Res S2 (must [41]) z S3):
  Res (.ok l) (fun l=>gT un d l ns) (ns1.length - 1,ns1) S3:=by
 refine Res.one (G:=fun l0=>bn (nW d [40] l0) fun _ l'=>bn (whole un (d+1) l' ns) fun x l'=>bn (must [41] l') fun _ l'=> .ok (x,l')) (by
  show gT un d l ns=_;rw [qP,hf];unfold nW fn;simp only [hi,if_true]
  by_cases h:40≤d
  · simp [h,fail,bn]
  · simp [h,bn]) ?_
 exact q.bn (r.bn (w.bn (Res.pure S3 _)))
theorem NV {un:E} {d at_:Nat} {l:List Tok} {ns:List Nd} (hf:find iB l=none) (hi:is [40] l=false) (hk:(hd l).kind=2) (hh:at_=here l):
  Res (.ok l) (fun l=>gT un d l ns) ((ns++[(⟨1,(num (hd l).text:Int),[],[], -1, -1,at_⟩:Nd)]).length - 1,ns++[⟨1,(num (hd l).text:Int),[],[], -1, -1,at_⟩]) (.ok l.tail):=by
 subst hh
 refine Res.qN (by
  rw [qP,hf]
  show (if is [40] l=true then _ else if (hd l).kind=2 then _ else _)=_
  rw [if_neg (by rw [hi];decide),if_pos hk,zf]
  unfold of;rw [if_pos hk]
  simp [bn])
theorem NW {un:E} {d at_:Nat} {x:List UInt8×List UInt8} {l:List Tok} {ns:List Nd} (hf:find iB l=none) (hi:is [40] l=false) (hk:(hd l).kind≠2) (hh:at_=here l) (q:Res (.ok l) gB x S1):
  Res (.ok l) (fun l=>gT un d l ns) ((ns++[(⟨2,0,x.1,x.2, -1, -1,at_⟩:Nd)]).length - 1,ns++[⟨2,0,x.1,x.2, -1, -1,at_⟩]) S1:=by
 subst hh
 refine Res.one (G:=fun l0=>bn (gB l0) fun q l'=> .ok ((ns.length,ns++[⟨2,0,q.1,q.2, -1, -1,here l⟩]),l')) (by
  show gT un d l ns=_
  rw [qP,hf]
  show (if is [40] l=true then _ else if (hd l).kind=2 then _ else _)=_
  rw [if_neg (by rw [hi];decide),if_neg hk]) ?_
 exact q.bn (Res.cast (fun l' _=>by simp) (Res.pure S1 _))
theorem RI {un:E} {d:Nat} {x:Nat×List Nd} {l:List Tok} {ns:List Nd} (hf:find iB l=none) (hi:is [40] l=false) (hk:(hd l).kind≠2) (hn:(hd l).kind≠1):Res (.ok l) (fun l=>gT un d l ns) x (.error (11,here l)):=by
 refine Res.rZ (by
  rw [qP,hf]
  show (if is [40] l=true then _ else if (hd l).kind=2 then _ else _)=_
  rw [if_neg (by rw [hi];decide),if_neg hk]
  unfold gB name of;rw [if_neg hn];rfl)
theorem NY {a b:List UInt8} {l:List Tok} (q:Res S name a (.ok l)) (hi:is [46] l=true) (r:Res (.ok l.tail) name b S2):Res S gB (a,b) S2:=
 Res.eqv Ie (q.bn (Res.yes (S1:=S2) (l:=l) (A:=fun l=>bn (name l.tail) fun b l=> .ok ((a,b),l)) hi (Res.bn (S:= .ok l) (f:=fun l=>name l.tail) (g:=fun b l=> .ok ((a,b),l)) r (Res.pure S2 (a,b)))))
theorem RJ {a:List UInt8} (q:Res S name a S1) (hi:isS [46] S1=false):Res S gB ([],a) S1:=Res.eqv Ie (q.bn (Res.no hi (Res.pure S1 ([],a))))
theorem yw {d:Nat} {s:List UInt8} {l:List Tok} (hi:is s l=true) (hd:¬40≤d):Res (.ok l) (nW d s) () (.ok l.tail):=Res.qN (by unfold nW;rw [if_pos hi,if_neg hd])
theorem N7 {d:Nat} {s:List UInt8} {l:List Tok} (hi:is s l=true) (hd:40≤d):Res (.ok l) (nW d s) () (yh 12 (.ok l)):=Res.rZ (by unfold nW;rw [if_pos hi,if_pos hd];rfl)
theorem open_no {d:Nat} {s:List UInt8} (hi:isS s S=false):Res S (nW d s) () (yh 11 S):=by cases S with
 |error z=>rfl
 |ok l=>
  have hi:is s l=false:=hi
  exact Res.rZ (by unfold nW;rw [hi];rfl)
theorem Aq {s:List UInt8} {l:List Tok} (h:is s l=true):(hd l).text=s:=by simp [is] at h;exact h.1
theorem FI {s t:List UInt8} {l:List Tok} (h:is s l=true) (hn:s≠t):is t l=false:=by
 have:=Aq h
 unfold is;rw [this];simp [hn]
def jS:List (List UInt8):=[[61,61],[60],[60,61]]
theorem cmp_at {j:Nat} {y:List UInt8} (hy:jS[j]? =some y):(j=0∧y=[61,61])∨(j=1∧y=[60])∨(j=2∧y=[60,61]):=by
 unfold jS at hy
 match j,hy with
 |0,hy=>simp at hy;exact .inl ⟨rfl,hy.symm⟩
 |1,hy=>simp at hy;exact .inr (.inl ⟨rfl,hy.symm⟩)
 |2,hy=>simp at hy;exact .inr (.inr ⟨rfl,hy.symm⟩)
 |n+3,hy=>simp at hy
theorem RL {j:Nat} {y:List UInt8} {l:List Tok} (hy:jS[j]? =some y) (hi:is y l=true):find jJ l=some (y,10+j):=by
 rcases cmp_at hy with ⟨rfl,rfl⟩|⟨rfl,rfl⟩|⟨rfl,rfl⟩
 · simp [find,jJ,hi]
 · simp [find,jJ,hi,FI hi (t:=[61,61]) (by decide),FI hi (t:=[60,61]) (by decide)]
 · simp [find,jJ,hi,FI hi (t:=[61,61]) (by decide)]
theorem RO {S:SQ} {l:List Tok} (hS:S= .ok l) (hn:∀q y,jS[q]? =some y→q<3→isS y S=false):find jJ l=none:=by
 subst hS
 have h0:is [61,61] l=false:=hn 0 _ rfl (by omega)
 have h1:is [60] l=false:=hn 1 _ rfl (by omega)
 have h2:is [60,61] l=false:=hn 2 _ rfl (by omega)
 simp [find,jJ,h0,h1,h2]
end Par
def Et (p:RP) (d:Nat) (S:Par.SQ) (i e:Nat) (g:Par.E) (ns:List Nd) (fs:List Fact) (v:V) (h1:Heap):Prop:=∃(ns':List Nd) (S':Par.SQ) (i' e' a' k':Nat),Stp p S i (fun l=>g d l ns) (ns'.length - 1,ns') S' i' e' a'∧ns'.length+(i+min e 1)≤ns.length+(i'+min e' 1)∧(e'=0→1≤ns'.length)∧St (p.bD i' d e' a'::p.toks:: .acc k' 7 v (ns'.map Nd.row)::fs) h1
def qx (c:Ctx) (f N:Nat) (g:Par.E):Prop:=∀{fs:List Fact} {h:Heap} {p:RP} {i d e a:Nat} {S:Par.SQ} {ns:List Nd} {k:Nat} {v:V},St (p.bD i d e a::p.toks:: .acc k 7 v (ns.map Nd.row)::fs) h→XAt p i e a S→(e=0→p.ts.length≤i+N∧d≤40)→d≤41→ns.length≤i+min e 1→
 aV c f [.ptr p.rb 0,v] h (Et p d S i e g ns fs)
end
end Go.Eng
