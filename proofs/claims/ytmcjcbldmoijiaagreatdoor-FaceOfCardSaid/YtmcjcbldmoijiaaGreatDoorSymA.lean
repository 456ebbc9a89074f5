/- Part of a proof of a law: rules of an evaluator, contracts, plain laws. No condition of its own. -/
import Derived.Test.YtmcjcbldmoijiaaGreatDoorEngB
set_option linter.unusedVariables false
set_option linter.unusedSimpArgs false
namespace Go.Eng
noncomputable section
def iL (c:Ctx) (f:Nat) (as_:List V) (h:ag) (r:bg):Prop:=∃N,∀m,N≤m→∀R,N≤R→(dg c R m f as_ .none h).1=r
def ZI (c:Ctx) (e:C) (env:Env) (h:ag) (x:X) (env':Env) (aB:ag):Prop:=∃N,∀m,N≤m→∀R,N≤R→code e (dg c R m) R env h= .ok x env' aB
def ZJ (c:Ctx) (l:List dp) (vs:List V) (env:Env) (h:ag) (x:X) (env':Env) (aB:ag):Prop:=∃N,∀m,N≤m→∀R,N≤R→e9 l (dg c R m) vs env h= .ok x env' aB
def ZK (c:Ctx) (l:List eA) (vs:List V) (cp:List Log) (env:Env) (h:ag) (x:X) (env':Env) (aB:ag):Prop:=∃N,∀m,N≤m→∀R,N≤R→e3 l (dg c R m) vs cp env h= .ok x env' aB
abbrev jd:=X→Env→ag→Prop
def WP (c:Ctx) (e:C) (Q:jd) (env:Env) (h:ag):Prop:=∃x env' aB,ZI c e env h x env' aB∧Q x env' aB
def I (c:Ctx) (l:List dp) (Q:jd) (vs:List V) (env:Env) (h:ag):Prop:=∃x env' aB,ZJ c l vs env h x env' aB∧Q x env' aB
def ae (c:Ctx) (l:List eA) (Q:jd) (vs:List V) (cp:List Log) (env:Env) (h:ag):Prop:=∃x env' aB,ZK c l vs cp env h x env' aB∧Q x env' aB
def jd.seq (c:Ctx) (b:C) (Q:jd):jd:=fun x e h=>match x with
 | .nrm=>WP c b Q e h
 |x=>Q x e h
def jd.block (id:Nat) (Q:jd):jd:=fun x e h=>match x with
 | .exit i=>if i=id then Q .nrm e h else Q (.exit i) e h
 |x=>Q x e h
section
variable {c:Ctx} {Q:jd} {env:Env} {h:ag}
theorem WP.mono {e:C} {QG:jd} (w:WP c e Q env h) (bC:∀x e h,Q x e h→QG x e h):WP c e QG env h:=
 let ⟨x,bN,aB,ev,q⟩:=w;⟨x,bN,aB,ev,bC _ _ _ q⟩
theorem WP.skip (q:Q .nrm env h):WP c .skip Q env h:=⟨_,_,_,⟨0,fun _ _ _ _=>rfl⟩,q⟩
theorem WP.ret (q:Q .ret env h):WP c .ret Q env h:=⟨_,_,_,⟨0,fun _ _ _ _=>rfl⟩,q⟩
theorem WP.exit {id:Nat} (q:Q (.exit id) env h):WP c (.exit id) Q env h:=⟨_,_,_,⟨0,fun _ _ _ _=>rfl⟩,q⟩
theorem WP.seq {a b:C} (w:WP c a (Q.seq c b) env h):WP c (.seq a b) Q env h:=by
 obtain ⟨x,aT,h1,⟨N,ev⟩,q⟩:=w
 cases x with
 |nrm=>
  obtain ⟨b2,bu,h2,⟨yt,ZL⟩,dn⟩:=q
  refine ⟨b2,bu,h2,⟨max N yt,fun m hm R cA=> ?_⟩,dn⟩
  show (bn.rec (fun x env h=>X.rec (code b (dg c R m) R env h) (.ok .ret env h) (fun i=> .ok (.exit i) env h) (fun v=> .ok (.du v) env h) x) .bad (code a (dg c R m) R env h):bn)=_
  rw [ev m (by omega) R (by omega)]
  exact ZL m (by omega) R (by omega)
 |ret=>exact ⟨_,_,_,⟨N,fun m hm R cA=>by
   show (bn.rec (fun x env h=>X.rec (code b (dg c R m) R env h) (.ok .ret env h) (fun i=> .ok (.exit i) env h) (fun v=> .ok (.du v) env h) x) .bad (code a (dg c R m) R env h):bn)=_
   rw [ev m hm R cA]⟩,q⟩
 |exit i=>exact ⟨_,_,_,⟨N,fun m hm R cA=>by
   show (bn.rec (fun x env h=>X.rec (code b (dg c R m) R env h) (.ok .ret env h) (fun i=> .ok (.exit i) env h) (fun v=> .ok (.du v) env h) x) .bad (code a (dg c R m) R env h):bn)=_
   rw [ev m hm R cA]⟩,q⟩
 |du v=>exact ⟨_,_,_,⟨N,fun m hm R cA=>by
   show (bn.rec (fun x env h=>X.rec (code b (dg c R m) R env h) (.ok .ret env h) (fun i=> .ok (.exit i) env h) (fun v=> .ok (.du v) env h) x) .bad (code a (dg c R m) R env h):bn)=_
   rw [ev m hm R cA]⟩,q⟩
theorem WP.cond {x:A} {a b:C} {t:Bool} (hx:(x.ev [] env).asBool=some t) (w:WP c (if t then a else b) Q env h):WP c (.cond x a b) Q env h:=by
 obtain ⟨y,aT,h1,⟨N,ev⟩,q⟩:=w
 refine ⟨y,aT,h1,⟨N,fun m hm R cA=> ?_⟩,q⟩
 show (Option.rec .bad (fun t=>Bool.rec (code b (dg c R m) R env h) (code a (dg c R m) R env h) t) (x.ev [] env).asBool:bn)=_
 rw [hx]
 have:=ev m hm R cA
 cases t<;>exact this
theorem WP.block {id:Nat} {a:C} (w:WP c a (Q.block id) env h):WP c (.block id a) Q env h:=by
 obtain ⟨y,aT,h1,⟨N,ev⟩,q⟩:=w
 have key:∀m,N≤m→∀R,N≤R→code (.block id a) (dg c R m) R env h=(bn.rec (fun x env h=>X.rec (.ok .nrm env h) (.ok .ret env h) (fun i=> .ok (Bool.rec (.exit i) .nrm (i.beq id)) env h) (fun v=> .ok (.du v) env h) x) .bad (bn.ok y aT h1):bn):=fun m hm R cA=>by rw [←ev m hm R cA];rfl
 cases y with
 |nrm=>exact ⟨_,_,_,⟨N,key⟩,q⟩
 |ret=>exact ⟨_,_,_,⟨N,key⟩,q⟩
 |du v=>exact ⟨_,_,_,⟨N,key⟩,q⟩
 |exit i=>
  by_cases aq:i=id
  · subst aq
    have q:Q .nrm aT h1:=by have q:(if i=i then Q .nrm aT h1 else Q (.exit i) aT h1):=q;rwa [if_pos rfl] at q
    refine ⟨.nrm,aT,h1,⟨N,fun m hm R cA=> ?_⟩,q⟩
    rw [key m hm R cA]
    show bn.ok (Bool.rec (.exit i) .nrm (i.beq i)) aT h1=_
    rw [Nat.beq_refl]
  · have q:Q (.exit i) aT h1:=by have q:(if i=id then Q .nrm aT h1 else Q (.exit i) aT h1):=q;rwa [if_neg aq] at q
    refine ⟨.exit i,aT,h1,⟨N,fun m hm R cA=> ?_⟩,q⟩
    rw [key m hm R cA]
    show bn.ok (Bool.rec (.exit i) .nrm (i.beq id)) aT h1=_
    have:i.beq id=false:=by
     cases hb:i.beq id with
     |false=>rfl
     |true=>exact absurd (Nat.eq_of_beq_eq_true hb) aq
    rw [this]
theorem WP.aG {iH:Nat} {l:List dp} (w:I c l Q [] env h):WP c (.aG iH l) Q env h:=w
theorem WP.draw {pm:List Nat} {l:List eA} (w:ae c l Q [] [] env h):WP c (.draw pm l) Q env h:=w
theorem I.nil {vs:List V} (q:Q .nrm env h):I c [] Q vs env h:=⟨_,_,_,⟨0,fun _ _ _ _=>rfl⟩,q⟩
theorem I.val {o:h7} {l:List dp} {vs:List V} {v:V} (au:light o (fun a=>a.ev vs env) h= .val v) (w:I c l Q (v::vs) env h):I c (.p (.L o)::l) Q vs env h:=by
 obtain ⟨x,aT,h1,⟨N,ev⟩,q⟩:=w
 refine ⟨x,aT,h1,⟨N,fun m hm R cA=> ?_⟩,q⟩
 show ((light o (fun a=>a.ev vs env) h).k h fun v h=>e9 l (dg c R m) (v::vs) env h)=_
 rw [au]
 show v.force (fun v=>e9 l (dg c R m) (v::vs) env h)=_
 rw [V.force_eq];exact ev m hm R cA
theorem I.bX {i j:bx} {o:h7} {l:List dp} {vs:List V} {v:V} (au:light o (fun a=>a.ev vs env) h= .val v) (w:I c l Q (v::vs) (Env.set i j v env) h):I c (.s i j (.L o)::l) Q vs env h:=by
 obtain ⟨x,aT,h1,⟨N,ev⟩,q⟩:=w
 refine ⟨x,aT,h1,⟨N,fun m hm R cA=> ?_⟩,q⟩
 show ((light o (fun a=>a.ev vs env) h).k h fun v h=>Env.dF i j v (fun env=>e9 l (dg c R m) (v::vs) env h) env)=_
 rw [au]
 show v.force (fun v=>Env.dF i j v (fun env=>e9 l (dg c R m) (v::vs) env h) env)=_
 rw [V.force_eq,Env.iY];exact ev m hm R cA
theorem I.new {o:h7} {l:List dp} {vs:List V} {v:V} {aO:Obj} (au:light o (fun a=>a.ev vs env) h= .new aO v) (aC:fv aO=true) (w:I c l Q (v::vs) env (h.add aO)):I c (.p (.L o)::l) Q vs env h:=by
 obtain ⟨x,aT,h1,⟨N,ev⟩,q⟩:=w
 refine ⟨x,aT,h1,⟨N,fun m hm R cA=> ?_⟩,q⟩
 show ((light o (fun a=>a.ev vs env) h).k h fun v h=>e9 l (dg c R m) (v::vs) env h)=_
 rw [au]
 show (Bool.rec .bad (h.la aO fun h=>e9 l (dg c R m) (v::vs) env h) (fv aO):bn)=_
 rw [aC,oA];exact ev m hm R cA
theorem I.AP {i j:bx} {o:h7} {l:List dp} {vs:List V} {v:V} {aO:Obj} (au:light o (fun a=>a.ev vs env) h= .new aO v) (aC:fv aO=true) (w:I c l Q (v::vs) (Env.set i j v env) (h.add aO)):I c (.s i j (.L o)::l) Q vs env h:=by
 obtain ⟨x,aT,h1,⟨N,ev⟩,q⟩:=w
 refine ⟨x,aT,h1,⟨N,fun m hm R cA=> ?_⟩,q⟩
 show ((light o (fun a=>a.ev vs env) h).k h fun v h=>Env.dF i j v (fun env=>e9 l (dg c R m) (v::vs) env h) env)=_
 rw [au]
 show (Bool.rec .bad (h.la aO fun h=>Env.dF i j v (fun env=>e9 l (dg c R m) (v::vs) env h) env) (fv aO):bn)=_
 rw [aC,oA,Env.iY];exact ev m hm R cA
theorem I.act {o:oo} {l:List dp} {vs:List V} {v:V} {h2:ag} (au:∀call,hK o call (fun a=>a.ev vs env) h= .ok v h2) (w:I c l Q (v::vs) env h2):I c (.p (.H o)::l) Q vs env h:=by
 obtain ⟨x,aT,h1,⟨N,ev⟩,q⟩:=w
 refine ⟨x,aT,h1,⟨N,fun m hm R cA=> ?_⟩,q⟩
 show ((hK o (dg c R m) (fun a=>a.ev vs env) h).k env fun v h=>e9 l (dg c R m) (v::vs) env h)=_
 rw [au]
 show v.force (fun v=>e9 l (dg c R m) (v::vs) env h2)=_
 rw [V.force_eq];exact ev m hm R cA
theorem I.GY {i j:bx} {o:oo} {l:List dp} {vs:List V} {v:V} {h2:ag} (au:∀call,hK o call (fun a=>a.ev vs env) h= .ok v h2) (w:I c l Q (v::vs) (Env.set i j v env) h2):I c (.s i j (.H o)::l) Q vs env h:=by
 obtain ⟨x,aT,h1,⟨N,ev⟩,q⟩:=w
 refine ⟨x,aT,h1,⟨N,fun m hm R cA=> ?_⟩,q⟩
 show ((hK o (dg c R m) (fun a=>a.ev vs env) h).k env fun v h=>Env.dF i j v (fun env=>e9 l (dg c R m) (v::vs) env h) env)=_
 rw [au]
 show v.force (fun v=>Env.dF i j v (fun env=>e9 l (dg c R m) (v::vs) env h2) env)=_
 rw [V.force_eq,Env.iY];exact ev m hm R cA
theorem Lx (h:ag) (r:bg):se h r=r:=by cases r<;>rfl
theorem I.call {f:Nat} {as_:List A} {l:List dp} {vs:List V} {v:V} {h2:ag} (au:iL c f (h8 as_ fun a=>a.ev vs env) h (.ok v h2)) (w:I c l Q (v::vs) env h2):I c (.p (.H (.call f as_))::l) Q vs env h:=by
 obtain ⟨x,aT,h1,⟨N,ev⟩,q⟩:=w
 obtain ⟨yt,au⟩:=au
 refine ⟨x,aT,h1,⟨max N yt,fun m hm R cA=> ?_⟩,q⟩
 show ((se h (dg c R m f (h8 as_ fun a=>a.ev vs env) .none h).1).k env fun v h=>e9 l (dg c R m) (v::vs) env h)=_
 rw [Lx,au m (by omega) R (by omega)]
 show v.force (fun v=>e9 l (dg c R m) (v::vs) env h2)=_
 rw [V.force_eq];exact ev m (by omega) R (by omega)
theorem I.ZM {i j:bx} {f:Nat} {as_:List A} {l:List dp} {vs:List V} {v:V} {h2:ag} (au:iL c f (h8 as_ fun a=>a.ev vs env) h (.ok v h2)) (w:I c l Q (v::vs) (Env.set i j v env) h2):I c (.s i j (.H (.call f as_))::l) Q vs env h:=by
 obtain ⟨x,aT,h1,⟨N,ev⟩,q⟩:=w
 obtain ⟨yt,au⟩:=au
 refine ⟨x,aT,h1,⟨max N yt,fun m hm R cA=> ?_⟩,q⟩
 show ((se h (dg c R m f (h8 as_ fun a=>a.ev vs env) .none h).1).k env fun v h=>Env.dF i j v (fun env=>e9 l (dg c R m) (v::vs) env h) env)=_
 rw [Lx,au m (by omega) R (by omega)]
 show v.force (fun v=>Env.dF i j v (fun env=>e9 l (dg c R m) (v::vs) env h2) env)=_
 rw [V.force_eq,Env.iY];exact ev m (by omega) R (by omega)
theorem iL.dR {f:Nat} {F:ct} {as_:List V} {r:bg} (cj:T.get f c.cF=some F) (hn:as_.length=F.jq) (w:WP c F.body (fun x e aB=>match x with
  | .nrm=>∃vs,results e aB F.results=some vs∧r= .ok (one vs) aB
  | .ret=>∃vs,results e aB F.results=some vs∧r= .ok (one vs) aB
  | .du v=>r= .du v aB
  | .exit _=>False) (cM as_ 0 Env.nil) h):iL c f as_ h r:=by
 obtain ⟨x,aT,h1,⟨N,ev⟩,q⟩:=w
 refine ⟨N+1,fun m hm R cA=> ?_⟩
 obtain ⟨kk,rfl⟩:∃kk,m=kk+1:=⟨m - 1,by omega⟩
 show (Option.rec (c.xV (dg c R kk) f as_ h) (fun fn=>q5 fn R (dg c R kk) as_ h) (T.get f c.cF):bg)=r
 rw [cj]
 show q5 F R (dg c R kk) as_ h=r
 unfold q5
 have au:(cZ as_).beq F.jq=true:=by rw [me,hn];exact Nat.beq_refl _
 rw [au]
 show Cw F.results (args as_ 0 Env.nil fun env=>code F.body (dg c R kk) R env h)=r
 rw [GV,ev kk (by omega) R (by omega)]
 have fin:∀vs,results aT h1 F.results=some vs→finish F.results aT h1= .ok (one vs) h1:=fun vs aE=>by unfold finish;rw [aE]
 cases x with
 |nrm=>obtain ⟨vs,aE,hr⟩:=q;rw [hr];exact fin vs aE
 |ret=>obtain ⟨vs,aE,hr⟩:=q;rw [hr];exact fin vs aE
 |du v=>exact q.symm
 |exit i=>exact q.elim
end
end
end Go.Eng
namespace Go.Eng
noncomputable section
structure qn (h:ag):Prop where
 t:∀b,T.get b h.t≠none→b<h.next
 f:∀b,T.get b h.bJ≠none→b<h.next
 lim:8≤h.next
structure aiH (B:Nat) (h aB:ag):Prop where
 next:h.next≤aB.next
 t:∀b,b<B→T.get b aB.t=T.get b h.t
 f:∀b,b<B→T.get b aB.bJ=T.get b h.bJ
 wf:qn h→qn aB
theorem Dp (h:ag) (aO:Obj) (b:Nat):T.get b (h.add aO).t=if b=h.next then some aO else T.get b h.t:=
 T.fJ (Nat.zero_le _) (Nat.zero_le _) ..
theorem vn (h:ag) (aO:Obj):T.get h.next (h.add aO).t=some aO:=by rw [Dp,if_pos rfl]
theorem AQ {h:ag} {aO:Obj} {b:Nat} (hb:b<h.next):T.get b (h.add aO).t=T.get b h.t:=by rw [Dp,if_neg (by omega)]
inductive Acc (B r:Nat) (h:ag):V→List (List V)→Prop
 |nil:Acc B r h .U []
 |row {b f ap:Nat} {t:T (List V)} {rows:List (List V)} (gw:8≤b) (hn:0<rows.length) (hb:B≤b) (hf:B≤f) (Kb:f≤b) (dP:T.get b h.t=some (.cells r f ap (rows.length * r) t))
   (dh:∀i row,rows[i]? =some row→T.get i t=some row) (j6:∀F,T.get f h.bJ=some F→F.last≤ap+rows.length * r) (hlen:∀row∈rows,row.length=r):
   Acc B r h (.av b 0 rows.length none) rows
end
end Go.Eng
namespace Go.Eng
noncomputable section
inductive Rows (r:Nat) (h:ag):V→List (List V)→Prop
 |nil:Rows r h .U []
 |row {b o f ap bo:Nat} {cap:Option Nat} {t:T (List V)} {rows:List (List V)} (hr:0<r) (dP:T.get b h.t=some (.cells r f ap bo t)) (bq:o % r=0)
   (dh:∀i row,rows[i]? =some row→T.get (o / r+i) t=some row) (ec:o+rows.length * r≤bo) (hlen:∀row∈rows,row.length=r):Rows r h (.av b o rows.length cap) rows
theorem QH {r o i:Nat} (hr:0<r) (bq:o % r=0):(o+i * r) / r=o / r+i:=by
 rw [Nat.add_mul_div_right _ _ hr]
theorem ZN {r o i:Nat} (bq:o % r=0):(o+i * r) % r=0:=by rw [Nat.add_mul_mod_self_right];exact bq
theorem Rows.dd {r b o n i:Nat} {cap:Option Nat} {h:ag} {rows:List (List V)} {row:List V} (a:Rows r h (.av b o n cap) rows) (aq:rows[i]? =some row):h.load b (o+i * r) r=some row:=by
 cases a with
 |row hr dP bq dh ec hlen=>
  rename_i f ap bo t
  have hlt:i<rows.length:=(List.getElem?_eq_some_iff.1 aq).1
  have hle:(i+1) * r≤rows.length * r:=Nat.mul_le_mul_right r hlt
  unfold ag.load
  have h0:r.beq 0=false:=by
   cases hb:r.beq 0 with
   |false=>rfl
   |true=>have:=Nat.eq_of_beq_eq_true hb;omega
  rw [h0,cond_false,show h.obj b=_ from dP]
  show (bif (Nat.add (o+i * r) r).ble bo then cut r (o+i * r) r t else none)=_
  have h1:(Nat.add (o+i * r) r).ble bo=true:=by
   rw [fa]
   have:o+i * r+r≤bo:=Nat.le_trans (by rw [Nat.add_mul,Nat.one_mul] at hle;omega) ec
   simpa using this
  rw [h1,cond_true]
  unfold cut
  have h2:(r.beq r&&((o+i * r).mod r).beq 0)=true:=by
   have:(o+i * r).mod r=0:=ZN bq
   rw [this,Nat.beq_refl];rfl
  rw [h2,cond_true]
  have:(o+i * r).div r=o / r+i:=QH hr bq
  rw [this];exact dh i row aq
theorem Rows.eZ {b o n i:Nat} {cap:Option Nat} {h:ag} {rows:List (List V)} {x:V} (a:Rows 1 h (.av b o n cap) rows) (aq:rows[i]? =some [x]):h.eZ b (o+i * 1)=some x:=by
 cases a with
 |row hr dP bq dh ec hlen=>
  rename_i f ap bo t
  have hlt:i<rows.length:=(List.getElem?_eq_some_iff.1 aq).1
  unfold ag.eZ
  rw [show h.obj b=_ from dP]
  show (Bool.rec none (kH 1 (o+i * 1) t) ((o+i * 1).blt bo):Option V)=_
  have h1:(o+i * 1).blt bo=true:=by rw [gG];simp;omega
  rw [h1]
  show kH 1 (o+i * 1) t=_
  unfold kH
  have h2:(o+i * 1).div 1=o / 1+i:=QH (by omega) bq
  have bj:(o+i * 1).mod 1=0:=Nat.mod_one _
  rw [h2,bj,dh i [x] aq]
  rfl
theorem Rows.len {r:Nat} {h:ag} {v:V} {rows:List (List V)} (a:Rows r h v rows):(v= .U∧rows=[])∨∃b o cap,v= .av b o rows.length cap:=by
 cases a with
 |nil=>exact .inl ⟨rfl,rfl⟩
 |row=>exact .inr ⟨_,_,_,rfl⟩
end
end Go.Eng
namespace Go.Eng
noncomputable section
mutual
theorem V.Ly:∀v:V,V.same v v=true
 | .bot=>rfl
 | .bool b=>by simp [V.same]
 | .int k n=>by simp [V.same]
 | .str n x=>by
   show (Bool.rec false (x.beq x) (n.beq n):Bool)=true
   rw [Nat.beq_refl n];exact Nat.beq_refl x
 | .oj=>rfl
 | .ptr a o=>by show (a.beq a&&o.beq o)=true;rw [Nat.beq_refl,Nat.beq_refl];rfl
 | .U=>rfl
 | .av a o n c=>by show (a.beq a&&(o.beq o&&(n.beq n&&c==c)))=true;rw [Nat.beq_refl,Nat.beq_refl,Nat.beq_refl];simp
 | .k9=>rfl
 | .map a=>Nat.beq_refl a
 | .fn f a b=>by show (f.beq f&&(V.q4 a a&&V.q4 b b))=true;rw [Nat.beq_refl,V.AR a,V.AR b];rfl
 | .om=>rfl
 | .e8 t v=>by show (t.beq t&&V.same v v)=true;rw [Nat.beq_refl,V.Ly v];rfl
 | .kj=>rfl
 | .agg a=>V.AR a
 | .dD a=>V.AR a
theorem V.AR:∀l:List V,V.q4 l l=true
 |[]=>rfl
 |a::l=>by show (V.same a a&&V.q4 l l)=true;rw [V.Ly a,V.AR l];rfl
end
theorem ju {h:ag} {f:ag→bM} {v:V} (he:f h= .val v):still h (.rd f v)=true:=by
 show Cv f v h=true
 unfold Cv;rw [he];exact V.Ly v
theorem lp (h:ag) (cp:List Log):kJ [] h cp=true:=rfl
theorem h3 {d:Nat} {cK:List Nat} {h:ag} {cp:List Log} (h1:still h (logAt cp d)=true) (h2:kJ cK h cp=true):kJ (d::cK) h cp=true:=by
 show (Bool.rec false (kJ cK h cp) (still h (logAt cp d)):Bool)=true
 rw [h1];exact h2
section
variable {c:Ctx} {Q:jd} {env:Env} {h:ag}
theorem ae.nil {vs:List V} {cp:List Log} (q:Q .nrm env h):ae c [] Q vs cp env h:=⟨_,_,_,⟨0,fun _ _ _ _=>rfl⟩,q⟩
theorem ae.val {o:h7} {cK:List Nat} {l:List eA} {vs:List V} {cp:List Log} {v:V} (au:light o (fun a=>a.ev vs env) h= .val v) (w:ae c l Q (v::vs) (.rd (light o (fun a=>a.ev vs env)) v::cp) env h):ae c (⟨.p (.L o),cK⟩::l) Q vs cp env h:=by
 obtain ⟨x,aT,h1,⟨N,ev⟩,q⟩:=w
 refine ⟨x,aT,h1,⟨N,fun m hm R cA=> ?_⟩,q⟩
 show ((light o (fun a=>a.ev vs env) h).kd (light o (fun a=>a.ev vs env)) h fun aP v h=>e3 l (dg c R m) (v::vs) (aP::cp) env h)=_
 rw [au]
 show v.force (fun v=>e3 l (dg c R m) (v::vs) (.rd (light o (fun a=>a.ev vs env)) v::cp) env h)=_
 rw [V.force_eq];exact ev m hm R cA
theorem ae.bX {i j:bx} {o:h7} {cK:List Nat} {l:List eA} {vs:List V} {cp:List Log} {v:V} (au:light o (fun a=>a.ev vs env) h= .val v) (w:ae c l Q (v::vs) (.rd (light o (fun a=>a.ev vs env)) v::cp) (Env.set i j v env) h):ae c (⟨.s i j (.L o),cK⟩::l) Q vs cp env h:=by
 obtain ⟨x,aT,h1,⟨N,ev⟩,q⟩:=w
 refine ⟨x,aT,h1,⟨N,fun m hm R cA=> ?_⟩,q⟩
 show ((light o (fun a=>a.ev vs env) h).kd (light o (fun a=>a.ev vs env)) h fun aP v h=>Env.dF i j v (fun env=>e3 l (dg c R m) (v::vs) (aP::cp) env h) env)=_
 rw [au]
 show v.force (fun v=>Env.dF i j v (fun env=>e3 l (dg c R m) (v::vs) (.rd (light o (fun a=>a.ev vs _)) v::cp) env h) env)=_
 rw [V.force_eq,Env.iY];exact ev m hm R cA
theorem ae.new {o:h7} {cK:List Nat} {l:List eA} {vs:List V} {cp:List Log} {v:V} {aO:Obj} (au:light o (fun a=>a.ev vs env) h= .new aO v) (aC:fv aO=true) (w:ae c l Q (v::vs) (.lP h.next aO::cp) env (h.add aO)):ae c (⟨.p (.L o),cK⟩::l) Q vs cp env h:=by
 obtain ⟨x,aT,h1,⟨N,ev⟩,q⟩:=w
 refine ⟨x,aT,h1,⟨N,fun m hm R cA=> ?_⟩,q⟩
 show ((light o (fun a=>a.ev vs env) h).kd (light o (fun a=>a.ev vs env)) h fun aP v h=>e3 l (dg c R m) (v::vs) (aP::cp) env h)=_
 rw [au]
 show force h.next (fun id=>xT (fun v h=>e3 l (dg c R m) (v::vs) (.lP id aO::cp) env h) h aO v)=_
 rw [force_eq]
 show (Bool.rec .bad (h.la aO fun aB=>e3 l (dg c R m) (v::vs) (.lP h.next aO::cp) env aB) (fv aO):bn)=_
 rw [aC,oA];exact ev m hm R cA
theorem ae.AP {i j:bx} {o:h7} {cK:List Nat} {l:List eA} {vs:List V} {cp:List Log} {v:V} {aO:Obj} (au:light o (fun a=>a.ev vs env) h= .new aO v) (aC:fv aO=true) (w:ae c l Q (v::vs) (.lP h.next aO::cp) (Env.set i j v env) (h.add aO)):ae c (⟨.s i j (.L o),cK⟩::l) Q vs cp env h:=by
 obtain ⟨x,aT,h1,⟨N,ev⟩,q⟩:=w
 refine ⟨x,aT,h1,⟨N,fun m hm R cA=> ?_⟩,q⟩
 show ((light o (fun a=>a.ev vs env) h).kd (light o (fun a=>a.ev vs env)) h fun aP v h=>Env.dF i j v (fun env=>e3 l (dg c R m) (v::vs) (aP::cp) env h) env)=_
 rw [au]
 show force h.next (fun id=>xT (fun v h=>Env.dF i j v (fun env=>e3 l (dg c R m) (v::vs) (.lP id aO::cp) env h) env) h aO v)=_
 rw [force_eq]
 show (Bool.rec .bad (h.la aO fun aB=>Env.dF i j v (fun env=>e3 l (dg c R m) (v::vs) (.lP h.next aO::cp) env aB) env) (fv aO):bn)=_
 rw [aC,oA,Env.iY];exact ev m hm R cA
theorem ae.act {o:oo} {cK:List Nat} {l:List eA} {vs:List V} {cp:List Log} {v:V} {h2:ag} (au:∀call,hK o call (fun a=>a.ev vs env) h= .ok v h2) (aC:kJ cK h2 cp=true) (w:ae c l Q (v::vs) (.no::cp) env h2):ae c (⟨.p (.H o),cK⟩::l) Q vs cp env h:=by
 obtain ⟨x,aT,h1,⟨N,ev⟩,q⟩:=w
 refine ⟨x,aT,h1,⟨N,fun m hm R cA=> ?_⟩,q⟩
 show ((hK o (dg c R m) (fun a=>a.ev vs env) h).k env fun v aB=>Bool.rec .bad (e3 l (dg c R m) (v::vs) (.no::cp) env aB) (kJ cK aB cp))=_
 rw [au]
 show v.force (fun v=>(Bool.rec .bad (e3 l (dg c R m) (v::vs) (.no::cp) env h2) (kJ cK h2 cp):bn))=_
 rw [V.force_eq,aC];exact ev m hm R cA
theorem ae.call {f:Nat} {as_:List A} {cK:List Nat} {l:List eA} {vs:List V} {cp:List Log} {v:V} {h2:ag} (au:iL c f (h8 as_ fun a=>a.ev vs env) h (.ok v h2)) (aC:kJ cK h2 cp=true) (w:ae c l Q (v::vs) (.no::cp) env h2):ae c (⟨.p (.H (.call f as_)),cK⟩::l) Q vs cp env h:=by
 obtain ⟨x,aT,h1,⟨N,ev⟩,q⟩:=w
 obtain ⟨yt,au⟩:=au
 refine ⟨x,aT,h1,⟨max N yt,fun m hm R cA=> ?_⟩,q⟩
 show ((se h (dg c R m f (h8 as_ fun a=>a.ev vs env) .none h).1).k env fun v aB=>Bool.rec .bad (e3 l (dg c R m) (v::vs) (.no::cp) env aB) (kJ cK aB cp))=_
 rw [Lx,au m (by omega) R (by omega)]
 show v.force (fun v=>(Bool.rec .bad (e3 l (dg c R m) (v::vs) (.no::cp) env h2) (kJ cK h2 cp):bn))=_
 rw [V.force_eq,aC];exact ev m (by omega) R (by omega)
theorem I.yes {g:A} {b:Bool} {op:Op} {l:List dp} {vs:List V} (hg:(g.ev vs env).dy b=some true) (w:I c (.p op::l) Q vs env h):I c (.g g b op::l) Q vs env h:=by
 obtain ⟨x,aT,h1,⟨N,ev⟩,q⟩:=w
 refine ⟨x,aT,h1,⟨N,fun m hm R cA=> ?_⟩,q⟩
 show (Option.rec .bad (fun c1=>Bool.rec (e9 l (dg c R m) (un::vs) env h) (uX op (e9 l) (dg c R m) vs env h) c1) ((g.ev vs env).dy b):bn)=_
 rw [hg];exact ev m hm R cA
theorem I.no {g:A} {b:Bool} {op:Op} {l:List dp} {vs:List V} (hg:(g.ev vs env).dy b=some false) (w:I c l Q (un::vs) env h):I c (.g g b op::l) Q vs env h:=by
 obtain ⟨x,aT,h1,⟨N,ev⟩,q⟩:=w
 refine ⟨x,aT,h1,⟨N,fun m hm R cA=> ?_⟩,q⟩
 show (Option.rec .bad (fun c1=>Bool.rec (e9 l (dg c R m) (un::vs) env h) (uX op (e9 l) (dg c R m) vs env h) c1) ((g.ev vs env).dy b):bn)=_
 rw [hg];exact ev m hm R cA
end
end
end Go.Eng
namespace Go.Eng
noncomputable section
structure Fr (M F:List Nat) (h aB:ag):Prop where
 next:h.next≤aB.next
 t:∀b,b<h.next→b∉M→T.get b aB.t=T.get b h.t
 f:∀b,b<h.next→b∉F→T.get b aB.bJ=T.get b h.bJ
 wf:qn h→qn aB
theorem Fr.add (h:ag) (aO:Obj):Fr [] [] h (h.add aO):=by
 refine ⟨Nat.le_succ _,fun b hb _=>AQ (by omega),fun _ _ _=>rfl,fun w=>⟨fun b hb=> ?_,fun b hb=>Nat.lt_succ_of_lt (w.f b hb),Nat.le_succ_of_le w.lim⟩⟩
 rw [Dp] at hb
 by_cases e:b=h.next
 · show b<h.next+1;omega
 · rw [if_neg e] at hb;exact Nat.lt_succ_of_lt (w.t b hb)
def ag.put (h:ag) (b:Nat) (o:Obj):ag:=⟨T.set b o h.t,h.next,h.bJ,h.ds,h.bI⟩
theorem QI (h:ag) (b:Nat) (o:Obj) (k:Nat):T.get k (h.put b o).t=if k=b then some o else T.get k h.t:=T.fJ (Nat.zero_le _) (Nat.zero_le _) ..
theorem QK (h:ag) (b:Nat) (o:Obj):T.get b (h.put b o).t=some o:=by rw [QI,if_pos rfl]
theorem QL {R:Type} (h:ag) (b:Nat) (o:Obj) (k:ag→R):h.kG b o k=k (h.put b o):=by
 show T.dF b o h.t (fun t=>k ⟨t,h.next,h.bJ,h.ds,h.bI⟩)=_
 rw [T.iY];rfl
theorem qn.lt {h:ag} (w:qn h) {b:Nat} {o:Obj} (hb:T.get b h.t=some o):b<h.next:=w.t b (by rw [hb];simp)
end
end Go.Eng
namespace Go.Eng
noncomputable section
namespace L
variable {ev:dM} {h:ag} {x y:A}
def tQ (n:Int):Prop:= -9223372036854775808≤n∧n<9223372036854775808
theorem wrap64 {n:Int} (hn:tQ n):IntKind.wrap .i64 n=n:=by
 obtain ⟨h1,h2⟩:=hn
 have e:IntKind.wrap .i64 n=if (n % 18446744073709551616≥9223372036854775808) then n % 18446744073709551616 - 18446744073709551616 else n % 18446744073709551616:=by
  unfold IntKind.wrap
  simp [IntKind.bits,IntKind.signed]
 rw [e]
 split<;>omega
theorem add {a b:Int} (hx:ev x= .int .i64 a) (hy:ev y= .int .i64 b) (hn:tQ (a+b)):light (.bin .add x y) ev h= .val (.int .i64 (a+b)):=by
 show (ev x).iy (fun k a=>(ev y).iy fun j b=>sd .add k a j b)=_
 rw [hx,hy]
 show bM.of (some (kI .i64 (FL a b)))=_
 rw [tu,WA,wrap64 hn];rfl
theorem sub {a b:Int} (hx:ev x= .int .i64 a) (hy:ev y= .int .i64 b) (hn:tQ (a - b)):light (.bin .sub x y) ev h= .val (.int .i64 (a - b)):=by
 show (ev x).iy (fun k a=>(ev y).iy fun j b=>sd .sub k a j b)=_
 rw [hx,hy]
 show bM.of (some (kI .i64 (Cs a b)))=_
 rw [tu,OE,wrap64 hn];rfl
theorem mul {a b:Int} (hx:ev x= .int .i64 a) (hy:ev y= .int .i64 b) (hn:tQ (a * b)):light (.bin .mul x y) ev h= .val (.int .i64 (a * b)):=by
 show (ev x).iy (fun k a=>(ev y).iy fun j b=>sd .mul k a j b)=_
 rw [hx,hy]
 show bM.of (some (kI .i64 (zX a b)))=_
 rw [tu,OD,wrap64 hn];rfl
theorem QM {a b n:Int} (hx:ev x= .int .i64 a) (hy:ev y= .int .i64 b) (ax:a+b=n) (hn:tQ n):light (.bin .add x y) ev h= .val (.int .i64 n):=by subst ax;exact add hx hy hn
theorem iB {a b n:Int} (hx:ev x= .int .i64 a) (hy:ev y= .int .i64 b) (ax:a - b=n) (hn:tQ n):light (.bin .sub x y) ev h= .val (.int .i64 n):=by subst ax;exact sub hx hy hn
theorem ZO {a b n:Int} (hx:ev x= .int .i64 a) (hy:ev y= .int .i64 b) (ax:a * b=n) (hn:tQ n):light (.bin .mul x y) ev h= .val (.int .i64 n):=by subst ax;exact mul hx hy hn
theorem lss {k:IntKind} {a b:Int} (hx:ev x= .int k a) (hy:ev y= .int k b):light (.bin .lss x y) ev h= .val (.bool (decide (a<b))):=by
 show (ev x).iy (fun k a=>(ev y).iy fun j b=>sd .lss k a j b)=_
 rw [hx,hy]
 show (Bool.rec .bad (.of (wg .lss k a b)) (ot k k):bM)=_
 rw [xX,decide_eq_true rfl]
 show bM.val (.bool (mO a b))=_
 rw [Ad]
theorem leq {k:IntKind} {a b:Int} (hx:ev x= .int k a) (hy:ev y= .int k b):light (.bin .leq x y) ev h= .val (.bool (decide (a≤b))):=by
 show (ev x).iy (fun k a=>(ev y).iy fun j b=>sd .leq k a j b)=_
 rw [hx,hy]
 show (Bool.rec .bad (.of (wg .leq k a b)) (ot k k):bM)=_
 rw [xX,decide_eq_true rfl]
 show bM.val (.bool (oq (mO b a)))=_
 rw [Ad,uZ];congr 2;rw [Bool.eq_iff_iff];simp
theorem gtr {k:IntKind} {a b:Int} (hx:ev x= .int k a) (hy:ev y= .int k b):light (.bin .gtr x y) ev h= .val (.bool (decide (b<a))):=by
 show (ev x).iy (fun k a=>(ev y).iy fun j b=>sd .gtr k a j b)=_
 rw [hx,hy]
 show (Bool.rec .bad (.of (wg .gtr k a b)) (ot k k):bM)=_
 rw [xX,decide_eq_true rfl]
 show bM.val (.bool (mO b a))=_
 rw [Ad]
theorem geq {k:IntKind} {a b:Int} (hx:ev x= .int k a) (hy:ev y= .int k b):light (.bin .geq x y) ev h= .val (.bool (decide (b≤a))):=by
 show (ev x).iy (fun k a=>(ev y).iy fun j b=>sd .geq k a j b)=_
 rw [hx,hy]
 show (Bool.rec .bad (.of (wg .geq k a b)) (ot k k):bM)=_
 rw [xX,decide_eq_true rfl]
 show bM.val (.bool (oq (mO a b)))=_
 rw [Ad,uZ];congr 2;rw [Bool.eq_iff_iff];simp
theorem eql {k:IntKind} {a b:Int} (hx:ev x= .int k a) (hy:ev y= .int k b):light (.bin .eql x y) ev h= .val (.bool (decide (a=b))):=by
 show (ev x).iy (fun k a=>(ev y).iy fun j b=>sd .eql k a j b)=_
 rw [hx,hy]
 show (Bool.rec .bad (.of (wg .eql k a b)) (ot k k):bM)=_
 rw [xX,decide_eq_true rfl]
 show bM.val (.bool (o3 a b))=_
 rw [Ac]
theorem neq {k:IntKind} {a b:Int} (hx:ev x= .int k a) (hy:ev y= .int k b):light (.bin .neq x y) ev h= .val (.bool (decide (a≠b))):=by
 show (ev x).iy (fun k a=>(ev y).iy fun j b=>sd .neq k a j b)=_
 rw [hx,hy]
 show (Bool.rec .bad (.of (wg .neq k a b)) (ot k k):bM)=_
 rw [xX,decide_eq_true rfl]
 show bM.val (.bool (oq (o3 a b)))=_
 rw [Ac,uZ];congr 2;rw [Bool.eq_iff_iff];simp
def str (l:List UInt8):V:= .str l.length (enc l)
theorem seq {l m:List UInt8} (hx:ev x=str l) (hy:ev y=str m):light (.fu .eql x y) ev h= .val (.bool (decide (l=m))):=by
 show (ev x).mR (fun n a=>(ev y).mR fun m b=> .of (Cu .eql n a m b))=_
 rw [hx,hy]
 show bM.val (.bool (mQ l.length (enc l) m.length (enc m)))=_
 congr 2
 have e:∀l m:List UInt8,mQ l.length (enc l) m.length (enc m)=decide (l=m):=by
  intro l m
  have:=Gg (s:=⟨⟨l⟩⟩) (t:=⟨⟨m⟩⟩) (n:=l.length) (x:=enc l) (m:=m.length) (y:=enc m) ⟨rfl,rfl⟩ ⟨rfl,rfl⟩
  rw [this];congr 1
  rw [eq_iff_iff]
  constructor
  · intro h;cases h;rfl
  · intro h;rw [h]
 exact e l m
theorem wS {l m:List UInt8} (hx:ev x=str l) (hy:ev y=str m):light (.fu .neq x y) ev h= .val (.bool (decide (l≠m))):=by
 have h1:=seq (h:=h) hx hy
 have aT:light (.fu .eql x y) ev h=(ev x).mR (fun n a=>(ev y).mR fun m b=> .of (Cu .eql n a m b)):=rfl
 rw [aT,hx,hy] at h1
 show (ev x).mR (fun n a=>(ev y).mR fun m b=> .of (Cu .neq n a m b))=_
 rw [hx,hy]
 show bM.val (.bool (oq (mQ l.length (enc l) m.length (enc m))))=_
 have h1:bM.val (.bool (mQ l.length (enc l) m.length (enc m)))= .val (.bool (decide (l=m))):=h1
 have h2:mQ l.length (enc l) m.length (enc m)=decide (l=m):=by simpa using h1
 rw [h2,uZ];congr 2;simp
theorem qo {l:List UInt8} (hx:ev x=str l):light (.len true x) ev h= .val (.int .i64 (l.length:Int)):=by
 show (ev x).mR (fun n _=> .val (iX .i64 n))=_
 rw [hx]
 show bM.val (iX .i64 l.length)=_
 rw [uY];rfl
theorem AU (hx:ev x= .U):light (.len false x) ev h= .val (.int .i64 ((0:Nat):Int)):=by
 show (ev x).FM (fun n=> .val (iX .i64 n))=_
 rw [hx];rfl
theorem qp {b o n:Nat} {cap:Option Nat} (hx:ev x= .av b o n cap):light (.len false x) ev h= .val (.int .i64 (n:Int)):=by
 show (ev x).FM (fun n=> .val (iX .i64 n))=_
 rw [hx]
 show bM.val (iX .i64 n)=_
 rw [uY];rfl
theorem rA {l:List UInt8} {i:Nat} {b:UInt8} (hx:ev x=str l) (hy:ev y= .int .i64 (i:Int)) (aq:l[i]? =some b):light (.lM x y) ev h= .val (.int .u8 (b.toNat:Int)):=by
 show (ev x).mR (fun n a=>(ev y).zY fun j=>Bool.rec .bad (.val (iX .u8 (Co a j))) (j.blt n))=_
 rw [hx,hy]
 show (Bool.rec .bad (.val (iX .u8 (Co (enc l) i))) (i.blt l.length):bM)=_
 have hlt:i<l.length:=(List.getElem?_eq_some_iff.1 aq).1
 rw [gG,decide_eq_true hlt]
 show bM.val (iX .u8 (Co (enc l) i))=_
 rw [uY]
 congr 3
 show (enc l >>> (8 * i)) % 256=b.toNat
 rw [Nat.shiftRight_eq_div_pow,CP,Kj]
 obtain ⟨_,rfl⟩:=List.getElem?_eq_some_iff.1 aq
 rw [List.drop_eq_getElem_cons hlt]
 simp only [enc]
 have:=(l[i]).toNat_lt
 omega
theorem CQ (n x:Nat):sc n x= .str n x:=by unfold sc;simp
theorem ZP {l:List UInt8} {bH aq:Option A} {i j:Nat} (hx:ev x=str l) (aV:ek aq ev l.length=some j) (nJ:ek bH ev 0=some i) (vo:i≤j) (nH:j≤l.length):light (.o2 x bH aq) ev h= .val (str ((l.drop i).take (j - i))):=by
 show (ev x).mR (fun n a=>JM n a (ek aq ev n) (ek bH ev 0))=_
 rw [hx]
 show JM l.length (enc l) (ek aq ev l.length) (ek bH ev 0)=_
 rw [aV,nJ]
 show (Bool.rec .bad (.val (sc (Nat.sub j i) (FJ (enc l) i (Nat.sub j i)))) (i.ble j&&j.ble l.length):bM)=_
 rw [fa,fa,decide_eq_true vo,decide_eq_true nH]
 show bM.val (sc (j - i) (FJ (enc l) i (j - i)))=_
 rw [CQ,O5]
 have:((l.drop i).take (j - i)).length=j - i:=by simp;omega
 unfold str;rw [this]
theorem load {b o:Nat} {v:V} (hx:ev x= .ptr b o) (au:h.eZ b o=some v):light (.load x) ev h= .val v:=by
 show (ev x).qZ (fun b o=> .of (h.eZ b o))=_
 rw [hx]
 show bM.of (h.eZ b o)=_
 rw [au];rfl
theorem GZ {α R:Type} (l:List α) (k:List α→R):hU l k=k l:=by
 have:∀(l:List α) (k:List α→R),hU l k=k l:=by
  intro l
  induction l with
  |nil=>intro k;rfl
  |cons a l bt=>intro k;exact bt _
 exact this l k
theorem dd {b o n:Nat} {l:List V} (hx:ev x= .ptr b o) (au:h.load b o n=some l):light (.dd n x) ev h= .val (.agg l):=by
 show (ev x).qZ (fun b o=>Option.rec .bad (fun l=>hU l fun l=> .val (.agg l)) (h.load b o n))=_
 rw [hx]
 show (Option.rec .bad (fun l=>hU l fun l=> .val (.agg l)) (h.load b o n):bM)=_
 rw [au];exact GZ l _
theorem ZQ {b o:Nat} {row:List V} {v:V} (hb:T.get b h.t=some (.box row)) (hr:aX (ix o row)=some v):h.eZ b o=some v:=by
 unfold ag.eZ;rw [show h.obj b=_ from hb];exact hr
theorem e6 {b o n:Nat} {row l:List V} (hb:T.get b h.t=some (.box row)) (hn:n.beq 0=false) (bq:(Nat.add o n).ble (cZ row)=true) (hr:nC n (ix o row)=l):h.load b o n=some l:=by
 unfold ag.load;rw [hn,show h.obj b=_ from hb]
 show (bif (Nat.add o n).ble (cZ row) then some (nC n (ix o row)) else none)=_
 rw [bq,hr];rfl
theorem iM {b o:Nat} {row:List V} {v:V} (hx:ev x= .ptr b o) (hb:T.get b h.t=some (.box row)) (hr:aX (ix o row)=some v):light (.load x) ev h= .val v:=load hx (ZQ hb hr)
theorem eg {b o n:Nat} {row l:List V} (hx:ev x= .ptr b o) (hb:T.get b h.t=some (.box row)) (hn:n.beq 0=false) (bq:(Nat.add o n).ble (cZ row)=true) (hr:nC n (ix o row)=l):light (.dd n x) ev h= .val (.agg l):=dd hx (e6 hb hn bq hr)
theorem bQ {r b o n i:Nat} {cap:Option Nat} (hx:ev x= .av b o n cap) (hy:ev y= .int .i64 (i:Int)) (aq:i<n):light (.bQ r x y) ev h= .val (.ptr b (o+i * r)):=by
 show (ev x).JK (fun b o n=>(ev y).zY fun j=>JN r b o n j)=_
 rw [hx,hy]
 show (Bool.rec .bad (force (Nat.add o (Nat.mul i r)) fun o=> .val (.ptr b o)) (i.blt n):bM)=_
 rw [gG,decide_eq_true aq]
 show force (Nat.add o (Nat.mul i r)) (fun o=>bM.val (.ptr b o))=_
 rw [force_eq];rfl
theorem b3 {b o f:Nat} (hx:ev x= .ptr b o):light (.b3 f x) ev h= .val (.ptr b (o+f)):=by
 show (ev x).qZ (fun b o=>force (Nat.add o f) fun o=> .val (.ptr b o))=_
 rw [hx]
 show force (Nat.add o f) (fun o=>bM.val (.ptr b o))=_
 rw [force_eq];rfl
theorem alloc {cs:List V}:light (.alloc cs) ev h= .new (.box cs) (.ptr h.next 0):=by
 show force h.next (fun b=>bM.new (.box cs) (.ptr b 0))=_
 rw [force_eq]
theorem box {n:Nat} {l:List V} (hx:(ev x).dY=some l) (au:cZ l=n):light (.box n x) ev h= .new (.box l) (.ptr h.next 0):=by
 show force h.next (fun b=>(Option.rec .bad (fun l=>Bool.rec .bad (hU l fun l=> .new (.box l) (.ptr b 0)) ((cZ l).beq n)) (ev x).dY:bM))=_
 rw [force_eq,hx]
 show (Bool.rec .bad (hU l fun l=> .new (.box l) (.ptr h.next 0)) ((cZ l).beq n):bM)=_
 rw [au,Nat.beq_refl];exact GZ l _
theorem build {zero l:List V} {aQ:List (Nat×Nat×A)} (hf:fill aQ ev zero=some l):light (.build zero aQ) ev h= .val (.agg l):=by
 show (Option.rec .bad (fun l=>hU l fun l=> .val (.agg l)) (fill aQ ev zero):bM)=_
 rw [hf];exact GZ l _
theorem QN {call:eU} {n b o:Nat} {cs row row':List V} (hx:ev x= .ptr b o) (hy:(ev y).dY=some cs) (hn:cZ cs=n) (h0:n.beq 0=false) (gw:8≤b) (hb:T.get b h.t=some (.box row)) (bq:(Nat.add o n).ble (cZ row)=true) (hr:hX o cs row=row'):
  hK (.store n x y) call ev h= .ok un (h.put b (.box row')):=by
 show (Option.rec .bad (fun p=>Option.rec .bad (fun l=>Bool.rec .bad (h.ef p.1 p.2 n l .bad fun h=> .ok un h) ((cZ l).beq n)) (ev y).dY) (ev x).mM:bg)=_
 rw [hx,hy]
 show (Bool.rec .bad (h.ef b o n cs .bad fun h=> .ok un h) ((cZ cs).beq n):bg)=_
 rw [hn,Nat.beq_refl]
 show h.ef b o n cs .bad (fun h=>bg.ok un h)=_
 unfold ag.ef
 rw [h0,show b.blt 8=false by rw [gG];simpa using gw,show h.obj b=_ from hb]
 show (bif (Nat.add o n).ble (cZ row) then hU (hX o cs row) fun row=>h.kG b (.box row) (fun h=>bg.ok un h) else .bad)=_
 rw [bq,hr]
 show hU row' (fun row=>h.kG b (.box row) (fun h=>bg.ok un h))=_
 rw [GZ,QL]
end L
end
end Go.Eng
namespace Go.Eng
noncomputable section
inductive Fact where
 |box (b:Nat) (row:List V)
 |map (b:Nat) (es:List qW) (clock:Nat)
 |acc (f r:Nat) (v:V) (rows:List (List V))
 |ay (P:ag→Prop)
 |obj (b:Nat) (P:Obj→Prop)
 |cX (bs:List Nat) (f r:Nat) (v:V) (rows:List (List V))
structure ZR (f r:Nat) (h:ag) (b:Nat) (rows:List (List V)):Prop where
 ge:8≤b
 pos:0<rows.length
 cq:f≤b
 aO:∃ap t,T.get b h.t=some (.cells r f ap (rows.length * r) t)∧(∀i row,rows[i]? =some row→T.get i t=some row)∧∀F,T.get f h.bJ=some F→F.last≤ap+rows.length * r
 len:∀row∈rows,row.length=r
inductive nO (f r:Nat) (h:ag):V→List (List V)→Prop
 |nil:nO f r h .U []
 |row {b:Nat} {rows:List (List V)} (a:ZR f r h b rows):nO f r h (.av b 0 rows.length none) rows
inductive jv (bs:List Nat) (f r:Nat) (h:ag):V→List (List V)→Prop
 |nil (hb:bs=[]):jv bs f r h .U []
 |row {b ap:Nat} {rows hid:List (List V)} {t:T (List V)} (ge:8≤b) (hb:b∈bs) (hf:f∈bs) (aO:T.get b h.t=some (.cells r f ap ((rows.length+hid.length) * r) t))
   (dh:∀i row,(rows++hid)[i]? =some row→T.get i t=some row) (len:∀row∈rows++hid,row.length=r) (mem:∀F,T.get f h.bJ=some F→∀m∈F.mem,m∈bs):jv bs f r h (.av b 0 rows.length none) rows
theorem jv.stay {bs:List Nat} {f r:Nat} {h aB:ag} {v:V} {rows:List (List V)} (a:jv bs f r h v rows) (hb:∀b∈bs,T.get b aB.t=T.get b h.t) (hf:∀b∈bs,T.get b aB.bJ=T.get b h.bJ):jv bs f r aB v rows:=by
 cases a with
 |nil e=>exact .nil e
 |row ge h1 h2 aO dh len mem=>exact .row ge h1 h2 ((hb _ h1).trans aO) dh len (fun F cj=>mem F ((hf _ h2).symm.trans cj))
def Fact.own:Fact→List Nat
 | .box b _=>[b]
 | .map b _ _=>[b]
 | .acc .. =>[]
 | .ay _=>[]
 | .obj b _=>[b]
 | .cX bs .. =>bs
def Fact.c7:Fact→List Nat
 | .acc f _ v _=>match v with
   | .U=>[]
   |_=>[f]
 |_=>[]
def Fact.holds (Z:Nat→Prop) (h:ag):Fact→Prop
 | .box b row=>T.get b h.t=some (.box row)∧T.get b h.bJ=none
 | .map b es c=>T.get b h.t=some (.map es c)∧T.get b h.bJ=none
 | .acc f r v rows=>nO f r h v rows∧∀b o n c,v= .av b o n c→Z b
 | .ay P=>∀aB,(∀b,Z b→T.get b aB.t=T.get b h.t)→P aB
 | .obj b P=>(∃o,T.get b h.t=some o∧P o)∧T.get b h.bJ=none
 | .cX bs f r v rows=>jv bs f r h v rows∧∀b∈bs,T.get b h.t≠none
def owns (fs:List Fact):List Nat:=fs.flatMap Fact.own
def bJ (fs:List Fact):List Nat:=fs.flatMap Fact.c7
structure G0 (Z:Nat→Prop) (fs:List Fact) (h:ag):Prop where
 wf:qn h
 z:∀b,Z b→T.get b h.t≠none
 jw:∀b∈owns fs,¬Z b∧8≤b
 hJ:(owns fs).Nodup
 lV:(bJ fs).Nodup
 dC:∀b∈owns fs,b∉bJ fs
 all:∀x∈fs,x.holds Z h
def ak (fs:List Fact) (h:ag):Prop:=∃Z,G0 Z fs h
theorem vp {Z:Nat→Prop} {fs:List Fact} {h:ag} (s:G0 Z fs h) {b:Nat} (hb:b∈owns fs):b<h.next:=by
 obtain ⟨x,hx,hb⟩:=List.mem_flatMap.1 hb
 have:=s.all x hx
 cases x with
 |box c row=>obtain rfl:b=c:=by simpa [Fact.own] using hb
             exact s.wf.lt this.1
 |map c es k=>obtain rfl:b=c:=by simpa [Fact.own] using hb
              exact s.wf.lt this.1
 |acc f r v rows=>simp [Fact.own] at hb
 |ay P=>simp [Fact.own] at hb
 |obj c P=>obtain rfl:b=c:=by simpa [Fact.own] using hb
           obtain ⟨⟨o,bq,_⟩,_⟩:=this
           exact s.wf.lt bq
 |cX bs f r v rows=>exact s.wf.t b (this.2 b hb)
theorem Lz {Z:Nat→Prop} {fs:List Fact} {h:ag} (s:G0 Z fs h) {f:Nat} (hf:f∈bJ fs):f<h.next:=by
 obtain ⟨x,hx,hf⟩:=List.mem_flatMap.1 hf
 have b4:=s.all x hx
 cases x with
 |box c row=>simp [Fact.c7] at hf
 |map c es k=>simp [Fact.c7] at hf
 |ay P=>simp [Fact.c7] at hf
 |obj c P=>simp [Fact.c7] at hf
 |cX bs f r v rows=>simp [Fact.c7] at hf
 |acc g r v rows=>
  obtain ⟨a,_⟩:=b4
  cases a with
  |nil=>simp [Fact.c7] at hf
  |row a=>
   obtain rfl:f=g:=by simpa [Fact.c7] using hf
   obtain ⟨ap,t,dP,_⟩:=a.aO
   exact Nat.lt_of_le_of_lt a.cq (s.wf.lt dP)
theorem wT {Z:Nat→Prop} {fs:List Fact} {h:ag} (s:G0 Z fs h) {b:Nat} (hb:Z b):b<h.next:=s.wf.t b (s.z b hb)
theorem QO (g:Fact→List Nat) {fs gs:List Fact} (aC:gs.Sublist fs):(gs.flatMap g).Sublist (fs.flatMap g):=by
 induction aC with
 |slnil=>exact List.Sublist.refl _
 |cons a _ bt=>rw [List.flatMap_cons];exact bt.trans (List.sublist_append_right _ _)
 |cons_cons a _ bt=>rw [List.flatMap_cons,List.flatMap_cons];exact List.Sublist.append (List.Sublist.refl _) bt
theorem QP (g:Fact→List Nat) {fs gs:List Fact} (aC:fs.Perm gs):(fs.flatMap g).Perm (gs.flatMap g):=by
 induction aC with
 |nil=>exact List.Perm.refl _
 |cons a _ bt=>rw [List.flatMap_cons,List.flatMap_cons];exact List.Perm.append_left _ bt
 |swap a b l=>
  simp only [List.flatMap_cons]
  rw [←List.append_assoc,←List.append_assoc]
  exact List.Perm.append_right _ List.perm_append_comm
 |trans _ _ Dn AL=>exact Dn.trans AL
theorem ak.sub {fs gs:List Fact} {h:ag} (s:ak fs h) (aC:gs.Sublist fs):ak gs h:=by
 obtain ⟨Z,s⟩:=s
 have aT:(owns gs).Sublist (owns fs):=by
  exact QO _ aC
 have bu:(bJ gs).Sublist (bJ fs):=by
  exact QO _ aC
 exact ⟨Z,s.wf,s.z,fun b hb=>s.jw b (aT.subset hb),s.hJ.sublist aT,s.lV.sublist bu,fun b hb hf=>s.dC b (aT.subset hb) (bu.subset hf),fun x hx=>s.all x (aC.subset hx)⟩
theorem ak.perm {fs gs:List Fact} {h:ag} (s:ak fs h) (aC:fs.Perm gs):ak gs h:=by
 obtain ⟨Z,s⟩:=s
 have aT:(owns fs).Perm (owns gs):=QP _ aC
 have bu:(bJ fs).Perm (bJ gs):=QP _ aC
 exact ⟨Z,s.wf,s.z,fun b hb=>s.jw b (aT.symm.subset hb),aT.nodup_iff.1 s.hJ,bu.nodup_iff.1 s.lV,fun b hb hf=>s.dC b (aT.symm.subset hb) (bu.symm.subset hf),fun x hx=>s.all x (aC.symm.subset hx)⟩
theorem LA:∀(fs:List Fact) (k:Nat) (x:Fact),fs[k]? =some x→fs.Perm (x::fs.eraseIdx k)
 |[],k,x,h=>by simp at h
 |a::fs,0,x,h=>by simp at h;subst h;exact List.Perm.refl _
 |a::fs,k+1,x,h=>by
  have:=LA fs k x (by simpa using h)
  exact (List.Perm.cons a this).trans (List.Perm.swap ..)
theorem ak.pick {fs:List Fact} {h:ag} (s:ak fs h) (k:Nat) {x:Fact} (hk:fs[k]? =some x):ak (x::fs.eraseIdx k) h:=s.perm (LA fs k x hk)
theorem ak.tail {x:Fact} {fs:List Fact} {h:ag} (s:ak (x::fs) h):ak fs h:=s.sub (List.sublist_cons_self _ _)
theorem ak.wf {fs:List Fact} {h:ag} (s:ak fs h):qn h:=let ⟨_,s⟩:=s;s.wf
theorem ak.nil {h:ag} (w:qn h):ak [] h:=⟨fun _=>False,w,fun _ hb=>hb.elim,fun b hb=>by simp [owns] at hb,by simp [owns],by simp [bJ],fun b hb=>by simp [owns] at hb,fun x hx=>by simp at hx⟩
theorem ak.aF {fs:List Fact} {h:ag} (s:ak fs h) (k:Nat) {b:Nat} {row:List V} (hk:fs[k]? =some (.box b row)):T.get b h.t=some (.box row):=by
 obtain ⟨Z,s⟩:=s
 exact (s.all (.box b row) (List.mem_of_getElem? hk)).1
theorem ak.QQ {fs:List Fact} {h:ag} (s:ak fs h) (k:Nat) {b:Nat} {row:List V} (hk:fs[k]? =some (.box b row)):8≤b:=by
 obtain ⟨Z,s⟩:=s
 exact (s.jw b (List.mem_flatMap.2 ⟨_,List.mem_of_getElem? hk,by simp [Fact.own]⟩)).2
theorem ak.ZS {fs:List Fact} {h:ag} (s:ak fs h) (k:Nat) {b:Nat} {P:Obj→Prop} (hk:fs[k]? =some (.obj b P)):8≤b:=by
 obtain ⟨Z,s⟩:=s
 exact (s.jw b (List.mem_flatMap.2 ⟨_,List.mem_of_getElem? hk,by simp [Fact.own]⟩)).2
theorem ak.aS {fs:List Fact} {h:ag} (s:ak fs h) (k:Nat) {P:ag→Prop} (hk:fs[k]? =some (.ay P)):P h:=by
 obtain ⟨Z,s⟩:=s
 exact s.all (.ay P) (List.mem_of_getElem? hk) h fun _ _=>rfl
theorem ak.et {fs:List Fact} {h:ag} (s:ak fs h) (k:Nat) {f r:Nat} {v:V} {rows:List (List V)} (hk:fs[k]? =some (.acc f r v rows)):nO f r h v rows:=by
 obtain ⟨Z,s⟩:=s
 exact (s.all (.acc f r v rows) (List.mem_of_getElem? hk)).1
theorem ak.imp {P Q:ag→Prop} {fs:List Fact} {h:ag} (s:ak (.ay P::fs) h) (yu:∀h,P h→Q h):ak (.ay Q:: .ay P::fs) h:=by
 obtain ⟨Z,s⟩:=s
 refine ⟨Z,s.wf,s.z,s.jw,s.hJ,s.lV,s.dC,fun x hx=> ?_⟩
 rcases List.mem_cons.1 hx with rfl|hx
 · exact fun aB hz=>yu aB (s.all (.ay P) (by simp) aB hz)
 · exact s.all x hx
theorem ak.fD {P Q:ag→Prop} {fs:List Fact} {h:ag} (s:ak (.ay P::fs) h) (yu:∀h,P h→Q h):ak (.ay Q::fs) h:=by
 have:=s.imp yu
 exact this.sub (List.Sublist.cons_cons _ (List.sublist_cons_self _ _))
theorem ak.pure {Q:Prop} {fs:List Fact} {h:ag} (s:ak fs h) (bC:Q):ak (.ay (fun _=>Q)::fs) h:=by
 obtain ⟨Z,s⟩:=s
 refine ⟨Z,s.wf,s.z,s.jw,s.hJ,s.lV,s.dC,fun x hx=> ?_⟩
 rcases List.mem_cons.1 hx with rfl|hx
 · exact fun aB _=>bC
 · exact s.all x hx
theorem ak.and {P Q:ag→Prop} {fs:List Fact} {h:ag} (s:ak (.ay P:: .ay Q::fs) h):ak (.ay (fun h=>P h∧Q h)::fs) h:=by
 obtain ⟨Z,s⟩:=s
 refine ⟨Z,s.wf,s.z,s.jw,s.hJ,s.lV,s.dC,fun x hx=> ?_⟩
 rcases List.mem_cons.1 hx with rfl|hx
 · exact fun aB hz=>⟨s.all (.ay P) (by simp) aB hz,s.all (.ay Q) (by simp) aB hz⟩
 · exact s.all x (by simp [hx])
theorem Fact.stay {Z QR:Nat→Prop} {h aB:ag} {x:Fact} (hx:x.holds Z h) (qq:∀b,Z b→QR b∧T.get b aB.t=T.get b h.t) (hb:∀b∈x.own,T.get b aB.t=T.get b h.t) (G1:∀b∈x.own,T.get b aB.bJ=T.get b h.bJ) (hf:∀f∈x.c7,T.get f aB.bJ=T.get f h.bJ):x.holds QR aB:=by
 cases x with
 |box b row=>exact ⟨(hb b (by simp [Fact.own])).trans hx.1,(G1 b (by simp [Fact.own])).trans hx.2⟩
 |map b es c=>exact ⟨(hb b (by simp [Fact.own])).trans hx.1,(G1 b (by simp [Fact.own])).trans hx.2⟩
 |obj b P=>obtain ⟨⟨o,bq,hp⟩,hn⟩:=hx;exact ⟨⟨o,(hb b (by simp [Fact.own])).trans bq,hp⟩,(G1 b (by simp [Fact.own])).trans hn⟩
 |cX bs f r v rows=>exact ⟨hx.1.stay hb G1,fun b hm=>by rw [hb b hm];exact hx.2 b hm⟩
 |ay P=>exact fun h2 hz=>hx h2 fun b hb=>(hz b (qq b hb).1).trans (qq b hb).2
 |acc f r v rows=>
  obtain ⟨a,hz⟩:=hx
  refine ⟨?_,fun b o n c e=>(qq b (hz b o n c e)).1⟩
  cases a with
  |nil=>exact .nil
  |row a=>
   obtain ⟨ap,t,h1,h2,bj⟩:=a.aO
   refine .row ⟨a.ge,a.pos,a.cq,⟨ap,t, ?_,h2,fun F cj=>bj F ?_⟩,a.len⟩
   · rw [(qq _ (hz _ _ _ _ rfl)).2];exact h1
   · rw [←hf f (by simp [Fact.c7])];exact cj
theorem gq (x:Fact) (fs:List Fact):owns (x::fs)=x.own++owns fs:=rfl
theorem kn (x:Fact) (fs:List Fact):bJ (x::fs)=x.c7++bJ fs:=rfl
theorem vq {x:Fact} {fs:List Fact} (hx:x∈fs) {b:Nat} (hb:b∈x.own):b∈owns fs:=List.mem_flatMap.2 ⟨x,hx,hb⟩
theorem LB {x:Fact} {fs:List Fact} (hx:x∈fs) {b:Nat} (hb:b∈x.c7):b∈bJ fs:=List.mem_flatMap.2 ⟨x,hx,hb⟩
theorem ak.new {fs:List Fact} {h:ag} (s:ak fs h) (aO:Obj) {x:Fact} (bq:x.own=[h.next]) (hf:x.c7=[]) (hx:T.get h.next h.bJ=none→∀Z,x.holds Z (h.add aO)):ak (x::fs) (h.add aO):=by
 obtain ⟨Z,s⟩:=s
 have hz:∀b,Z b→T.get b (h.add aO).t=T.get b h.t:=fun b hb=>AQ (wT s hb)
 have CM:T.get h.next h.bJ=none:=by
  cases e:T.get h.next h.bJ with
  |none=>rfl
  |some F=>have:=s.wf.f h.next (by rw [e];simp);omega
 refine ⟨Z,(Fr.add h aO).wf s.wf,fun b hb=>by rw [hz b hb];exact s.z b hb,fun b hb=> ?_, ?_, ?_,fun b hb nI=> ?_,fun y hy=> ?_⟩
 · rw [gq,bq] at hb
   rcases List.mem_append.1 hb with hb|hb
   · obtain rfl:b=h.next:=by simpa using hb
     exact ⟨fun hz=>Nat.lt_irrefl _ (wT s hz),s.wf.lim⟩
   · exact s.jw b hb
 · rw [gq,bq]
   refine List.nodup_cons.2 ⟨fun hb=>Nat.lt_irrefl _ (vp s hb),s.hJ⟩
 · rw [kn,hf];exact s.lV
 · rw [kn,hf] at nI
   rw [gq,bq] at hb
   rcases List.mem_append.1 hb with hb|hb
   · obtain rfl:b=h.next:=by simpa using hb
     exact Nat.lt_irrefl _ (Lz s nI)
   · exact s.dC b hb nI
 · rcases List.mem_cons.1 hy with rfl|hy
   · exact hx CM Z
   · exact Fact.stay (s.all y hy) (fun b hb=>⟨hb,hz b hb⟩) (fun b hb=>AQ (vp s (vq hy hb))) (fun _ _=>rfl) fun _ _=>rfl
theorem ak.box {fs:List Fact} {h:ag} (s:ak fs h) (row:List V):ak (.box h.next row::fs) (h.add (.box row)):=s.new _ rfl rfl fun hn _=>⟨vn ..,hn⟩
theorem ak.QS {x y:Fact} {fs:List Fact} {h:ag} {b:Nat} {o:Obj} (s:ak (x::fs) h) (hx:x.own=[b]) (hi:x.c7=[]) (hy:y.own=[b]) (tR:y.c7=[]) (b4:∀Z,x.holds Z h→y.holds Z (h.put b o)):ak (y::fs) (h.put b o):=by
 obtain ⟨Z,s⟩:=s
 have ZT:¬Z b:=(s.jw b (by rw [gq,hx];simp)).1
 have LC:b∉owns fs:=by
  have:=s.hJ;rw [gq,hx] at this
  exact (List.nodup_cons.1 this).1
 have hz:∀k,k≠b→T.get k (h.put b o).t=T.get k h.t:=fun k hk=>by rw [QI,if_neg hk]
 have bO:∀k,Z k→k≠b:=fun k hk e=>ZT (e▸hk)
 have hlt:b<h.next:=vp s (by rw [gq,hx];simp)
 refine ⟨Z,⟨fun k hk=> ?_,fun k hk=>s.wf.f k hk,s.wf.lim⟩,fun k hk=>by rw [hz k (bO k hk)];exact s.z k hk,fun k hk=>s.jw k ?_, ?_, ?_,fun k hk hf=>s.dC k ?_ ?_,fun w hw=> ?_⟩
 · by_cases e:k=b
   · subst e;exact hlt
   · rw [hz k e] at hk;exact s.wf.t k hk
 · rw [gq,hx];rw [gq,hy] at hk;exact hk
 · rw [gq,hy];have:=s.hJ;rw [gq,hx] at this;exact this
 · rw [kn,tR];have:=s.lV;rw [kn,hi] at this;exact this
 · rw [gq,hx];rw [gq,hy] at hk;exact hk
 · rw [kn,hi];rw [kn,tR] at hf;exact hf
 · rcases List.mem_cons.1 hw with rfl|hw
   · exact b4 Z (s.all x (by simp))
   · exact Fact.stay (s.all w (by simp [hw])) (fun k hk=>⟨hk,hz k (bO k hk)⟩) (fun k hk=>hz k fun e=>LC (e▸vq hw hk)) (fun _ _=>rfl) fun _ _=>rfl
theorem G2:∀(fs:List Fact) (k:Nat) (x y:Fact),fs[k]? =some x→(y::fs.eraseIdx k).Perm (fs.set k y)
 |[],k,x,y,h=>by simp at h
 |a::fs,0,x,y,h=>List.Perm.refl _
 |a::fs,k+1,x,y,h=>by
  have:=G2 fs k x y (by simpa using h)
  exact (List.Perm.swap ..).trans (List.Perm.cons a this)
theorem ak.put {fs:List Fact} {h:ag} (s:ak fs h) (k:Nat) {x y:Fact} {b:Nat} {o:Obj} (hk:fs[k]? =some x) (hx:x.own=[b]) (hi:x.c7=[]) (hy:y.own=[b]) (tR:y.c7=[]) (b4:∀Z,x.holds Z h→y.holds Z (h.put b o)):ak (fs.set k y) (h.put b o):=
 ((s.pick k hk).QS hx hi hy tR b4).perm (G2 fs k x y hk)
theorem ak.LD {fs:List Fact} {h:ag} (s:ak fs h) (k:Nat) {b:Nat} {row:List V} (row':List V) (hk:fs[k]? =some (.box b row)):ak (fs.set k (.box b row')) (h.put b (.box row')):=
 s.put k hk rfl rfl rfl rfl fun _ hx=>⟨QK ..,hx.2⟩
end
end Go.Eng
namespace Go.Eng
noncomputable section
def ag.iN (h:ag) (iN:T iw):ag:=⟨h.t,h.next,iN,h.ds,h.bI⟩
theorem ak.grow {x:Fact} {fs:List Fact} {h:ag} (s:ak (x::fs) h) (Ax:x.own=[]) {iN:T iw} {f:Nat} {aO:Obj} {y:Fact}
  (sB:∀g,g≠f→T.get g iN=T.get g h.bJ) (hf:f≤h.next) (G3:f∉bJ fs) (pd:f∉owns fs) (yv:y.own=[]) (tR:y.c7=[f])
  (hy:∀Z:Nat→Prop,Z h.next→y.holds Z ((h.iN iN).add aO)):ak (y::fs) ((h.iN iN).add aO):=by
 obtain ⟨Z,s⟩:=s
 have hz:∀b,b<h.next→T.get b ((h.iN iN).add aO).t=T.get b h.t:=fun b hb=>AQ (h:=h.iN iN) hb
 have bq:owns (x::fs)=owns fs:=by rw [gq,Ax];rfl
 refine ⟨fun b=>Z b∨b=h.next,⟨fun b hb=> ?_,fun g hg=> ?_,Nat.le_succ_of_le s.wf.lim⟩,fun b hb=> ?_,fun b hb=> ?_, ?_, ?_,fun b hb nI=> ?_,fun w hw=> ?_⟩
 · show b<h.next+1
   by_cases e:b<h.next+1
   · exact e
   · have bu:T.get b ((h.iN iN).add aO).t=T.get b h.t:=by
      rw [Dp];rw [if_neg (show ¬b=(h.iN iN).next from fun dH=>e (by rw [dH];exact Nat.lt_succ_self _))];rfl
     rw [bu] at hb
     have:=s.wf.t b hb;omega
 · show g<h.next+1
   have hg:T.get g iN≠none:=hg
   by_cases e:g=f
   · omega
   · rw [sB g e] at hg;have:=s.wf.f g hg;omega
 · rcases hb with hb|rfl
   · rw [hz b (wT s hb)];exact s.z b hb
   · rw [show T.get h.next ((h.iN iN).add aO).t=some aO from vn (h.iN iN) aO];simp
 · rw [gq,yv] at hb
   refine ⟨?_,(s.jw b (by rw [bq];exact hb)).2⟩
   rintro (Dq|rfl)
   · exact (s.jw b (by rw [bq];exact hb)).1 Dq
   · exact Nat.lt_irrefl _ (vp s (by rw [bq];exact hb))
 · rw [gq,yv];have:=s.hJ;rw [bq] at this;exact this
 · rw [kn,tR]
   have:(bJ fs).Nodup:=by
    have:=s.lV;rw [kn] at this
    exact (List.nodup_append.1 this).2.1
   exact List.nodup_cons.2 ⟨G3,this⟩
 · rw [gq,yv] at hb
   rw [kn,tR] at nI
   rcases List.mem_append.1 nI with nI|nI
   · obtain rfl:b=f:=by simpa using nI
     exact pd hb
   · exact s.dC b (by rw [bq];exact hb) (by rw [kn];exact List.mem_append_right _ nI)
 · rcases List.mem_cons.1 hw with rfl|hw
   · exact hy _ (Or.inr rfl)
   · refine Fact.stay (s.all w (by simp [hw])) (fun b hb=>⟨Or.inl hb,hz b (wT s hb)⟩) (fun b hb=>hz b (vp s ?_)) (fun b hb=>sB b fun e=> ?_) fun g hg=>sB g fun e=> ?_
     · rw [bq];exact vq hw hb
     · subst e;exact pd (vq hw hb)
     · subst e;exact G3 (LB hw hg)
theorem wU {r:Nat}:∀{l:List (List V)} (i:Nat) {row:List V},(∀row∈l,row.length=r)→l[i]? =some row→(l.flatten.drop (i * r)).take r=row
 |[],i,row,_,h=>by simp at h
 |a::l,0,row,au,h=>by
  simp at h;subst h
  rw [Nat.zero_mul,List.drop_zero,List.flatten_cons,←au a (by simp),List.take_left']
  rfl
 |a::l,i+1,row,au,h=>by
  have h:l[i]? =some row:=by simpa using h
  rw [List.flatten_cons,show (i+1) * r=a.length+i * r by rw [au a (by simp),Nat.add_mul];omega,←List.drop_drop,List.drop_left' rfl]
  exact wU i (fun row hm=>au row (by simp [hm])) h
theorem ak.QT {fs:List Fact} {h:ag} {f r bytes:Nat} {v:V} {rows new:List (List V)} (s:ak (.acc f r v rows::fs) h) (hr:0<r) (au:∀row∈new,row.length=r) (fx:(rows.length+new.length) * bytes≤1099511627776):
  ∃dG v' aB,gk h r bytes v new.flatten new.length= .ok v' aB∧ak (.acc dG r v' (rows++new)::fs) aB:=by
 have a:=s.et 0 rfl
 have w:=s.wf
 by_cases yw:new.length=0
 · obtain rfl:new=[]:=by simpa using yw
   refine ⟨f,v,h, ?_,by rw [List.append_nil];exact s⟩
   cases a with
   |nil=>rfl
   |row a=>rfl
 have j7:Nat.beq new.length 0=false:=by
  cases e:Nat.beq new.length 0 with
  |false=>rfl
  |true=>exact absurd (Nat.eq_of_beq_eq_true e) yw
 have hfn:T.get h.next h.bJ=none:=by
  cases e:T.get h.next h.bJ with
  |none=>rfl
  |some F=>have:=w.f h.next (by rw [e];simp);omega
 cases a with
 |nil=>
  have hok:fv (.cells r h.next 0 (new.length * r) (e4 r new.length 0 new.flatten T.e))=true:=by show Nat.blt 0 r=true;rw [gG];simpa using hr
  refine ⟨h.next, .av h.next 0 new.length none,(h.iN h.bJ).add (.cells r h.next 0 (new.length * r) (e4 r new.length 0 new.flatten T.e)), ?_, ?_⟩
  · unfold gk
    have h1:(Nat.mul new.length bytes).ble 1099511627776=true:=by
     rw [fa];have:new.length * bytes≤1099511627776:=by simpa using fx
     simpa using this
    simp only [j7,cond_false,h1,cond_true,force_eq,iI]
    show (Bool.rec .bad (h.la (.cells r h.next 0 (Nat.mul new.length r) (e4 r new.length 0 new.flatten T.e)) fun h2=> .ok (.av h.next 0 new.length none) h2) (fv (.cells r h.next 0 (Nat.mul new.length r) (e4 r new.length 0 new.flatten T.e))):bg)=_
    rw [show fv (.cells r h.next 0 (Nat.mul new.length r) (e4 r new.length 0 new.flatten T.e))=true from hok,oA];rfl
  · refine s.grow rfl (f:=h.next) (fun _ _=>rfl) (Nat.le_refl _) (fun hm=> ?_) (fun hm=> ?_) rfl rfl fun Z qq=>⟨?_,fun b o n c e=> ?_⟩
    · obtain ⟨Z,s⟩:=s
      exact Nat.lt_irrefl _ (Lz s (by rw [kn];exact List.mem_append_right _ hm))
    · obtain ⟨Z,s⟩:=s
      exact Nat.lt_irrefl _ (vp s (by rw [gq];exact hm))
    · have:=nO.row (f:=h.next) (r:=r) (h:=(h.iN h.bJ).add (.cells r h.next 0 (new.length * r) (e4 r new.length 0 new.flatten T.e))) (b:=h.next) (rows:=new)
       ⟨w.lim,by omega,Nat.le_refl _,⟨0,_,vn (h.iN h.bJ) _,fun i row aq=> ?_,fun F cj=> ?_⟩,au⟩
      · rw [List.nil_append];exact this
      · rw [q9 r _ 0 _ T.e i (by omega) (by omega),if_pos ⟨by omega,by have:=(List.getElem?_eq_some_iff.1 aq).1;omega⟩,Nat.sub_zero,wU i au aq]
      · have cj:T.get h.next h.bJ=some F:=cj
        rw [hfn] at cj;cases cj
    · cases e;exact qq
 |row a=>
  rename_i b
  obtain ⟨ap,t,dP,dh,j6⟩:=a.aO
  have hn:=a.pos
  have hlen:=a.len
  have dA:b<h.next:=w.t b (by rw [dP];simp)
  have aiI:f<h.next:=Nat.lt_of_le_of_lt a.cq dA
  have G3:f∉Go.Eng.bJ fs:=by
   obtain ⟨Z,s⟩:=s
   have:=s.lV
   rw [kn] at this
   exact (List.nodup_cons.1 this).1
  have pd:f∉owns fs:=by
   obtain ⟨Z,s⟩:=s
   exact fun hm=>s.dC f hm (by rw [kn];exact List.mem_append_left _ (by simp [Fact.c7]))
  have CO:(rows++new).length=rows.length+new.length:=by simp
  have fin:∀l,ak (.acc f r (.av h.next 0 (rows.length+new.length) none) (rows++new)::fs) ((h.iN (T.set f ⟨ap+rows.length * r+new.length * r,l⟩ h.bJ)).add (.cells r f ap ((rows.length+new.length) * r) (e4 r new.length rows.length new.flatten t))):=by
   intro l
   refine s.grow rfl (f:=f) (fun g hg=>by rw [T.fJ (Nat.zero_le _) (Nat.zero_le _),if_neg hg]) (by omega) G3 pd rfl rfl fun Z qq=>⟨?_,fun b o n c e=>by cases e;exact qq⟩
   have:=nO.row (f:=f) (r:=r) (h:=(h.iN (T.set f ⟨ap+rows.length * r+new.length * r,l⟩ h.bJ)).add (.cells r f ap ((rows.length+new.length) * r) (e4 r new.length rows.length new.flatten t))) (b:=h.next) (rows:=rows++new)
    ⟨w.lim,by omega,by omega,⟨ap,e4 r new.length rows.length new.flatten t,by rw [CO];exact vn (h.iN _) _,fun i row aq=> ?_,fun F cj=> ?_⟩,fun row hx=> ?_⟩
   · rw [CO] at this;exact this
   · rw [q9 r _ _ _ t i (by omega) (by omega)]
     have oH:=(List.getElem?_eq_some_iff.1 aq).1
     rw [CO] at oH
     by_cases hlt:i<rows.length
     · rw [if_neg (by omega)]
       rw [List.getElem?_append_left hlt] at aq
       exact dh i row aq
     · rw [if_pos ⟨by omega,by omega⟩]
       rw [List.getElem?_append_right (by omega)] at aq
       rw [wU _ au aq]
   · have cj:T.get f (T.set f (⟨ap+rows.length * r+new.length * r,l⟩:iw) h.bJ)=some F:=cj
     rw [T.Ab] at cj;cases cj
     show ap+rows.length * r+new.length * r≤ap+(rows++new).length * r
     rw [CO,Nat.add_mul];omega
   · rcases List.mem_append.1 hx with hx|hx
     · exact hlen row hx
     · exact au row hx
  have run:∃l,gk h r bytes (.av b 0 rows.length none) new.flatten new.length= .ok (.av h.next 0 (rows.length+new.length) none) ((h.iN (T.set f ⟨ap+rows.length * r+new.length * r,l⟩ h.bJ)).add (.cells r f ap ((rows.length+new.length) * r) (e4 r new.length rows.length new.flatten t))):=by
   unfold gk Go.Eng.q3
   have h1:(Nat.mul (Nat.add rows.length new.length) bytes).ble 1099511627776=true:=by rw [fa];simpa using fx
   have h2:Nat.ble 8 b=true:=Nat.ble_eq_true_of_le a.ge
   simp only [j7,cond_false,force_eq,h1,h2,Bool.and_self,cond_true]
   show ∃l,(Obj.cells? .bad _ (h.obj b):bg)=_
   rw [show h.obj b=some (.cells r f ap (rows.length * r) t) from dP]
   have c1:(r.beq r&&(Nat.mod 0 r).beq 0)=true:=by
    have:Nat.mod 0 r=0:=Nat.zero_mod r
    rw [this,Nat.beq_refl];rfl
   have KG:0<new.length * r:=Nat.mul_pos (by omega) hr
   have c2:(Nat.add 0 (Nat.mul (Nat.add rows.length new.length) r)).ble (rows.length * r)=false:=by
    rw [fa]
    have:¬(0+(rows.length+new.length) * r≤rows.length * r):=by rw [Nat.add_mul];omega
    simpa using this
   have cI:(Nat.add 0 (Nat.mul rows.length r)).ble (rows.length * r)=true:=by
    rw [fa]
    simp
   show ∃l,(bif (r.beq r&&(Nat.mod 0 r).beq 0) then _ else _)=_
   rw [c1,cond_true]
   show ∃l,(bif (Nat.add 0 (Nat.mul (Nat.add rows.length new.length) r)).ble (rows.length * r) then _ else _)=_
   rw [c2,cond_false]
   show ∃l,(bif (Nat.add 0 (Nat.mul rows.length r)).ble (rows.length * r) then _ else _)=_
   rw [cI,cond_true]
   have aC:fv (.cells r f ap (Nat.mul (Nat.add rows.length new.length) r) (e4 r new.length rows.length new.flatten t))=true:=by show Nat.blt 0 r=true;rw [gG];simpa using hr
   have last:∀bj:ag,(bif Nat.beq 0 0 then gQ r new.length rows.length new.flatten t fun t=>mk bj (.cells r f ap (Nat.mul (Nat.add rows.length new.length) r) t) (.av h.next 0 (Nat.add rows.length new.length) none)
     else Option.rec .bad (fun old=>force (Nat.add ap 0) fun ap=>gQ r (Nat.add rows.length new.length) 0 (gd old new.flatten) T.e fun t=>mk bj (.cells r f ap (Nat.mul (Nat.add rows.length new.length) r) t) (.av h.next 0 (Nat.add rows.length new.length) none)) (lN t rows.length (Nat.div 0 r)):bg)=
     .ok (.av h.next 0 (rows.length+new.length) none) (bj.add (.cells r f ap ((rows.length+new.length) * r) (e4 r new.length rows.length new.flatten t))):=by
    intro bj
    rw [show Nat.beq 0 0=true from rfl,cond_true,iI]
    show (Bool.rec .bad (bj.la (.cells r f ap (Nat.mul (Nat.add rows.length new.length) r) (e4 r new.length rows.length new.flatten t)) fun h2=> .ok (.av h.next 0 (rows.length+new.length) none) h2) (fv (.cells r f ap (Nat.mul (Nat.add rows.length new.length) r) (e4 r new.length rows.length new.flatten t))):bg)=_
    rw [aC,oA];rfl
   have Ka:(Nat.add (Nat.add ap 0) (Nat.mul (Nat.add rows.length new.length) r))=ap+rows.length * r+new.length * r:=by
    show ap+0+(rows.length+new.length) * r=_
    rw [Nat.add_mul];omega
   unfold grown
   cases cj:T.get f h.bJ with
   |none=>
    have dv:(Nat.add (Nat.add ap 0) (Nat.mul rows.length r)).blt (Nat.add ap (rows.length * r))=false:=by
     rw [gG]
     simp
    refine ⟨[h.next,b], ?_⟩
    show (Bool.rec (mc h f _ [h.next,b] _) _ ((Nat.add (Nat.add ap 0) (Nat.mul rows.length r)).blt (Nat.add ap (rows.length * r))):bg)=_
    rw [dv]
    show mc h f _ [h.next,b] _=_
    rw [x0,Ka]
    exact last _
   |some F=>
    have eu:(iw.last F).ble (Nat.add (Nat.add ap 0) (Nat.mul rows.length r))=true:=by
     rw [fa]
     have:F.last≤ap+0+rows.length * r:=by have:=j6 F cj;omega
     simpa using this
    refine ⟨h.next::F.mem, ?_⟩
    show (Bool.rec _ (mc h f _ (h.next::iw.mem F) _) ((iw.last F).ble (Nat.add (Nat.add ap 0) (Nat.mul rows.length r))):bg)=_
    rw [eu]
    show mc h f _ (h.next::iw.mem F) _=_
    rw [x0,Ka]
    exact last _
  obtain ⟨l,jt⟩:=run
  exact ⟨f,_,_,jt,fin l⟩
theorem ak.append {fs:List Fact} {h:ag} {f r bytes:Nat} {v:V} {rows new:List (List V)} (s:ak fs h) (k:Nat) (hk:fs[k]? =some (.acc f r v rows)) (hr:0<r) (au:∀row∈new,row.length=r) (fx:(rows.length+new.length) * bytes≤1099511627776):
  ∃dG v' aB,gk h r bytes v new.flatten new.length= .ok v' aB∧ak (fs.set k (.acc dG r v' (rows++new))) aB:=by
 obtain ⟨dG,v',aB,e,en⟩:=(s.pick k hk).QT hr au fx
 exact ⟨dG,v',aB,e,en.perm (G2 fs k _ _ hk)⟩
theorem ak.je {fs:List Fact} {h:ag} (s:ak fs h) (r:Nat):ak (.acc 0 r .U []::fs) h:=by
 obtain ⟨Z,s⟩:=s
 refine ⟨Z,s.wf,s.z,s.jw,s.hJ,s.lV,s.dC,fun x hx=> ?_⟩
 rcases List.mem_cons.1 hx with rfl|hx
 · exact ⟨.nil,fun b o n c e=>by cases e⟩
 · exact s.all x hx
theorem nO.rows {f r:Nat} {h:ag} {v:V} {rows:List (List V)} (hr:0<r) (a:nO f r h v rows):Rows r h v rows:=by
 cases a with
 |nil=>exact .nil
 |row a=>
  obtain ⟨ap,t,dP,dh,j6⟩:=a.aO
  exact .row hr dP (Nat.zero_mod r) (fun i row aq=>by rw [Nat.zero_div,Nat.zero_add];exact dh i row aq) (by omega) a.len
theorem ak.shut {fs:List Fact} {h:ag} {f r:Nat} {v:V} {rows:List (List V)} (s:ak (.acc f r v rows::fs) h) (hr:0<r):ak (.ay (fun h=>Rows r h v rows)::fs) h:=by
 obtain ⟨Z,s⟩:=s
 refine ⟨Z,s.wf,s.z,s.jw,s.hJ, ?_,fun b hb hf=>s.dC b hb (by rw [kn];exact List.mem_append_right _ hf),fun x hx=> ?_⟩
 · have:=s.lV;rw [kn] at this
   exact (List.nodup_append.1 this).2.1
 · rcases List.mem_cons.1 hx with rfl|hx
   · intro aB hz
     obtain ⟨a,Dq⟩:=s.all (.acc f r v rows) (by simp)
     have G4:=a.rows hr
     cases a with
     |nil=>exact .nil
     |row a=>
      obtain ⟨ap,t,dP,dh,j6⟩:=a.aO
      refine .row (f:=f) (ap:=ap) hr ?_ (Nat.zero_mod r) (fun i row aq=>by rw [Nat.zero_div,Nat.zero_add];exact dh i row aq) (Nat.le_of_eq (by rw [Nat.zero_add])) a.len
      rw [hz _ (Dq _ _ _ _ rfl)];exact dP
   · exact s.all x (by simp [hx])
theorem ak.rB {fs:List Fact} {h:ag} (s:ak fs h) (k:Nat) {f r:Nat} {v:V} {rows:List (List V)} (hk:fs[k]? =some (.acc f r v rows)) (hr:0<r):Rows r h v rows:=(s.et k hk).rows hr
end
end Go.Eng
namespace Go.Eng
noncomputable section
theorem ak.frozen {fs:List Fact} {h:ag} (s:ak fs h) (aO:Obj) {P:ag→Prop} (qi:∀aB,T.get h.next aB.t=some aO→P aB):ak (.ay P::fs) (h.add aO):=by
 obtain ⟨Z,s⟩:=s
 have hz:∀b,b<h.next→T.get b (h.add aO).t=T.get b h.t:=fun b hb=>AQ hb
 refine ⟨fun b=>Z b∨b=h.next,(Fr.add h aO).wf s.wf,fun b hb=> ?_,fun b hb=> ?_,s.hJ,s.lV,s.dC,fun w hw=> ?_⟩
 · rcases hb with hb|rfl
   · rw [hz b (wT s hb)];exact s.z b hb
   · rw [vn];simp
 · refine ⟨?_,(s.jw b hb).2⟩
   rintro (Dq|rfl)
   · exact (s.jw b hb).1 Dq
   · exact Nat.lt_irrefl _ (vp s hb)
 · rcases List.mem_cons.1 hw with rfl|hw
   · intro aB b4
     exact qi aB ((b4 _ (Or.inr rfl)).trans (vn ..))
   · exact Fact.stay (s.all w hw) (fun b hb=>⟨Or.inl hb,hz b (wT s hb)⟩) (fun b hb=>hz b (vp s (vq hw hb))) (fun _ _=>rfl) fun _ _=>rfl
theorem QU {r:Nat} {t:T (List V)}:∀(rows:List (List V)) (i:Nat),(∀k row,rows[k]? =some row→T.get (i+k) t=some row)→lN t rows.length i=some rows.flatten
 |[],i,h=>rfl
 |a::l,i,h=>by
  show (Option.rec none (fun row=>Option.rec none (fun l=>some (gd row l)) (lN t l.length (Nat.succ i))) (T.get i t):Option (List V))=_
  have h0:=h 0 a rfl
  rw [Nat.add_zero] at h0
  rw [h0]
  have bt:=QU (r:=r) (t:=t) l (i+1) fun k row hk=>by
   have:=h (k+1) row (by simpa using hk)
   rw [←this];congr 1;omega
  show (Option.rec none (fun l=>some (gd a l)) (lN t l.length (Nat.succ i)):Option (List V))=_
  rw [show Nat.succ i=i+1 from rfl,bt]
  show some (gd a l.flatten)=_
  rw [pZ];rfl
theorem Rows.Dr {r b o n:Nat} {cap:Option Nat} {h:ag} {rows:List (List V)} (a:Rows r h (.av b o n cap) rows):h.load b o (Nat.mul n r)=some rows.flatten:=by
 cases a with
 |row hr dP bq dh ec hlen=>
  rename_i f ap bo t
  by_cases h0:rows.length=0
  · obtain rfl:rows=[]:=by simpa using h0
    unfold ag.load
    have:(Nat.mul ([]:List (List V)).length r).beq 0=true:=by
     show (Nat.mul 0 r).beq 0=true
     rw [show Nat.mul 0 r=0 from Nat.zero_mul r];rfl
    rw [this];rfl
  · unfold ag.load
    have CL:0<rows.length * r:=Nat.mul_pos (by omega) hr
    have ja:(Nat.mul rows.length r).beq 0=false:=by
     cases hb:(Nat.mul rows.length r).beq 0 with
     |false=>rfl
     |true=>have:rows.length * r=0:=Nat.eq_of_beq_eq_true hb;omega
    rw [ja,cond_false,show h.obj b=_ from dP]
    show (bif (Nat.add o (Nat.mul rows.length r)).ble bo then cut r o (Nat.mul rows.length r) t else none)=_
    have aT:(Nat.add o (Nat.mul rows.length r)).ble bo=true:=by rw [fa];simpa using ec
    rw [aT,cond_true]
    unfold cut
    have m0:(o.mod r).beq 0=true:=by rw [show o.mod r=0 from bq];rfl
    have d0:o.div r=o / r:=rfl
    by_cases h1:rows.length=1
    · have bu:((Nat.mul rows.length r).beq r&&(o.mod r).beq 0)=true:=by
       rw [m0,Bool.and_true,h1,show Nat.mul 1 r=r from Nat.one_mul r,Nat.beq_refl]
      rw [bu,cond_true]
      obtain ⟨x,rfl⟩:∃x,rows=[x]:=List.length_eq_one_iff.1 h1
      have:=dh 0 x rfl
      rw [Nat.add_zero] at this
      rw [d0,this];simp
    · have vm:r<rows.length * r:=by
       have:2 * r≤rows.length * r:=Nat.mul_le_mul_right r (by omega)
       omega
      have bu:((Nat.mul rows.length r).beq r&&(o.mod r).beq 0)=false:=by
       have:(Nat.mul rows.length r).beq r=false:=by
        cases hb:(Nat.mul rows.length r).beq r with
        |false=>rfl
        |true=>have:rows.length * r=r:=Nat.eq_of_beq_eq_true hb;omega
       rw [this];rfl
      rw [bu,cond_false]
      have dH:(Nat.add (o.mod r) (Nat.mul rows.length r)).ble r=false:=by
       rw [fa,show o.mod r=0 from bq]
       have:¬(0+rows.length * r≤r):=by omega
       simpa using this
      rw [dH,cond_false]
      have gC:((o.mod r).beq 0&&((Nat.mul rows.length r).mod r).beq 0)=true:=by
       rw [m0,show (Nat.mul rows.length r).mod r=0 from Nat.mul_mod_left _ _];rfl
      rw [gC,cond_true]
      have:(Nat.mul rows.length r).div r=rows.length:=Nat.mul_div_cancel _ hr
      rw [this,d0]
      exact QU (r:=r) rows _ dh
section
variable {c:Ctx} {Q:jd} {env:Env} {h:ag} {fs:List Fact} {l:List dp} {vs:List V} {i j:bx}
theorem I.dq {o:h7} {row:List V} (st:ak fs h) (au:light o (fun a=>a.ev vs env) h= .new (.box row) (.ptr h.next 0)) (K:∀b h1,ak (.box b row::fs) h1→I c l Q (.ptr b 0::vs) (Env.set i j (.ptr b 0) env) h1):I c (.s i j (.L o)::l) Q vs env h:=
 I.AP au rfl (K _ _ (st.box row))
theorem L.fA {ev:dM} {h:ag} {r n:Nat} {zero:List V} {aQ:List (Nat×Nat×A)} {l:List V} (hf:fill aQ ev (rep n zero)=some l):
  light (.fA r n zero aQ) ev h= .new (.cells r h.next 0 (Nat.mul n r) (e4 r n 0 l T.e)) (.av h.next 0 n (some n)):=by
 show force h.next (fun b=>(Option.rec .bad (fun l=>gQ r n 0 l T.e fun t=> .new (.cells r b 0 (Nat.mul n r) t) (.av b 0 n (some n))) (fill aQ ev (rep n zero)):bM))=_
 rw [force_eq,hf]
 show gQ r n 0 l T.e (fun t=>bM.new (.cells r h.next 0 (Nat.mul n r) t) (.av h.next 0 n (some n)))=_
 rw [iI]
theorem Ds {r n b:Nat} {rows:List (List V)} {cap:Option Nat} {aB:ag} (hr:0<r) (hn:rows.length=n) (au:∀row∈rows,row.length=r) (hg:T.get b aB.t=some (.cells r b 0 (Nat.mul n r) (e4 r n 0 rows.flatten T.e))):Rows r aB (.av b 0 n cap) rows:=by
 subst hn
 refine .row hr hg (Nat.zero_mod r) (fun i row aq=> ?_) (by rw [Nat.zero_add];exact Nat.le_refl _) au
 rw [Nat.zero_div,Nat.zero_add,q9 r _ 0 _ T.e i (by omega) (by omega),if_pos ⟨by omega,by have:=(List.getElem?_eq_some_iff.1 aq).1;omega⟩,Nat.sub_zero,wU i au aq]
theorem AV {r f a n:Nat} {t:T (List V)} (hr:0<r):fv (.cells r f a n t)=true:=by show Nat.blt 0 r=true;rw [gG];simpa using hr
theorem I.eI {r n:Nat} {zero:List V} {aQ:List (Nat×Nat×A)} {rows:List (List V)} (st:ak fs h) (hf:fill aQ (fun a=>a.ev vs env) (rep n zero)=some rows.flatten) (hr:0<r) (hn:rows.length=n) (au:∀row∈rows,row.length=r)
  (K:∀b h1,ak (.ay (fun h=>Rows r h (.av b 0 n (some n)) rows)::fs) h1→I c l Q (.av b 0 n (some n)::vs) env h1):I c (.p (.L (.fA r n zero aQ))::l) Q vs env h:=
 I.new (L.fA hf) (AV hr) (K _ _ (st.frozen _ fun aB hg=>Ds hr hn au hg))
theorem I.QV {r n:Nat} {zero:List V} {aQ:List (Nat×Nat×A)} {rows:List (List V)} (st:ak fs h) (hf:fill aQ (fun a=>a.ev vs env) (rep n zero)=some rows.flatten) (hr:0<r) (hn:rows.length=n) (au:∀row∈rows,row.length=r)
  (K:∀b h1,ak (.ay (fun h=>Rows r h (.av b 0 n (some n)) rows)::fs) h1→I c l Q (.av b 0 n (some n)::vs) (Env.set i j (.av b 0 n (some n)) env) h1):I c (.s i j (.L (.fA r n zero aQ))::l) Q vs env h:=
 I.AP (L.fA hf) (AV hr) (K _ _ (st.frozen _ fun aB hg=>Ds hr hn au hg))
theorem I.fV {n b o:Nat} {x y:A} {cs row row':List V} (st:ak fs h) (k:Nat) (hk:fs[k]? =some (.box b row)) (hx:x.ev vs env= .ptr b o) (hy:(y.ev vs env).dY=some cs) (hn:cZ cs=n) (h0:n.beq 0=false) (bq:(Nat.add o n).ble (cZ row)=true) (hr:hX o cs row=row')
  (K:∀h1,ak (fs.set k (.box b row')) h1→I c l Q (un::vs) env h1):I c (.p (.H (.store n x y))::l) Q vs env h:=
 I.act (fun _=>L.QN hx hy hn h0 (st.QQ k hk) (st.aF k hk) bq hr) (K _ (st.LD k row' hk))
theorem L.append {call:eU} {ev:dM} {s x:A} {r bytes:Nat} {v hP:V} {new:List (List V)} {out:bg} (aC:ev s=v) (hx:ev x=hP) (hn:Rows r h hP new) (bq:gk h r bytes v new.flatten new.length=out):hK (.append r bytes s x) call ev h=out:=by
 subst bq aC hx
 show (match ev x with
  | .U=>gk h r bytes (ev s) [] 0
  | .av b o m _=>(Option.rec .bad (fun new=>gk h r bytes (ev s) new m) (h.load b o (Nat.mul m r)):bg)
  | .str m a=>bif r.beq 1 then gk h r bytes (ev s) (nD (gZ m a)) m else .bad
  |_=> .bad)=_
 generalize aE:ev x=hP at hn
 cases hn with
 |nil=>rfl
 |row hr dP bq dh ec hlen=>
  have:=(Rows.row (cap:=none) hr dP bq dh ec hlen).Dr
  simp only [this]
theorem I.nh {r bytes f:Nat} {s x:A} {v hP:V} {rows new:List (List V)} (st:ak fs h) (k:Nat) (hk:fs[k]? =some (.acc f r v rows)) (aC:s.ev vs env=v) (hx:x.ev vs env=hP) (hn:Rows r h hP new) (hr:0<r) (fx:(rows.length+new.length) * bytes≤1099511627776)
  (K:∀dG v' h1,ak (fs.set k (.acc dG r v' (rows++new))) h1→I c l Q (v'::vs) env h1):I c (.p (.H (.append r bytes s x))::l) Q vs env h:=by
 have au:∀row∈new,row.length=r:=by
  cases hn with
  |nil=>intro row hm;simp at hm
  |row _ _ _ _ _ hlen=>exact hlen
 obtain ⟨dG,v',aB,e,en⟩:=st.append k hk hr au fx
 exact I.act (fun _=>L.append (ev:=fun a=>a.ev vs env) aC hx hn e) (K _ _ _ en)
theorem I.gJ {r bytes f:Nat} {s x:A} {v hP:V} {rows new:List (List V)} (st:ak fs h) (k:Nat) (hk:fs[k]? =some (.acc f r v rows)) (aC:s.ev vs env=v) (hx:x.ev vs env=hP) (hn:Rows r h hP new) (hr:0<r) (fx:(rows.length+new.length) * bytes≤1099511627776)
  (K:∀dG v' h1,ak (fs.set k (.acc dG r v' (rows++new))) h1→I c l Q (v'::vs) (Env.set i j v' env) h1):I c (.s i j (.H (.append r bytes s x))::l) Q vs env h:=by
 have au:∀row∈new,row.length=r:=by
  cases hn with
  |nil=>intro row hm;simp at hm
  |row _ _ _ _ _ hlen=>exact hlen
 obtain ⟨dG,v',aB,e,en⟩:=st.append k hk hr au fx
 exact I.GY (fun _=>L.append (ev:=fun a=>a.ev vs env) aC hx hn e) (K _ _ _ en)
theorem I.bD {f:Nat} {as_:List A} {nP:List V} {P:V→ag→Prop} (ha:h8 as_ (fun a=>a.ev vs env)=nP) (hr:∃v h1,iL c f nP h (.ok v h1)∧P v h1) (K:∀v h1,P v h1→I c l Q (v::vs) env h1):I c (.p (.H (.call f as_))::l) Q vs env h:=by
 obtain ⟨v,h1,hr,hp⟩:=hr
 exact I.call (by rw [ha];exact hr) (K v h1 hp)
theorem I.dU {f:Nat} {as_:List A} {nP:List V} {P:V→ag→Prop} (ha:h8 as_ (fun a=>a.ev vs env)=nP) (hr:∃v h1,iL c f nP h (.ok v h1)∧P v h1) (K:∀v h1,P v h1→I c l Q (v::vs) (Env.set i j v env) h1):I c (.s i j (.H (.call f as_))::l) Q vs env h:=by
 obtain ⟨v,h1,hr,hp⟩:=hr
 exact I.ZM (by rw [ha];exact hr) (K v h1 hp)
theorem I.eo {o:h7} {p:Prop} [Decidable p] (au:light o (fun a=>a.ev vs env) h= .val (.bool (decide p))) (ht:p→I c l Q (.bool true::vs) env h) (hf:¬p→I c l Q (.bool false::vs) env h):I c (.p (.L o)::l) Q vs env h:=by
 by_cases hp:p
 · exact I.val (au.trans (by rw [decide_eq_true hp])) (ht hp)
 · exact I.val (au.trans (by rw [decide_eq_false hp])) (hf hp)
theorem I.bR {o:h7} {p:Prop} [Decidable p] (au:light o (fun a=>a.ev vs env) h= .val (.bool (decide p))) (ht:p→I c l Q (.bool true::vs) (Env.set i j (.bool true) env) h) (hf:¬p→I c l Q (.bool false::vs) (Env.set i j (.bool false) env) h):I c (.s i j (.L o)::l) Q vs env h:=by
 by_cases hp:p
 · exact I.bX (au.trans (by rw [decide_eq_true hp])) (ht hp)
 · exact I.bX (au.trans (by rw [decide_eq_false hp])) (hf hp)
theorem WP.yx {a b:C} (R:Env→ag→Prop) (w:WP c a (fun x e h=>match x with| .nrm=>R e h|x=>Q x e h) env h) (k:∀e h,R e h→WP c b Q e h):WP c (.seq a b) Q env h:=
 WP.seq (w.mono fun x e h q=>by cases x<;>first|exact k e h q|exact q)
theorem WP.dr {α:Type} {a:C} (G5:α→Env→ag→Prop) (G6:α→Nat) (g:α) (h0:G5 g env h) (step:∀g aT h1,G5 g aT h1→WP c a (fun x bu h2=>match x with| .nrm=>∃AW,G6 AW<G6 g∧G5 AW bu h2|x=>Q x bu h2) aT h1):WP c (.loop a) Q env h:=by
 have key:∀k g aT h1,G6 g=k→G5 g aT h1→∃x bu h2,(∃N,∀m,N≤m→∀R,N≤R→∀n,N≤n→rounds (fun env h=>code a (dg c R m) R env h) n aT h1= .ok x bu h2)∧Q x bu h2:=by
  intro k
  induction k using Nat.strongRecOn with
  |_ k bt=>
   intro g aT h1 hk G7
   obtain ⟨x,bu,h2,⟨N,ev⟩,q⟩:=step g aT h1 G7
   have one:∀m,N≤m→∀R,N≤R→∀n,rounds (fun env h=>code a (dg c R m) R env h) (n+1) aT h1=(X.rec (rounds (fun env h=>code a (dg c R m) R env h) n bu h2) (.ok .ret bu h2) (fun i=> .ok (.exit i) bu h2) (fun v=> .ok (.du v) bu h2) x:bn):=by
    intro m hm R cA n
    show (bn.rec (fun x env h=>X.rec (rounds (fun env h=>code a (dg c R m) R env h) n env h) (.ok .ret env h) (fun i=> .ok (.exit i) env h) (fun v=> .ok (.du v) env h) x) .bad (code a (dg c R m) R aT h1):bn)=_
    rw [ev m hm R cA]
   cases x with
   |nrm=>
    obtain ⟨AW,hlt,ZU⟩:=q
    obtain ⟨b9,dH,bj,⟨ZV,ZW⟩,ea⟩:=bt (G6 AW) (hk▸hlt) AW bu h2 rfl ZU
    refine ⟨b9,dH,bj,⟨max N ZV+1,fun m hm R cA n hn=> ?_⟩,ea⟩
    obtain ⟨gf,rfl⟩:∃gf,n=gf+1:=⟨n - 1,by omega⟩
    rw [one m (by omega) R (by omega)]
    exact ZW m (by omega) R (by omega) gf (by omega)
   |ret=>
    refine ⟨.ret,bu,h2,⟨N+1,fun m hm R cA n hn=> ?_⟩,q⟩
    obtain ⟨gf,rfl⟩:∃gf,n=gf+1:=⟨n - 1,by omega⟩
    rw [one m (by omega) R (by omega)]
   |exit i=>
    refine ⟨.exit i,bu,h2,⟨N+1,fun m hm R cA n hn=> ?_⟩,q⟩
    obtain ⟨gf,rfl⟩:∃gf,n=gf+1:=⟨n - 1,by omega⟩
    rw [one m (by omega) R (by omega)]
   |du v=>
    refine ⟨.du v,bu,h2,⟨N+1,fun m hm R cA n hn=> ?_⟩,q⟩
    obtain ⟨gf,rfl⟩:∃gf,n=gf+1:=⟨n - 1,by omega⟩
    rw [one m (by omega) R (by omega)]
 obtain ⟨x,bu,h2,⟨N,ev⟩,q⟩:=key _ g env h rfl h0
 exact ⟨x,bu,h2,⟨N,fun m hm R cA=>ev m hm R cA R cA⟩,q⟩
end
end
end Go.Eng
namespace Go.Eng
noncomputable section
theorem Obj.ZX (row:List V):Obj.same (.box row) (.box row)=true:=V.AR row
theorem AX {fs:List Fact} {h:ag} (s:ak fs h) (k:Nat) {b:Nat} {row:List V} (hk:fs[k]? =some (.box b row)):still h (.lP b (.box row))=true:=by
 obtain ⟨Z,s⟩:=s
 have:=s.all (.box b row) (List.mem_of_getElem? hk)
 show (match T.get b h.t,T.get b h.bJ with
  |some o,none=>Obj.same (.box row) o
  |_,_=>false)=true
 rw [this.1,this.2]
 exact Obj.ZX row
section
variable {c:Ctx} {Q:jd} {env:Env} {h:ag} {fs:List Fact} {l:List eA} {vs:List V} {cp:List Log} {cK:List Nat} {i j:bx}
theorem ae.dq {o:h7} {row:List V} (st:ak fs h) (au:light o (fun a=>a.ev vs env) h= .new (.box row) (.ptr h.next 0)) (K:∀b h1,ak (.box b row::fs) h1→ae c l Q (.ptr b 0::vs) (.lP b (.box row)::cp) (Env.set i j (.ptr b 0) env) h1):ae c (⟨.s i j (.L o),cK⟩::l) Q vs cp env h:=
 ae.AP au rfl (K _ _ (st.box row))
theorem ae.eI {r n:Nat} {zero:List V} {aQ:List (Nat×Nat×A)} {rows:List (List V)} (st:ak fs h) (hf:fill aQ (fun a=>a.ev vs env) (rep n zero)=some rows.flatten) (hr:0<r) (hn:rows.length=n) (au:∀row∈rows,row.length=r)
  (K:∀b h1 bH,ak (.ay (fun h=>Rows r h (.av b 0 n (some n)) rows)::fs) h1→ae c l Q (.av b 0 n (some n)::vs) (bH::cp) env h1):ae c (⟨.p (.L (.fA r n zero aQ)),cK⟩::l) Q vs cp env h:=
 ae.new (L.fA hf) (AV hr) (K _ _ _ (st.frozen _ fun aB hg=>Ds hr hn au hg))
theorem ae.fV {n b o:Nat} {x y:A} {cs row row':List V} (st:ak fs h) (k:Nat) (hk:fs[k]? =some (.box b row)) (hx:x.ev vs env= .ptr b o) (hy:(y.ev vs env).dY=some cs) (hn:cZ cs=n) (h0:n.beq 0=false) (bq:(Nat.add o n).ble (cZ row)=true) (hr:hX o cs row=row')
  (aC:∀h1,ak (fs.set k (.box b row')) h1→kJ cK h1 cp=true) (K:∀h1,ak (fs.set k (.box b row')) h1→ae c l Q (un::vs) (.no::cp) env h1):ae c (⟨.p (.H (.store n x y)),cK⟩::l) Q vs cp env h:=
 ae.act (fun _=>L.QN hx hy hn h0 (st.QQ k hk) (st.aF k hk) bq hr) (aC _ (st.LD k row' hk)) (K _ (st.LD k row' hk))
theorem ae.nh {r bytes f:Nat} {s x:A} {v hP:V} {rows new:List (List V)} (st:ak fs h) (k:Nat) (hk:fs[k]? =some (.acc f r v rows)) (aC:s.ev vs env=v) (hx:x.ev vs env=hP) (hn:Rows r h hP new) (hr:0<r) (fx:(rows.length+new.length) * bytes≤1099511627776)
  (e5:∀dG v' h1,ak (fs.set k (.acc dG r v' (rows++new))) h1→kJ cK h1 cp=true) (K:∀dG v' h1,ak (fs.set k (.acc dG r v' (rows++new))) h1→ae c l Q (v'::vs) (.no::cp) env h1):ae c (⟨.p (.H (.append r bytes s x)),cK⟩::l) Q vs cp env h:=by
 have au:∀row∈new,row.length=r:=by
  cases hn with
  |nil=>intro row hm;simp at hm
  |row _ _ _ _ _ hlen=>exact hlen
 obtain ⟨dG,v',aB,e,en⟩:=st.append k hk hr au fx
 exact ae.act (fun _=>L.append (ev:=fun a=>a.ev vs env) aC hx hn e) (e5 _ _ _ en) (K _ _ _ en)
theorem ae.bD {f:Nat} {as_:List A} {nP:List V} {P:V→ag→Prop} (ha:h8 as_ (fun a=>a.ev vs env)=nP) (hr:∃v h1,iL c f nP h (.ok v h1)∧P v h1) (aC:∀v h1,P v h1→kJ cK h1 cp=true) (K:∀v h1,P v h1→ae c l Q (v::vs) (.no::cp) env h1):ae c (⟨.p (.H (.call f as_)),cK⟩::l) Q vs cp env h:=by
 obtain ⟨v,h1,hr,hp⟩:=hr
 exact ae.call (by rw [ha];exact hr) (aC v h1 hp) (K v h1 hp)
theorem ae.eo {o:h7} {p:Prop} [Decidable p] (au:light o (fun a=>a.ev vs env) h= .val (.bool (decide p))) (ht:∀bH,p→ae c l Q (.bool true::vs) (bH::cp) env h) (hf:∀bH,¬p→ae c l Q (.bool false::vs) (bH::cp) env h):ae c (⟨.p (.L o),cK⟩::l) Q vs cp env h:=by
 by_cases hp:p
 · exact ae.val (au.trans (by rw [decide_eq_true hp])) (ht _ hp)
 · exact ae.val (au.trans (by rw [decide_eq_false hp])) (hf _ hp)
theorem ae.bR {o:h7} {p:Prop} [Decidable p] (au:light o (fun a=>a.ev vs env) h= .val (.bool (decide p))) (ht:∀bH,p→ae c l Q (.bool true::vs) (bH::cp) (Env.set i j (.bool true) env) h) (hf:∀bH,¬p→ae c l Q (.bool false::vs) (bH::cp) (Env.set i j (.bool false) env) h):ae c (⟨.s i j (.L o),cK⟩::l) Q vs cp env h:=by
 by_cases hp:p
 · exact ae.bX (au.trans (by rw [decide_eq_true hp])) (ht _ hp)
 · exact ae.bX (au.trans (by rw [decide_eq_false hp])) (hf _ hp)
end
def bU (c:Ctx) (f:Nat) (as_:List V) (h:ag) (P:V→ag→Prop):Prop:=∃v h1,iL c f as_ h (.ok v h1)∧P v h1
def ZY (rs:List aD) (P:V→ag→Prop):jd:=fun x e h=>match x with
 | .nrm=>∃vs,results e h rs=some vs∧P (one vs) h
 | .ret=>∃vs,results e h rs=some vs∧P (one vs) h
 | .du _=>False
 | .exit _=>False
section
variable {c:Ctx} {h:ag}
theorem bU.dR {f:Nat} {F:ct} {as_:List V} {P:V→ag→Prop} (cj:T.get f c.cF=some F) (hn:as_.length=F.jq) (w:WP c F.body (ZY F.results P) (cM as_ 0 Env.nil) h):bU c f as_ h P:=by
 obtain ⟨x,aT,h1,ev,q⟩:=w
 cases x with
 |nrm=>
  obtain ⟨vs,aE,hp⟩:=q
  exact ⟨_,_,iL.dR cj hn ⟨_,_,_,ev,⟨vs,aE,rfl⟩⟩,hp⟩
 |ret=>
  obtain ⟨vs,aE,hp⟩:=q
  exact ⟨_,_,iL.dR cj hn ⟨_,_,_,ev,⟨vs,aE,rfl⟩⟩,hp⟩
 |du v=>exact q.elim
 |exit i=>exact q.elim
end
end
end Go.Eng
namespace Go.Eng
noncomputable section
theorem fo (e:Env) (h:ag):results e h []=some []:=rfl
theorem cT {e:Env} {h:ag} {r:aD} {rs:List aD} {v:V} {vs:List V} (h1:ts h e r=some v) (h2:results e h rs=some vs):results e h (r::rs)=some (v::vs):=by
 show (Option.rec none (fun v=>Option.rec none (fun vs=>some (v::vs)) (results e h rs)) (ts h e r):Option (List V))=_
 rw [h1,h2]
theorem fS {e:Env} {h:ag} {i j:bx} {v:V} (aE:Env.get i j e=v):ts h e (.tmp i j)=some v:=by rw [←aE];rfl
theorem fb {e:Env} {h:ag} {i j:bx} {b o n:Nat} {l:List V} (hx:Env.get i j e= .ptr b o) (au:h.load b o n=some l):ts h e (.cell i j (some n))=some (.agg l):=by
 show (match (Env.get i j e).mM with
  |some (b,o)=>(match h.load b o n with|some cs=>some (V.agg cs)|none=>none)
  |none=>none)=_
 rw [hx]
 show (match h.load b o n with|some cs=>some (V.agg cs)|none=>none)=_
 rw [au]
end
end Go.Eng
namespace Go.Eng
noncomputable section
theorem nO.ne {f r:Nat} {h:ag} {v:V} {rows:List (List V)} (a:nO f r h v rows) (hn:rows≠[]):∃b,v= .av b 0 rows.length none:=by
 cases a with
 |nil=>exact absurd rfl hn
 |row a=>exact ⟨_,rfl⟩
theorem Rows.cells {r:Nat} {h:ag} {v:V} {rows:List (List V)} (a:Rows r h v rows):v.dY=some [v]:=by cases a<;>rfl
theorem nO.cells {f r:Nat} {h:ag} {v:V} {rows:List (List V)} (a:nO f r h v rows):v.dY=some [v]:=by cases a<;>rfl
theorem L.ZZ {r:Nat} {ev:dM} {h:ag} {x:A} {v:V} {rows:List (List V)} (hx:ev x=v) (a:Rows r h v rows):light (.len false x) ev h= .val (.int .i64 (rows.length:Int)):=by
 subst hx
 generalize aE:ev x=v at a
 cases a with
 |nil=>exact L.AU aE
 |row=>exact L.qp aE
end
end Go.Eng
namespace Go.Eng
noncomputable section
namespace L
variable {ev:dM} {h:ag} {x y:A}
theorem Z0 {n:Nat} (hn:n<256):IntKind.wrap .u8 (n:Int)=(n:Int):=by
 have e:IntKind.wrap .u8 (n:Int)=(n:Int) % 256:=by unfold IntKind.wrap;simp [IntKind.bits,IntKind.signed]
 rw [e];omega
theorem Z1 {a b n:Nat} (hx:ev x= .int .u8 (a:Int)) (hy:ev y= .int .u8 (b:Int)) (ax:a - b=n) (hb:b≤a) (hn:a<256):light (.bin .sub x y) ev h= .val (.int .u8 (n:Int)):=by
 show (ev x).iy (fun k a=>(ev y).iy fun j b=>sd .sub k a j b)=_
 rw [hx,hy]
 show bM.of (some (kI .u8 (Cs (a:Int) (b:Int))))=_
 rw [tu,OE,show (a:Int) - (b:Int)=(n:Int) by omega,Z0 (by omega)];rfl
theorem Z2 {k:IntKind} {a:Int} (hx:ev x= .int k a) (hn:tQ a):light (.conv .i64 x) ev h= .val (.int .i64 a):=by
 show (ev x).iy (fun _ a=> .val (kI .i64 a))=_
 rw [hx]
 show bM.val (kI .i64 a)=_
 rw [tu,wrap64 hn]
theorem Z3 {a n:Int} (hx:ev x= .int .i64 a) (ax: -a=n) (hn:tQ n):light (.neg x) ev h= .val (.int .i64 n):=by
 show (ev x).iy (fun k a=> .val (kI k (Int.neg a)))=_
 rw [hx]
 show bM.val (kI .i64 (-a))=_
 rw [tu,ax,wrap64 hn]
end L
end
end Go.Eng
namespace Go.Eng
noncomputable section
end
end Go.Eng
namespace Go.Eng
noncomputable section
theorem QW {row:List V} {z:List V} {n:Nat} (hr:row.length=n) (hz:z.length=n:=by rfl):hX 0 row z=row:=by
 show gd row (ix (cZ row) z)=row
 rw [pZ,tt,me,hr,←hz,List.drop_length,List.append_nil]
theorem QX {row:List V} {n:Nat} (hr:row.length=n):nC n (ix 0 row)=row:=by
 show nC n row=row
 rw [FW,←hr,List.take_length]
end
end Go.Eng
namespace Go.Eng
noncomputable section
theorem Rows.yy {r b o n i j:Nat} {cap:Option Nat} {h:ag} {rows:List (List V)} {row:List V} {v:V} (a:Rows r h (.av b o n cap) rows) (aq:rows[i]? =some row) (aV:row[j]? =some v):h.eZ b (o+i * r+j)=some v:=by
 cases a with
 |row hr dP bq dh ec hlen=>
  rename_i f ap bo t
  have hlt:i<rows.length:=(List.getElem?_eq_some_iff.1 aq).1
  have au:=hlen row (List.mem_of_getElem? aq)
  have nH:j<row.length:=(List.getElem?_eq_some_iff.1 aV).1
  have hle:(i+1) * r≤rows.length * r:=Nat.mul_le_mul_right r hlt
  rw [Nat.add_mul] at hle
  unfold ag.eZ
  rw [show h.obj b=_ from dP]
  show (Bool.rec none (kH r (o+i * r+j) t) ((o+i * r+j).blt bo):Option V)=_
  have h1:(o+i * r+j).blt bo=true:=by rw [gG];simp;omega
  rw [h1]
  show kH r (o+i * r+j) t=_
  unfold kH
  obtain ⟨m,hm⟩:∃m,o=m * r:=⟨o / r,by have:=Nat.div_add_mod o r;rw [bq,Nat.mul_comm] at this;omega⟩
  have he:o+i * r+j=r * (m+i)+j:=by rw [hm,Nat.mul_comm r (m+i),Nat.add_mul]
  have h2:(o+i * r+j).div r=o / r+i:=by
   show (o+i * r+j) / r=_
   rw [he,Nat.mul_add_div hr,Nat.div_eq_of_lt (by omega),hm,Nat.mul_div_cancel _ hr];omega
  have bj:(o+i * r+j).mod r=j:=by
   show (o+i * r+j) % r=j
   rw [he,Nat.mul_add_mod,Nat.mod_eq_of_lt (by omega)]
  rw [h2,bj,dh i row aq]
  show aX (ix j row)=some v
  rw [CA,tt,List.head?_drop,aV]
theorem iL.more {c:Ctx} {cF:T ct} {kS:T ql} {more:Nat→List V→ag→bg} (ax:c=Ctx.of cF kS more) {f:Nat} (h0:T.get f cF=none) (h1:T.get f kS=none) {as_:List V} {h:ag} {r:bg} (e:more f as_ h=r):iL c f as_ h r:=by
 subst ax
 refine ⟨1,fun m hm R _=> ?_⟩
 obtain ⟨kk,rfl⟩:∃kk,m=kk+1:=⟨m - 1,by omega⟩
 show (Option.rec (Option.rec (more f as_ h) (fun F=>AO F (dg _ R kk) as_ h) (T.get f kS)) (fun fn=>q5 fn R (dg _ R kk) as_ h) (T.get f cF):bg)=r
 rw [h0,h1];exact e
theorem qn.empty:qn ag.empty:=⟨fun b hb=>absurd (T.wj b) hb,fun b hb=>absurd (T.wj b) hb,Nat.le_refl _⟩
theorem ak.empty:ak [] ag.empty:=ak.nil qn.empty
theorem aiJ {P:Program} (gD:P.follows .mixedOrders=true) {cF:T ct} {kS:T ql} {more:Nat→List V→ag→bg} (hf:sE (vl P) cF=true) (aX:sE (Lw P) kS=true) (hm:mq P more)
  {f:Nat} {as_:List V} (he:bU (Ctx.of cF kS more) f as_ ag.empty fun v _=>v= .bool true) {args:Array Value} (hr:cE bb.none as_ args.toList) (w:World):
  Calls P f args w fun e w'=>e= .returned (.bool true)∧Kept w w':=by
 obtain ⟨v,h1,⟨N,e⟩,rfl⟩:=he
 exact QA gD (c:=Ctx.of cF kS more) hf (QF gD aX hm) (e N (Nat.le_refl _) N (Nat.le_refl _)) hr w
end
end Go.Eng
namespace Go.Eng
noncomputable section
def ck:V→Nat
 | .av b _ _ _=>b
 |_=>0
def cu:V→Nat
 | .av _ o _ _=>o
 |_=>0
def LF:V→Option Nat
 | .av _ _ _ c=>c
 |_=>none
theorem Rows.av {r i:Nat} {h:ag} {v:V} {rows:List (List V)} (a:Rows r h v rows) (aq:i<rows.length):v= .av (ck v) (cu v) rows.length (LF v):=by
 cases a with
 |nil=>exact absurd aq (Nat.not_lt_zero _)
 |row=>rfl
theorem Rows.jY {r i:Nat} {h:ag} {v:V} {rows:List (List V)} {row:List V} (a:Rows r h v rows) (aq:rows[i]? =some row):h.load (ck v) (cu v+i * r) r=some row:=by
 have e:=a.av (List.getElem?_eq_some_iff.1 aq).1
 rw [e] at a
 exact a.dd aq
theorem Rows.kH {r i j:Nat} {h:ag} {v x:V} {rows:List (List V)} {row:List V} (a:Rows r h v rows) (aq:rows[i]? =some row) (aV:row[j]? =some x):h.eZ (ck v) (cu v+i * r+j)=some x:=by
 have e:=a.av (List.getElem?_eq_some_iff.1 aq).1
 rw [e] at a
 exact a.yy aq aV
theorem Rows.tS {i:Nat} {h:ag} {v x:V} {rows:List (List V)} (a:Rows 1 h v rows) (aq:rows[i]? =some [x]):h.eZ (ck v) (cu v+i * 1)=some x:=by
 have:=a.kH (j:=0) aq rfl
 rwa [Nat.add_zero] at this
theorem Z4 (n x:Nat):mQ n x n x=true:=by
 unfold mQ;simp
theorem L.Z5 {ev:dM} {h:ag} {x y:A} {b:Bool} (hx:ev x= .bool b) (hy:ev y= .bool b):light (.eq true .bool x y) ev h= .val (.bool false):=by
 show (Option.rec .bad (fun b=> .val (.bool (b !=true))) (c4.eq .bool (ev x) (ev y)):bM)=_
 rw [hx,hy]
 cases b<;>rfl
theorem L.QY {ev:dM} {h:ag} {x y:A} {l:List (Nat×c4)} {row:List V} (hx:ev x= .agg row) (hy:ev y= .agg row) (he:c4.eqs l row row=some true):light (.eq true (.st l) x y) ev h= .val (.bool false):=by
 show (Option.rec .bad (fun b=> .val (.bool (b !=true))) (c4.eq (.st l) (ev x) (ev y)):bM)=_
 rw [hx,hy]
 show (Option.rec .bad (fun b=> .val (.bool (b !=true))) (c4.eq (.st l) (.agg row) (.agg row)):bM)=_
 have e:c4.eq (.st l) (.agg row) (.agg row)=c4.eqs l row row:=by simp [c4.eq]
 rw [e,he];rfl
theorem c4.wV {off:Nat} {q:c4} {l:List (Nat×c4)} {row:List V} {v:V} (aE:aX (ix off row)=some v) (bC:c4.eq q v v=some true) (au:c4.eqs l row row=some true):c4.eqs ((off,q)::l) row row=some true:=by
 simp only [c4.eqs,aE,bC,au]
theorem c4.G8 (a:Int):c4.eq .int (.int .i64 a) (.int .i64 a)=some true:=by
 simp only [c4.eq,Ac];simp [ot]
theorem c4.G9 (l:List UInt8):c4.eq .str (L.str l) (L.str l)=some true:=by
 unfold L.str;simp only [c4.eq,Z4]
theorem L.eB {r n:Nat} {ev:dM} {h:ag} {x:A} {v:V} {rows:List (List V)} (hx:ev x=v) (a:Rows r h v rows) (hn:rows.length=n):light (.len false x) ev h= .val (.int .i64 (n:Int)):=by
 subst hn;exact L.ZZ hx a
theorem Rows.Z6 {r:Nat} {h aB:ag} {v:V} {rows rows':List (List V)} (a:Rows r h v rows) (bp:Rows r aB v rows') (hb:T.get (ck v) aB.t=T.get (ck v) h.t):rows'=rows:=by
 cases a with
 |nil=>
  generalize aE:V.U=v at bp
  cases bp with
  |nil=>rfl
  |row=>cases aE
 | @row b o f ap bo cap t rows hr dP bq dh ec hlen=>
   generalize aE:V.av b o rows.length cap=v at bp
   cases bp with
   |nil=>cases aE
   | @row bT fk dG aiK aiL Dt hY rows' Gl Z7 c0 Z8 x8 aiM=>
     injection aE with aT bu dH gC
     subst aT;subst bu;subst gC
     have hb:T.get b aB.t=T.get b h.t:=hb
     rw [dP,Z7] at hb
     injection hb with hb
     injection hb with gY kL sF LG sG
     subst sG
     refine List.ext_getElem? fun i=> ?_
     by_cases aq:i<rows.length
     · have h1:=List.getElem?_eq_getElem aq
       have h2:=List.getElem?_eq_getElem (l:=rows') (i:=i) (by omega)
       have bj:=dh i _ h1
       have cy:=Z8 i _ h2
       rw [bj] at cy
       rw [h1,h2,Option.some.inj cy]
     · rw [List.getElem?_eq_none (by omega),List.getElem?_eq_none (by omega)]
theorem ak.QZ {r:Nat} {v:V} {Q:ag→List (List V)→Prop} {fs:List Fact} {h:ag} (s:ak (.ay (fun h=>∃rows,Rows r h v rows∧Q h rows)::fs) h):∃rows,ak (.ay (fun h=>Rows r h v rows):: .ay (fun h=>Q h rows)::fs) h:=by
 obtain ⟨Z,s⟩:=s
 have oB:=s.all _ (List.mem_cons_self ..)
 obtain ⟨rows,h1,h2⟩:=oB h fun _ _=>rfl
 have hz:v= .U∨Z (ck v):=by
  apply Classical.byContradiction
  intro hn
  have ml:v≠.U:=fun e=>hn (Or.inl e)
  have qk:¬Z (ck v):=fun e=>hn (Or.inr e)
  obtain ⟨rows',bj,_⟩:=oB {h with t:=T.set (ck v) (.box []) h.t} fun b hb=>by
   show T.get b (T.set (ck v) (.box []) h.t)=_
   rw [T.fJ (Nat.zero_le _) (Nat.zero_le _),if_neg (by intro e;subst e;exact qk hb)]
  generalize aE:v=w at bj
  cases bj with
  |nil=>exact ml aE
  | @row b o f ap bo cap t rows hr dP bq dh ec hlen=>
    subst aE
    have e:T.get b (T.set b (.box []) h.t)=some (.cells r f ap bo t):=dP
    rw [T.Ab] at e;cases e
 have dep:∀aB,(∀b,Z b→T.get b aB.t=T.get b h.t)→Rows r aB v rows∧Q aB rows:=by
  intro aB b4
  obtain ⟨rows',bj,cy⟩:=oB aB b4
  rcases hz with rfl|hz
  · have aT:rows=[]:=by cases h1;rfl
    have bu:rows'=[]:=by cases bj;rfl
    subst aT;subst bu;exact ⟨bj,cy⟩
  · have e:=h1.Z6 bj (b4 _ hz)
    subst e;exact ⟨bj,cy⟩
 refine ⟨rows,Z,s.wf,s.z,s.jw,s.hJ,s.lV,s.dC,fun x hx=> ?_⟩
 rcases List.mem_cons.1 hx with rfl|hx
 · exact fun aB b4=>(dep aB b4).1
 · rcases List.mem_cons.1 hx with rfl|hx
   · exact fun aB b4=>(dep aB b4).2
   · exact s.all x (List.mem_cons_of_mem _ hx)
section
variable {c:Ctx} {Q:jd} {env:Env} {h:ag}
theorem ae.yes {g:A} {b:Bool} {op:Op} {cK:List Nat} {l:List eA} {vs:List V} {cp:List Log} (hg:(g.ev vs env).dy b=some true) (w:ae c (⟨.p op,cK⟩::l) Q vs cp env h):ae c (⟨.g g b op,cK⟩::l) Q vs cp env h:=by
 obtain ⟨x,aT,h1,⟨N,ev⟩,q⟩:=w
 refine ⟨x,aT,h1,⟨N,fun m hm R cA=> ?_⟩,q⟩
 show (Option.rec .bad (fun c1=>Bool.rec (e3 l (dg c R m) (un::vs) (.no::cp) env h) (kK op cK (dg c R m) (fun a=>a.ev vs env) cp env h fun aP v h=>e3 l (dg c R m) (v::vs) (aP::cp) env h) c1) ((g.ev vs env).dy b):bn)=_
 rw [hg];exact ev m hm R cA
theorem ae.no {g:A} {b:Bool} {op:Op} {cK:List Nat} {l:List eA} {vs:List V} {cp:List Log} (hg:(g.ev vs env).dy b=some false) (w:ae c l Q (un::vs) (.no::cp) env h):ae c (⟨.g g b op,cK⟩::l) Q vs cp env h:=by
 obtain ⟨x,aT,h1,⟨N,ev⟩,q⟩:=w
 refine ⟨x,aT,h1,⟨N,fun m hm R cA=> ?_⟩,q⟩
 show (Option.rec .bad (fun c1=>Bool.rec (e3 l (dg c R m) (un::vs) (.no::cp) env h) (kK op cK (dg c R m) (fun a=>a.ev vs env) cp env h fun aP v h=>e3 l (dg c R m) (v::vs) (aP::cp) env h) c1) ((g.ev vs env).dy b):bn)=_
 rw [hg];exact ev m hm R cA
end
end
end Go.Eng
namespace Go.Eng
noncomputable section
variable {c:Ctx} {Q:jd} {env:Env} {h:ag} {l:List dp} {vs:List V} {i j:bx}
theorem WP.af {iH:Nat} {b:C} (w:I c l (Q.seq c b) [] env h):WP c (.seq (.aG iH l) b) Q env h:=WP.seq (WP.aG w)
theorem WP.ss {a b d:C} (w:WP c a ((Q.seq c d).seq c b) env h):WP c (.seq (.seq a b) d) Q env h:=WP.seq (WP.seq w)
theorem I.af {iH:Nat} {b:C} (w:I c l (Q.seq c b) [] env h):I c [] (Q.seq c (.seq (.aG iH l) b)) vs env h:=I.nil (WP.seq (WP.aG w))
theorem I.bh {x:A} {a b:C} (w:WP c a Q env h) (hx:(x.ev [] env).asBool=some true:=by exact rfl):I c [] (Q.seq c (.cond x a b)) vs env h:=I.nil (WP.cond (t:=true) hx w)
theorem I.aY {x:A} {a b:C} (w:WP c b Q env h) (hx:(x.ev [] env).asBool=some false:=by exact rfl):I c [] (Q.seq c (.cond x a b)) vs env h:=I.nil (WP.cond (t:=false) hx w)
theorem I.v (v:V) {o:h7} (w:I c l Q (v::vs) env h) (au:light o (fun a=>a.ev vs env) h= .val v:=by exact rfl):I c (.p (.L o)::l) Q vs env h:=I.val au w
theorem I.az (v:V) {o:h7} (w:I c l Q (v::vs) (Env.set i j v env) h) (au:light o (fun a=>a.ev vs env) h= .val v:=by exact rfl):I c (.s i j (.L o)::l) Q vs env h:=I.bX au w
theorem I.f (v:V) {f:Nat} {x:A} (w:I c l Q (v::vs) env h) (au:light (.b3 f x) (fun a=>a.ev vs env) h= .val v:=by exact (L.b3 rfl)):I c (.p (.L (.b3 f x))::l) Q vs env h:=I.val au w
theorem I.b (v:V) {x:A} {b o:Nat} {row:List V} (hb:T.get b h.t=some (.box row)) (w:I c l Q (v::vs) env h) (hx:x.ev vs env= .ptr b o:=by exact rfl) (hr:aX (ix o row)=some v:=by exact rfl):I c (.p (.L (.load x))::l) Q vs env h:=I.val (L.iM hx hb hr) w
theorem I.rC (v:V) {x:A} {b o:Nat} {row:List V} (hb:T.get b h.t=some (.box row)) (w:I c l Q (v::vs) (Env.set i j v env) h) (hx:x.ev vs env= .ptr b o:=by exact rfl) (hr:aX (ix o row)=some v:=by exact rfl):I c (.s i j (.L (.load x))::l) Q vs env h:=I.bX (L.iM hx hb hr) w
theorem L.cB {ev:dM} {h:ag} {x y:A} {a b n:Int} (hx:ev x= .int .i64 a:=by exact rfl) (hy:ev y= .int .i64 b:=by exact rfl) (ax:a+b=n:=by omega) (hn:tQ n:=by exact And.intro (by omega) (by omega)):light (.bin .add x y) ev h= .val (.int .i64 n):=L.QM hx hy ax hn
theorem I.eP {g k:A} {a b:Bool} {o p:Op} (w:I c l Q (un::un::vs) env h) (hg:(g.ev vs env).dy a=some false:=by exact rfl) (hk:(k.ev (un::vs) env).dy b=some false:=by exact rfl):I c (.g g a o:: .g k b p::l) Q vs env h:=I.no hg (I.no hk w)
theorem I.gK {g k g1 cH:A} {a b a1 fw:Bool} {o p CS p1:Op} (w:I c l Q (un::un::un::un::vs) env h) (hg:(g.ev vs env).dy a=some false:=by exact rfl) (hk:(k.ev (un::vs) env).dy b=some false:=by exact rfl) (oI:(g1.ev (un::un::vs) env).dy a1=some false:=by exact rfl) (sH:(cH.ev (un::un::un::vs) env).dy fw=some false:=by exact rfl):I c (.g g a o:: .g k b p:: .g g1 a1 CS:: .g cH fw p1::l) Q vs env h:=I.no hg (I.no hk (I.no oI (I.no sH w)))
theorem I.rt (q:Q .ret env h):I c [] (Q.seq c .ret) vs env h:=I.nil (WP.ret q)
theorem I.cc {fs:List Fact} {n b o:Nat} {x y:A} {cs row:List V} (row':List V) (st:ak fs h) (k:Nat) (hk:fs[k]? =some (.box b row)) (K:∀h1,ak (fs.set k (.box b row')) h1→I c l Q (un::vs) env h1) (hx:x.ev vs env= .ptr b o:=by exact rfl) (hy:(y.ev vs env).dY=some cs:=by exact rfl) (hn:cZ cs=n:=by exact rfl) (h0:n.beq 0=false:=by exact rfl) (bq:(Nat.add o n).ble (cZ row)=true:=by exact rfl) (hr:hX o cs row=row':=by exact rfl):I c (.p (.H (.store n x y))::l) Q vs env h:=I.fV st k hk hx hy hn h0 bq hr K
theorem fp {α:Type} {l:List α} {i:Nat} (h:i<l.length):∃y,l[i]? =some y:=⟨l[i],List.getElem?_eq_getElem h⟩
section
variable {l:List eA} {cp:List Log} {cK:List Nat}
theorem ae.af {b:C} {iH:Nat} {l:List dp} (w:I c l (Q.seq c b) [] env h):ae c [] (Q.seq c (.seq (.aG iH l) b)) vs cp env h:=ae.nil (WP.seq (WP.aG w))
theorem ae.bh {x:A} {a b:C} (w:WP c a Q env h) (hx:(x.ev [] env).asBool=some true:=by exact rfl):ae c [] (Q.seq c (.cond x a b)) vs cp env h:=ae.nil (WP.cond (t:=true) hx w)
theorem ae.aY {x:A} {a b:C} (w:WP c b Q env h) (hx:(x.ev [] env).asBool=some false:=by exact rfl):ae c [] (Q.seq c (.cond x a b)) vs cp env h:=ae.nil (WP.cond (t:=false) hx w)
theorem ae.v (v:V) {o:h7} (w:ae c l Q (v::vs) (.rd (light o (fun a=>a.ev vs env)) v::cp) env h) (au:light o (fun a=>a.ev vs env) h= .val v:=by exact rfl):ae c (⟨.p (.L o),cK⟩::l) Q vs cp env h:=ae.val au w
theorem ae.az (v:V) {o:h7} (w:ae c l Q (v::vs) (.rd (light o (fun a=>a.ev vs env)) v::cp) (Env.set i j v env) h) (au:light o (fun a=>a.ev vs env) h= .val v:=by exact rfl):ae c (⟨.s i j (.L o),cK⟩::l) Q vs cp env h:=ae.bX au w
theorem ae.f (v:V) {f:Nat} {x:A} (w:ae c l Q (v::vs) (.rd (light (.b3 f x) (fun a=>a.ev vs env)) v::cp) env h) (au:light (.b3 f x) (fun a=>a.ev vs env) h= .val v:=by exact (L.b3 rfl)):ae c (⟨.p (.L (.b3 f x)),cK⟩::l) Q vs cp env h:=ae.val au w
theorem ae.b (v:V) {x:A} {b o:Nat} {row:List V} (hb:T.get b h.t=some (.box row)) (w:ae c l Q (v::vs) (.rd (light (.load x) (fun a=>a.ev vs env)) v::cp) env h) (hx:x.ev vs env= .ptr b o:=by exact rfl) (hr:aX (ix o row)=some v:=by exact rfl):ae c (⟨.p (.L (.load x)),cK⟩::l) Q vs cp env h:=ae.val (L.iM hx hb hr) w
end
theorem ca (v:V) {e:Env} {h:ag} {i j:bx} (aE:Env.get i j e=v:=by exact rfl):results e h [.tmp i j]=some [v]:=cT (fS aE) (fo _ _)
abbrev V.n (x:Nat):V:= .int .i64 (x:Int)
end
end Go.Eng
