/- Part of a proof of a law: rules of an evaluator, contracts, plain laws. No condition of its own. -/
import Derived.Test.YtmcjcbldmoijiaaGreatDoorEngB
set_option linter.unusedVariables false
set_option linter.unusedSimpArgs false
namespace Go.Eng
noncomputable section
def h9 (c:Ctx) (f:Nat) (as_:List V) (h:ae) (r:a7):Prop:=∃N,∀m,N≤m→∀R,N≤R→(cW c R m f as_ .none h).1=r
def X9 (c:Ctx) (e:C) (env:Env) (h:ae) (x:X) (env':Env) (ax:ae):Prop:=∃N,∀m,N≤m→∀R,N≤R→code e (cW c R m) R env h= .ok x env' ax
def Ya (c:Ctx) (l:List eA) (vs:List V) (env:Env) (h:ae) (x:X) (env':Env) (ax:ae):Prop:=∃N,∀m,N≤m→∀R,N≤R→eH l (cW c R m) vs env h= .ok x env' ax
def Yb (c:Ctx) (l:List ea) (vs:List V) (b3:List Log) (env:Env) (h:ae) (x:X) (env':Env) (ax:ae):Prop:=∃N,∀m,N≤m→∀R,N≤R→eB l (cW c R m) vs b3 env h= .ok x env' ax
abbrev hX:=X→Env→ae→Prop
def WP (c:Ctx) (e:C) (Q:hX) (env:Env) (h:ae):Prop:=∃x env' ax,X9 c e env h x env' ax∧Q x env' ax
def I (c:Ctx) (l:List eA) (Q:hX) (vs:List V) (env:Env) (h:ae):Prop:=∃x env' ax,Ya c l vs env h x env' ax∧Q x env' ax
def af (c:Ctx) (l:List ea) (Q:hX) (vs:List V) (b3:List Log) (env:Env) (h:ae):Prop:=∃x env' ax,Yb c l vs b3 env h x env' ax∧Q x env' ax
def hX.seq (c:Ctx) (b:C) (Q:hX):hX:=fun x e h=>match x with
 | .e1=>WP c b Q e h
 |x=>Q x e h
def hX.block (id:Nat) (Q:hX):hX:=fun x e h=>match x with
 | .exit i=>if i=id then Q .e1 e h else Q (.exit i) e h
 |x=>Q x e h
section
variable {c:Ctx} {Q:hX} {env:Env} {h:ae}
theorem WP.mono {e:C} {OH:hX} (w:WP c e Q env h) (bB:∀x e h,Q x e h→OH x e h):WP c e OH env h:=
 let ⟨x,bF,ax,ev,q⟩:=w;⟨x,bF,ax,ev,bB _ _ _ q⟩
theorem WP.skip (q:Q .e1 env h):WP c .skip Q env h:=⟨_,_,_,⟨0,fun _ _ _ _=>rfl⟩,q⟩
theorem WP.ret (q:Q .ret env h):WP c .ret Q env h:=⟨_,_,_,⟨0,fun _ _ _ _=>rfl⟩,q⟩
theorem WP.exit {id:Nat} (q:Q (.exit id) env h):WP c (.exit id) Q env h:=⟨_,_,_,⟨0,fun _ _ _ _=>rfl⟩,q⟩
theorem WP.seq {a b:C} (w:WP c a (Q.seq c b) env h):WP c (.seq a b) Q env h:=by
 obtain ⟨x,aS,h1,⟨N,ev⟩,q⟩:=w
 cases x with
 |e1=>
  obtain ⟨bR,bl,h2,⟨xj,Yc⟩,c0⟩:=q
  refine ⟨bR,bl,h2,⟨max N xj,fun m hm R cz=> ?_⟩,c0⟩
  show (bj.rec (fun x env h=>X.rec (code b (cW c R m) R env h) (.ok .ret env h) (fun i=> .ok (.exit i) env h) (fun v=> .ok (.c8 v) env h) x) .bad (code a (cW c R m) R env h):bj)=_
  rw [ev m (by omega) R (by omega)]
  exact Yc m (by omega) R (by omega)
 |ret=>exact ⟨_,_,_,⟨N,fun m hm R cz=>by
   show (bj.rec (fun x env h=>X.rec (code b (cW c R m) R env h) (.ok .ret env h) (fun i=> .ok (.exit i) env h) (fun v=> .ok (.c8 v) env h) x) .bad (code a (cW c R m) R env h):bj)=_
   rw [ev m hm R cz]⟩,q⟩
 |exit i=>exact ⟨_,_,_,⟨N,fun m hm R cz=>by
   show (bj.rec (fun x env h=>X.rec (code b (cW c R m) R env h) (.ok .ret env h) (fun i=> .ok (.exit i) env h) (fun v=> .ok (.c8 v) env h) x) .bad (code a (cW c R m) R env h):bj)=_
   rw [ev m hm R cz]⟩,q⟩
 |c8 v=>exact ⟨_,_,_,⟨N,fun m hm R cz=>by
   show (bj.rec (fun x env h=>X.rec (code b (cW c R m) R env h) (.ok .ret env h) (fun i=> .ok (.exit i) env h) (fun v=> .ok (.c8 v) env h) x) .bad (code a (cW c R m) R env h):bj)=_
   rw [ev m hm R cz]⟩,q⟩
theorem WP.cond {x:A} {a b:C} {t:Bool} (hx:(x.ev [] env).asBool=some t) (w:WP c (if t then a else b) Q env h):WP c (.cond x a b) Q env h:=by
 obtain ⟨y,aS,h1,⟨N,ev⟩,q⟩:=w
 refine ⟨y,aS,h1,⟨N,fun m hm R cz=> ?_⟩,q⟩
 show (Option.rec .bad (fun t=>Bool.rec (code b (cW c R m) R env h) (code a (cW c R m) R env h) t) (x.ev [] env).asBool:bj)=_
 rw [hx]
 have:=ev m hm R cz
 cases t<;>exact this
theorem WP.block {id:Nat} {a:C} (w:WP c a (Q.block id) env h):WP c (.block id a) Q env h:=by
 obtain ⟨y,aS,h1,⟨N,ev⟩,q⟩:=w
 have key:∀m,N≤m→∀R,N≤R→code (.block id a) (cW c R m) R env h=(bj.rec (fun x env h=>X.rec (.ok .e1 env h) (.ok .ret env h) (fun i=> .ok (Bool.rec (.exit i) .e1 (i.beq id)) env h) (fun v=> .ok (.c8 v) env h) x) .bad (bj.ok y aS h1):bj):=fun m hm R cz=>by rw [←ev m hm R cz];rfl
 cases y with
 |e1=>exact ⟨_,_,_,⟨N,key⟩,q⟩
 |ret=>exact ⟨_,_,_,⟨N,key⟩,q⟩
 |c8 v=>exact ⟨_,_,_,⟨N,key⟩,q⟩
 |exit i=>
  by_cases ag:i=id
  · subst ag
    have q:Q .e1 aS h1:=by have q:(if i=i then Q .e1 aS h1 else Q (.exit i) aS h1):=q;rwa [if_pos rfl] at q
    refine ⟨.e1,aS,h1,⟨N,fun m hm R cz=> ?_⟩,q⟩
    rw [key m hm R cz]
    show bj.ok (Bool.rec (.exit i) .e1 (i.beq i)) aS h1=_
    rw [Nat.beq_refl]
  · have q:Q (.exit i) aS h1:=by have q:(if i=id then Q .e1 aS h1 else Q (.exit i) aS h1):=q;rwa [if_neg ag] at q
    refine ⟨.exit i,aS,h1,⟨N,fun m hm R cz=> ?_⟩,q⟩
    rw [key m hm R cz]
    show bj.ok (Bool.rec (.exit i) .e1 (i.beq id)) aS h1=_
    have:i.beq id=false:=by
     cases hb:i.beq id with
     |false=>rfl
     |true=>exact absurd (Nat.eq_of_beq_eq_true hb) ag
    rw [this]
theorem WP.ad {h3:Nat} {l:List eA} (w:I c l Q [] env h):WP c (.ad h3 l) Q env h:=w
theorem WP.draw {pm:List Nat} {l:List ea} (w:af c l Q [] [] env h):WP c (.draw pm l) Q env h:=w
theorem I.nil {vs:List V} (q:Q .e1 env h):I c [] Q vs env h:=⟨_,_,_,⟨0,fun _ _ _ _=>rfl⟩,q⟩
theorem I.val {o:hh} {l:List eA} {vs:List V} {v:V} (ar:light o (fun a=>a.ev vs env) h= .val v) (w:I c l Q (v::vs) env h):I c (.p (.L o)::l) Q vs env h:=by
 obtain ⟨x,aS,h1,⟨N,ev⟩,q⟩:=w
 refine ⟨x,aS,h1,⟨N,fun m hm R cz=> ?_⟩,q⟩
 show ((light o (fun a=>a.ev vs env) h).k h fun v h=>eH l (cW c R m) (v::vs) env h)=_
 rw [ar]
 show v.force (fun v=>eH l (cW c R m) (v::vs) env h)=_
 rw [V.force_eq];exact ev m hm R cz
theorem I.bS {i j:bp} {o:hh} {l:List eA} {vs:List V} {v:V} (ar:light o (fun a=>a.ev vs env) h= .val v) (w:I c l Q (v::vs) (Env.set i j v env) h):I c (.s i j (.L o)::l) Q vs env h:=by
 obtain ⟨x,aS,h1,⟨N,ev⟩,q⟩:=w
 refine ⟨x,aS,h1,⟨N,fun m hm R cz=> ?_⟩,q⟩
 show ((light o (fun a=>a.ev vs env) h).k h fun v h=>Env.dg i j v (fun env=>eH l (cW c R m) (v::vs) env h) env)=_
 rw [ar]
 show v.force (fun v=>Env.dg i j v (fun env=>eH l (cW c R m) (v::vs) env h) env)=_
 rw [V.force_eq,Env.h4];exact ev m hm R cz
theorem I.new {o:hh} {l:List eA} {vs:List V} {v:V} {aG:Obj} (ar:light o (fun a=>a.ev vs env) h= .new aG v) (ay:eT aG=true) (w:I c l Q (v::vs) env (h.add aG)):I c (.p (.L o)::l) Q vs env h:=by
 obtain ⟨x,aS,h1,⟨N,ev⟩,q⟩:=w
 refine ⟨x,aS,h1,⟨N,fun m hm R cz=> ?_⟩,q⟩
 show ((light o (fun a=>a.ev vs env) h).k h fun v h=>eH l (cW c R m) (v::vs) env h)=_
 rw [ar]
 show (Bool.rec .bad (h.kq aG fun h=>eH l (cW c R m) (v::vs) env h) (eT aG):bj)=_
 rw [ay,nD];exact ev m hm R cz
theorem I.zq {i j:bp} {o:hh} {l:List eA} {vs:List V} {v:V} {aG:Obj} (ar:light o (fun a=>a.ev vs env) h= .new aG v) (ay:eT aG=true) (w:I c l Q (v::vs) (Env.set i j v env) (h.add aG)):I c (.s i j (.L o)::l) Q vs env h:=by
 obtain ⟨x,aS,h1,⟨N,ev⟩,q⟩:=w
 refine ⟨x,aS,h1,⟨N,fun m hm R cz=> ?_⟩,q⟩
 show ((light o (fun a=>a.ev vs env) h).k h fun v h=>Env.dg i j v (fun env=>eH l (cW c R m) (v::vs) env h) env)=_
 rw [ar]
 show (Bool.rec .bad (h.kq aG fun h=>Env.dg i j v (fun env=>eH l (cW c R m) (v::vs) env h) env) (eT aG):bj)=_
 rw [ay,nD,Env.h4];exact ev m hm R cz
theorem I.act {o:nu} {l:List eA} {vs:List V} {v:V} {h2:ae} (ar:∀call,gM o call (fun a=>a.ev vs env) h= .ok v h2) (w:I c l Q (v::vs) env h2):I c (.p (.H o)::l) Q vs env h:=by
 obtain ⟨x,aS,h1,⟨N,ev⟩,q⟩:=w
 refine ⟨x,aS,h1,⟨N,fun m hm R cz=> ?_⟩,q⟩
 show ((gM o (cW c R m) (fun a=>a.ev vs env) h).k env fun v h=>eH l (cW c R m) (v::vs) env h)=_
 rw [ar]
 show v.force (fun v=>eH l (cW c R m) (v::vs) env h2)=_
 rw [V.force_eq];exact ev m hm R cz
theorem I.E2 {i j:bp} {o:nu} {l:List eA} {vs:List V} {v:V} {h2:ae} (ar:∀call,gM o call (fun a=>a.ev vs env) h= .ok v h2) (w:I c l Q (v::vs) (Env.set i j v env) h2):I c (.s i j (.H o)::l) Q vs env h:=by
 obtain ⟨x,aS,h1,⟨N,ev⟩,q⟩:=w
 refine ⟨x,aS,h1,⟨N,fun m hm R cz=> ?_⟩,q⟩
 show ((gM o (cW c R m) (fun a=>a.ev vs env) h).k env fun v h=>Env.dg i j v (fun env=>eH l (cW c R m) (v::vs) env h) env)=_
 rw [ar]
 show v.force (fun v=>Env.dg i j v (fun env=>eH l (cW c R m) (v::vs) env h2) env)=_
 rw [V.force_eq,Env.h4];exact ev m hm R cz
theorem JF (h:ae) (r:a7):rb h r=r:=by cases r<;>rfl
theorem I.call {f:Nat} {as_:List A} {l:List eA} {vs:List V} {v:V} {h2:ae} (ar:h9 c f (hi as_ fun a=>a.ev vs env) h (.ok v h2)) (w:I c l Q (v::vs) env h2):I c (.p (.H (.call f as_))::l) Q vs env h:=by
 obtain ⟨x,aS,h1,⟨N,ev⟩,q⟩:=w
 obtain ⟨xj,ar⟩:=ar
 refine ⟨x,aS,h1,⟨max N xj,fun m hm R cz=> ?_⟩,q⟩
 show ((rb h (cW c R m f (hi as_ fun a=>a.ev vs env) .none h).1).k env fun v h=>eH l (cW c R m) (v::vs) env h)=_
 rw [JF,ar m (by omega) R (by omega)]
 show v.force (fun v=>eH l (cW c R m) (v::vs) env h2)=_
 rw [V.force_eq];exact ev m (by omega) R (by omega)
theorem I.Yd {i j:bp} {f:Nat} {as_:List A} {l:List eA} {vs:List V} {v:V} {h2:ae} (ar:h9 c f (hi as_ fun a=>a.ev vs env) h (.ok v h2)) (w:I c l Q (v::vs) (Env.set i j v env) h2):I c (.s i j (.H (.call f as_))::l) Q vs env h:=by
 obtain ⟨x,aS,h1,⟨N,ev⟩,q⟩:=w
 obtain ⟨xj,ar⟩:=ar
 refine ⟨x,aS,h1,⟨max N xj,fun m hm R cz=> ?_⟩,q⟩
 show ((rb h (cW c R m f (hi as_ fun a=>a.ev vs env) .none h).1).k env fun v h=>Env.dg i j v (fun env=>eH l (cW c R m) (v::vs) env h) env)=_
 rw [JF,ar m (by omega) R (by omega)]
 show v.force (fun v=>Env.dg i j v (fun env=>eH l (cW c R m) (v::vs) env h2) env)=_
 rw [V.force_eq,Env.h4];exact ev m (by omega) R (by omega)
theorem h9.dN {f:Nat} {F:cd} {as_:List V} {r:a7} (b1:T.get f c.cE=some F) (hn:as_.length=F.jh) (w:WP c F.body (fun x e ax=>match x with
  | .e1=>∃vs,results e ax F.results=some vs∧r= .ok (one vs) ax
  | .ret=>∃vs,results e ax F.results=some vs∧r= .ok (one vs) ax
  | .c8 v=>r= .c8 v ax
  | .exit _=>False) (c6 as_ 0 Env.nil) h):h9 c f as_ h r:=by
 obtain ⟨x,aS,h1,⟨N,ev⟩,q⟩:=w
 refine ⟨N+1,fun m hm R cz=> ?_⟩
 obtain ⟨jH,rfl⟩:∃jH,m=jH+1:=⟨m - 1,by omega⟩
 show (Option.rec (c.wM (cW c R jH) f as_ h) (fun fn=>p7 fn R (cW c R jH) as_ h) (T.get f c.cE):a7)=r
 rw [b1]
 show p7 F R (cW c R jH) as_ h=r
 unfold p7
 have ar:(cI as_).beq F.jh=true:=by rw [kX,hn];exact Nat.beq_refl _
 rw [ar]
 show A7 F.results (args as_ 0 Env.nil fun env=>code F.body (cW c R jH) R env h)=r
 rw [E0,ev jH (by omega) R (by omega)]
 have fin:∀vs,results aS h1 F.results=some vs→finish F.results aS h1= .ok (one vs) h1:=fun vs aD=>by unfold finish;rw [aD]
 cases x with
 |e1=>obtain ⟨vs,aD,hr⟩:=q;rw [hr];exact fin vs aD
 |ret=>obtain ⟨vs,aD,hr⟩:=q;rw [hr];exact fin vs aD
 |c8 v=>exact q.symm
 |exit i=>exact q.elim
end
end
end Go.Eng
namespace Go.Eng
noncomputable section
structure po (h:ae):Prop where
 t:∀b,T.get b h.t≠none→b<h.next
 f:∀b,T.get b h.bA≠none→b<h.next
 lim:8≤h.next
structure E3 (B:Nat) (h ax:ae):Prop where
 next:h.next≤ax.next
 t:∀b,b<B→T.get b ax.t=T.get b h.t
 f:∀b,b<B→T.get b ax.bA=T.get b h.bA
 wf:po h→po ax
theorem E3.mono {B aZ:Nat} {a b:ae} (x:E3 B a b) (bN:aZ≤B):E3 aZ a b:=
 ⟨x.next,fun k hk=>x.t k (Nat.lt_of_lt_of_le hk bN),fun k hk=>x.f k (Nat.lt_of_lt_of_le hk bN),x.wf⟩
theorem B1 (h:ae) (aG:Obj) (b:Nat):T.get b (h.add aG).t=if b=h.next then some aG else T.get b h.t:=
 T.eU (Nat.zero_le _) (Nat.zero_le _) ..
theorem sS (h:ae) (aG:Obj):T.get h.next (h.add aG).t=some aG:=by rw [B1,if_pos rfl]
theorem zr {h:ae} {aG:Obj} {b:Nat} (hb:b<h.next):T.get b (h.add aG).t=T.get b h.t:=by rw [B1,if_neg (by omega)]
inductive Acc (B r:Nat) (h:ae):V→List (List V)→Prop
 |nil:Acc B r h .U []
 |row {b f ap:Nat} {t:T (List V)} {rows:List (List V)} (fB:8≤b) (hn:0<rows.length) (hb:B≤b) (hf:B≤f) (Ic:f≤b) (dj:T.get b h.t=some (.cells r f ap (rows.length * r) t))
   (cF:∀i row,rows[i]? =some row→T.get i t=some row) (jx:∀F,T.get f h.bA=some F→F.last≤ap+rows.length * r) (hlen:∀row∈rows,row.length=r):
   Acc B r h (.au b 0 rows.length none) rows
end
end Go.Eng
namespace Go.Eng
noncomputable section
inductive Rows (r:Nat) (h:ae):V→List (List V)→Prop
 |nil:Rows r h .U []
 |row {b o f ap bk:Nat} {cap:Option Nat} {t:T (List V)} {rows:List (List V)} (hr:0<r) (dj:T.get b h.t=some (.cells r f ap bk t)) (bd:o % r=0)
   (cF:∀i row,rows[i]? =some row→T.get (o / r+i) t=some row) (dC:o+rows.length * r≤bk) (hlen:∀row∈rows,row.length=r):Rows r h (.au b o rows.length cap) rows
theorem Rows.same {r B:Nat} {h ax:ae} {v:V} {rows:List (List V)} (a:Rows r h v rows) (s:E3 B h ax) (bN:∀b o n cap,v= .au b o n cap→b<B):Rows r ax v rows:=by
 cases a with
 |nil=>exact .nil
 |row hr dj bd cF dC hlen=>exact .row hr (by rw [s.t _ (bN _ _ _ _ rfl)];exact dj) bd cF dC hlen
theorem OI {r o i:Nat} (hr:0<r) (bd:o % r=0):(o+i * r) / r=o / r+i:=by
 rw [Nat.add_mul_div_right _ _ hr]
theorem Ye {r o i:Nat} (bd:o % r=0):(o+i * r) % r=0:=by rw [Nat.add_mul_mod_self_right];exact bd
theorem Rows.da {r b o n i:Nat} {cap:Option Nat} {h:ae} {rows:List (List V)} {row:List V} (a:Rows r h (.au b o n cap) rows) (ag:rows[i]? =some row):h.load b (o+i * r) r=some row:=by
 cases a with
 |row hr dj bd cF dC hlen=>
  rename_i f ap bk t
  have hlt:i<rows.length:=(List.getElem?_eq_some_iff.1 ag).1
  have hle:(i+1) * r≤rows.length * r:=Nat.mul_le_mul_right r hlt
  unfold ae.load
  have h0:r.beq 0=false:=by
   cases hb:r.beq 0 with
   |false=>rfl
   |true=>have:=Nat.eq_of_beq_eq_true hb;omega
  rw [h0,cond_false,show h.obj b=_ from dj]
  show (bif (Nat.add (o+i * r) r).ble bk then cut r (o+i * r) r t else none)=_
  have h1:(Nat.add (o+i * r) r).ble bk=true:=by
   rw [ew]
   have:o+i * r+r≤bk:=Nat.le_trans (by rw [Nat.add_mul,Nat.one_mul] at hle;omega) dC
   simpa using this
  rw [h1,cond_true]
  unfold cut
  have h2:(r.beq r&&((o+i * r).mod r).beq 0)=true:=by
   have:(o+i * r).mod r=0:=Ye bd
   rw [this,Nat.beq_refl];rfl
  rw [h2,cond_true]
  have:(o+i * r).div r=o / r+i:=OI hr bd
  rw [this];exact cF i row ag
theorem Rows.eb {b o n i:Nat} {cap:Option Nat} {h:ae} {rows:List (List V)} {x:V} (a:Rows 1 h (.au b o n cap) rows) (ag:rows[i]? =some [x]):h.eb b (o+i * 1)=some x:=by
 cases a with
 |row hr dj bd cF dC hlen=>
  rename_i f ap bk t
  have hlt:i<rows.length:=(List.getElem?_eq_some_iff.1 ag).1
  unfold ae.eb
  rw [show h.obj b=_ from dj]
  show (Bool.rec none (sl 1 (o+i * 1) t) ((o+i * 1).blt bk):Option V)=_
  have h1:(o+i * 1).blt bk=true:=by rw [fY];simp;omega
  rw [h1]
  show sl 1 (o+i * 1) t=_
  unfold sl
  have h2:(o+i * 1).div 1=o / 1+i:=OI (by omega) bd
  have a6:(o+i * 1).mod 1=0:=Nat.mod_one _
  rw [h2,a6,cF i [x] ag]
  rfl
theorem Rows.len {r:Nat} {h:ae} {v:V} {rows:List (List V)} (a:Rows r h v rows):(v= .U∧rows=[])∨∃b o cap,v= .au b o rows.length cap:=by
 cases a with
 |nil=>exact .inl ⟨rfl,rfl⟩
 |row=>exact .inr ⟨_,_,_,rfl⟩
end
end Go.Eng
namespace Go.Eng
noncomputable section
mutual
theorem V.JG:∀v:V,V.same v v=true
 | .bot=>rfl
 | .bool b=>by simp [V.same]
 | .int k n=>by simp [V.same]
 | .str n x=>by
   show (Bool.rec false (x.beq x) (n.beq n):Bool)=true
   rw [Nat.beq_refl n];exact Nat.beq_refl x
 | .nr=>rfl
 | .ptr a o=>by show (a.beq a&&o.beq o)=true;rw [Nat.beq_refl,Nat.beq_refl];rfl
 | .U=>rfl
 | .au a o n c=>by show (a.beq a&&(o.beq o&&(n.beq n&&c==c)))=true;rw [Nat.beq_refl,Nat.beq_refl,Nat.beq_refl];simp
 | .kp=>rfl
 | .map a=>Nat.beq_refl a
 | .fn f a b=>by show (f.beq f&&(V.p6 a a&&V.p6 b b))=true;rw [Nat.beq_refl,V.zs a,V.zs b];rfl
 | .nt=>rfl
 | .ez t v=>by show (t.beq t&&V.same v v)=true;rw [Nat.beq_refl,V.JG v];rfl
 | .jG=>rfl
 | .agg a=>V.zs a
 | .dh a=>V.zs a
theorem V.zs:∀l:List V,V.p6 l l=true
 |[]=>rfl
 |a::l=>by show (V.same a a&&V.p6 l l)=true;rw [V.JG a,V.zs l];rfl
end
theorem jz {h:ae} {f:ae→bE} {v:V} (he:f h= .val v):still h (.rd f v)=true:=by
 show A6 f v h=true
 unfold A6;rw [he];exact V.JG v
theorem j6 (h:ae) (b3:List Log):jW [] h b3=true:=rfl
theorem hN {d:Nat} {cn:List Nat} {h:ae} {b3:List Log} (h1:still h (logAt b3 d)=true) (h2:jW cn h b3=true):jW (d::cn) h b3=true:=by
 show (Bool.rec false (jW cn h b3) (still h (logAt b3 d)):Bool)=true
 rw [h1];exact h2
section
variable {c:Ctx} {Q:hX} {env:Env} {h:ae}
theorem af.nil {vs:List V} {b3:List Log} (q:Q .e1 env h):af c [] Q vs b3 env h:=⟨_,_,_,⟨0,fun _ _ _ _=>rfl⟩,q⟩
theorem af.val {o:hh} {cn:List Nat} {l:List ea} {vs:List V} {b3:List Log} {v:V} (ar:light o (fun a=>a.ev vs env) h= .val v) (w:af c l Q (v::vs) (.rd (light o (fun a=>a.ev vs env)) v::b3) env h):af c (⟨.p (.L o),cn⟩::l) Q vs b3 env h:=by
 obtain ⟨x,aS,h1,⟨N,ev⟩,q⟩:=w
 refine ⟨x,aS,h1,⟨N,fun m hm R cz=> ?_⟩,q⟩
 show ((light o (fun a=>a.ev vs env) h).kd (light o (fun a=>a.ev vs env)) h fun aI v h=>eB l (cW c R m) (v::vs) (aI::b3) env h)=_
 rw [ar]
 show v.force (fun v=>eB l (cW c R m) (v::vs) (.rd (light o (fun a=>a.ev vs env)) v::b3) env h)=_
 rw [V.force_eq];exact ev m hm R cz
theorem af.bS {i j:bp} {o:hh} {cn:List Nat} {l:List ea} {vs:List V} {b3:List Log} {v:V} (ar:light o (fun a=>a.ev vs env) h= .val v) (w:af c l Q (v::vs) (.rd (light o (fun a=>a.ev vs env)) v::b3) (Env.set i j v env) h):af c (⟨.s i j (.L o),cn⟩::l) Q vs b3 env h:=by
 obtain ⟨x,aS,h1,⟨N,ev⟩,q⟩:=w
 refine ⟨x,aS,h1,⟨N,fun m hm R cz=> ?_⟩,q⟩
 show ((light o (fun a=>a.ev vs env) h).kd (light o (fun a=>a.ev vs env)) h fun aI v h=>Env.dg i j v (fun env=>eB l (cW c R m) (v::vs) (aI::b3) env h) env)=_
 rw [ar]
 show v.force (fun v=>Env.dg i j v (fun env=>eB l (cW c R m) (v::vs) (.rd (light o (fun a=>a.ev vs _)) v::b3) env h) env)=_
 rw [V.force_eq,Env.h4];exact ev m hm R cz
theorem af.new {o:hh} {cn:List Nat} {l:List ea} {vs:List V} {b3:List Log} {v:V} {aG:Obj} (ar:light o (fun a=>a.ev vs env) h= .new aG v) (ay:eT aG=true) (w:af c l Q (v::vs) (.kW h.next aG::b3) env (h.add aG)):af c (⟨.p (.L o),cn⟩::l) Q vs b3 env h:=by
 obtain ⟨x,aS,h1,⟨N,ev⟩,q⟩:=w
 refine ⟨x,aS,h1,⟨N,fun m hm R cz=> ?_⟩,q⟩
 show ((light o (fun a=>a.ev vs env) h).kd (light o (fun a=>a.ev vs env)) h fun aI v h=>eB l (cW c R m) (v::vs) (aI::b3) env h)=_
 rw [ar]
 show force h.next (fun id=>wK (fun v h=>eB l (cW c R m) (v::vs) (.kW id aG::b3) env h) h aG v)=_
 rw [force_eq]
 show (Bool.rec .bad (h.kq aG fun ax=>eB l (cW c R m) (v::vs) (.kW h.next aG::b3) env ax) (eT aG):bj)=_
 rw [ay,nD];exact ev m hm R cz
theorem af.zq {i j:bp} {o:hh} {cn:List Nat} {l:List ea} {vs:List V} {b3:List Log} {v:V} {aG:Obj} (ar:light o (fun a=>a.ev vs env) h= .new aG v) (ay:eT aG=true) (w:af c l Q (v::vs) (.kW h.next aG::b3) (Env.set i j v env) (h.add aG)):af c (⟨.s i j (.L o),cn⟩::l) Q vs b3 env h:=by
 obtain ⟨x,aS,h1,⟨N,ev⟩,q⟩:=w
 refine ⟨x,aS,h1,⟨N,fun m hm R cz=> ?_⟩,q⟩
 show ((light o (fun a=>a.ev vs env) h).kd (light o (fun a=>a.ev vs env)) h fun aI v h=>Env.dg i j v (fun env=>eB l (cW c R m) (v::vs) (aI::b3) env h) env)=_
 rw [ar]
 show force h.next (fun id=>wK (fun v h=>Env.dg i j v (fun env=>eB l (cW c R m) (v::vs) (.kW id aG::b3) env h) env) h aG v)=_
 rw [force_eq]
 show (Bool.rec .bad (h.kq aG fun ax=>Env.dg i j v (fun env=>eB l (cW c R m) (v::vs) (.kW h.next aG::b3) env ax) env) (eT aG):bj)=_
 rw [ay,nD,Env.h4];exact ev m hm R cz
theorem af.act {o:nu} {cn:List Nat} {l:List ea} {vs:List V} {b3:List Log} {v:V} {h2:ae} (ar:∀call,gM o call (fun a=>a.ev vs env) h= .ok v h2) (ay:jW cn h2 b3=true) (w:af c l Q (v::vs) (.no::b3) env h2):af c (⟨.p (.H o),cn⟩::l) Q vs b3 env h:=by
 obtain ⟨x,aS,h1,⟨N,ev⟩,q⟩:=w
 refine ⟨x,aS,h1,⟨N,fun m hm R cz=> ?_⟩,q⟩
 show ((gM o (cW c R m) (fun a=>a.ev vs env) h).k env fun v ax=>Bool.rec .bad (eB l (cW c R m) (v::vs) (.no::b3) env ax) (jW cn ax b3))=_
 rw [ar]
 show v.force (fun v=>(Bool.rec .bad (eB l (cW c R m) (v::vs) (.no::b3) env h2) (jW cn h2 b3):bj))=_
 rw [V.force_eq,ay];exact ev m hm R cz
theorem af.call {f:Nat} {as_:List A} {cn:List Nat} {l:List ea} {vs:List V} {b3:List Log} {v:V} {h2:ae} (ar:h9 c f (hi as_ fun a=>a.ev vs env) h (.ok v h2)) (ay:jW cn h2 b3=true) (w:af c l Q (v::vs) (.no::b3) env h2):af c (⟨.p (.H (.call f as_)),cn⟩::l) Q vs b3 env h:=by
 obtain ⟨x,aS,h1,⟨N,ev⟩,q⟩:=w
 obtain ⟨xj,ar⟩:=ar
 refine ⟨x,aS,h1,⟨max N xj,fun m hm R cz=> ?_⟩,q⟩
 show ((rb h (cW c R m f (hi as_ fun a=>a.ev vs env) .none h).1).k env fun v ax=>Bool.rec .bad (eB l (cW c R m) (v::vs) (.no::b3) env ax) (jW cn ax b3))=_
 rw [JF,ar m (by omega) R (by omega)]
 show v.force (fun v=>(Bool.rec .bad (eB l (cW c R m) (v::vs) (.no::b3) env h2) (jW cn h2 b3):bj))=_
 rw [V.force_eq,ay];exact ev m (by omega) R (by omega)
theorem I.yes {g:A} {b:Bool} {op:Op} {l:List eA} {vs:List V} (hg:(g.ev vs env).dq b=some true) (w:I c (.p op::l) Q vs env h):I c (.g g b op::l) Q vs env h:=by
 obtain ⟨x,aS,h1,⟨N,ev⟩,q⟩:=w
 refine ⟨x,aS,h1,⟨N,fun m hm R cz=> ?_⟩,q⟩
 show (Option.rec .bad (fun c1=>Bool.rec (eH l (cW c R m) (un::vs) env h) (tG op (eH l) (cW c R m) vs env h) c1) ((g.ev vs env).dq b):bj)=_
 rw [hg];exact ev m hm R cz
theorem I.no {g:A} {b:Bool} {op:Op} {l:List eA} {vs:List V} (hg:(g.ev vs env).dq b=some false) (w:I c l Q (un::vs) env h):I c (.g g b op::l) Q vs env h:=by
 obtain ⟨x,aS,h1,⟨N,ev⟩,q⟩:=w
 refine ⟨x,aS,h1,⟨N,fun m hm R cz=> ?_⟩,q⟩
 show (Option.rec .bad (fun c1=>Bool.rec (eH l (cW c R m) (un::vs) env h) (tG op (eH l) (cW c R m) vs env h) c1) ((g.ev vs env).dq b):bj)=_
 rw [hg];exact ev m hm R cz
end
end
end Go.Eng
namespace Go.Eng
noncomputable section
structure Fr (M F:List Nat) (h ax:ae):Prop where
 next:h.next≤ax.next
 t:∀b,b<h.next→b∉M→T.get b ax.t=T.get b h.t
 f:∀b,b<h.next→b∉F→T.get b ax.bA=T.get b h.bA
 wf:po h→po ax
theorem Fr.add (h:ae) (aG:Obj):Fr [] [] h (h.add aG):=by
 refine ⟨Nat.le_succ _,fun b hb _=>zr (by omega),fun _ _ _=>rfl,fun w=>⟨fun b hb=> ?_,fun b hb=>Nat.lt_succ_of_lt (w.f b hb),Nat.le_succ_of_le w.lim⟩⟩
 rw [B1] at hb
 by_cases e:b=h.next
 · show b<h.next+1;omega
 · rw [if_neg e] at hb;exact Nat.lt_succ_of_lt (w.t b hb)
def ae.put (h:ae) (b:Nat) (o:Obj):ae:=⟨T.set b o h.t,h.next,h.bA,h.ds,h.bO⟩
theorem OJ (h:ae) (b:Nat) (o:Obj) (k:Nat):T.get k (h.put b o).t=if k=b then some o else T.get k h.t:=T.eU (Nat.zero_le _) (Nat.zero_le _) ..
theorem OL (h:ae) (b:Nat) (o:Obj):T.get b (h.put b o).t=some o:=by rw [OJ,if_pos rfl]
theorem OM {R:Type} (h:ae) (b:Nat) (o:Obj) (k:ae→R):h.jw b o k=k (h.put b o):=by
 show T.dg b o h.t (fun t=>k ⟨t,h.next,h.bA,h.ds,h.bO⟩)=_
 rw [T.h4];rfl
theorem po.lt {h:ae} (w:po h) {b:Nat} {o:Obj} (hb:T.get b h.t=some o):b<h.next:=w.t b (by rw [hb];simp)
end
end Go.Eng
namespace Go.Eng
noncomputable section
namespace L
variable {ev:dr} {h:ae} {x y:A}
def ui (n:Int):Prop:= -9223372036854775808≤n∧n<9223372036854775808
theorem wrap64 {n:Int} (hn:ui n):IntKind.wrap .i64 n=n:=by
 obtain ⟨h1,h2⟩:=hn
 have e:IntKind.wrap .i64 n=if (n % 18446744073709551616≥9223372036854775808) then n % 18446744073709551616 - 18446744073709551616 else n % 18446744073709551616:=by
  unfold IntKind.wrap
  simp [IntKind.bits,IntKind.signed]
 rw [e]
 split<;>omega
theorem add {a b:Int} (hx:ev x= .int .i64 a) (hy:ev y= .int .i64 b) (hn:ui (a+b)):light (.bin .add x y) ev h= .val (.int .i64 (a+b)):=by
 show (ev x).hS (fun k a=>(ev y).hS fun j b=>q9 .add k a j b)=_
 rw [hx,hy]
 show bE.of (some (jV .i64 (DV a b)))=_
 rw [su,UR,wrap64 hn];rfl
theorem sub {a b:Int} (hx:ev x= .int .i64 a) (hy:ev y= .int .i64 b) (hn:ui (a - b)):light (.bin .sub x y) ev h= .val (.int .i64 (a - b)):=by
 show (ev x).hS (fun k a=>(ev y).hS fun j b=>q9 .sub k a j b)=_
 rw [hx,hy]
 show bE.of (some (jV .i64 (A3 a b)))=_
 rw [su,My,wrap64 hn];rfl
theorem mul {a b:Int} (hx:ev x= .int .i64 a) (hy:ev y= .int .i64 b) (hn:ui (a * b)):light (.bin .mul x y) ev h= .val (.int .i64 (a * b)):=by
 show (ev x).hS (fun k a=>(ev y).hS fun j b=>q9 .mul k a j b)=_
 rw [hx,hy]
 show bE.of (some (jV .i64 (yL a b)))=_
 rw [su,Mx,wrap64 hn];rfl
theorem cX {a b n:Int} (hx:ev x= .int .i64 a) (hy:ev y= .int .i64 b) (av:a+b=n) (hn:ui n):light (.bin .add x y) ev h= .val (.int .i64 n):=by subst av;exact add hx hy hn
theorem jA {a b n:Int} (hx:ev x= .int .i64 a) (hy:ev y= .int .i64 b) (av:a - b=n) (hn:ui n):light (.bin .sub x y) ev h= .val (.int .i64 n):=by subst av;exact sub hx hy hn
theorem Yf {a b n:Int} (hx:ev x= .int .i64 a) (hy:ev y= .int .i64 b) (av:a * b=n) (hn:ui n):light (.bin .mul x y) ev h= .val (.int .i64 n):=by subst av;exact mul hx hy hn
theorem lss {k:IntKind} {a b:Int} (hx:ev x= .int k a) (hy:ev y= .int k b):light (.bin .lss x y) ev h= .val (.bool (decide (a<b))):=by
 show (ev x).hS (fun k a=>(ev y).hS fun j b=>q9 .lss k a j b)=_
 rw [hx,hy]
 show (Bool.rec .bad (.of (u2 .lss k a b)) (nw k k):bE)=_
 rw [wP,decide_eq_true rfl]
 show bE.val (.bool (l0 a b))=_
 rw [yV]
theorem leq {k:IntKind} {a b:Int} (hx:ev x= .int k a) (hy:ev y= .int k b):light (.bin .leq x y) ev h= .val (.bool (decide (a≤b))):=by
 show (ev x).hS (fun k a=>(ev y).hS fun j b=>q9 .leq k a j b)=_
 rw [hx,hy]
 show (Bool.rec .bad (.of (u2 .leq k a b)) (nw k k):bE)=_
 rw [wP,decide_eq_true rfl]
 show bE.val (.bool (nv (l0 b a)))=_
 rw [yV,tI];congr 2;rw [Bool.eq_iff_iff];simp
theorem gtr {k:IntKind} {a b:Int} (hx:ev x= .int k a) (hy:ev y= .int k b):light (.bin .gtr x y) ev h= .val (.bool (decide (b<a))):=by
 show (ev x).hS (fun k a=>(ev y).hS fun j b=>q9 .gtr k a j b)=_
 rw [hx,hy]
 show (Bool.rec .bad (.of (u2 .gtr k a b)) (nw k k):bE)=_
 rw [wP,decide_eq_true rfl]
 show bE.val (.bool (l0 b a))=_
 rw [yV]
theorem geq {k:IntKind} {a b:Int} (hx:ev x= .int k a) (hy:ev y= .int k b):light (.bin .geq x y) ev h= .val (.bool (decide (b≤a))):=by
 show (ev x).hS (fun k a=>(ev y).hS fun j b=>q9 .geq k a j b)=_
 rw [hx,hy]
 show (Bool.rec .bad (.of (u2 .geq k a b)) (nw k k):bE)=_
 rw [wP,decide_eq_true rfl]
 show bE.val (.bool (nv (l0 a b)))=_
 rw [yV,tI];congr 2;rw [Bool.eq_iff_iff];simp
theorem eql {k:IntKind} {a b:Int} (hx:ev x= .int k a) (hy:ev y= .int k b):light (.bin .eql x y) ev h= .val (.bool (decide (a=b))):=by
 show (ev x).hS (fun k a=>(ev y).hS fun j b=>q9 .eql k a j b)=_
 rw [hx,hy]
 show (Bool.rec .bad (.of (u2 .eql k a b)) (nw k k):bE)=_
 rw [wP,decide_eq_true rfl]
 show bE.val (.bool (n4 a b))=_
 rw [yU]
theorem neq {k:IntKind} {a b:Int} (hx:ev x= .int k a) (hy:ev y= .int k b):light (.bin .neq x y) ev h= .val (.bool (decide (a≠b))):=by
 show (ev x).hS (fun k a=>(ev y).hS fun j b=>q9 .neq k a j b)=_
 rw [hx,hy]
 show (Bool.rec .bad (.of (u2 .neq k a b)) (nw k k):bE)=_
 rw [wP,decide_eq_true rfl]
 show bE.val (.bool (nv (n4 a b)))=_
 rw [yU,tI];congr 2;rw [Bool.eq_iff_iff];simp
def str (l:List UInt8):V:= .str l.length (enc l)
theorem seq {l m:List UInt8} (hx:ev x=str l) (hy:ev y=str m):light (.e8 .eql x y) ev h= .val (.bool (decide (l=m))):=by
 show (ev x).l3 (fun n a=>(ev y).l3 fun m b=> .of (A5 .eql n a m b))=_
 rw [hx,hy]
 show bE.val (.bool (l2 l.length (enc l) m.length (enc m)))=_
 congr 2
 have e:∀l m:List UInt8,l2 l.length (enc l) m.length (enc m)=decide (l=m):=by
  intro l m
  have:=Ep (s:=⟨⟨l⟩⟩) (t:=⟨⟨m⟩⟩) (n:=l.length) (x:=enc l) (m:=m.length) (y:=enc m) ⟨rfl,rfl⟩ ⟨rfl,rfl⟩
  rw [this];congr 1
  rw [eq_iff_iff]
  constructor
  · intro h;cases h;rfl
  · intro h;rw [h]
 exact e l m
theorem xk {l m:List UInt8} (hx:ev x=str l) (hy:ev y=str m):light (.e8 .neq x y) ev h= .val (.bool (decide (l≠m))):=by
 have h1:=seq (h:=h) hx hy
 have aS:light (.e8 .eql x y) ev h=(ev x).l3 (fun n a=>(ev y).l3 fun m b=> .of (A5 .eql n a m b)):=rfl
 rw [aS,hx,hy] at h1
 show (ev x).l3 (fun n a=>(ev y).l3 fun m b=> .of (A5 .neq n a m b))=_
 rw [hx,hy]
 show bE.val (.bool (nv (l2 l.length (enc l) m.length (enc m))))=_
 have h1:bE.val (.bool (l2 l.length (enc l) m.length (enc m)))= .val (.bool (decide (l=m))):=h1
 have h2:l2 l.length (enc l) m.length (enc m)=decide (l=m):=by simpa using h1
 rw [h2,tI];congr 2;simp
theorem pq {l:List UInt8} (hx:ev x=str l):light (.len true x) ev h= .val (.int .i64 (l.length:Int)):=by
 show (ev x).l3 (fun n _=> .val (ir .i64 n))=_
 rw [hx]
 show bE.val (ir .i64 l.length)=_
 rw [tH];rfl
theorem zt (hx:ev x= .U):light (.len false x) ev h= .val (.int .i64 ((0:Nat):Int)):=by
 show (ev x).DW (fun n=> .val (ir .i64 n))=_
 rw [hx];rfl
theorem pr {b o n:Nat} {cap:Option Nat} (hx:ev x= .au b o n cap):light (.len false x) ev h= .val (.int .i64 (n:Int)):=by
 show (ev x).DW (fun n=> .val (ir .i64 n))=_
 rw [hx]
 show bE.val (ir .i64 n)=_
 rw [tH];rfl
theorem qu {l:List UInt8} {i:Nat} {b:UInt8} (hx:ev x=str l) (hy:ev y= .int .i64 (i:Int)) (ag:l[i]? =some b):light (.kT x y) ev h= .val (.int .u8 (b.toNat:Int)):=by
 show (ev x).l3 (fun n a=>(ev y).yM fun j=>Bool.rec .bad (.val (ir .u8 (AZ a j))) (j.blt n))=_
 rw [hx,hy]
 show (Bool.rec .bad (.val (ir .u8 (AZ (enc l) i))) (i.blt l.length):bE)=_
 have hlt:i<l.length:=(List.getElem?_eq_some_iff.1 ag).1
 rw [fY,decide_eq_true hlt]
 show bE.val (ir .u8 (AZ (enc l) i))=_
 rw [tH]
 congr 3
 show (enc l >>> (8 * i)) % 256=b.toNat
 rw [Nat.shiftRight_eq_div_pow,Bp,Im]
 obtain ⟨_,rfl⟩:=List.getElem?_eq_some_iff.1 ag
 rw [List.drop_eq_getElem_cons hlt]
 simp only [enc]
 have:=(l[i]).toNat_lt
 omega
theorem Bq (n x:Nat):q8 n x= .str n x:=by unfold q8;simp
theorem Yg {l:List UInt8} {br ag:Option A} {i j:Nat} (hx:ev x=str l) (aR:dM ag ev l.length=some j) (mJ:dM br ev 0=some i) (uj:i≤j) (mH:j≤l.length):light (.n3 x br ag) ev h= .val (str ((l.drop i).take (j - i))):=by
 show (ev x).l3 (fun n a=>HO n a (dM ag ev n) (dM br ev 0))=_
 rw [hx]
 show HO l.length (enc l) (dM ag ev l.length) (dM br ev 0)=_
 rw [aR,mJ]
 show (Bool.rec .bad (.val (q8 (Nat.sub j i) (DT (enc l) i (Nat.sub j i)))) (i.ble j&&j.ble l.length):bE)=_
 rw [ew,ew,decide_eq_true uj,decide_eq_true mH]
 show bE.val (q8 (j - i) (DT (enc l) i (j - i)))=_
 rw [Bq,MX]
 have:((l.drop i).take (j - i)).length=j - i:=by simp;omega
 unfold str;rw [this]
theorem load {b o:Nat} {v:V} (hx:ev x= .ptr b o) (ar:h.eb b o=some v):light (.load x) ev h= .val v:=by
 show (ev x).p3 (fun b o=> .of (h.eb b o))=_
 rw [hx]
 show bE.of (h.eb b o)=_
 rw [ar];rfl
theorem E4 {α R:Type} (l:List α) (k:List α→R):gK l k=k l:=by
 have:∀(l:List α) (k:List α→R),gK l k=k l:=by
  intro l
  induction l with
  |nil=>intro k;rfl
  |cons a l bm=>intro k;exact bm _
 exact this l k
theorem da {b o n:Nat} {l:List V} (hx:ev x= .ptr b o) (ar:h.load b o n=some l):light (.da n x) ev h= .val (.agg l):=by
 show (ev x).p3 (fun b o=>Option.rec .bad (fun l=>gK l fun l=> .val (.agg l)) (h.load b o n))=_
 rw [hx]
 show (Option.rec .bad (fun l=>gK l fun l=> .val (.agg l)) (h.load b o n):bE)=_
 rw [ar];exact E4 l _
theorem JH {b o:Nat} {row:List V} {v:V} (hb:T.get b h.t=some (.box row)) (hr:aQ (hJ o row)=some v):h.eb b o=some v:=by
 unfold ae.eb;rw [show h.obj b=_ from hb];exact hr
theorem eN {b o n:Nat} {row l:List V} (hb:T.get b h.t=some (.box row)) (hn:n.beq 0=false) (bd:(Nat.add o n).ble (cI row)=true) (hr:mD n (hJ o row)=l):h.load b o n=some l:=by
 unfold ae.load;rw [hn,show h.obj b=_ from hb]
 show (bif (Nat.add o n).ble (cI row) then some (mD n (hJ o row)) else none)=_
 rw [bd,hr];rfl
theorem fM {b o:Nat} {row:List V} {v:V} (hx:ev x= .ptr b o) (hb:T.get b h.t=some (.box row)) (hr:aQ (hJ o row)=some v):light (.load x) ev h= .val v:=load hx (JH hb hr)
theorem ey {b o n:Nat} {row l:List V} (hx:ev x= .ptr b o) (hb:T.get b h.t=some (.box row)) (hn:n.beq 0=false) (bd:(Nat.add o n).ble (cI row)=true) (hr:mD n (hJ o row)=l):light (.da n x) ev h= .val (.agg l):=da hx (eN hb hn bd hr)
theorem bY {r b o n i:Nat} {cap:Option Nat} (hx:ev x= .au b o n cap) (hy:ev y= .int .i64 (i:Int)) (ag:i<n):light (.bY r x y) ev h= .val (.ptr b (o+i * r)):=by
 show (ev x).HM (fun b o n=>(ev y).yM fun j=>HP r b o n j)=_
 rw [hx,hy]
 show (Bool.rec .bad (force (Nat.add o (Nat.mul i r)) fun o=> .val (.ptr b o)) (i.blt n):bE)=_
 rw [fY,decide_eq_true ag]
 show force (Nat.add o (Nat.mul i r)) (fun o=>bE.val (.ptr b o))=_
 rw [force_eq];rfl
theorem bK {b o f:Nat} (hx:ev x= .ptr b o):light (.bK f x) ev h= .val (.ptr b (o+f)):=by
 show (ev x).p3 (fun b o=>force (Nat.add o f) fun o=> .val (.ptr b o))=_
 rw [hx]
 show force (Nat.add o f) (fun o=>bE.val (.ptr b o))=_
 rw [force_eq];rfl
theorem alloc {cs:List V}:light (.alloc cs) ev h= .new (.box cs) (.ptr h.next 0):=by
 show force h.next (fun b=>bE.new (.box cs) (.ptr b 0))=_
 rw [force_eq]
theorem box {n:Nat} {l:List V} (hx:(ev x).dA=some l) (ar:cI l=n):light (.box n x) ev h= .new (.box l) (.ptr h.next 0):=by
 show force h.next (fun b=>(Option.rec .bad (fun l=>Bool.rec .bad (gK l fun l=> .new (.box l) (.ptr b 0)) ((cI l).beq n)) (ev x).dA:bE))=_
 rw [force_eq,hx]
 show (Bool.rec .bad (gK l fun l=> .new (.box l) (.ptr h.next 0)) ((cI l).beq n):bE)=_
 rw [ar,Nat.beq_refl];exact E4 l _
theorem build {zero l:List V} {aO:List (Nat×Nat×A)} (hf:fill aO ev zero=some l):light (.build zero aO) ev h= .val (.agg l):=by
 show (Option.rec .bad (fun l=>gK l fun l=> .val (.agg l)) (fill aO ev zero):bE)=_
 rw [hf];exact E4 l _
theorem ON {call:et} {n b o:Nat} {cs row row':List V} (hx:ev x= .ptr b o) (hy:(ev y).dA=some cs) (hn:cI cs=n) (h0:n.beq 0=false) (fB:8≤b) (hb:T.get b h.t=some (.box row)) (bd:(Nat.add o n).ble (cI row)=true) (hr:gL o cs row=row'):
  gM (.store n x y) call ev h= .ok un (h.put b (.box row')):=by
 show (Option.rec .bad (fun p=>Option.rec .bad (fun l=>Bool.rec .bad (h.dB p.1 p.2 n l .bad fun h=> .ok un h) ((cI l).beq n)) (ev y).dA) (ev x).lo:a7)=_
 rw [hx,hy]
 show (Bool.rec .bad (h.dB b o n cs .bad fun h=> .ok un h) ((cI cs).beq n):a7)=_
 rw [hn,Nat.beq_refl]
 show h.dB b o n cs .bad (fun h=>a7.ok un h)=_
 unfold ae.dB
 rw [h0,show b.blt 8=false by rw [fY];simpa using fB,show h.obj b=_ from hb]
 show (bif (Nat.add o n).ble (cI row) then gK (gL o cs row) fun row=>h.jw b (.box row) (fun h=>a7.ok un h) else .bad)=_
 rw [bd,hr]
 show gK row' (fun row=>h.jw b (.box row) (fun h=>a7.ok un h))=_
 rw [E4,OM]
end L
end
end Go.Eng
namespace Go.Eng
noncomputable section
inductive Fact where
 |box (b:Nat) (row:List V)
 |map (b:Nat) (es:List oX) (clock:Nat)
 |acc (f r:Nat) (v:V) (rows:List (List V))
 |aE (P:ae→Prop)
 |obj (b:Nat) (P:Obj→Prop)
 |cS (bs:List Nat) (f r:Nat) (v:V) (rows:List (List V))
structure Yh (f r:Nat) (h:ae) (b:Nat) (rows:List (List V)):Prop where
 ge:8≤b
 pos:0<rows.length
 cQ:f≤b
 aG:∃ap t,T.get b h.t=some (.cells r f ap (rows.length * r) t)∧(∀i row,rows[i]? =some row→T.get i t=some row)∧∀F,T.get f h.bA=some F→F.last≤ap+rows.length * r
 len:∀row∈rows,row.length=r
inductive mQ (f r:Nat) (h:ae):V→List (List V)→Prop
 |nil:mQ f r h .U []
 |row {b:Nat} {rows:List (List V)} (a:Yh f r h b rows):mQ f r h (.au b 0 rows.length none) rows
inductive ia (bs:List Nat) (f r:Nat) (h:ae):V→List (List V)→Prop
 |nil (hb:bs=[]):ia bs f r h .U []
 |row {b ap:Nat} {rows hid:List (List V)} {t:T (List V)} (ge:8≤b) (hb:b∈bs) (hf:f∈bs) (aG:T.get b h.t=some (.cells r f ap ((rows.length+hid.length) * r) t))
   (cF:∀i row,(rows++hid)[i]? =some row→T.get i t=some row) (len:∀row∈rows++hid,row.length=r) (mem:∀F,T.get f h.bA=some F→∀m∈F.mem,m∈bs):ia bs f r h (.au b 0 rows.length none) rows
theorem ia.stay {bs:List Nat} {f r:Nat} {h ax:ae} {v:V} {rows:List (List V)} (a:ia bs f r h v rows) (hb:∀b∈bs,T.get b ax.t=T.get b h.t) (hf:∀b∈bs,T.get b ax.bA=T.get b h.bA):ia bs f r ax v rows:=by
 cases a with
 |nil e=>exact .nil e
 |row ge h1 h2 aG cF len mem=>exact .row ge h1 h2 ((hb _ h1).trans aG) cF len (fun F b1=>mem F ((hf _ h2).symm.trans b1))
def Fact.own:Fact→List Nat
 | .box b _=>[b]
 | .map b _ _=>[b]
 | .acc .. =>[]
 | .aE _=>[]
 | .obj b _=>[b]
 | .cS bs .. =>bs
def Fact.cO:Fact→List Nat
 | .acc f _ v _=>match v with
   | .U=>[]
   |_=>[f]
 |_=>[]
def Fact.holds (Z:Nat→Prop) (h:ae):Fact→Prop
 | .box b row=>T.get b h.t=some (.box row)∧T.get b h.bA=none
 | .map b es c=>T.get b h.t=some (.map es c)∧T.get b h.bA=none
 | .acc f r v rows=>mQ f r h v rows∧∀b o n c,v= .au b o n c→Z b
 | .aE P=>∀ax,(∀b,Z b→T.get b ax.t=T.get b h.t)→P ax
 | .obj b P=>(∃o,T.get b h.t=some o∧P o)∧T.get b h.bA=none
 | .cS bs f r v rows=>ia bs f r h v rows∧∀b∈bs,T.get b h.t≠none
def owns (fs:List Fact):List Nat:=fs.flatMap Fact.own
def bA (fs:List Fact):List Nat:=fs.flatMap Fact.cO
structure E5 (Z:Nat→Prop) (fs:List Fact) (h:ae):Prop where
 wf:po h
 z:∀b,Z b→T.get b h.t≠none
 iy:∀b∈owns fs,¬Z b∧8≤b
 eG:(owns fs).Nodup
 kD:(bA fs).Nodup
 dd:∀b∈owns fs,b∉bA fs
 all:∀x∈fs,x.holds Z h
def aq (fs:List Fact) (h:ae):Prop:=∃Z,E5 Z fs h
theorem uk {Z:Nat→Prop} {fs:List Fact} {h:ae} (s:E5 Z fs h) {b:Nat} (hb:b∈owns fs):b<h.next:=by
 obtain ⟨x,hx,hb⟩:=List.mem_flatMap.1 hb
 have:=s.all x hx
 cases x with
 |box c row=>obtain rfl:b=c:=by simpa [Fact.own] using hb
             exact s.wf.lt this.1
 |map c es k=>obtain rfl:b=c:=by simpa [Fact.own] using hb
              exact s.wf.lt this.1
 |acc f r v rows=>simp [Fact.own] at hb
 |aE P=>simp [Fact.own] at hb
 |obj c P=>obtain rfl:b=c:=by simpa [Fact.own] using hb
           obtain ⟨⟨o,bd,_⟩,_⟩:=this
           exact s.wf.lt bd
 |cS bs f r v rows=>exact s.wf.t b (this.2 b hb)
theorem JI {Z:Nat→Prop} {fs:List Fact} {h:ae} (s:E5 Z fs h) {f:Nat} (hf:f∈bA fs):f<h.next:=by
 obtain ⟨x,hx,hf⟩:=List.mem_flatMap.1 hf
 have bQ:=s.all x hx
 cases x with
 |box c row=>simp [Fact.cO] at hf
 |map c es k=>simp [Fact.cO] at hf
 |aE P=>simp [Fact.cO] at hf
 |obj c P=>simp [Fact.cO] at hf
 |cS bs f r v rows=>simp [Fact.cO] at hf
 |acc g r v rows=>
  obtain ⟨a,_⟩:=bQ
  cases a with
  |nil=>simp [Fact.cO] at hf
  |row a=>
   obtain rfl:f=g:=by simpa [Fact.cO] using hf
   obtain ⟨ap,t,dj,_⟩:=a.aG
   exact Nat.lt_of_le_of_lt a.cQ (s.wf.lt dj)
theorem vz {Z:Nat→Prop} {fs:List Fact} {h:ae} (s:E5 Z fs h) {b:Nat} (hb:Z b):b<h.next:=s.wf.t b (s.z b hb)
theorem OO (g:Fact→List Nat) {fs gs:List Fact} (ay:gs.Sublist fs):(gs.flatMap g).Sublist (fs.flatMap g):=by
 induction ay with
 |slnil=>exact List.Sublist.refl _
 |cons a _ bm=>rw [List.flatMap_cons];exact bm.trans (List.sublist_append_right _ _)
 |cons_cons a _ bm=>rw [List.flatMap_cons,List.flatMap_cons];exact List.Sublist.append (List.Sublist.refl _) bm
theorem OP (g:Fact→List Nat) {fs gs:List Fact} (ay:fs.Perm gs):(fs.flatMap g).Perm (gs.flatMap g):=by
 induction ay with
 |nil=>exact List.Perm.refl _
 |cons a _ bm=>rw [List.flatMap_cons,List.flatMap_cons];exact List.Perm.append_left _ bm
 |swap a b l=>
  simp only [List.flatMap_cons]
  rw [←List.append_assoc,←List.append_assoc]
  exact List.Perm.append_right _ List.perm_append_comm
 |trans _ _ B0 zo=>exact B0.trans zo
theorem aq.sub {fs gs:List Fact} {h:ae} (s:aq fs h) (ay:gs.Sublist fs):aq gs h:=by
 obtain ⟨Z,s⟩:=s
 have aS:(owns gs).Sublist (owns fs):=by
  exact OO _ ay
 have bl:(bA gs).Sublist (bA fs):=by
  exact OO _ ay
 exact ⟨Z,s.wf,s.z,fun b hb=>s.iy b (aS.subset hb),s.eG.sublist aS,s.kD.sublist bl,fun b hb hf=>s.dd b (aS.subset hb) (bl.subset hf),fun x hx=>s.all x (ay.subset hx)⟩
theorem aq.perm {fs gs:List Fact} {h:ae} (s:aq fs h) (ay:fs.Perm gs):aq gs h:=by
 obtain ⟨Z,s⟩:=s
 have aS:(owns fs).Perm (owns gs):=OP _ ay
 have bl:(bA fs).Perm (bA gs):=OP _ ay
 exact ⟨Z,s.wf,s.z,fun b hb=>s.iy b (aS.symm.subset hb),aS.nodup_iff.1 s.eG,bl.nodup_iff.1 s.kD,fun b hb hf=>s.dd b (aS.symm.subset hb) (bl.symm.subset hf),fun x hx=>s.all x (ay.symm.subset hx)⟩
theorem JJ:∀(fs:List Fact) (k:Nat) (x:Fact),fs[k]? =some x→fs.Perm (x::fs.eraseIdx k)
 |[],k,x,h=>by simp at h
 |a::fs,0,x,h=>by simp at h;subst h;exact List.Perm.refl _
 |a::fs,k+1,x,h=>by
  have:=JJ fs k x (by simpa using h)
  exact (List.Perm.cons a this).trans (List.Perm.swap ..)
theorem aq.pick {fs:List Fact} {h:ae} (s:aq fs h) (k:Nat) {x:Fact} (hk:fs[k]? =some x):aq (x::fs.eraseIdx k) h:=s.perm (JJ fs k x hk)
theorem aq.tail {x:Fact} {fs:List Fact} {h:ae} (s:aq (x::fs) h):aq fs h:=s.sub (List.sublist_cons_self _ _)
theorem aq.wf {fs:List Fact} {h:ae} (s:aq fs h):po h:=let ⟨_,s⟩:=s;s.wf
theorem aq.nil {h:ae} (w:po h):aq [] h:=⟨fun _=>False,w,fun _ hb=>hb.elim,fun b hb=>by simp [owns] at hb,by simp [owns],by simp [bA],fun b hb=>by simp [owns] at hb,fun x hx=>by simp at hx⟩
theorem aq.aN {fs:List Fact} {h:ae} (s:aq fs h) (k:Nat) {b:Nat} {row:List V} (hk:fs[k]? =some (.box b row)):T.get b h.t=some (.box row):=by
 obtain ⟨Z,s⟩:=s
 exact (s.all (.box b row) (List.mem_of_getElem? hk)).1
theorem aq.OQ {fs:List Fact} {h:ae} (s:aq fs h) (k:Nat) {b:Nat} {row:List V} (hk:fs[k]? =some (.box b row)):8≤b:=by
 obtain ⟨Z,s⟩:=s
 exact (s.iy b (List.mem_flatMap.2 ⟨_,List.mem_of_getElem? hk,by simp [Fact.own]⟩)).2
theorem aq.Yi {fs:List Fact} {h:ae} (s:aq fs h) (k:Nat) {b:Nat} {P:Obj→Prop} (hk:fs[k]? =some (.obj b P)):8≤b:=by
 obtain ⟨Z,s⟩:=s
 exact (s.iy b (List.mem_flatMap.2 ⟨_,List.mem_of_getElem? hk,by simp [Fact.own]⟩)).2
theorem aq.bt {fs:List Fact} {h:ae} (s:aq fs h) (k:Nat) {P:ae→Prop} (hk:fs[k]? =some (.aE P)):P h:=by
 obtain ⟨Z,s⟩:=s
 exact s.all (.aE P) (List.mem_of_getElem? hk) h fun _ _=>rfl
theorem aq.gh {fs:List Fact} {h:ae} (s:aq fs h) (k:Nat) {f r:Nat} {v:V} {rows:List (List V)} (hk:fs[k]? =some (.acc f r v rows)):mQ f r h v rows:=by
 obtain ⟨Z,s⟩:=s
 exact (s.all (.acc f r v rows) (List.mem_of_getElem? hk)).1
theorem aq.imp {P Q:ae→Prop} {fs:List Fact} {h:ae} (s:aq (.aE P::fs) h) (B2:∀h,P h→Q h):aq (.aE Q:: .aE P::fs) h:=by
 obtain ⟨Z,s⟩:=s
 refine ⟨Z,s.wf,s.z,s.iy,s.eG,s.kD,s.dd,fun x hx=> ?_⟩
 rcases List.mem_cons.1 hx with rfl|hx
 · exact fun ax hz=>B2 ax (s.all (.aE P) (by simp) ax hz)
 · exact s.all x hx
theorem aq.e4 {P Q:ae→Prop} {fs:List Fact} {h:ae} (s:aq (.aE P::fs) h) (B2:∀h,P h→Q h):aq (.aE Q::fs) h:=by
 have:=s.imp B2
 exact this.sub (List.Sublist.cons_cons _ (List.sublist_cons_self _ _))
theorem aq.pure {Q:Prop} {fs:List Fact} {h:ae} (s:aq fs h) (bB:Q):aq (.aE (fun _=>Q)::fs) h:=by
 obtain ⟨Z,s⟩:=s
 refine ⟨Z,s.wf,s.z,s.iy,s.eG,s.kD,s.dd,fun x hx=> ?_⟩
 rcases List.mem_cons.1 hx with rfl|hx
 · exact fun ax _=>bB
 · exact s.all x hx
theorem aq.and {P Q:ae→Prop} {fs:List Fact} {h:ae} (s:aq (.aE P:: .aE Q::fs) h):aq (.aE (fun h=>P h∧Q h)::fs) h:=by
 obtain ⟨Z,s⟩:=s
 refine ⟨Z,s.wf,s.z,s.iy,s.eG,s.kD,s.dd,fun x hx=> ?_⟩
 rcases List.mem_cons.1 hx with rfl|hx
 · exact fun ax hz=>⟨s.all (.aE P) (by simp) ax hz,s.all (.aE Q) (by simp) ax hz⟩
 · exact s.all x (by simp [hx])
theorem Fact.stay {Z OR:Nat→Prop} {h ax:ae} {x:Fact} (hx:x.holds Z h) (ps:∀b,Z b→OR b∧T.get b ax.t=T.get b h.t) (hb:∀b∈x.own,T.get b ax.t=T.get b h.t) (E6:∀b∈x.own,T.get b ax.bA=T.get b h.bA) (hf:∀f∈x.cO,T.get f ax.bA=T.get f h.bA):x.holds OR ax:=by
 cases x with
 |box b row=>exact ⟨(hb b (by simp [Fact.own])).trans hx.1,(E6 b (by simp [Fact.own])).trans hx.2⟩
 |map b es c=>exact ⟨(hb b (by simp [Fact.own])).trans hx.1,(E6 b (by simp [Fact.own])).trans hx.2⟩
 |obj b P=>obtain ⟨⟨o,bd,hp⟩,hn⟩:=hx;exact ⟨⟨o,(hb b (by simp [Fact.own])).trans bd,hp⟩,(E6 b (by simp [Fact.own])).trans hn⟩
 |cS bs f r v rows=>exact ⟨hx.1.stay hb E6,fun b hm=>by rw [hb b hm];exact hx.2 b hm⟩
 |aE P=>exact fun h2 hz=>hx h2 fun b hb=>(hz b (ps b hb).1).trans (ps b hb).2
 |acc f r v rows=>
  obtain ⟨a,hz⟩:=hx
  refine ⟨?_,fun b o n c e=>(ps b (hz b o n c e)).1⟩
  cases a with
  |nil=>exact .nil
  |row a=>
   obtain ⟨ap,t,h1,h2,a6⟩:=a.aG
   refine .row ⟨a.ge,a.pos,a.cQ,⟨ap,t, ?_,h2,fun F b1=>a6 F ?_⟩,a.len⟩
   · rw [(ps _ (hz _ _ _ _ rfl)).2];exact h1
   · rw [←hf f (by simp [Fact.cO])];exact b1
theorem eW (x:Fact) (fs:List Fact):owns (x::fs)=x.own++owns fs:=rfl
theorem iK (x:Fact) (fs:List Fact):bA (x::fs)=x.cO++bA fs:=rfl
theorem um {x:Fact} {fs:List Fact} (hx:x∈fs) {b:Nat} (hb:b∈x.own):b∈owns fs:=List.mem_flatMap.2 ⟨x,hx,hb⟩
theorem JK {x:Fact} {fs:List Fact} (hx:x∈fs) {b:Nat} (hb:b∈x.cO):b∈bA fs:=List.mem_flatMap.2 ⟨x,hx,hb⟩
theorem aq.new {fs:List Fact} {h:ae} (s:aq fs h) (aG:Obj) {x:Fact} (bd:x.own=[h.next]) (hf:x.cO=[]) (hx:T.get h.next h.bA=none→∀Z,x.holds Z (h.add aG)):aq (x::fs) (h.add aG):=by
 obtain ⟨Z,s⟩:=s
 have hz:∀b,Z b→T.get b (h.add aG).t=T.get b h.t:=fun b hb=>zr (vz s hb)
 have Bm:T.get h.next h.bA=none:=by
  cases e:T.get h.next h.bA with
  |none=>rfl
  |some F=>have:=s.wf.f h.next (by rw [e];simp);omega
 refine ⟨Z,(Fr.add h aG).wf s.wf,fun b hb=>by rw [hz b hb];exact s.z b hb,fun b hb=> ?_, ?_, ?_,fun b hb mI=> ?_,fun y hy=> ?_⟩
 · rw [eW,bd] at hb
   rcases List.mem_append.1 hb with hb|hb
   · obtain rfl:b=h.next:=by simpa using hb
     exact ⟨fun hz=>Nat.lt_irrefl _ (vz s hz),s.wf.lim⟩
   · exact s.iy b hb
 · rw [eW,bd]
   refine List.nodup_cons.2 ⟨fun hb=>Nat.lt_irrefl _ (uk s hb),s.eG⟩
 · rw [iK,hf];exact s.kD
 · rw [iK,hf] at mI
   rw [eW,bd] at hb
   rcases List.mem_append.1 hb with hb|hb
   · obtain rfl:b=h.next:=by simpa using hb
     exact Nat.lt_irrefl _ (JI s mI)
   · exact s.dd b hb mI
 · rcases List.mem_cons.1 hy with rfl|hy
   · exact hx Bm Z
   · exact Fact.stay (s.all y hy) (fun b hb=>⟨hb,hz b hb⟩) (fun b hb=>zr (uk s (um hy hb))) (fun _ _=>rfl) fun _ _=>rfl
theorem aq.box {fs:List Fact} {h:ae} (s:aq fs h) (row:List V):aq (.box h.next row::fs) (h.add (.box row)):=s.new _ rfl rfl fun hn _=>⟨sS ..,hn⟩
theorem aq.map {fs:List Fact} {h:ae} (s:aq fs h):aq (.map h.next [] 0::fs) (h.add (.map [] 0)):=s.new _ rfl rfl fun hn _=>⟨sS ..,hn⟩
theorem aq.OS {x y:Fact} {fs:List Fact} {h:ae} {b:Nat} {o:Obj} (s:aq (x::fs) h) (hx:x.own=[b]) (gC:x.cO=[]) (hy:y.own=[b]) (sT:y.cO=[]) (bQ:∀Z,x.holds Z h→y.holds Z (h.put b o)):aq (y::fs) (h.put b o):=by
 obtain ⟨Z,s⟩:=s
 have Yj:¬Z b:=(s.iy b (by rw [eW,hx];simp)).1
 have JL:b∉owns fs:=by
  have:=s.eG;rw [eW,hx] at this
  exact (List.nodup_cons.1 this).1
 have hz:∀k,k≠b→T.get k (h.put b o).t=T.get k h.t:=fun k hk=>by rw [OJ,if_neg hk]
 have bG:∀k,Z k→k≠b:=fun k hk e=>Yj (e▸hk)
 have hlt:b<h.next:=uk s (by rw [eW,hx];simp)
 refine ⟨Z,⟨fun k hk=> ?_,fun k hk=>s.wf.f k hk,s.wf.lim⟩,fun k hk=>by rw [hz k (bG k hk)];exact s.z k hk,fun k hk=>s.iy k ?_, ?_, ?_,fun k hk hf=>s.dd k ?_ ?_,fun w hw=> ?_⟩
 · by_cases e:k=b
   · subst e;exact hlt
   · rw [hz k e] at hk;exact s.wf.t k hk
 · rw [eW,hx];rw [eW,hy] at hk;exact hk
 · rw [eW,hy];have:=s.eG;rw [eW,hx] at this;exact this
 · rw [iK,sT];have:=s.kD;rw [iK,gC] at this;exact this
 · rw [eW,hx];rw [eW,hy] at hk;exact hk
 · rw [iK,gC];rw [iK,sT] at hf;exact hf
 · rcases List.mem_cons.1 hw with rfl|hw
   · exact bQ Z (s.all x (by simp))
   · exact Fact.stay (s.all w (by simp [hw])) (fun k hk=>⟨hk,hz k (bG k hk)⟩) (fun k hk=>hz k fun e=>JL (e▸um hw hk)) (fun _ _=>rfl) fun _ _=>rfl
theorem E7:∀(fs:List Fact) (k:Nat) (x y:Fact),fs[k]? =some x→(y::fs.eraseIdx k).Perm (fs.set k y)
 |[],k,x,y,h=>by simp at h
 |a::fs,0,x,y,h=>List.Perm.refl _
 |a::fs,k+1,x,y,h=>by
  have:=E7 fs k x y (by simpa using h)
  exact (List.Perm.swap ..).trans (List.Perm.cons a this)
theorem aq.put {fs:List Fact} {h:ae} (s:aq fs h) (k:Nat) {x y:Fact} {b:Nat} {o:Obj} (hk:fs[k]? =some x) (hx:x.own=[b]) (gC:x.cO=[]) (hy:y.own=[b]) (sT:y.cO=[]) (bQ:∀Z,x.holds Z h→y.holds Z (h.put b o)):aq (fs.set k y) (h.put b o):=
 ((s.pick k hk).OS hx gC hy sT bQ).perm (E7 fs k x y hk)
theorem aq.JM {fs:List Fact} {h:ae} (s:aq fs h) (k:Nat) {b:Nat} {row:List V} (row':List V) (hk:fs[k]? =some (.box b row)):aq (fs.set k (.box b row')) (h.put b (.box row')):=
 s.put k hk rfl rfl rfl rfl fun _ hx=>⟨OL ..,hx.2⟩
end
end Go.Eng
namespace Go.Eng
noncomputable section
def ae.ib (h:ae) (ib:T gV):ae:=⟨h.t,h.next,ib,h.ds,h.bO⟩
theorem aq.grow {x:Fact} {fs:List Fact} {h:ae} (s:aq (x::fs) h) (zd:x.own=[]) {ib:T gV} {f:Nat} {aG:Obj} {y:Fact}
  (rz:∀g,g≠f→T.get g ib=T.get g h.bA) (hf:f≤h.next) (E8:f∉bA fs) (oh:f∉owns fs) (xl:y.own=[]) (sT:y.cO=[f])
  (hy:∀Z:Nat→Prop,Z h.next→y.holds Z ((h.ib ib).add aG)):aq (y::fs) ((h.ib ib).add aG):=by
 obtain ⟨Z,s⟩:=s
 have hz:∀b,b<h.next→T.get b ((h.ib ib).add aG).t=T.get b h.t:=fun b hb=>zr (h:=h.ib ib) hb
 have bd:owns (x::fs)=owns fs:=by rw [eW,zd];rfl
 refine ⟨fun b=>Z b∨b=h.next,⟨fun b hb=> ?_,fun g hg=> ?_,Nat.le_succ_of_le s.wf.lim⟩,fun b hb=> ?_,fun b hb=> ?_, ?_, ?_,fun b hb mI=> ?_,fun w hw=> ?_⟩
 · show b<h.next+1
   by_cases e:b<h.next+1
   · exact e
   · have bl:T.get b ((h.ib ib).add aG).t=T.get b h.t:=by
      rw [B1];rw [if_neg (show ¬b=(h.ib ib).next from fun df=>e (by rw [df];exact Nat.lt_succ_self _))];rfl
     rw [bl] at hb
     have:=s.wf.t b hb;omega
 · show g<h.next+1
   have hg:T.get g ib≠none:=hg
   by_cases e:g=f
   · omega
   · rw [rz g e] at hg;have:=s.wf.f g hg;omega
 · rcases hb with hb|rfl
   · rw [hz b (vz s hb)];exact s.z b hb
   · rw [show T.get h.next ((h.ib ib).add aG).t=some aG from sS (h.ib ib) aG];simp
 · rw [eW,xl] at hb
   refine ⟨?_,(s.iy b (by rw [bd];exact hb)).2⟩
   rintro (B3|rfl)
   · exact (s.iy b (by rw [bd];exact hb)).1 B3
   · exact Nat.lt_irrefl _ (uk s (by rw [bd];exact hb))
 · rw [eW,xl];have:=s.eG;rw [bd] at this;exact this
 · rw [iK,sT]
   have:(bA fs).Nodup:=by
    have:=s.kD;rw [iK] at this
    exact (List.nodup_append.1 this).2.1
   exact List.nodup_cons.2 ⟨E8,this⟩
 · rw [eW,xl] at hb
   rw [iK,sT] at mI
   rcases List.mem_append.1 mI with mI|mI
   · obtain rfl:b=f:=by simpa using mI
     exact oh hb
   · exact s.dd b (by rw [bd];exact hb) (by rw [iK];exact List.mem_append_right _ mI)
 · rcases List.mem_cons.1 hw with rfl|hw
   · exact hy _ (Or.inr rfl)
   · refine Fact.stay (s.all w (by simp [hw])) (fun b hb=>⟨Or.inl hb,hz b (vz s hb)⟩) (fun b hb=>hz b (uk s ?_)) (fun b hb=>rz b fun e=> ?_) fun g hg=>rz g fun e=> ?_
     · rw [bd];exact um hw hb
     · subst e;exact oh (um hw hb)
     · subst e;exact E8 (JK hw hg)
theorem OT {r:Nat}:∀{l:List (List V)},(∀row∈l,row.length=r)→l.flatten.length=l.length * r
 |[],_=>by simp
 |a::l,h=>by
  rw [List.flatten_cons,List.length_append,h a (by simp),OT (fun row hm=>h row (by simp [hm])),List.length_cons,Nat.add_mul];omega
theorem uo {r:Nat}:∀{l:List (List V)} (i:Nat) {row:List V},(∀row∈l,row.length=r)→l[i]? =some row→(l.flatten.drop (i * r)).take r=row
 |[],i,row,_,h=>by simp at h
 |a::l,0,row,ar,h=>by
  simp at h;subst h
  rw [Nat.zero_mul,List.drop_zero,List.flatten_cons,←ar a (by simp),List.take_left']
  rfl
 |a::l,i+1,row,ar,h=>by
  have h:l[i]? =some row:=by simpa using h
  rw [List.flatten_cons,show (i+1) * r=a.length+i * r by rw [ar a (by simp),Nat.add_mul];omega,←List.drop_drop,List.drop_left' rfl]
  exact uo i (fun row hm=>ar row (by simp [hm])) h
theorem aq.OU {fs:List Fact} {h:ae} {f r bytes:Nat} {v:V} {rows new:List (List V)} (s:aq (.acc f r v rows::fs) h) (hr:0<r) (ar:∀row∈new,row.length=r) (eI:(rows.length+new.length) * bytes≤1099511627776):
  ∃c5 v' ax,fH h r bytes v new.flatten new.length= .ok v' ax∧aq (.acc c5 r v' (rows++new)::fs) ax:=by
 have a:=s.gh 0 rfl
 have w:=s.wf
 by_cases xm:new.length=0
 · obtain rfl:new=[]:=by simpa using xm
   refine ⟨f,v,h, ?_,by rw [List.append_nil];exact s⟩
   cases a with
   |nil=>rfl
   |row a=>rfl
 have jy:Nat.beq new.length 0=false:=by
  cases e:Nat.beq new.length 0 with
  |false=>rfl
  |true=>exact absurd (Nat.eq_of_beq_eq_true e) xm
 have hfn:T.get h.next h.bA=none:=by
  cases e:T.get h.next h.bA with
  |none=>rfl
  |some F=>have:=w.f h.next (by rw [e];simp);omega
 cases a with
 |nil=>
  have hok:eT (.cells r h.next 0 (new.length * r) (eC r new.length 0 new.flatten T.e))=true:=by show Nat.blt 0 r=true;rw [fY];simpa using hr
  refine ⟨h.next, .au h.next 0 new.length none,(h.ib h.bA).add (.cells r h.next 0 (new.length * r) (eC r new.length 0 new.flatten T.e)), ?_, ?_⟩
  · unfold fH
    have h1:(Nat.mul new.length bytes).ble 1099511627776=true:=by
     rw [ew];have:new.length * bytes≤1099511627776:=by simpa using eI
     simpa using this
    simp only [jy,cond_false,h1,cond_true,force_eq,h6]
    show (Bool.rec .bad (h.kq (.cells r h.next 0 (Nat.mul new.length r) (eC r new.length 0 new.flatten T.e)) fun h2=> .ok (.au h.next 0 new.length none) h2) (eT (.cells r h.next 0 (Nat.mul new.length r) (eC r new.length 0 new.flatten T.e))):a7)=_
    rw [show eT (.cells r h.next 0 (Nat.mul new.length r) (eC r new.length 0 new.flatten T.e))=true from hok,nD];rfl
  · refine s.grow rfl (f:=h.next) (fun _ _=>rfl) (Nat.le_refl _) (fun hm=> ?_) (fun hm=> ?_) rfl rfl fun Z ps=>⟨?_,fun b o n c e=> ?_⟩
    · obtain ⟨Z,s⟩:=s
      exact Nat.lt_irrefl _ (JI s (by rw [iK];exact List.mem_append_right _ hm))
    · obtain ⟨Z,s⟩:=s
      exact Nat.lt_irrefl _ (uk s (by rw [eW];exact hm))
    · have:=mQ.row (f:=h.next) (r:=r) (h:=(h.ib h.bA).add (.cells r h.next 0 (new.length * r) (eC r new.length 0 new.flatten T.e))) (b:=h.next) (rows:=new)
       ⟨w.lim,by omega,Nat.le_refl _,⟨0,_,sS (h.ib h.bA) _,fun i row ag=> ?_,fun F b1=> ?_⟩,ar⟩
      · rw [List.nil_append];exact this
      · rw [qb r _ 0 _ T.e i (by omega) (by omega),if_pos ⟨by omega,by have:=(List.getElem?_eq_some_iff.1 ag).1;omega⟩,Nat.sub_zero,uo i ar ag]
      · have b1:T.get h.next h.bA=some F:=b1
        rw [hfn] at b1;cases b1
    · cases e;exact ps
 |row a=>
  rename_i b
  obtain ⟨ap,t,dj,cF,jx⟩:=a.aG
  have hn:=a.pos
  have hlen:=a.len
  have de:b<h.next:=w.t b (by rw [dj];simp)
  have agN:f<h.next:=Nat.lt_of_le_of_lt a.cQ de
  have E8:f∉Go.Eng.bA fs:=by
   obtain ⟨Z,s⟩:=s
   have:=s.kD
   rw [iK] at this
   exact (List.nodup_cons.1 this).1
  have oh:f∉owns fs:=by
   obtain ⟨Z,s⟩:=s
   exact fun hm=>s.dd f hm (by rw [iK];exact List.mem_append_left _ (by simp [Fact.cO]))
  have Bo:(rows++new).length=rows.length+new.length:=by simp
  have fin:∀l,aq (.acc f r (.au h.next 0 (rows.length+new.length) none) (rows++new)::fs) ((h.ib (T.set f ⟨ap+rows.length * r+new.length * r,l⟩ h.bA)).add (.cells r f ap ((rows.length+new.length) * r) (eC r new.length rows.length new.flatten t))):=by
   intro l
   refine s.grow rfl (f:=f) (fun g hg=>by rw [T.eU (Nat.zero_le _) (Nat.zero_le _),if_neg hg]) (by omega) E8 oh rfl rfl fun Z ps=>⟨?_,fun b o n c e=>by cases e;exact ps⟩
   have:=mQ.row (f:=f) (r:=r) (h:=(h.ib (T.set f ⟨ap+rows.length * r+new.length * r,l⟩ h.bA)).add (.cells r f ap ((rows.length+new.length) * r) (eC r new.length rows.length new.flatten t))) (b:=h.next) (rows:=rows++new)
    ⟨w.lim,by omega,by omega,⟨ap,eC r new.length rows.length new.flatten t,by rw [Bo];exact sS (h.ib _) _,fun i row ag=> ?_,fun F b1=> ?_⟩,fun row hx=> ?_⟩
   · rw [Bo] at this;exact this
   · rw [qb r _ _ _ t i (by omega) (by omega)]
     have ot:=(List.getElem?_eq_some_iff.1 ag).1
     rw [Bo] at ot
     by_cases hlt:i<rows.length
     · rw [if_neg (by omega)]
       rw [List.getElem?_append_left hlt] at ag
       exact cF i row ag
     · rw [if_pos ⟨by omega,by omega⟩]
       rw [List.getElem?_append_right (by omega)] at ag
       rw [uo _ ar ag]
   · have b1:T.get f (T.set f (⟨ap+rows.length * r+new.length * r,l⟩:gV) h.bA)=some F:=b1
     rw [T.yT] at b1;cases b1
     show ap+rows.length * r+new.length * r≤ap+(rows++new).length * r
     rw [Bo,Nat.add_mul];omega
   · rcases List.mem_append.1 hx with hx|hx
     · exact hlen row hx
     · exact ar row hx
  have run:∃l,fH h r bytes (.au b 0 rows.length none) new.flatten new.length= .ok (.au h.next 0 (rows.length+new.length) none) ((h.ib (T.set f ⟨ap+rows.length * r+new.length * r,l⟩ h.bA)).add (.cells r f ap ((rows.length+new.length) * r) (eC r new.length rows.length new.flatten t))):=by
   unfold fH Go.Eng.p5
   have h1:(Nat.mul (Nat.add rows.length new.length) bytes).ble 1099511627776=true:=by rw [ew];simpa using eI
   have h2:Nat.ble 8 b=true:=Nat.ble_eq_true_of_le a.ge
   simp only [jy,cond_false,force_eq,h1,h2,Bool.and_self,cond_true]
   show ∃l,(Obj.cells? .bad _ (h.obj b):a7)=_
   rw [show h.obj b=some (.cells r f ap (rows.length * r) t) from dj]
   have c1:(r.beq r&&(Nat.mod 0 r).beq 0)=true:=by
    have:Nat.mod 0 r=0:=Nat.zero_mod r
    rw [this,Nat.beq_refl];rfl
   have IK:0<new.length * r:=Nat.mul_pos (by omega) hr
   have c2:(Nat.add 0 (Nat.mul (Nat.add rows.length new.length) r)).ble (rows.length * r)=false:=by
    rw [ew]
    have:¬(0+(rows.length+new.length) * r≤rows.length * r):=by rw [Nat.add_mul];omega
    simpa using this
   have cG:(Nat.add 0 (Nat.mul rows.length r)).ble (rows.length * r)=true:=by
    rw [ew]
    simp
   show ∃l,(bif (r.beq r&&(Nat.mod 0 r).beq 0) then _ else _)=_
   rw [c1,cond_true]
   show ∃l,(bif (Nat.add 0 (Nat.mul (Nat.add rows.length new.length) r)).ble (rows.length * r) then _ else _)=_
   rw [c2,cond_false]
   show ∃l,(bif (Nat.add 0 (Nat.mul rows.length r)).ble (rows.length * r) then _ else _)=_
   rw [cG,cond_true]
   have ay:eT (.cells r f ap (Nat.mul (Nat.add rows.length new.length) r) (eC r new.length rows.length new.flatten t))=true:=by show Nat.blt 0 r=true;rw [fY];simpa using hr
   have last:∀a6:ae,(bif Nat.beq 0 0 then gl r new.length rows.length new.flatten t fun t=>mk a6 (.cells r f ap (Nat.mul (Nat.add rows.length new.length) r) t) (.au h.next 0 (Nat.add rows.length new.length) none)
     else Option.rec .bad (fun old=>force (Nat.add ap 0) fun ap=>gl r (Nat.add rows.length new.length) 0 (fx old new.flatten) T.e fun t=>mk a6 (.cells r f ap (Nat.mul (Nat.add rows.length new.length) r) t) (.au h.next 0 (Nat.add rows.length new.length) none)) (kU t rows.length (Nat.div 0 r)):a7)=
     .ok (.au h.next 0 (rows.length+new.length) none) (a6.add (.cells r f ap ((rows.length+new.length) * r) (eC r new.length rows.length new.flatten t))):=by
    intro a6
    rw [show Nat.beq 0 0=true from rfl,cond_true,h6]
    show (Bool.rec .bad (a6.kq (.cells r f ap (Nat.mul (Nat.add rows.length new.length) r) (eC r new.length rows.length new.flatten t)) fun h2=> .ok (.au h.next 0 (rows.length+new.length) none) h2) (eT (.cells r f ap (Nat.mul (Nat.add rows.length new.length) r) (eC r new.length rows.length new.flatten t))):a7)=_
    rw [ay,nD];rfl
   have Ib:(Nat.add (Nat.add ap 0) (Nat.mul (Nat.add rows.length new.length) r))=ap+rows.length * r+new.length * r:=by
    show ap+0+(rows.length+new.length) * r=_
    rw [Nat.add_mul];omega
   unfold grown
   cases b1:T.get f h.bA with
   |none=>
    have dm:(Nat.add (Nat.add ap 0) (Nat.mul rows.length r)).blt (Nat.add ap (rows.length * r))=false:=by
     rw [fY]
     simp
    refine ⟨[h.next,b], ?_⟩
    show (Bool.rec (lq h f _ [h.next,b] _) _ ((Nat.add (Nat.add ap 0) (Nat.mul rows.length r)).blt (Nat.add ap (rows.length * r))):a7)=_
    rw [dm]
    show lq h f _ [h.next,b] _=_
    rw [wS,Ib]
    exact last _
   |some F=>
    have dR:(gV.last F).ble (Nat.add (Nat.add ap 0) (Nat.mul rows.length r))=true:=by
     rw [ew]
     have:F.last≤ap+0+rows.length * r:=by have:=jx F b1;omega
     simpa using this
    refine ⟨h.next::F.mem, ?_⟩
    show (Bool.rec _ (lq h f _ (h.next::gV.mem F) _) ((gV.last F).ble (Nat.add (Nat.add ap 0) (Nat.mul rows.length r))):a7)=_
    rw [dR]
    show lq h f _ (h.next::gV.mem F) _=_
    rw [wS,Ib]
    exact last _
  obtain ⟨l,iI⟩:=run
  exact ⟨f,_,_,iI,fin l⟩
theorem aq.append {fs:List Fact} {h:ae} {f r bytes:Nat} {v:V} {rows new:List (List V)} (s:aq fs h) (k:Nat) (hk:fs[k]? =some (.acc f r v rows)) (hr:0<r) (ar:∀row∈new,row.length=r) (eI:(rows.length+new.length) * bytes≤1099511627776):
  ∃c5 v' ax,fH h r bytes v new.flatten new.length= .ok v' ax∧aq (fs.set k (.acc c5 r v' (rows++new))) ax:=by
 obtain ⟨c5,v',ax,e,dE⟩:=(s.pick k hk).OU hr ar eI
 exact ⟨c5,v',ax,e,dE.perm (E7 fs k _ _ hk)⟩
theorem aq.kE {fs:List Fact} {h:ae} (s:aq fs h) (r:Nat):aq (.acc 0 r .U []::fs) h:=by
 obtain ⟨Z,s⟩:=s
 refine ⟨Z,s.wf,s.z,s.iy,s.eG,s.kD,s.dd,fun x hx=> ?_⟩
 rcases List.mem_cons.1 hx with rfl|hx
 · exact ⟨.nil,fun b o n c e=>by cases e⟩
 · exact s.all x hx
theorem mQ.rows {f r:Nat} {h:ae} {v:V} {rows:List (List V)} (hr:0<r) (a:mQ f r h v rows):Rows r h v rows:=by
 cases a with
 |nil=>exact .nil
 |row a=>
  obtain ⟨ap,t,dj,cF,jx⟩:=a.aG
  exact .row hr dj (Nat.zero_mod r) (fun i row ag=>by rw [Nat.zero_div,Nat.zero_add];exact cF i row ag) (by omega) a.len
theorem aq.shut {fs:List Fact} {h:ae} {f r:Nat} {v:V} {rows:List (List V)} (s:aq (.acc f r v rows::fs) h) (hr:0<r):aq (.aE (fun h=>Rows r h v rows)::fs) h:=by
 obtain ⟨Z,s⟩:=s
 refine ⟨Z,s.wf,s.z,s.iy,s.eG, ?_,fun b hb hf=>s.dd b hb (by rw [iK];exact List.mem_append_right _ hf),fun x hx=> ?_⟩
 · have:=s.kD;rw [iK] at this
   exact (List.nodup_append.1 this).2.1
 · rcases List.mem_cons.1 hx with rfl|hx
   · intro ax hz
     obtain ⟨a,B3⟩:=s.all (.acc f r v rows) (by simp)
     have E9:=a.rows hr
     cases a with
     |nil=>exact .nil
     |row a=>
      obtain ⟨ap,t,dj,cF,jx⟩:=a.aG
      refine .row (f:=f) (ap:=ap) hr ?_ (Nat.zero_mod r) (fun i row ag=>by rw [Nat.zero_div,Nat.zero_add];exact cF i row ag) (Nat.le_of_eq (by rw [Nat.zero_add])) a.len
      rw [hz _ (B3 _ _ _ _ rfl)];exact dj
   · exact s.all x (by simp [hx])
theorem aq.xn {fs:List Fact} {h:ae} (s:aq fs h) (k:Nat) {f r:Nat} {v:V} {rows:List (List V)} (hk:fs[k]? =some (.acc f r v rows)) (hr:0<r):Rows r h v rows:=(s.gh k hk).rows hr
end
end Go.Eng
namespace Go.Eng
noncomputable section
theorem aq.frozen {fs:List Fact} {h:ae} (s:aq fs h) (aG:Obj) {P:ae→Prop} (nH:∀ax,T.get h.next ax.t=some aG→P ax):aq (.aE P::fs) (h.add aG):=by
 obtain ⟨Z,s⟩:=s
 have hz:∀b,b<h.next→T.get b (h.add aG).t=T.get b h.t:=fun b hb=>zr hb
 refine ⟨fun b=>Z b∨b=h.next,(Fr.add h aG).wf s.wf,fun b hb=> ?_,fun b hb=> ?_,s.eG,s.kD,s.dd,fun w hw=> ?_⟩
 · rcases hb with hb|rfl
   · rw [hz b (vz s hb)];exact s.z b hb
   · rw [sS];simp
 · refine ⟨?_,(s.iy b hb).2⟩
   rintro (B3|rfl)
   · exact (s.iy b hb).1 B3
   · exact Nat.lt_irrefl _ (uk s hb)
 · rcases List.mem_cons.1 hw with rfl|hw
   · intro ax bQ
     exact nH ax ((bQ _ (Or.inr rfl)).trans (sS ..))
   · exact Fact.stay (s.all w hw) (fun b hb=>⟨Or.inl hb,hz b (vz s hb)⟩) (fun b hb=>hz b (uk s (um hw hb))) (fun _ _=>rfl) fun _ _=>rfl
theorem OV {r:Nat} {t:T (List V)}:∀(rows:List (List V)) (i:Nat),(∀k row,rows[k]? =some row→T.get (i+k) t=some row)→kU t rows.length i=some rows.flatten
 |[],i,h=>rfl
 |a::l,i,h=>by
  show (Option.rec none (fun row=>Option.rec none (fun l=>some (fx row l)) (kU t l.length (Nat.succ i))) (T.get i t):Option (List V))=_
  have h0:=h 0 a rfl
  rw [Nat.add_zero] at h0
  rw [h0]
  have bm:=OV (r:=r) (t:=t) l (i+1) fun k row hk=>by
   have:=h (k+1) row (by simpa using hk)
   rw [←this];congr 1;omega
  show (Option.rec none (fun l=>some (fx a l)) (kU t l.length (Nat.succ i)):Option (List V))=_
  rw [show Nat.succ i=i+1 from rfl,bm]
  show some (fx a l.flatten)=_
  rw [o0];rfl
theorem Rows.B4 {r b o n:Nat} {cap:Option Nat} {h:ae} {rows:List (List V)} (a:Rows r h (.au b o n cap) rows):h.load b o (Nat.mul n r)=some rows.flatten:=by
 cases a with
 |row hr dj bd cF dC hlen=>
  rename_i f ap bk t
  by_cases h0:rows.length=0
  · obtain rfl:rows=[]:=by simpa using h0
    unfold ae.load
    have:(Nat.mul ([]:List (List V)).length r).beq 0=true:=by
     show (Nat.mul 0 r).beq 0=true
     rw [show Nat.mul 0 r=0 from Nat.zero_mul r];rfl
    rw [this];rfl
  · unfold ae.load
    have Bl:0<rows.length * r:=Nat.mul_pos (by omega) hr
    have iv:(Nat.mul rows.length r).beq 0=false:=by
     cases hb:(Nat.mul rows.length r).beq 0 with
     |false=>rfl
     |true=>have:rows.length * r=0:=Nat.eq_of_beq_eq_true hb;omega
    rw [iv,cond_false,show h.obj b=_ from dj]
    show (bif (Nat.add o (Nat.mul rows.length r)).ble bk then cut r o (Nat.mul rows.length r) t else none)=_
    have aS:(Nat.add o (Nat.mul rows.length r)).ble bk=true:=by rw [ew];simpa using dC
    rw [aS,cond_true]
    unfold cut
    have m0:(o.mod r).beq 0=true:=by rw [show o.mod r=0 from bd];rfl
    have d0:o.div r=o / r:=rfl
    by_cases h1:rows.length=1
    · have bl:((Nat.mul rows.length r).beq r&&(o.mod r).beq 0)=true:=by
       rw [m0,Bool.and_true,h1,show Nat.mul 1 r=r from Nat.one_mul r,Nat.beq_refl]
      rw [bl,cond_true]
      obtain ⟨x,rfl⟩:∃x,rows=[x]:=List.length_eq_one_iff.1 h1
      have:=cF 0 x rfl
      rw [Nat.add_zero] at this
      rw [d0,this];simp
    · have uh:r<rows.length * r:=by
       have:2 * r≤rows.length * r:=Nat.mul_le_mul_right r (by omega)
       omega
      have bl:((Nat.mul rows.length r).beq r&&(o.mod r).beq 0)=false:=by
       have:(Nat.mul rows.length r).beq r=false:=by
        cases hb:(Nat.mul rows.length r).beq r with
        |false=>rfl
        |true=>have:rows.length * r=r:=Nat.eq_of_beq_eq_true hb;omega
       rw [this];rfl
      rw [bl,cond_false]
      have df:(Nat.add (o.mod r) (Nat.mul rows.length r)).ble r=false:=by
       rw [ew,show o.mod r=0 from bd]
       have:¬(0+rows.length * r≤r):=by omega
       simpa using this
      rw [df,cond_false]
      have fZ:((o.mod r).beq 0&&((Nat.mul rows.length r).mod r).beq 0)=true:=by
       rw [m0,show (Nat.mul rows.length r).mod r=0 from Nat.mul_mod_left _ _];rfl
      rw [fZ,cond_true]
      have:(Nat.mul rows.length r).div r=rows.length:=Nat.mul_div_cancel _ hr
      rw [this,d0]
      exact OV (r:=r) rows _ cF
section
variable {c:Ctx} {Q:hX} {env:Env} {h:ae} {fs:List Fact} {l:List eA} {vs:List V} {i j:bp}
theorem I.dI {o:hh} {row:List V} (st:aq fs h) (ar:light o (fun a=>a.ev vs env) h= .new (.box row) (.ptr h.next 0)) (K:∀b h1,aq (.box b row::fs) h1→I c l Q (.ptr b 0::vs) (Env.set i j (.ptr b 0) env) h1):I c (.s i j (.L o)::l) Q vs env h:=
 I.zq ar rfl (K _ _ (st.box row))
theorem L.eS {ev:dr} {h:ae} {r n:Nat} {zero:List V} {aO:List (Nat×Nat×A)} {l:List V} (hf:fill aO ev (rep n zero)=some l):
  light (.eS r n zero aO) ev h= .new (.cells r h.next 0 (Nat.mul n r) (eC r n 0 l T.e)) (.au h.next 0 n (some n)):=by
 show force h.next (fun b=>(Option.rec .bad (fun l=>gl r n 0 l T.e fun t=> .new (.cells r b 0 (Nat.mul n r) t) (.au b 0 n (some n))) (fill aO ev (rep n zero)):bE))=_
 rw [force_eq,hf]
 show gl r n 0 l T.e (fun t=>bE.new (.cells r h.next 0 (Nat.mul n r) t) (.au h.next 0 n (some n)))=_
 rw [h6]
theorem B5 {r n b:Nat} {rows:List (List V)} {cap:Option Nat} {ax:ae} (hr:0<r) (hn:rows.length=n) (ar:∀row∈rows,row.length=r) (hg:T.get b ax.t=some (.cells r b 0 (Nat.mul n r) (eC r n 0 rows.flatten T.e))):Rows r ax (.au b 0 n cap) rows:=by
 subst hn
 refine .row hr hg (Nat.zero_mod r) (fun i row ag=> ?_) (by rw [Nat.zero_add];exact Nat.le_refl _) ar
 rw [Nat.zero_div,Nat.zero_add,qb r _ 0 _ T.e i (by omega) (by omega),if_pos ⟨by omega,by have:=(List.getElem?_eq_some_iff.1 ag).1;omega⟩,Nat.sub_zero,uo i ar ag]
theorem zu {r f a n:Nat} {t:T (List V)} (hr:0<r):eT (.cells r f a n t)=true:=by show Nat.blt 0 r=true;rw [fY];simpa using hr
theorem I.fS {r n:Nat} {zero:List V} {aO:List (Nat×Nat×A)} {rows:List (List V)} (st:aq fs h) (hf:fill aO (fun a=>a.ev vs env) (rep n zero)=some rows.flatten) (hr:0<r) (hn:rows.length=n) (ar:∀row∈rows,row.length=r)
  (K:∀b h1,aq (.aE (fun h=>Rows r h (.au b 0 n (some n)) rows)::fs) h1→I c l Q (.au b 0 n (some n)::vs) env h1):I c (.p (.L (.eS r n zero aO))::l) Q vs env h:=
 I.new (L.eS hf) (zu hr) (K _ _ (st.frozen _ fun ax hg=>B5 hr hn ar hg))
theorem I.Yk {r n:Nat} {zero:List V} {aO:List (Nat×Nat×A)} {rows:List (List V)} (st:aq fs h) (hf:fill aO (fun a=>a.ev vs env) (rep n zero)=some rows.flatten) (hr:0<r) (hn:rows.length=n) (ar:∀row∈rows,row.length=r)
  (K:∀b h1,aq (.aE (fun h=>Rows r h (.au b 0 n (some n)) rows)::fs) h1→I c l Q (.au b 0 n (some n)::vs) (Env.set i j (.au b 0 n (some n)) env) h1):I c (.s i j (.L (.eS r n zero aO))::l) Q vs env h:=
 I.zq (L.eS hf) (zu hr) (K _ _ (st.frozen _ fun ax hg=>B5 hr hn ar hg))
theorem I.bM {n b o:Nat} {x y:A} {cs row row':List V} (st:aq fs h) (k:Nat) (hk:fs[k]? =some (.box b row)) (hx:x.ev vs env= .ptr b o) (hy:(y.ev vs env).dA=some cs) (hn:cI cs=n) (h0:n.beq 0=false) (bd:(Nat.add o n).ble (cI row)=true) (hr:gL o cs row=row')
  (K:∀h1,aq (fs.set k (.box b row')) h1→I c l Q (un::vs) env h1):I c (.p (.H (.store n x y))::l) Q vs env h:=
 I.act (fun _=>L.ON hx hy hn h0 (st.OQ k hk) (st.aN k hk) bd hr) (K _ (st.JM k row' hk))
theorem L.append {call:et} {ev:dr} {s x:A} {r bytes:Nat} {v fN:V} {new:List (List V)} {out:a7} (ay:ev s=v) (hx:ev x=fN) (hn:Rows r h fN new) (bd:fH h r bytes v new.flatten new.length=out):gM (.append r bytes s x) call ev h=out:=by
 subst bd ay hx
 show (match ev x with
  | .U=>fH h r bytes (ev s) [] 0
  | .au b o m _=>(Option.rec .bad (fun new=>fH h r bytes (ev s) new m) (h.load b o (Nat.mul m r)):a7)
  | .str m a=>bif r.beq 1 then fH h r bytes (ev s) (mE (gy m a)) m else .bad
  |_=> .bad)=_
 generalize aD:ev x=fN at hn
 cases hn with
 |nil=>rfl
 |row hr dj bd cF dC hlen=>
  have:=(Rows.row (cap:=none) hr dj bd cF dC hlen).B4
  simp only [this]
theorem I.qv {r bytes f:Nat} {s x:A} {v fN:V} {rows new:List (List V)} (st:aq fs h) (k:Nat) (hk:fs[k]? =some (.acc f r v rows)) (ay:s.ev vs env=v) (hx:x.ev vs env=fN) (hn:Rows r h fN new) (hr:0<r) (eI:(rows.length+new.length) * bytes≤1099511627776)
  (K:∀c5 v' h1,aq (fs.set k (.acc c5 r v' (rows++new))) h1→I c l Q (v'::vs) env h1):I c (.p (.H (.append r bytes s x))::l) Q vs env h:=by
 have ar:∀row∈new,row.length=r:=by
  cases hn with
  |nil=>intro row hm;simp at hm
  |row _ _ _ _ _ hlen=>exact hlen
 obtain ⟨c5,v',ax,e,dE⟩:=st.append k hk hr ar eI
 exact I.act (fun _=>L.append (ev:=fun a=>a.ev vs env) ay hx hn e) (K _ _ _ dE)
theorem I.kF {r bytes f:Nat} {s x:A} {v fN:V} {rows new:List (List V)} (st:aq fs h) (k:Nat) (hk:fs[k]? =some (.acc f r v rows)) (ay:s.ev vs env=v) (hx:x.ev vs env=fN) (hn:Rows r h fN new) (hr:0<r) (eI:(rows.length+new.length) * bytes≤1099511627776)
  (K:∀c5 v' h1,aq (fs.set k (.acc c5 r v' (rows++new))) h1→I c l Q (v'::vs) (Env.set i j v' env) h1):I c (.s i j (.H (.append r bytes s x))::l) Q vs env h:=by
 have ar:∀row∈new,row.length=r:=by
  cases hn with
  |nil=>intro row hm;simp at hm
  |row _ _ _ _ _ hlen=>exact hlen
 obtain ⟨c5,v',ax,e,dE⟩:=st.append k hk hr ar eI
 exact I.E2 (fun _=>L.append (ev:=fun a=>a.ev vs env) ay hx hn e) (K _ _ _ dE)
theorem I.bx {f:Nat} {as_:List A} {mR:List V} {P:V→ae→Prop} (ha:hi as_ (fun a=>a.ev vs env)=mR) (hr:∃v h1,h9 c f mR h (.ok v h1)∧P v h1) (K:∀v h1,P v h1→I c l Q (v::vs) env h1):I c (.p (.H (.call f as_))::l) Q vs env h:=by
 obtain ⟨v,h1,hr,hp⟩:=hr
 exact I.call (by rw [ha];exact hr) (K v h1 hp)
theorem I.dK {f:Nat} {as_:List A} {mR:List V} {P:V→ae→Prop} (ha:hi as_ (fun a=>a.ev vs env)=mR) (hr:∃v h1,h9 c f mR h (.ok v h1)∧P v h1) (K:∀v h1,P v h1→I c l Q (v::vs) (Env.set i j v env) h1):I c (.s i j (.H (.call f as_))::l) Q vs env h:=by
 obtain ⟨v,h1,hr,hp⟩:=hr
 exact I.Yd (by rw [ha];exact hr) (K v h1 hp)
theorem I.ej {o:hh} {p:Prop} [Decidable p] (ar:light o (fun a=>a.ev vs env) h= .val (.bool (decide p))) (ht:p→I c l Q (.bool true::vs) env h) (hf:¬p→I c l Q (.bool false::vs) env h):I c (.p (.L o)::l) Q vs env h:=by
 by_cases hp:p
 · exact I.val (ar.trans (by rw [decide_eq_true hp])) (ht hp)
 · exact I.val (ar.trans (by rw [decide_eq_false hp])) (hf hp)
theorem I.bV {o:hh} {p:Prop} [Decidable p] (ar:light o (fun a=>a.ev vs env) h= .val (.bool (decide p))) (ht:p→I c l Q (.bool true::vs) (Env.set i j (.bool true) env) h) (hf:¬p→I c l Q (.bool false::vs) (Env.set i j (.bool false) env) h):I c (.s i j (.L o)::l) Q vs env h:=by
 by_cases hp:p
 · exact I.bS (ar.trans (by rw [decide_eq_true hp])) (ht hp)
 · exact I.bS (ar.trans (by rw [decide_eq_false hp])) (hf hp)
theorem WP.xo {a b:C} (R:Env→ae→Prop) (w:WP c a (fun x e h=>match x with| .e1=>R e h|x=>Q x e h) env h) (k:∀e h,R e h→WP c b Q e h):WP c (.seq a b) Q env h:=
 WP.seq (w.mono fun x e h q=>by cases x<;>first|exact k e h q|exact q)
theorem WP.dS {α:Type} {a:C} (Fa:α→Env→ae→Prop) (Fb:α→Nat) (g:α) (h0:Fa g env h) (step:∀g aS h1,Fa g aS h1→WP c a (fun x bl h2=>match x with| .e1=>∃sU,Fb sU<Fb g∧Fa sU bl h2|x=>Q x bl h2) aS h1):WP c (.loop a) Q env h:=by
 have key:∀k g aS h1,Fb g=k→Fa g aS h1→∃x bl h2,(∃N,∀m,N≤m→∀R,N≤R→∀n,N≤n→rounds (fun env h=>code a (cW c R m) R env h) n aS h1= .ok x bl h2)∧Q x bl h2:=by
  intro k
  induction k using Nat.strongRecOn with
  |_ k bm=>
   intro g aS h1 hk Fe
   obtain ⟨x,bl,h2,⟨N,ev⟩,q⟩:=step g aS h1 Fe
   have one:∀m,N≤m→∀R,N≤R→∀n,rounds (fun env h=>code a (cW c R m) R env h) (n+1) aS h1=(X.rec (rounds (fun env h=>code a (cW c R m) R env h) n bl h2) (.ok .ret bl h2) (fun i=> .ok (.exit i) bl h2) (fun v=> .ok (.c8 v) bl h2) x:bj):=by
    intro m hm R cz n
    show (bj.rec (fun x env h=>X.rec (rounds (fun env h=>code a (cW c R m) R env h) n env h) (.ok .ret env h) (fun i=> .ok (.exit i) env h) (fun v=> .ok (.c8 v) env h) x) .bad (code a (cW c R m) R aS h1):bj)=_
    rw [ev m hm R cz]
   cases x with
   |e1=>
    obtain ⟨sU,hlt,Yl⟩:=q
    obtain ⟨bW,df,a6,⟨Ym,Yn⟩,dG⟩:=bm (Fb sU) (hk▸hlt) sU bl h2 rfl Yl
    refine ⟨bW,df,a6,⟨max N Ym+1,fun m hm R cz n hn=> ?_⟩,dG⟩
    obtain ⟨fy,rfl⟩:∃fy,n=fy+1:=⟨n - 1,by omega⟩
    rw [one m (by omega) R (by omega)]
    exact Yn m (by omega) R (by omega) fy (by omega)
   |ret=>
    refine ⟨.ret,bl,h2,⟨N+1,fun m hm R cz n hn=> ?_⟩,q⟩
    obtain ⟨fy,rfl⟩:∃fy,n=fy+1:=⟨n - 1,by omega⟩
    rw [one m (by omega) R (by omega)]
   |exit i=>
    refine ⟨.exit i,bl,h2,⟨N+1,fun m hm R cz n hn=> ?_⟩,q⟩
    obtain ⟨fy,rfl⟩:∃fy,n=fy+1:=⟨n - 1,by omega⟩
    rw [one m (by omega) R (by omega)]
   |c8 v=>
    refine ⟨.c8 v,bl,h2,⟨N+1,fun m hm R cz n hn=> ?_⟩,q⟩
    obtain ⟨fy,rfl⟩:∃fy,n=fy+1:=⟨n - 1,by omega⟩
    rw [one m (by omega) R (by omega)]
 obtain ⟨x,bl,h2,⟨N,ev⟩,q⟩:=key _ g env h rfl h0
 exact ⟨x,bl,h2,⟨N,fun m hm R cz=>ev m hm R cz R cz⟩,q⟩
end
end
end Go.Eng
namespace Go.Eng
noncomputable section
theorem Obj.Yo (row:List V):Obj.same (.box row) (.box row)=true:=V.zs row
theorem xp {fs:List Fact} {h:ae} (s:aq fs h) (k:Nat) {b:Nat} {row:List V} (hk:fs[k]? =some (.box b row)):still h (.kW b (.box row))=true:=by
 obtain ⟨Z,s⟩:=s
 have:=s.all (.box b row) (List.mem_of_getElem? hk)
 show (match T.get b h.t,T.get b h.bA with
  |some o,none=>Obj.same (.box row) o
  |_,_=>false)=true
 rw [this.1,this.2]
 exact Obj.Yo row
section
variable {c:Ctx} {Q:hX} {env:Env} {h:ae} {fs:List Fact} {l:List ea} {vs:List V} {b3:List Log} {cn:List Nat} {i j:bp}
theorem af.dI {o:hh} {row:List V} (st:aq fs h) (ar:light o (fun a=>a.ev vs env) h= .new (.box row) (.ptr h.next 0)) (K:∀b h1,aq (.box b row::fs) h1→af c l Q (.ptr b 0::vs) (.kW b (.box row)::b3) (Env.set i j (.ptr b 0) env) h1):af c (⟨.s i j (.L o),cn⟩::l) Q vs b3 env h:=
 af.zq ar rfl (K _ _ (st.box row))
theorem af.fS {r n:Nat} {zero:List V} {aO:List (Nat×Nat×A)} {rows:List (List V)} (st:aq fs h) (hf:fill aO (fun a=>a.ev vs env) (rep n zero)=some rows.flatten) (hr:0<r) (hn:rows.length=n) (ar:∀row∈rows,row.length=r)
  (K:∀b h1 br,aq (.aE (fun h=>Rows r h (.au b 0 n (some n)) rows)::fs) h1→af c l Q (.au b 0 n (some n)::vs) (br::b3) env h1):af c (⟨.p (.L (.eS r n zero aO)),cn⟩::l) Q vs b3 env h:=
 af.new (L.eS hf) (zu hr) (K _ _ _ (st.frozen _ fun ax hg=>B5 hr hn ar hg))
theorem af.bM {n b o:Nat} {x y:A} {cs row row':List V} (st:aq fs h) (k:Nat) (hk:fs[k]? =some (.box b row)) (hx:x.ev vs env= .ptr b o) (hy:(y.ev vs env).dA=some cs) (hn:cI cs=n) (h0:n.beq 0=false) (bd:(Nat.add o n).ble (cI row)=true) (hr:gL o cs row=row')
  (ay:∀h1,aq (fs.set k (.box b row')) h1→jW cn h1 b3=true) (K:∀h1,aq (fs.set k (.box b row')) h1→af c l Q (un::vs) (.no::b3) env h1):af c (⟨.p (.H (.store n x y)),cn⟩::l) Q vs b3 env h:=
 af.act (fun _=>L.ON hx hy hn h0 (st.OQ k hk) (st.aN k hk) bd hr) (ay _ (st.JM k row' hk)) (K _ (st.JM k row' hk))
theorem af.qv {r bytes f:Nat} {s x:A} {v fN:V} {rows new:List (List V)} (st:aq fs h) (k:Nat) (hk:fs[k]? =some (.acc f r v rows)) (ay:s.ev vs env=v) (hx:x.ev vs env=fN) (hn:Rows r h fN new) (hr:0<r) (eI:(rows.length+new.length) * bytes≤1099511627776)
  (eD:∀c5 v' h1,aq (fs.set k (.acc c5 r v' (rows++new))) h1→jW cn h1 b3=true) (K:∀c5 v' h1,aq (fs.set k (.acc c5 r v' (rows++new))) h1→af c l Q (v'::vs) (.no::b3) env h1):af c (⟨.p (.H (.append r bytes s x)),cn⟩::l) Q vs b3 env h:=by
 have ar:∀row∈new,row.length=r:=by
  cases hn with
  |nil=>intro row hm;simp at hm
  |row _ _ _ _ _ hlen=>exact hlen
 obtain ⟨c5,v',ax,e,dE⟩:=st.append k hk hr ar eI
 exact af.act (fun _=>L.append (ev:=fun a=>a.ev vs env) ay hx hn e) (eD _ _ _ dE) (K _ _ _ dE)
theorem af.bx {f:Nat} {as_:List A} {mR:List V} {P:V→ae→Prop} (ha:hi as_ (fun a=>a.ev vs env)=mR) (hr:∃v h1,h9 c f mR h (.ok v h1)∧P v h1) (ay:∀v h1,P v h1→jW cn h1 b3=true) (K:∀v h1,P v h1→af c l Q (v::vs) (.no::b3) env h1):af c (⟨.p (.H (.call f as_)),cn⟩::l) Q vs b3 env h:=by
 obtain ⟨v,h1,hr,hp⟩:=hr
 exact af.call (by rw [ha];exact hr) (ay v h1 hp) (K v h1 hp)
theorem af.ej {o:hh} {p:Prop} [Decidable p] (ar:light o (fun a=>a.ev vs env) h= .val (.bool (decide p))) (ht:∀br,p→af c l Q (.bool true::vs) (br::b3) env h) (hf:∀br,¬p→af c l Q (.bool false::vs) (br::b3) env h):af c (⟨.p (.L o),cn⟩::l) Q vs b3 env h:=by
 by_cases hp:p
 · exact af.val (ar.trans (by rw [decide_eq_true hp])) (ht _ hp)
 · exact af.val (ar.trans (by rw [decide_eq_false hp])) (hf _ hp)
theorem af.bV {o:hh} {p:Prop} [Decidable p] (ar:light o (fun a=>a.ev vs env) h= .val (.bool (decide p))) (ht:∀br,p→af c l Q (.bool true::vs) (br::b3) (Env.set i j (.bool true) env) h) (hf:∀br,¬p→af c l Q (.bool false::vs) (br::b3) (Env.set i j (.bool false) env) h):af c (⟨.s i j (.L o),cn⟩::l) Q vs b3 env h:=by
 by_cases hp:p
 · exact af.bS (ar.trans (by rw [decide_eq_true hp])) (ht _ hp)
 · exact af.bS (ar.trans (by rw [decide_eq_false hp])) (hf _ hp)
end
def bT (c:Ctx) (f:Nat) (as_:List V) (h:ae) (P:V→ae→Prop):Prop:=∃v h1,h9 c f as_ h (.ok v h1)∧P v h1
def Yp (rs:List aB) (P:V→ae→Prop):hX:=fun x e h=>match x with
 | .e1=>∃vs,results e h rs=some vs∧P (one vs) h
 | .ret=>∃vs,results e h rs=some vs∧P (one vs) h
 | .c8 _=>False
 | .exit _=>False
section
variable {c:Ctx} {h:ae}
theorem bT.dN {f:Nat} {F:cd} {as_:List V} {P:V→ae→Prop} (b1:T.get f c.cE=some F) (hn:as_.length=F.jh) (w:WP c F.body (Yp F.results P) (c6 as_ 0 Env.nil) h):bT c f as_ h P:=by
 obtain ⟨x,aS,h1,ev,q⟩:=w
 cases x with
 |e1=>
  obtain ⟨vs,aD,hp⟩:=q
  exact ⟨_,_,h9.dN b1 hn ⟨_,_,_,ev,⟨vs,aD,rfl⟩⟩,hp⟩
 |ret=>
  obtain ⟨vs,aD,hp⟩:=q
  exact ⟨_,_,h9.dN b1 hn ⟨_,_,_,ev,⟨vs,aD,rfl⟩⟩,hp⟩
 |c8 v=>exact q.elim
 |exit i=>exact q.elim
theorem bT.mono {f:Nat} {as_:List V} {P OW:V→ae→Prop} (r:bT c f as_ h P) (hp:∀v h,P v h→OW v h):bT c f as_ h OW:=let ⟨v,h1,r,q⟩:=r;⟨v,h1,r,hp _ _ q⟩
end
end
end Go.Eng
namespace Go.Eng
noncomputable section
theorem eX (e:Env) (h:ae):results e h []=some []:=rfl
theorem cH {e:Env} {h:ae} {r:aB} {rs:List aB} {v:V} {vs:List V} (h1:sr h e r=some v) (h2:results e h rs=some vs):results e h (r::rs)=some (v::vs):=by
 show (Option.rec none (fun v=>Option.rec none (fun vs=>some (v::vs)) (results e h rs)) (sr h e r):Option (List V))=_
 rw [h1,h2]
theorem fl {e:Env} {h:ae} {i j:bp} {v:V} (aD:Env.get i j e=v):sr h e (.tmp i j)=some v:=by rw [←aD];rfl
theorem eY {e:Env} {h:ae} {i j:bp} {b o n:Nat} {l:List V} (hx:Env.get i j e= .ptr b o) (ar:h.load b o n=some l):sr h e (.cell i j (some n))=some (.agg l):=by
 show (match (Env.get i j e).lo with
  |some (b,o)=>(match h.load b o n with|some cs=>some (V.agg cs)|none=>none)
  |none=>none)=_
 rw [hx]
 show (match h.load b o n with|some cs=>some (V.agg cs)|none=>none)=_
 rw [ar]
end
end Go.Eng
namespace Go.Eng
noncomputable section
theorem mQ.ne {f r:Nat} {h:ae} {v:V} {rows:List (List V)} (a:mQ f r h v rows) (hn:rows≠[]):∃b,v= .au b 0 rows.length none:=by
 cases a with
 |nil=>exact absurd rfl hn
 |row a=>exact ⟨_,rfl⟩
theorem Rows.cells {r:Nat} {h:ae} {v:V} {rows:List (List V)} (a:Rows r h v rows):v.dA=some [v]:=by cases a<;>rfl
theorem mQ.cells {f r:Nat} {h:ae} {v:V} {rows:List (List V)} (a:mQ f r h v rows):v.dA=some [v]:=by cases a<;>rfl
theorem L.Yq {r:Nat} {ev:dr} {h:ae} {x:A} {v:V} {rows:List (List V)} (hx:ev x=v) (a:Rows r h v rows):light (.len false x) ev h= .val (.int .i64 (rows.length:Int)):=by
 subst hx
 generalize aD:ev x=v at a
 cases a with
 |nil=>exact L.zt aD
 |row=>exact L.pr aD
end
end Go.Eng
namespace Go.Eng
noncomputable section
namespace L
variable {ev:dr} {h:ae} {x y:A}
theorem Yr {n:Nat} (hn:n<256):IntKind.wrap .u8 (n:Int)=(n:Int):=by
 have e:IntKind.wrap .u8 (n:Int)=(n:Int) % 256:=by unfold IntKind.wrap;simp [IntKind.bits,IntKind.signed]
 rw [e];omega
theorem Ys {a b n:Nat} (hx:ev x= .int .u8 (a:Int)) (hy:ev y= .int .u8 (b:Int)) (av:a - b=n) (hb:b≤a) (hn:a<256):light (.bin .sub x y) ev h= .val (.int .u8 (n:Int)):=by
 show (ev x).hS (fun k a=>(ev y).hS fun j b=>q9 .sub k a j b)=_
 rw [hx,hy]
 show bE.of (some (jV .u8 (A3 (a:Int) (b:Int))))=_
 rw [su,My,show (a:Int) - (b:Int)=(n:Int) by omega,Yr (by omega)];rfl
theorem Yt {k:IntKind} {a:Int} (hx:ev x= .int k a) (hn:ui a):light (.conv .i64 x) ev h= .val (.int .i64 a):=by
 show (ev x).hS (fun _ a=> .val (jV .i64 a))=_
 rw [hx]
 show bE.val (jV .i64 a)=_
 rw [su,wrap64 hn]
theorem Yu {a n:Int} (hx:ev x= .int .i64 a) (av: -a=n) (hn:ui n):light (.neg x) ev h= .val (.int .i64 n):=by
 show (ev x).hS (fun k a=> .val (jV k (Int.neg a)))=_
 rw [hx]
 show bE.val (jV .i64 (-a))=_
 rw [su,av,wrap64 hn]
end L
end
end Go.Eng
namespace Go.Eng
noncomputable section
end
end Go.Eng
namespace Go.Eng
noncomputable section
theorem OX {row:List V} {z:List V} {n:Nat} (hr:row.length=n) (hz:z.length=n:=by rfl):gL 0 row z=row:=by
 show fx row (hJ (cI row) z)=row
 rw [o0,oZ,kX,hr,←hz,List.drop_length,List.append_nil]
theorem OY {row:List V} {n:Nat} (hr:row.length=n):mD n (hJ 0 row)=row:=by
 show mD n row=row
 rw [Bb,←hr,List.take_length]
end
end Go.Eng
namespace Go.Eng
noncomputable section
theorem Rows.xq {r b o n i j:Nat} {cap:Option Nat} {h:ae} {rows:List (List V)} {row:List V} {v:V} (a:Rows r h (.au b o n cap) rows) (ag:rows[i]? =some row) (aR:row[j]? =some v):h.eb b (o+i * r+j)=some v:=by
 cases a with
 |row hr dj bd cF dC hlen=>
  rename_i f ap bk t
  have hlt:i<rows.length:=(List.getElem?_eq_some_iff.1 ag).1
  have ar:=hlen row (List.mem_of_getElem? ag)
  have mH:j<row.length:=(List.getElem?_eq_some_iff.1 aR).1
  have hle:(i+1) * r≤rows.length * r:=Nat.mul_le_mul_right r hlt
  rw [Nat.add_mul] at hle
  unfold ae.eb
  rw [show h.obj b=_ from dj]
  show (Bool.rec none (sl r (o+i * r+j) t) ((o+i * r+j).blt bk):Option V)=_
  have h1:(o+i * r+j).blt bk=true:=by rw [fY];simp;omega
  rw [h1]
  show sl r (o+i * r+j) t=_
  unfold sl
  obtain ⟨m,hm⟩:∃m,o=m * r:=⟨o / r,by have:=Nat.div_add_mod o r;rw [bd,Nat.mul_comm] at this;omega⟩
  have he:o+i * r+j=r * (m+i)+j:=by rw [hm,Nat.mul_comm r (m+i),Nat.add_mul]
  have h2:(o+i * r+j).div r=o / r+i:=by
   show (o+i * r+j) / r=_
   rw [he,Nat.mul_add_div hr,Nat.div_eq_of_lt (by omega),hm,Nat.mul_div_cancel _ hr];omega
  have a6:(o+i * r+j).mod r=j:=by
   show (o+i * r+j) % r=j
   rw [he,Nat.mul_add_mod,Nat.mod_eq_of_lt (by omega)]
  rw [h2,a6,cF i row ag]
  show aQ (hJ j row)=some v
  rw [wO,oZ,List.head?_drop,aR]
theorem h9.more {c:Ctx} {cE:T cd} {j5:T pn} {more:Nat→List V→ae→a7} (av:c=Ctx.of cE j5 more) {f:Nat} (h0:T.get f cE=none) (h1:T.get f j5=none) {as_:List V} {h:ae} {r:a7} (e:more f as_ h=r):h9 c f as_ h r:=by
 subst av
 refine ⟨1,fun m hm R _=> ?_⟩
 obtain ⟨jH,rfl⟩:∃jH,m=jH+1:=⟨m - 1,by omega⟩
 show (Option.rec (Option.rec (more f as_ h) (fun F=>zp F (cW _ R jH) as_ h) (T.get f j5)) (fun fn=>p7 fn R (cW _ R jH) as_ h) (T.get f cE):a7)=r
 rw [h0,h1];exact e
theorem po.empty:po ae.empty:=⟨fun b hb=>absurd (T.u5 b) hb,fun b hb=>absurd (T.u5 b) hb,Nat.le_refl _⟩
theorem aq.empty:aq [] ae.empty:=aq.nil po.empty
theorem agO {P:Program} (ga:P.follows .mixedOrders=true) {cE:T cd} {j5:T pn} {more:Nat→List V→ae→a7} (hf:rC (ug P) cE=true) (aQ:rC (JE P) j5=true) (hm:lC P more)
  {f:Nat} {as_:List V} (he:bT (Ctx.of cE j5 more) f as_ ae.empty fun v _=>v= .bool true) {args:Array Value} (hr:ch aY.none as_ args.toList) (w:World):
  Calls P f args w fun e w'=>e= .returned (.bool true)∧Kept w w':=by
 obtain ⟨v,h1,⟨N,e⟩,rfl⟩:=he
 exact Oy ga (c:=Ctx.of cE j5 more) hf (OD ga aQ hm) (e N (Nat.le_refl _) N (Nat.le_refl _)) hr w
end
end Go.Eng
namespace Go.Eng
noncomputable section
def cY:V→Nat
 | .au b _ _ _=>b
 |_=>0
def db:V→Nat
 | .au _ o _ _=>o
 |_=>0
def JN:V→Option Nat
 | .au _ _ _ c=>c
 |_=>none
theorem Rows.au {r i:Nat} {h:ae} {v:V} {rows:List (List V)} (a:Rows r h v rows) (ag:i<rows.length):v= .au (cY v) (db v) rows.length (JN v):=by
 cases a with
 |nil=>exact absurd ag (Nat.not_lt_zero _)
 |row=>rfl
theorem Rows.lD {r i:Nat} {h:ae} {v:V} {rows:List (List V)} {row:List V} (a:Rows r h v rows) (ag:rows[i]? =some row):h.load (cY v) (db v+i * r) r=some row:=by
 have e:=a.au (List.getElem?_eq_some_iff.1 ag).1
 rw [e] at a
 exact a.da ag
theorem Rows.sl {r i j:Nat} {h:ae} {v x:V} {rows:List (List V)} {row:List V} (a:Rows r h v rows) (ag:rows[i]? =some row) (aR:row[j]? =some x):h.eb (cY v) (db v+i * r+j)=some x:=by
 have e:=a.au (List.getElem?_eq_some_iff.1 ag).1
 rw [e] at a
 exact a.xq ag aR
theorem Rows.vA {i:Nat} {h:ae} {v x:V} {rows:List (List V)} (a:Rows 1 h v rows) (ag:rows[i]? =some [x]):h.eb (cY v) (db v+i * 1)=some x:=by
 have:=a.sl (j:=0) ag rfl
 rwa [Nat.add_zero] at this
theorem Yv (n x:Nat):l2 n x n x=true:=by
 unfold l2;simp
theorem L.Yw {ev:dr} {h:ae} {x y:A} {b:Bool} (hx:ev x= .bool b) (hy:ev y= .bool b):light (.eq true .bool x y) ev h= .val (.bool false):=by
 show (Option.rec .bad (fun b=> .val (.bool (b !=true))) (cK.eq .bool (ev x) (ev y)):bE)=_
 rw [hx,hy]
 cases b<;>rfl
theorem L.OZ {ev:dr} {h:ae} {x y:A} {l:List (Nat×cK)} {row:List V} (hx:ev x= .agg row) (hy:ev y= .agg row) (he:cK.eqs l row row=some true):light (.eq true (.st l) x y) ev h= .val (.bool false):=by
 show (Option.rec .bad (fun b=> .val (.bool (b !=true))) (cK.eq (.st l) (ev x) (ev y)):bE)=_
 rw [hx,hy]
 show (Option.rec .bad (fun b=> .val (.bool (b !=true))) (cK.eq (.st l) (.agg row) (.agg row)):bE)=_
 have e:cK.eq (.st l) (.agg row) (.agg row)=cK.eqs l row row:=by simp [cK.eq]
 rw [e,he];rfl
theorem cK.vB {off:Nat} {q:cK} {l:List (Nat×cK)} {row:List V} {v:V} (aD:aQ (hJ off row)=some v) (bB:cK.eq q v v=some true) (ar:cK.eqs l row row=some true):cK.eqs ((off,q)::l) row row=some true:=by
 simp only [cK.eqs,aD,bB,ar]
theorem cK.Ff (a:Int):cK.eq .int (.int .i64 a) (.int .i64 a)=some true:=by
 simp only [cK.eq,yU];simp [nw]
theorem cK.Fg (l:List UInt8):cK.eq .str (L.str l) (L.str l)=some true:=by
 unfold L.str;simp only [cK.eq,Yv]
theorem L.fD {r n:Nat} {ev:dr} {h:ae} {x:A} {v:V} {rows:List (List V)} (hx:ev x=v) (a:Rows r h v rows) (hn:rows.length=n):light (.len false x) ev h= .val (.int .i64 (n:Int)):=by
 subst hn;exact L.Yq hx a
theorem Rows.Yx {r:Nat} {h ax:ae} {v:V} {rows rows':List (List V)} (a:Rows r h v rows) (bf:Rows r ax v rows') (hb:T.get (cY v) ax.t=T.get (cY v) h.t):rows'=rows:=by
 cases a with
 |nil=>
  generalize aD:V.U=v at bf
  cases bf with
  |nil=>rfl
  |row=>cases aD
 | @row b o f ap bk cap t rows hr dj bd cF dC hlen=>
   generalize aD:V.au b o rows.length cap=v at bf
   cases bf with
   |nil=>cases aD
   | @row bL eP c5 agP agQ B6 gW rows' Ev Yy cJ Yz wZ agR=>
     injection aD with aS bl df fZ
     subst aS;subst bl;subst fZ
     have hb:T.get b ax.t=T.get b h.t:=hb
     rw [dj,Yy] at hb
     injection hb with hb
     injection hb with gx jY rD JO pt
     subst pt
     refine List.ext_getElem? fun i=> ?_
     by_cases ag:i<rows.length
     · have h1:=List.getElem?_eq_getElem ag
       have h2:=List.getElem?_eq_getElem (l:=rows') (i:=i) (by omega)
       have a6:=cF i _ h1
       have cc:=Yz i _ h2
       rw [a6] at cc
       rw [h1,h2,Option.some.inj cc]
     · rw [List.getElem?_eq_none (by omega),List.getElem?_eq_none (by omega)]
theorem aq.O0 {r:Nat} {v:V} {Q:ae→List (List V)→Prop} {fs:List Fact} {h:ae} (s:aq (.aE (fun h=>∃rows,Rows r h v rows∧Q h rows)::fs) h):∃rows,aq (.aE (fun h=>Rows r h v rows):: .aE (fun h=>Q h rows)::fs) h:=by
 obtain ⟨Z,s⟩:=s
 have nE:=s.all _ (List.mem_cons_self ..)
 obtain ⟨rows,h1,h2⟩:=nE h fun _ _=>rfl
 have hz:v= .U∨Z (cY v):=by
  apply Classical.byContradiction
  intro hn
  have mL:v≠.U:=fun e=>hn (Or.inl e)
  have uf:¬Z (cY v):=fun e=>hn (Or.inr e)
  obtain ⟨rows',a6,_⟩:=nE {h with t:=T.set (cY v) (.box []) h.t} fun b hb=>by
   show T.get b (T.set (cY v) (.box []) h.t)=_
   rw [T.eU (Nat.zero_le _) (Nat.zero_le _),if_neg (by intro e;subst e;exact uf hb)]
  generalize aD:v=w at a6
  cases a6 with
  |nil=>exact mL aD
  | @row b o f ap bk cap t rows hr dj bd cF dC hlen=>
    subst aD
    have e:T.get b (T.set b (.box []) h.t)=some (.cells r f ap bk t):=dj
    rw [T.yT] at e;cases e
 have dep:∀ax,(∀b,Z b→T.get b ax.t=T.get b h.t)→Rows r ax v rows∧Q ax rows:=by
  intro ax bQ
  obtain ⟨rows',a6,cc⟩:=nE ax bQ
  rcases hz with rfl|hz
  · have aS:rows=[]:=by cases h1;rfl
    have bl:rows'=[]:=by cases a6;rfl
    subst aS;subst bl;exact ⟨a6,cc⟩
  · have e:=h1.Yx a6 (bQ _ hz)
    subst e;exact ⟨a6,cc⟩
 refine ⟨rows,Z,s.wf,s.z,s.iy,s.eG,s.kD,s.dd,fun x hx=> ?_⟩
 rcases List.mem_cons.1 hx with rfl|hx
 · exact fun ax bQ=>(dep ax bQ).1
 · rcases List.mem_cons.1 hx with rfl|hx
   · exact fun ax bQ=>(dep ax bQ).2
   · exact s.all x (List.mem_cons_of_mem _ hx)
section
variable {c:Ctx} {Q:hX} {env:Env} {h:ae}
theorem af.yes {g:A} {b:Bool} {op:Op} {cn:List Nat} {l:List ea} {vs:List V} {b3:List Log} (hg:(g.ev vs env).dq b=some true) (w:af c (⟨.p op,cn⟩::l) Q vs b3 env h):af c (⟨.g g b op,cn⟩::l) Q vs b3 env h:=by
 obtain ⟨x,aS,h1,⟨N,ev⟩,q⟩:=w
 refine ⟨x,aS,h1,⟨N,fun m hm R cz=> ?_⟩,q⟩
 show (Option.rec .bad (fun c1=>Bool.rec (eB l (cW c R m) (un::vs) (.no::b3) env h) (jX op cn (cW c R m) (fun a=>a.ev vs env) b3 env h fun aI v h=>eB l (cW c R m) (v::vs) (aI::b3) env h) c1) ((g.ev vs env).dq b):bj)=_
 rw [hg];exact ev m hm R cz
theorem af.no {g:A} {b:Bool} {op:Op} {cn:List Nat} {l:List ea} {vs:List V} {b3:List Log} (hg:(g.ev vs env).dq b=some false) (w:af c l Q (un::vs) (.no::b3) env h):af c (⟨.g g b op,cn⟩::l) Q vs b3 env h:=by
 obtain ⟨x,aS,h1,⟨N,ev⟩,q⟩:=w
 refine ⟨x,aS,h1,⟨N,fun m hm R cz=> ?_⟩,q⟩
 show (Option.rec .bad (fun c1=>Bool.rec (eB l (cW c R m) (un::vs) (.no::b3) env h) (jX op cn (cW c R m) (fun a=>a.ev vs env) b3 env h fun aI v h=>eB l (cW c R m) (v::vs) (aI::b3) env h) c1) ((g.ev vs env).dq b):bj)=_
 rw [hg];exact ev m hm R cz
end
end
end Go.Eng
namespace Go.Eng
noncomputable section
variable {c:Ctx} {Q:hX} {env:Env} {h:ae} {l:List eA} {vs:List V} {i j:bp}
theorem WP.ak {h3:Nat} {b:C} (w:I c l (Q.seq c b) [] env h):WP c (.seq (.ad h3 l) b) Q env h:=WP.seq (WP.ad w)
theorem WP.ss {a b d:C} (w:WP c a ((Q.seq c d).seq c b) env h):WP c (.seq (.seq a b) d) Q env h:=WP.seq (WP.seq w)
theorem I.ak {h3:Nat} {b:C} (w:I c l (Q.seq c b) [] env h):I c [] (Q.seq c (.seq (.ad h3 l) b)) vs env h:=I.nil (WP.seq (WP.ad w))
theorem I.bI {x:A} {a b:C} (w:WP c a Q env h) (hx:(x.ev [] env).asBool=some true:=by exact rfl):I c [] (Q.seq c (.cond x a b)) vs env h:=I.nil (WP.cond (t:=true) hx w)
theorem I.bw {x:A} {a b:C} (w:WP c b Q env h) (hx:(x.ev [] env).asBool=some false:=by exact rfl):I c [] (Q.seq c (.cond x a b)) vs env h:=I.nil (WP.cond (t:=false) hx w)
theorem I.v (v:V) {o:hh} (w:I c l Q (v::vs) env h) (ar:light o (fun a=>a.ev vs env) h= .val v:=by exact rfl):I c (.p (.L o)::l) Q vs env h:=I.val ar w
theorem I.aC (v:V) {o:hh} (w:I c l Q (v::vs) (Env.set i j v env) h) (ar:light o (fun a=>a.ev vs env) h= .val v:=by exact rfl):I c (.s i j (.L o)::l) Q vs env h:=I.bS ar w
theorem I.f (v:V) {f:Nat} {x:A} (w:I c l Q (v::vs) env h) (ar:light (.bK f x) (fun a=>a.ev vs env) h= .val v:=by exact (L.bK rfl)):I c (.p (.L (.bK f x))::l) Q vs env h:=I.val ar w
theorem I.b (v:V) {x:A} {b o:Nat} {row:List V} (hb:T.get b h.t=some (.box row)) (w:I c l Q (v::vs) env h) (hx:x.ev vs env= .ptr b o:=by exact rfl) (hr:aQ (hJ o row)=some v:=by exact rfl):I c (.p (.L (.load x))::l) Q vs env h:=I.val (L.fM hx hb hr) w
theorem I.pw (v:V) {x:A} {b o:Nat} {row:List V} (hb:T.get b h.t=some (.box row)) (w:I c l Q (v::vs) (Env.set i j v env) h) (hx:x.ev vs env= .ptr b o:=by exact rfl) (hr:aQ (hJ o row)=some v:=by exact rfl):I c (.s i j (.L (.load x))::l) Q vs env h:=I.bS (L.fM hx hb hr) w
section
variable {l:List ea} {b3:List Log} {cn:List Nat}
theorem af.ak {b:C} {h3:Nat} {l:List eA} (w:I c l (Q.seq c b) [] env h):af c [] (Q.seq c (.seq (.ad h3 l) b)) vs b3 env h:=af.nil (WP.seq (WP.ad w))
theorem af.bI {x:A} {a b:C} (w:WP c a Q env h) (hx:(x.ev [] env).asBool=some true:=by exact rfl):af c [] (Q.seq c (.cond x a b)) vs b3 env h:=af.nil (WP.cond (t:=true) hx w)
theorem af.bw {x:A} {a b:C} (w:WP c b Q env h) (hx:(x.ev [] env).asBool=some false:=by exact rfl):af c [] (Q.seq c (.cond x a b)) vs b3 env h:=af.nil (WP.cond (t:=false) hx w)
theorem af.v (v:V) {o:hh} (w:af c l Q (v::vs) (.rd (light o (fun a=>a.ev vs env)) v::b3) env h) (ar:light o (fun a=>a.ev vs env) h= .val v:=by exact rfl):af c (⟨.p (.L o),cn⟩::l) Q vs b3 env h:=af.val ar w
theorem af.aC (v:V) {o:hh} (w:af c l Q (v::vs) (.rd (light o (fun a=>a.ev vs env)) v::b3) (Env.set i j v env) h) (ar:light o (fun a=>a.ev vs env) h= .val v:=by exact rfl):af c (⟨.s i j (.L o),cn⟩::l) Q vs b3 env h:=af.bS ar w
theorem af.f (v:V) {f:Nat} {x:A} (w:af c l Q (v::vs) (.rd (light (.bK f x) (fun a=>a.ev vs env)) v::b3) env h) (ar:light (.bK f x) (fun a=>a.ev vs env) h= .val v:=by exact (L.bK rfl)):af c (⟨.p (.L (.bK f x)),cn⟩::l) Q vs b3 env h:=af.val ar w
theorem af.b (v:V) {x:A} {b o:Nat} {row:List V} (hb:T.get b h.t=some (.box row)) (w:af c l Q (v::vs) (.rd (light (.load x) (fun a=>a.ev vs env)) v::b3) env h) (hx:x.ev vs env= .ptr b o:=by exact rfl) (hr:aQ (hJ o row)=some v:=by exact rfl):af c (⟨.p (.L (.load x)),cn⟩::l) Q vs b3 env h:=af.val (L.fM hx hb hr) w
theorem af.pw (v:V) {x:A} {b o:Nat} {row:List V} (hb:T.get b h.t=some (.box row)) (w:af c l Q (v::vs) (.rd (light (.load x) (fun a=>a.ev vs env)) v::b3) (Env.set i j v env) h) (hx:x.ev vs env= .ptr b o:=by exact rfl) (hr:aQ (hJ o row)=some v:=by exact rfl):af c (⟨.s i j (.L (.load x)),cn⟩::l) Q vs b3 env h:=af.bS (L.fM hx hb hr) w
end
theorem b0 (v:V) {e:Env} {h:ae} {i j:bp} (aD:Env.get i j e=v:=by exact rfl):results e h [.tmp i j]=some [v]:=cH (fl aD) (eX _ _)
abbrev V.n (x:Nat):V:= .int .i64 (x:Int)
end
end Go.Eng
