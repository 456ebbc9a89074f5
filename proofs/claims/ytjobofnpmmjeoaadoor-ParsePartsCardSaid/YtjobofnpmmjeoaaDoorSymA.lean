/- Part of a proof of a law: rules of an evaluator, contracts, plain laws. No condition of its own. -/
import Derived.Test.YtjobofnpmmjeoaaDoorEngC
set_option linter.unusedVariables false
set_option linter.unusedSimpArgs false
namespace Go.Eng
noncomputable section
def Runs (c:Ctx) (f:Nat) (as:List V) (h:Heap) (r:OR):Prop:=∃N,∀m,N≤m→∀R,N≤R→(aR c R m f as .none h).1=r
def EvC (c:Ctx) (e:C) (env:Env) (h:Heap) (x:X) (env':Env) (h':Heap):Prop:=∃N,∀m,N≤m→∀R,N≤R→code e (aR c R m) R env h= .ok x env' h'
def EvO (c:Ctx) (l:List Opr) (vs:List V) (env:Env) (h:Heap) (x:X) (env':Env) (h':Heap):Prop:=∃N,∀m,N≤m→∀R,N≤R→eu l (aR c R m) vs env h= .ok x env' h'
def EvD (c:Ctx) (l:List Opd) (vs:List V) (lg:List Log) (env:Env) (h:Heap) (x:X) (env':Env) (h':Heap):Prop:=∃N,∀m,N≤m→∀R,N≤R→fA l (aR c R m) vs lg env h= .ok x env' h'
abbrev QT:=X→Env→Heap→Prop
def WP (c:Ctx) (e:C) (Q:QT) (env:Env) (h:Heap):Prop:=∃x env' h',EvC c e env h x env' h'∧Q x env' h'
def WO (c:Ctx) (l:List Opr) (Q:QT) (vs:List V) (env:Env) (h:Heap):Prop:=∃x env' h',EvO c l vs env h x env' h'∧Q x env' h'
def WD (c:Ctx) (l:List Opd) (Q:QT) (vs:List V) (lg:List Log) (env:Env) (h:Heap):Prop:=∃x env' h',EvD c l vs lg env h x env' h'∧Q x env' h'
def QT.seq (c:Ctx) (b:C) (Q:QT):QT:=fun x e h=>match x with
 | .nrm=>WP c b Q e h
 |x=>Q x e h
def QT.block (id:Nat) (Q:QT):QT:=fun x e h=>match x with
 | .exit i=>if i=id then Q .nrm e h else Q (.exit i) e h
 |x=>Q x e h
section
variable {c:Ctx} {Q:QT} {env:Env} {h:Heap}
theorem WP.mono {e:C} {Q':QT} (w:WP c e Q env h) (hq:∀x e h,Q x e h→Q' x e h):WP c e Q' env h:=
 let ⟨x,e',h',ev,q⟩:=w;⟨x,e',h',ev,hq _ _ _ q⟩
theorem WP.skip (q:Q .nrm env h):WP c .skip Q env h:=⟨_,_,_,⟨0,fun _ _ _ _=>rfl⟩,q⟩
theorem WP.ret (q:Q .ret env h):WP c .ret Q env h:=⟨_,_,_,⟨0,fun _ _ _ _=>rfl⟩,q⟩
theorem WP.exit {id:Nat} (q:Q (.exit id) env h):WP c (.exit id) Q env h:=⟨_,_,_,⟨0,fun _ _ _ _=>rfl⟩,q⟩
theorem WP.seq {a b:C} (w:WP c a (Q.seq c b) env h):WP c (.seq a b) Q env h:=by
 obtain ⟨x,e1,h1,⟨N,ev⟩,q⟩:=w
 cases x with
 |nrm=>
  obtain ⟨x2,e2,h2,⟨N2,ev2⟩,q2⟩:=q
  refine ⟨x2,e2,h2,⟨max N N2,fun m hm R hR=> ?_⟩,q2⟩
  show (CR.rec (fun x env h=>X.rec (code b (aR c R m) R env h) (.ok .ret env h) (fun i=> .ok (.exit i) env h) (fun v=> .ok (.pan v) env h) x) .bad (code a (aR c R m) R env h):CR)=_
  rw [ev m (by omega) R (by omega)]
  exact ev2 m (by omega) R (by omega)
 |ret=>exact ⟨_,_,_,⟨N,fun m hm R hR=>by
   show (CR.rec (fun x env h=>X.rec (code b (aR c R m) R env h) (.ok .ret env h) (fun i=> .ok (.exit i) env h) (fun v=> .ok (.pan v) env h) x) .bad (code a (aR c R m) R env h):CR)=_
   rw [ev m hm R hR]⟩,q⟩
 |exit i=>exact ⟨_,_,_,⟨N,fun m hm R hR=>by
   show (CR.rec (fun x env h=>X.rec (code b (aR c R m) R env h) (.ok .ret env h) (fun i=> .ok (.exit i) env h) (fun v=> .ok (.pan v) env h) x) .bad (code a (aR c R m) R env h):CR)=_
   rw [ev m hm R hR]⟩,q⟩
 |pan v=>exact ⟨_,_,_,⟨N,fun m hm R hR=>by
   show (CR.rec (fun x env h=>X.rec (code b (aR c R m) R env h) (.ok .ret env h) (fun i=> .ok (.exit i) env h) (fun v=> .ok (.pan v) env h) x) .bad (code a (aR c R m) R env h):CR)=_
   rw [ev m hm R hR]⟩,q⟩
theorem WP.cond {x:A} {a b:C} {t:Bool} (hx:(x.ev [] env).asBool=some t) (w:WP c (if t then a else b) Q env h):WP c (.cond x a b) Q env h:=by
 obtain ⟨y,e1,h1,⟨N,ev⟩,q⟩:=w
 refine ⟨y,e1,h1,⟨N,fun m hm R hR=> ?_⟩,q⟩
 show (Option.rec .bad (fun t=>Bool.rec (code b (aR c R m) R env h) (code a (aR c R m) R env h) t) (x.ev [] env).asBool:CR)=_
 rw [hx]
 have:=ev m hm R hR
 cases t<;>exact this
theorem WP.block {id:Nat} {a:C} (w:WP c a (Q.block id) env h):WP c (.block id a) Q env h:=by
 obtain ⟨y,e1,h1,⟨N,ev⟩,q⟩:=w
 have key:∀m,N≤m→∀R,N≤R→code (.block id a) (aR c R m) R env h=(CR.rec (fun x env h=>X.rec (.ok .nrm env h) (.ok .ret env h) (fun i=> .ok (Bool.rec (.exit i) .nrm (i.beq id)) env h) (fun v=> .ok (.pan v) env h) x) .bad (CR.ok y e1 h1):CR):=fun m hm R hR=>by rw [←ev m hm R hR];rfl
 cases y with
 |nrm=>exact ⟨_,_,_,⟨N,key⟩,q⟩
 |ret=>exact ⟨_,_,_,⟨N,key⟩,q⟩
 |pan v=>exact ⟨_,_,_,⟨N,key⟩,q⟩
 |exit i=>
  by_cases hi:i=id
  · subst hi
    have q:Q .nrm e1 h1:=by have q:(if i=i then Q .nrm e1 h1 else Q (.exit i) e1 h1):=q;rwa [if_pos rfl] at q
    refine ⟨.nrm,e1,h1,⟨N,fun m hm R hR=> ?_⟩,q⟩
    rw [key m hm R hR]
    show CR.ok (Bool.rec (.exit i) .nrm (i.beq i)) e1 h1=_
    rw [Nat.beq_refl]
  · have q:Q (.exit i) e1 h1:=by have q:(if i=id then Q .nrm e1 h1 else Q (.exit i) e1 h1):=q;rwa [if_neg hi] at q
    refine ⟨.exit i,e1,h1,⟨N,fun m hm R hR=> ?_⟩,q⟩
    rw [key m hm R hR]
    show CR.ok (Bool.rec (.exit i) .nrm (i.beq id)) e1 h1=_
    have:i.beq id=false:=by
     cases hb:i.beq id with
     |false=>rfl
     |true=>exact absurd (Nat.eq_of_beq_eq_true hb) hi
    rw [this]
theorem WP.loop {a:C} (I:Env→Heap→Prop) (μ:Env→Heap→Nat) (h0:I env h) (step:∀e1 h1,I e1 h1→WP c a (fun x e2 h2=>match x with| .nrm=>I e2 h2∧μ e2 h2<μ e1 h1|x=>Q x e2 h2) e1 h1):WP c (.loop a) Q env h:=by
 have key:∀k e1 h1,μ e1 h1=k→I e1 h1→∃x e2 h2,(∃N,∀m,N≤m→∀R,N≤R→∀n,N≤n→rounds (fun env h=>code a (aR c R m) R env h) n e1 h1= .ok x e2 h2)∧Q x e2 h2:=by
  intro k
  induction k using Nat.strongRecOn with
  |_ k ih=>
   intro e1 h1 hk hI
   obtain ⟨x,e2,h2,⟨N,ev⟩,q⟩:=step e1 h1 hI
   have one:∀m,N≤m→∀R,N≤R→∀n,rounds (fun env h=>code a (aR c R m) R env h) (n+1) e1 h1=(X.rec (rounds (fun env h=>code a (aR c R m) R env h) n e2 h2) (.ok .ret e2 h2) (fun i=> .ok (.exit i) e2 h2) (fun v=> .ok (.pan v) e2 h2) x:CR):=by
    intro m hm R hR n
    show (CR.rec (fun x env h=>X.rec (rounds (fun env h=>code a (aR c R m) R env h) n env h) (.ok .ret env h) (fun i=> .ok (.exit i) env h) (fun v=> .ok (.pan v) env h) x) .bad (code a (aR c R m) R e1 h1):CR)=_
    rw [ev m hm R hR]
   cases x with
   |nrm=>
    obtain ⟨hI2,hlt⟩:=q
    obtain ⟨x3,e3,h3,⟨N3,ev3⟩,q3⟩:=ih (μ e2 h2) (hk▸hlt) e2 h2 rfl hI2
    refine ⟨x3,e3,h3,⟨max N N3+1,fun m hm R hR n hn=> ?_⟩,q3⟩
    obtain ⟨n',rfl⟩:∃n',n=n'+1:=⟨n - 1,by omega⟩
    rw [one m (by omega) R (by omega)]
    exact ev3 m (by omega) R (by omega) n' (by omega)
   |ret=>
    refine ⟨.ret,e2,h2,⟨N+1,fun m hm R hR n hn=> ?_⟩,q⟩
    obtain ⟨n',rfl⟩:∃n',n=n'+1:=⟨n - 1,by omega⟩
    rw [one m (by omega) R (by omega)]
   |exit i=>
    refine ⟨.exit i,e2,h2,⟨N+1,fun m hm R hR n hn=> ?_⟩,q⟩
    obtain ⟨n',rfl⟩:∃n',n=n'+1:=⟨n - 1,by omega⟩
    rw [one m (by omega) R (by omega)]
   |pan v=>
    refine ⟨.pan v,e2,h2,⟨N+1,fun m hm R hR n hn=> ?_⟩,q⟩
    obtain ⟨n',rfl⟩:∃n',n=n'+1:=⟨n - 1,by omega⟩
    rw [one m (by omega) R (by omega)]
 obtain ⟨x,e2,h2,⟨N,ev⟩,q⟩:=key _ env h rfl h0
 exact ⟨x,e2,h2,⟨N,fun m hm R hR=>ev m hm R hR R hR⟩,q⟩
theorem WP.reg {acts:Nat} {l:List Opr} (w:WO c l Q [] env h):WP c (.reg acts l) Q env h:=w
theorem WP.draw {pm:List Nat} {l:List Opd} (w:WD c l Q [] [] env h):WP c (.draw pm l) Q env h:=w
theorem WO.nil {vs:List V} (q:Q .nrm env h):WO c [] Q vs env h:=⟨_,_,_,⟨0,fun _ _ _ _=>rfl⟩,q⟩
theorem WO.val {o:OpL} {l:List Opr} {vs:List V} {v:V} (hl:light o (fun a=>a.ev vs env) h= .val v) (w:WO c l Q (v::vs) env h):WO c (.p (.L o)::l) Q vs env h:=by
 obtain ⟨x,e1,h1,⟨N,ev⟩,q⟩:=w
 refine ⟨x,e1,h1,⟨N,fun m hm R hR=> ?_⟩,q⟩
 show ((light o (fun a=>a.ev vs env) h).k h fun v h=>eu l (aR c R m) (v::vs) env h)=_
 rw [hl]
 show v.force (fun v=>eu l (aR c R m) (v::vs) env h)=_
 rw [V.force_eq];exact ev m hm R hR
theorem WO.aA {i j:D8} {o:OpL} {l:List Opr} {vs:List V} {v:V} (hl:light o (fun a=>a.ev vs env) h= .val v) (w:WO c l Q (v::vs) (Env.set i j v env) h):WO c (.s i j (.L o)::l) Q vs env h:=by
 obtain ⟨x,e1,h1,⟨N,ev⟩,q⟩:=w
 refine ⟨x,e1,h1,⟨N,fun m hm R hR=> ?_⟩,q⟩
 show ((light o (fun a=>a.ev vs env) h).k h fun v h=>Env.dD i j v (fun env=>eu l (aR c R m) (v::vs) env h) env)=_
 rw [hl]
 show v.force (fun v=>Env.dD i j v (fun env=>eu l (aR c R m) (v::vs) env h) env)=_
 rw [V.force_eq,Env.dM];exact ev m hm R hR
theorem WO.new {o:OpL} {l:List Opr} {vs:List V} {v:V} {ob:Obj} (hl:light o (fun a=>a.ev vs env) h= .new ob v) (hs:dI ob=true) (w:WO c l Q (v::vs) env (h.add ob)):WO c (.p (.L o)::l) Q vs env h:=by
 obtain ⟨x,e1,h1,⟨N,ev⟩,q⟩:=w
 refine ⟨x,e1,h1,⟨N,fun m hm R hR=> ?_⟩,q⟩
 show ((light o (fun a=>a.ev vs env) h).k h fun v h=>eu l (aR c R m) (v::vs) env h)=_
 rw [hl]
 show (Bool.rec .bad (h.newC ob fun h=>eu l (aR c R m) (v::vs) env h) (dI ob):CR)=_
 rw [hs,jY];exact ev m hm R hR
theorem WO.newS {i j:D8} {o:OpL} {l:List Opr} {vs:List V} {v:V} {ob:Obj} (hl:light o (fun a=>a.ev vs env) h= .new ob v) (hs:dI ob=true) (w:WO c l Q (v::vs) (Env.set i j v env) (h.add ob)):WO c (.s i j (.L o)::l) Q vs env h:=by
 obtain ⟨x,e1,h1,⟨N,ev⟩,q⟩:=w
 refine ⟨x,e1,h1,⟨N,fun m hm R hR=> ?_⟩,q⟩
 show ((light o (fun a=>a.ev vs env) h).k h fun v h=>Env.dD i j v (fun env=>eu l (aR c R m) (v::vs) env h) env)=_
 rw [hl]
 show (Bool.rec .bad (h.newC ob fun h=>Env.dD i j v (fun env=>eu l (aR c R m) (v::vs) env h) env) (dI ob):CR)=_
 rw [hs,jY,Env.dM];exact ev m hm R hR
theorem WO.act {o:OpH} {l:List Opr} {vs:List V} {v:V} {h2:Heap} (hl:∀call,heavy o call (fun a=>a.ev vs env) h= .ok v h2) (w:WO c l Q (v::vs) env h2):WO c (.p (.H o)::l) Q vs env h:=by
 obtain ⟨x,e1,h1,⟨N,ev⟩,q⟩:=w
 refine ⟨x,e1,h1,⟨N,fun m hm R hR=> ?_⟩,q⟩
 show ((heavy o (aR c R m) (fun a=>a.ev vs env) h).k env fun v h=>eu l (aR c R m) (v::vs) env h)=_
 rw [hl]
 show v.force (fun v=>eu l (aR c R m) (v::vs) env h2)=_
 rw [V.force_eq];exact ev m hm R hR
theorem WO.actS {i j:D8} {o:OpH} {l:List Opr} {vs:List V} {v:V} {h2:Heap} (hl:∀call,heavy o call (fun a=>a.ev vs env) h= .ok v h2) (w:WO c l Q (v::vs) (Env.set i j v env) h2):WO c (.s i j (.H o)::l) Q vs env h:=by
 obtain ⟨x,e1,h1,⟨N,ev⟩,q⟩:=w
 refine ⟨x,e1,h1,⟨N,fun m hm R hR=> ?_⟩,q⟩
 show ((heavy o (aR c R m) (fun a=>a.ev vs env) h).k env fun v h=>Env.dD i j v (fun env=>eu l (aR c R m) (v::vs) env h) env)=_
 rw [hl]
 show v.force (fun v=>Env.dD i j v (fun env=>eu l (aR c R m) (v::vs) env h2) env)=_
 rw [V.force_eq,Env.dM];exact ev m hm R hR
theorem lW (h:Heap) (r:OR):ofC h r=r:=by cases r<;>rfl
theorem WO.call {f:Nat} {as:List A} {l:List Opr} {vs:List V} {v:V} {h2:Heap} (hl:Runs c f (evs as fun a=>a.ev vs env) h (.ok v h2)) (w:WO c l Q (v::vs) env h2):WO c (.p (.H (.call f as))::l) Q vs env h:=by
 obtain ⟨x,e1,h1,⟨N,ev⟩,q⟩:=w
 obtain ⟨N2,hl⟩:=hl
 refine ⟨x,e1,h1,⟨max N N2,fun m hm R hR=> ?_⟩,q⟩
 show ((ofC h (aR c R m f (evs as fun a=>a.ev vs env) .none h).1).k env fun v h=>eu l (aR c R m) (v::vs) env h)=_
 rw [lW,hl m (by omega) R (by omega)]
 show v.force (fun v=>eu l (aR c R m) (v::vs) env h2)=_
 rw [V.force_eq];exact ev m (by omega) R (by omega)
theorem WO.Kw {i j:D8} {f:Nat} {as:List A} {l:List Opr} {vs:List V} {v:V} {h2:Heap} (hl:Runs c f (evs as fun a=>a.ev vs env) h (.ok v h2)) (w:WO c l Q (v::vs) (Env.set i j v env) h2):WO c (.s i j (.H (.call f as))::l) Q vs env h:=by
 obtain ⟨x,e1,h1,⟨N,ev⟩,q⟩:=w
 obtain ⟨N2,hl⟩:=hl
 refine ⟨x,e1,h1,⟨max N N2,fun m hm R hR=> ?_⟩,q⟩
 show ((ofC h (aR c R m f (evs as fun a=>a.ev vs env) .none h).1).k env fun v h=>Env.dD i j v (fun env=>eu l (aR c R m) (v::vs) env h) env)=_
 rw [lW,hl m (by omega) R (by omega)]
 show v.force (fun v=>Env.dD i j v (fun env=>eu l (aR c R m) (v::vs) env h2) env)=_
 rw [V.force_eq,Env.dM];exact ev m (by omega) R (by omega)
theorem Runs.eZ {f:Nat} {F:Fun} {as:List V} {r:OR} (hF:T.get f c.bJ=some F) (hn:as.length=F.np) (w:WP c F.body (fun x e h'=>match x with
  | .nrm=>∃vs,results e h' F.results=some vs∧r= .ok (one vs) h'
  | .ret=>∃vs,results e h' F.results=some vs∧r= .ok (one vs) h'
  | .pan v=>r= .pan v h'
  | .exit _=>False) (dx as 0 Env.nil) h):Runs c f as h r:=by
 obtain ⟨x,e1,h1,⟨N,ev⟩,q⟩:=w
 refine ⟨N+1,fun m hm R hR=> ?_⟩
 obtain ⟨m',rfl⟩:∃m',m=m'+1:=⟨m - 1,by omega⟩
 show (Option.rec (c.sums (aR c R m') f as h) (fun fn=>jv fn R (aR c R m') as h) (T.get f c.bJ):OR)=r
 rw [hF]
 show jv F R (aR c R m') as h=r
 unfold jv
 have hl:(eO as).beq F.np=true:=by rw [fF,hn];exact Nat.beq_refl _
 rw [hl]
 show qA F.results (args as 0 Env.nil fun env=>code F.body (aR c R m') R env h)=r
 rw [lD,ev m' (by omega) R (by omega)]
 have fin:∀vs,results e1 h1 F.results=some vs→finish F.results e1 h1= .ok (one vs) h1:=fun vs hv=>by unfold finish;rw [hv]
 cases x with
 |nrm=>obtain ⟨vs,hv,hr⟩:=q;rw [hr];exact fin vs hv
 |ret=>obtain ⟨vs,hv,hr⟩:=q;rw [hr];exact fin vs hv
 |pan v=>exact q.symm
 |exit i=>exact q.elim
end
end
end Go.Eng
namespace Go.Eng
noncomputable section
structure Wf (h:Heap):Prop where
 t:∀b,T.get b h.t≠none→b<h.next
 f:∀b,T.get b h.aO≠none→b<h.next
 lim:8≤h.next
structure Same (B:Nat) (h h':Heap):Prop where
 next:h.next≤h'.next
 t:∀b,b<B→T.get b h'.t=T.get b h.t
 f:∀b,b<B→T.get b h'.aO=T.get b h.aO
 wf:Wf h→Wf h'
theorem Same.refl (B:Nat) (h:Heap):Same B h h:=⟨Nat.le_refl _,fun _ _=>rfl,fun _ _=>rfl,fun w=>w⟩
theorem Same.trans {B:Nat} {a b c:Heap} (x:Same B a b) (y:Same B b c):Same B a c:=
 ⟨Nat.le_trans x.next y.next,fun k hk=>(y.t k hk).trans (x.t k hk),fun k hk=>(y.f k hk).trans (x.f k hk),fun w=>y.wf (x.wf w)⟩
theorem Same.mono {B B':Nat} {a b:Heap} (x:Same B a b) (hB:B'≤B):Same B' a b:=
 ⟨x.next,fun k hk=>x.t k (Nat.lt_of_lt_of_le hk hB),fun k hk=>x.f k (Nat.lt_of_lt_of_le hk hB),x.wf⟩
theorem uV (h:Heap) (ob:Obj) (b:Nat):T.get b (h.add ob).t=if b=h.next then some ob else T.get b h.t:=
 T.bQ (Nat.zero_le _) (Nat.zero_le _) ..
theorem iT (h:Heap) (ob:Obj):T.get h.next (h.add ob).t=some ob:=by rw [uV,if_pos rfl]
theorem iU {h:Heap} {ob:Obj} {b:Nat} (hb:b<h.next):T.get b (h.add ob).t=T.get b h.t:=by rw [uV,if_neg (by omega)]
theorem Same.add {B:Nat} {h:Heap} (hB:B≤h.next) (ob:Obj):Same B h (h.add ob):=by
 refine ⟨Nat.le_succ _,fun b hb=>iU (by omega),fun _ _=>rfl,fun w=>⟨fun b hb=> ?_,fun b hb=>Nat.lt_succ_of_lt (w.f b hb),Nat.le_succ_of_le w.lim⟩⟩
 rw [uV] at hb
 by_cases e:b=h.next
 · show b<h.next+1;omega
 · rw [if_neg e] at hb;exact Nat.lt_succ_of_lt (w.t b hb)
inductive Acc (B r:Nat) (h:Heap):V→List (List V)→Prop
 |nil:Acc B r h .slN []
 |row {b f ap:Nat} {t:T (List V)} {rows:List (List V)} (h8:8≤b) (hn:0<rows.length) (hb:B≤b) (hf:B≤f) (hfb:f≤b) (hob:T.get b h.t=some (.cells r f ap (rows.length * r) t))
   (hrow:∀i row,rows[i]? =some row→T.get i t=some row) (hfam:∀F,T.get f h.aO=some F→F.last≤ap+rows.length * r) (hlen:∀row∈rows,row.length=r):
   Acc B r h (.sl b 0 rows.length none) rows
theorem Acc.len {B r:Nat} {h:Heap} {v:V} {rows:List (List V)} (a:Acc B r h v rows):∀row∈rows,row.length=r:=by
 cases a with
 |nil=>intro row hm;simp at hm
 |row h8 hn hb hf hfb hob hrow hfam hlen=>exact hlen
theorem acc_append1 {B r bytes:Nat} {h:Heap} {v:V} {rows:List (List V)} (hr:0<r) (hB:B≤h.next) (w:Wf h) (a:Acc B r h v rows) {row:List V} (hl:row.length=r) (hfit:(rows.length+1) * bytes≤1099511627776):
  ∃v' h',bY h r bytes v row 1= .ok v' h'∧Acc B r h' v' (rows++[row])∧Same B h h'∧h'.next=h.next+1∧∀b,b<h.next→T.get b h'.t=T.get b h.t:=by
 have hfn:T.get h.next h.aO=none:=by
  cases e:T.get h.next h.aO with
  |none=>rfl
  |some F=>have:=w.f h.next (by rw [e];simp);omega
 cases a with
 |nil=>
  refine ⟨.sl h.next 0 1 none,h.add (.cells r h.next 0 (1 * r) (aS r 1 0 row T.e)), ?_, ?_,Same.add hB _,rfl,fun b hb=>iU hb⟩
  · unfold bY
    have h1:(Nat.mul 1 bytes).ble 1099511627776=true:=by
     rw [iM];have:1 * bytes≤1099511627776:=by simpa using hfit
     simpa using this
    simp only [show Nat.beq 1 0=false from rfl,cond_false,h1,cond_true,force_eq,bG]
    show (Bool.rec .bad (h.newC (.cells r h.next 0 (Nat.mul 1 r) (aS r 1 0 row T.e)) fun h2=> .ok (.sl h.next 0 1 none) h2) (dI (.cells r h.next 0 (Nat.mul 1 r) (aS r 1 0 row T.e))):OR)=_
    have hs:dI (.cells r h.next 0 (Nat.mul 1 r) (aS r 1 0 row T.e))=true:=by show Nat.blt 0 r=true;rw [jJ];simpa using hr
    rw [hs,jY];rfl
  · refine Acc.row (rows:=[row]) (f:=h.next) (ap:=0) (t:=aS r 1 0 row T.e) w.lim (by simp) hB hB (Nat.le_refl _) (iT ..) (fun i x hx=> ?_) (fun F hF=> ?_) (fun x hx=> ?_)
    · cases i with
      |zero=>
       simp at hx;subst hx
       rw [fP r 1 0 row T.e 0 (by omega) (by omega),if_pos ⟨by omega,by omega⟩]
       simp [←hl]
      |succ i=>simp at hx
    · rw [show T.get h.next (h.add (.cells r h.next 0 (1 * r) (aS r 1 0 row T.e))).aO=T.get h.next h.aO from rfl,hfn] at hF;cases hF
    · simp at hx;rw [hx];exact hl
 |row h8 hn hb hf hfb hob hrow hfam hlen=>
  rename_i b f ap t
  have hbn:b<h.next:=w.t b (by rw [hob];simp)
  have fin:∀l,∃h2,h2=(⟨h.t,h.next,T.set f ⟨ap+0+rows.length * r+r,l⟩ h.aO,h.ds,h.pc⟩:Heap).add (.cells r f ap ((rows.length+1) * r) (aS r 1 rows.length row t))∧
    Acc B r h2 (.sl h.next 0 (rows.length+1) none) (rows++[row])∧(f<h.next→Same B h h2)∧h2.next=h.next+1∧∀b,b<h.next→T.get b h2.t=T.get b h.t:=by
   intro l
   refine ⟨_,rfl, ?_,fun hfl=> ?_,rfl,fun k hk=> ?_⟩
   · have hln:(rows++[row]).length=rows.length+1:=by simp
     have:=Acc.row (B:=B) (r:=r) (h:=(⟨h.t,h.next,T.set f ⟨ap+0+rows.length * r+r,l⟩ h.aO,h.ds,h.pc⟩:Heap).add (.cells r f ap ((rows.length+1) * r) (aS r 1 rows.length row t)))
      (b:=h.next) (f:=f) (ap:=ap) (t:=aS r 1 rows.length row t) (rows:=rows++[row]) w.lim (by simp) hB hf (by omega) (by rw [hln];exact iT ..) (fun i x hx=> ?_) (fun F hF=> ?_) (fun x hx=> ?_)
     · rw [hln] at this;exact this
     · rw [fP r 1 rows.length row t i (by omega) (by omega)]
       by_cases hi:i=rows.length
       · subst hi
         simp at hx;subst hx
         rw [if_pos ⟨by omega,by omega⟩];simp [←hl]
       · have hi2:i<rows.length:=by have:=(List.getElem?_eq_some_iff.1 hx).1;simp at this;omega
         rw [if_neg (by omega)]
         rw [List.getElem?_append_left hi2] at hx
         exact hrow i x hx
     · have hF:T.get f (T.set f (⟨ap+0+rows.length * r+r,l⟩:Fam) h.aO)=some F:=hF
       rw [T.get_set_same] at hF;cases hF
       show ap+0+rows.length * r+r≤ap+(rows++[row]).length * r
       rw [hln,Nat.add_mul];omega
     · rcases List.mem_append.1 hx with hx|hx
       · exact hlen x hx
       · simp at hx;rw [hx];exact hl
   · refine ⟨Nat.le_succ _,fun k hk=> ?_,fun k hk=> ?_,fun w=>⟨fun k hk=> ?_,fun k hk=> ?_,Nat.le_succ_of_le w.lim⟩⟩
     · exact iU (h:=(⟨h.t,h.next,_,h.ds,h.pc⟩:Heap)) (Nat.lt_of_lt_of_le hk hB)
     · show T.get k (T.set f _ h.aO)=_
       rw [T.bQ (Nat.zero_le _) (Nat.zero_le _),if_neg (by omega)]
     · rw [uV] at hk
       by_cases e:k=h.next
       · show k<h.next+1;omega
       · rw [if_neg e] at hk;exact Nat.lt_succ_of_lt (w.t k hk)
     · show k<h.next+1
       by_cases e:k=f
       · omega
       · have hk:T.get k (T.set f _ h.aO)≠none:=hk
         rw [T.bQ (Nat.zero_le _) (Nat.zero_le _),if_neg e] at hk
         have:=w.f k hk;omega
   · exact iU (h:=(⟨h.t,h.next,_,h.ds,h.pc⟩:Heap)) hk
  have hfl:f<h.next:=by omega
  have run:∃l,bY h r bytes (.sl b 0 rows.length none) row 1= .ok (.sl h.next 0 (rows.length+1) none) ((⟨h.t,h.next,T.set f ⟨ap+0+rows.length * r+r,l⟩ h.aO,h.ds,h.pc⟩:Heap).add (.cells r f ap ((rows.length+1) * r) (aS r 1 rows.length row t))):=by
   unfold bY nH
   have h1:(Nat.mul (Nat.add rows.length 1) bytes).ble 1099511627776=true:=by rw [iM];simpa using hfit
   have h2:Nat.ble 8 b=true:=Nat.ble_eq_true_of_le h8
   simp only [show Nat.beq 1 0=false from rfl,cond_false,force_eq,h1,h2,Bool.and_self,cond_true]
   show ∃l,(Obj.cells? .bad _ (h.obj b):OR)=_
   rw [show h.obj b=some (.cells r f ap (rows.length * r) t) from hob]
   have c1:(r.beq r&&(Nat.mod 0 r).beq 0)=true:=by
    have:Nat.mod 0 r=0:=Nat.zero_mod r
    rw [this,Nat.beq_refl];rfl
   have c2:(Nat.add 0 (Nat.mul (Nat.add rows.length 1) r)).ble (rows.length * r)=false:=by
    rw [iM]
    have:¬(0+(rows.length+1) * r≤rows.length * r):=by rw [Nat.add_mul];omega
    simpa using this
   have c3:(Nat.add 0 (Nat.mul rows.length r)).ble (rows.length * r)=true:=by
    rw [iM]
    simp
   show ∃l,(bif (r.beq r&&(Nat.mod 0 r).beq 0) then _ else _)=_
   rw [c1,cond_true]
   show ∃l,(bif (Nat.add 0 (Nat.mul (Nat.add rows.length 1) r)).ble (rows.length * r) then _ else _)=_
   rw [c2,cond_false]
   show ∃l,(bif (Nat.add 0 (Nat.mul rows.length r)).ble (rows.length * r) then _ else _)=_
   rw [c3,cond_true]
   have hs:dI (.cells r f ap (Nat.mul (Nat.add rows.length 1) r) (aS r 1 rows.length row t))=true:=by show Nat.blt 0 r=true;rw [jJ];simpa using hr
   have last:∀h3:Heap,(bif Nat.beq 0 0 then setRows r 1 rows.length row t fun t=>mk h3 (.cells r f ap (Nat.mul (Nat.add rows.length 1) r) t) (.sl h.next 0 (Nat.add rows.length 1) none)
     else Option.rec .bad (fun old=>force (Nat.add ap 0) fun ap=>setRows r (Nat.add rows.length 1) 0 (dV old row) T.e fun t=>mk h3 (.cells r f ap (Nat.mul (Nat.add rows.length 1) r) t) (.sl h.next 0 (Nat.add rows.length 1) none)) (gU t rows.length (Nat.div 0 r)):OR)=
     .ok (.sl h.next 0 (rows.length+1) none) (h3.add (.cells r f ap ((rows.length+1) * r) (aS r 1 rows.length row t))):=by
    intro h3
    rw [show Nat.beq 0 0=true from rfl,cond_true,bG]
    show (Bool.rec .bad (h3.newC (.cells r f ap (Nat.mul (Nat.add rows.length 1) r) (aS r 1 rows.length row t)) fun h2=> .ok (.sl h.next 0 (rows.length+1) none) h2) (dI (.cells r f ap (Nat.mul (Nat.add rows.length 1) r) (aS r 1 rows.length row t))):OR)=_
    rw [hs,jY];rfl
   have htop:(Nat.add (Nat.add ap 0) (Nat.mul (Nat.add rows.length 1) r))=ap+0+rows.length * r+r:=by
    show ap+0+(rows.length+1) * r=_
    rw [Nat.add_mul];omega
   unfold grown
   cases hF:T.get f h.aO with
   |none=>
    have c4:(Nat.add (Nat.add ap 0) (Nat.mul rows.length r)).blt (Nat.add ap (rows.length * r))=false:=by
     rw [jJ]
     simp
    refine ⟨[h.next,b], ?_⟩
    show (Bool.rec (iI h f _ [h.next,b] _) _ ((Nat.add (Nat.add ap 0) (Nat.mul rows.length r)).blt (Nat.add ap (rows.length * r))):OR)=_
    rw [c4]
    show iI h f _ [h.next,b] _=_
    rw [ku,htop]
    exact last _
   |some F=>
    have c5:(Fam.last F).ble (Nat.add (Nat.add ap 0) (Nat.mul rows.length r))=true:=by
     rw [iM]
     have:F.last≤ap+0+rows.length * r:=by have:=hfam F hF;omega
     simpa using this
    refine ⟨h.next::F.mem, ?_⟩
    show (Bool.rec _ (iI h f _ (h.next::Fam.mem F) _) ((Fam.last F).ble (Nat.add (Nat.add ap 0) (Nat.mul rows.length r))):OR)=_
    rw [c5]
    show iI h f _ (h.next::Fam.mem F) _=_
    rw [ku,htop]
    exact last _
  obtain ⟨l,hrun⟩:=run
  obtain ⟨h2,rfl,k1,k2,k3,k4⟩:=fin l
  exact ⟨_,_,hrun,k1,k2 hfl,k3,k4⟩
end
end Go.Eng
namespace Go.Eng
noncomputable section
inductive Rows (r:Nat) (h:Heap):V→List (List V)→Prop
 |nil:Rows r h .slN []
 |row {b o f ap sz:Nat} {cap:Option Nat} {t:T (List V)} {rows:List (List V)} (hr:0<r) (hob:T.get b h.t=some (.cells r f ap sz t)) (ho:o % r=0)
   (hrow:∀i row,rows[i]? =some row→T.get (o / r+i) t=some row) (hsz:o+rows.length * r≤sz) (hlen:∀row∈rows,row.length=r):Rows r h (.sl b o rows.length cap) rows
theorem Acc.rows {B r:Nat} {h:Heap} {v:V} {rows:List (List V)} (hr:0<r) (a:Acc B r h v rows):Rows r h v rows:=by
 cases a with
 |nil=>exact .nil
 |row h8 hn hb hf hfb hob hrow hfam hlen=>
  exact .row hr hob (Nat.zero_mod r) (fun i row hi=>by rw [Nat.zero_div,Nat.zero_add];exact hrow i row hi) (by omega) hlen
theorem Rows.stay {r:Nat} {h h':Heap} {v:V} {rows:List (List V)} (a:Rows r h v rows) (hk:∀b,b<h.next→T.get b h'.t=T.get b h.t) (w:Wf h):Rows r h' v rows:=by
 cases a with
 |nil=>exact .nil
 |row hr hob ho hrow hsz hlen=>exact .row hr (by rw [hk _ (w.t _ (by rw [hob];simp))];exact hob) ho hrow hsz hlen
theorem Rows.same {r B:Nat} {h h':Heap} {v:V} {rows:List (List V)} (a:Rows r h v rows) (s:Same B h h') (hB:∀b o n cap,v= .sl b o n cap→b<B):Rows r h' v rows:=by
 cases a with
 |nil=>exact .nil
 |row hr hob ho hrow hsz hlen=>exact .row hr (by rw [s.t _ (hB _ _ _ _ rfl)];exact hob) ho hrow hsz hlen
theorem Ky {r o i:Nat} (hr:0<r) (ho:o % r=0):(o+i * r) / r=o / r+i:=by
 rw [Nat.add_mul_div_right _ _ hr]
theorem off_mod {r o i:Nat} (ho:o % r=0):(o+i * r) % r=0:=by rw [Nat.add_mul_mod_self_right];exact ho
theorem Rows.bE {r b o n i:Nat} {cap:Option Nat} {h:Heap} {rows:List (List V)} {row:List V} (a:Rows r h (.sl b o n cap) rows) (hi:rows[i]? =some row):h.load b (o+i * r) r=some row:=by
 cases a with
 |row hr hob ho hrow hsz hlen=>
  rename_i f ap sz t
  have hlt:i<rows.length:=(List.getElem?_eq_some_iff.1 hi).1
  have hle:(i+1) * r≤rows.length * r:=Nat.mul_le_mul_right r hlt
  unfold Heap.load
  have h0:r.beq 0=false:=by
   cases hb:r.beq 0 with
   |false=>rfl
   |true=>have:=Nat.eq_of_beq_eq_true hb;omega
  rw [h0,cond_false,show h.obj b=_ from hob]
  show (bif (Nat.add (o+i * r) r).ble sz then cut r (o+i * r) r t else none)=_
  have h1:(Nat.add (o+i * r) r).ble sz=true:=by
   rw [iM]
   have:o+i * r+r≤sz:=Nat.le_trans (by rw [Nat.add_mul,Nat.one_mul] at hle;omega) hsz
   simpa using this
  rw [h1,cond_true]
  unfold cut
  have h2:(r.beq r&&((o+i * r).mod r).beq 0)=true:=by
   have:(o+i * r).mod r=0:=off_mod ho
   rw [this,Nat.beq_refl];rfl
  rw [h2,cond_true]
  have:(o+i * r).div r=o / r+i:=Ky hr ho
  rw [this];exact hrow i row hi
theorem Rows.jG {b o n i:Nat} {cap:Option Nat} {h:Heap} {rows:List (List V)} {x:V} (a:Rows 1 h (.sl b o n cap) rows) (hi:rows[i]? =some [x]):h.jG b (o+i * 1)=some x:=by
 cases a with
 |row hr hob ho hrow hsz hlen=>
  rename_i f ap sz t
  have hlt:i<rows.length:=(List.getElem?_eq_some_iff.1 hi).1
  unfold Heap.jG
  rw [show h.obj b=_ from hob]
  show (Bool.rec none (iA 1 (o+i * 1) t) ((o+i * 1).blt sz):Option V)=_
  have h1:(o+i * 1).blt sz=true:=by rw [jJ];simp;omega
  rw [h1]
  show iA 1 (o+i * 1) t=_
  unfold iA
  have h2:(o+i * 1).div 1=o / 1+i:=Ky (by omega) ho
  have h3:(o+i * 1).mod 1=0:=Nat.mod_one _
  rw [h2,h3,hrow i [x] hi]
  rfl
theorem Rows.len {r:Nat} {h:Heap} {v:V} {rows:List (List V)} (a:Rows r h v rows):(v= .slN∧rows=[])∨∃b o cap,v= .sl b o rows.length cap:=by
 cases a with
 |nil=>exact .inl ⟨rfl,rfl⟩
 |row=>exact .inr ⟨_,_,_,rfl⟩
end
end Go.Eng
namespace Go.Eng
noncomputable section
mutual
theorem V.yD:∀v:V,V.same v v=true
 | .bot=>rfl
 | .bool b=>by simp [V.same]
 | .int k n=>by simp [V.same]
 | .str n x=>by
   show (Bool.rec false (x.beq x) (n.beq n):Bool)=true
   rw [Nat.beq_refl n];exact Nat.beq_refl x
 | .ptrN=>rfl
 | .ptr a o=>by show (a.beq a&&o.beq o)=true;rw [Nat.beq_refl,Nat.beq_refl];rfl
 | .slN=>rfl
 | .sl a o n c=>by show (a.beq a&&(o.beq o&&(n.beq n&&c==c)))=true;rw [Nat.beq_refl,Nat.beq_refl,Nat.beq_refl];simp
 | .mapN=>rfl
 | .map a=>Nat.beq_refl a
 | .fn f a b=>by show (f.beq f&&(V.rA a a&&V.rA b b))=true;rw [Nat.beq_refl,V.lX a,V.lX b];rfl
 | .fnN=>rfl
 | .ifc t v=>by show (t.beq t&&V.same v v)=true;rw [Nat.beq_refl,V.yD v];rfl
 | .ifcN=>rfl
 | .agg a=>V.lX a
 | .tup a=>V.lX a
theorem V.lX:∀l:List V,V.rA l l=true
 |[]=>rfl
 |a::l=>by show (V.same a a&&V.rA l l)=true;rw [V.yD a,V.lX l];rfl
end
theorem au {h:Heap} {f:Heap→LR} {v:V} (he:f h= .val v):still h (.rd f v)=true:=by
 show finds f v h=true
 unfold finds;rw [he];exact V.yD v
theorem dm (h:Heap) (lg:List Log):dX [] h lg=true:=rfl
theorem bB {d:Nat} {uo:List Nat} {h:Heap} {lg:List Log} (h1:still h (logAt lg d)=true) (h2:dX uo h lg=true):dX (d::uo) h lg=true:=by
 show (Bool.rec false (dX uo h lg) (still h (logAt lg d)):Bool)=true
 rw [h1];exact h2
section
variable {c:Ctx} {Q:QT} {env:Env} {h:Heap}
theorem WD.nil {vs:List V} {lg:List Log} (q:Q .nrm env h):WD c [] Q vs lg env h:=⟨_,_,_,⟨0,fun _ _ _ _=>rfl⟩,q⟩
theorem WD.val {o:OpL} {uo:List Nat} {l:List Opd} {vs:List V} {lg:List Log} {v:V} (hl:light o (fun a=>a.ev vs env) h= .val v) (w:WD c l Q (v::vs) (.rd (light o (fun a=>a.ev vs env)) v::lg) env h):WD c (⟨.p (.L o),uo⟩::l) Q vs lg env h:=by
 obtain ⟨x,e1,h1,⟨N,ev⟩,q⟩:=w
 refine ⟨x,e1,h1,⟨N,fun m hm R hR=> ?_⟩,q⟩
 show ((light o (fun a=>a.ev vs env) h).kd (light o (fun a=>a.ev vs env)) h fun l' v h=>fA l (aR c R m) (v::vs) (l'::lg) env h)=_
 rw [hl]
 show v.force (fun v=>fA l (aR c R m) (v::vs) (.rd (light o (fun a=>a.ev vs env)) v::lg) env h)=_
 rw [V.force_eq];exact ev m hm R hR
theorem WD.aA {i j:D8} {o:OpL} {uo:List Nat} {l:List Opd} {vs:List V} {lg:List Log} {v:V} (hl:light o (fun a=>a.ev vs env) h= .val v) (w:WD c l Q (v::vs) (.rd (light o (fun a=>a.ev vs env)) v::lg) (Env.set i j v env) h):WD c (⟨.s i j (.L o),uo⟩::l) Q vs lg env h:=by
 obtain ⟨x,e1,h1,⟨N,ev⟩,q⟩:=w
 refine ⟨x,e1,h1,⟨N,fun m hm R hR=> ?_⟩,q⟩
 show ((light o (fun a=>a.ev vs env) h).kd (light o (fun a=>a.ev vs env)) h fun l' v h=>Env.dD i j v (fun env=>fA l (aR c R m) (v::vs) (l'::lg) env h) env)=_
 rw [hl]
 show v.force (fun v=>Env.dD i j v (fun env=>fA l (aR c R m) (v::vs) (.rd (light o (fun a=>a.ev vs _)) v::lg) env h) env)=_
 rw [V.force_eq,Env.dM];exact ev m hm R hR
theorem WD.new {o:OpL} {uo:List Nat} {l:List Opd} {vs:List V} {lg:List Log} {v:V} {ob:Obj} (hl:light o (fun a=>a.ev vs env) h= .new ob v) (hs:dI ob=true) (w:WD c l Q (v::vs) (.nw h.next ob::lg) env (h.add ob)):WD c (⟨.p (.L o),uo⟩::l) Q vs lg env h:=by
 obtain ⟨x,e1,h1,⟨N,ev⟩,q⟩:=w
 refine ⟨x,e1,h1,⟨N,fun m hm R hR=> ?_⟩,q⟩
 show ((light o (fun a=>a.ev vs env) h).kd (light o (fun a=>a.ev vs env)) h fun l' v h=>fA l (aR c R m) (v::vs) (l'::lg) env h)=_
 rw [hl]
 show force h.next (fun id=>Ij (fun v h=>fA l (aR c R m) (v::vs) (.nw id ob::lg) env h) h ob v)=_
 rw [force_eq]
 show (Bool.rec .bad (h.newC ob fun h'=>fA l (aR c R m) (v::vs) (.nw h.next ob::lg) env h') (dI ob):CR)=_
 rw [hs,jY];exact ev m hm R hR
theorem WD.newS {i j:D8} {o:OpL} {uo:List Nat} {l:List Opd} {vs:List V} {lg:List Log} {v:V} {ob:Obj} (hl:light o (fun a=>a.ev vs env) h= .new ob v) (hs:dI ob=true) (w:WD c l Q (v::vs) (.nw h.next ob::lg) (Env.set i j v env) (h.add ob)):WD c (⟨.s i j (.L o),uo⟩::l) Q vs lg env h:=by
 obtain ⟨x,e1,h1,⟨N,ev⟩,q⟩:=w
 refine ⟨x,e1,h1,⟨N,fun m hm R hR=> ?_⟩,q⟩
 show ((light o (fun a=>a.ev vs env) h).kd (light o (fun a=>a.ev vs env)) h fun l' v h=>Env.dD i j v (fun env=>fA l (aR c R m) (v::vs) (l'::lg) env h) env)=_
 rw [hl]
 show force h.next (fun id=>Ij (fun v h=>Env.dD i j v (fun env=>fA l (aR c R m) (v::vs) (.nw id ob::lg) env h) env) h ob v)=_
 rw [force_eq]
 show (Bool.rec .bad (h.newC ob fun h'=>Env.dD i j v (fun env=>fA l (aR c R m) (v::vs) (.nw h.next ob::lg) env h') env) (dI ob):CR)=_
 rw [hs,jY,Env.dM];exact ev m hm R hR
theorem WD.act {o:OpH} {uo:List Nat} {l:List Opd} {vs:List V} {lg:List Log} {v:V} {h2:Heap} (hl:∀call,heavy o call (fun a=>a.ev vs env) h= .ok v h2) (hs:dX uo h2 lg=true) (w:WD c l Q (v::vs) (.no::lg) env h2):WD c (⟨.p (.H o),uo⟩::l) Q vs lg env h:=by
 obtain ⟨x,e1,h1,⟨N,ev⟩,q⟩:=w
 refine ⟨x,e1,h1,⟨N,fun m hm R hR=> ?_⟩,q⟩
 show ((heavy o (aR c R m) (fun a=>a.ev vs env) h).k env fun v h'=>Bool.rec .bad (fA l (aR c R m) (v::vs) (.no::lg) env h') (dX uo h' lg))=_
 rw [hl]
 show v.force (fun v=>(Bool.rec .bad (fA l (aR c R m) (v::vs) (.no::lg) env h2) (dX uo h2 lg):CR))=_
 rw [V.force_eq,hs];exact ev m hm R hR
theorem WD.actS {i j:D8} {o:OpH} {uo:List Nat} {l:List Opd} {vs:List V} {lg:List Log} {v:V} {h2:Heap} (hl:∀call,heavy o call (fun a=>a.ev vs env) h= .ok v h2) (hs:dX uo h2 lg=true) (w:WD c l Q (v::vs) (.no::lg) (Env.set i j v env) h2):WD c (⟨.s i j (.H o),uo⟩::l) Q vs lg env h:=by
 obtain ⟨x,e1,h1,⟨N,ev⟩,q⟩:=w
 refine ⟨x,e1,h1,⟨N,fun m hm R hR=> ?_⟩,q⟩
 show ((heavy o (aR c R m) (fun a=>a.ev vs env) h).k env fun v h'=>Bool.rec .bad (Env.dD i j v (fun env=>fA l (aR c R m) (v::vs) (.no::lg) env h') env) (dX uo h' lg))=_
 rw [hl]
 show v.force (fun v=>(Bool.rec .bad (Env.dD i j v (fun env=>fA l (aR c R m) (v::vs) (.no::lg) env h2) env) (dX uo h2 lg):CR))=_
 rw [V.force_eq,hs]
 show Env.dD i j v (fun env=>fA l (aR c R m) (v::vs) (.no::lg) env h2) env=_
 rw [Env.dM];exact ev m hm R hR
theorem WD.call {f:Nat} {as:List A} {uo:List Nat} {l:List Opd} {vs:List V} {lg:List Log} {v:V} {h2:Heap} (hl:Runs c f (evs as fun a=>a.ev vs env) h (.ok v h2)) (hs:dX uo h2 lg=true) (w:WD c l Q (v::vs) (.no::lg) env h2):WD c (⟨.p (.H (.call f as)),uo⟩::l) Q vs lg env h:=by
 obtain ⟨x,e1,h1,⟨N,ev⟩,q⟩:=w
 obtain ⟨N2,hl⟩:=hl
 refine ⟨x,e1,h1,⟨max N N2,fun m hm R hR=> ?_⟩,q⟩
 show ((ofC h (aR c R m f (evs as fun a=>a.ev vs env) .none h).1).k env fun v h'=>Bool.rec .bad (fA l (aR c R m) (v::vs) (.no::lg) env h') (dX uo h' lg))=_
 rw [lW,hl m (by omega) R (by omega)]
 show v.force (fun v=>(Bool.rec .bad (fA l (aR c R m) (v::vs) (.no::lg) env h2) (dX uo h2 lg):CR))=_
 rw [V.force_eq,hs];exact ev m (by omega) R (by omega)
theorem WD.Kw {i j:D8} {f:Nat} {as:List A} {uo:List Nat} {l:List Opd} {vs:List V} {lg:List Log} {v:V} {h2:Heap} (hl:Runs c f (evs as fun a=>a.ev vs env) h (.ok v h2)) (hs:dX uo h2 lg=true) (w:WD c l Q (v::vs) (.no::lg) (Env.set i j v env) h2):WD c (⟨.s i j (.H (.call f as)),uo⟩::l) Q vs lg env h:=by
 obtain ⟨x,e1,h1,⟨N,ev⟩,q⟩:=w
 obtain ⟨N2,hl⟩:=hl
 refine ⟨x,e1,h1,⟨max N N2,fun m hm R hR=> ?_⟩,q⟩
 show ((ofC h (aR c R m f (evs as fun a=>a.ev vs env) .none h).1).k env fun v h'=>Bool.rec .bad (Env.dD i j v (fun env=>fA l (aR c R m) (v::vs) (.no::lg) env h') env) (dX uo h' lg))=_
 rw [lW,hl m (by omega) R (by omega)]
 show v.force (fun v=>(Bool.rec .bad (Env.dD i j v (fun env=>fA l (aR c R m) (v::vs) (.no::lg) env h2) env) (dX uo h2 lg):CR))=_
 rw [V.force_eq,hs]
 show Env.dD i j v (fun env=>fA l (aR c R m) (v::vs) (.no::lg) env h2) env=_
 rw [Env.dM];exact ev m (by omega) R (by omega)
theorem WO.yes {g:A} {b:Bool} {op:Op} {l:List Opr} {vs:List V} (hg:(g.ev vs env).gd b=some true) (w:WO c (.p op::l) Q vs env h):WO c (.g g b op::l) Q vs env h:=by
 obtain ⟨x,e1,h1,⟨N,ev⟩,q⟩:=w
 refine ⟨x,e1,h1,⟨N,fun m hm R hR=> ?_⟩,q⟩
 show (Option.rec .bad (fun c1=>Bool.rec (eu l (aR c R m) (un::vs) env h) (oP op (eu l) (aR c R m) vs env h) c1) ((g.ev vs env).gd b):CR)=_
 rw [hg];exact ev m hm R hR
theorem WO.no {g:A} {b:Bool} {op:Op} {l:List Opr} {vs:List V} (hg:(g.ev vs env).gd b=some false) (w:WO c l Q (un::vs) env h):WO c (.g g b op::l) Q vs env h:=by
 obtain ⟨x,e1,h1,⟨N,ev⟩,q⟩:=w
 refine ⟨x,e1,h1,⟨N,fun m hm R hR=> ?_⟩,q⟩
 show (Option.rec .bad (fun c1=>Bool.rec (eu l (aR c R m) (un::vs) env h) (oP op (eu l) (aR c R m) vs env h) c1) ((g.ev vs env).gd b):CR)=_
 rw [hg];exact ev m hm R hR
theorem WO.yesS {g:A} {b:Bool} {i j:D8} {op:Op} {l:List Opr} {vs:List V} (hg:(g.ev vs env).gd b=some true) (w:WO c (.s i j op::l) Q vs env h):WO c (.gs g b i j op::l) Q vs env h:=by
 obtain ⟨x,e1,h1,⟨N,ev⟩,q⟩:=w
 refine ⟨x,e1,h1,⟨N,fun m hm R hR=> ?_⟩,q⟩
 show (Option.rec .bad (fun c1=>Bool.rec (Env.dD i j un (fun env=>eu l (aR c R m) (un::vs) env h) env) (oS i j op (eu l) (aR c R m) vs env h) c1) ((g.ev vs env).gd b):CR)=_
 rw [hg];exact ev m hm R hR
theorem WO.noS {g:A} {b:Bool} {i j:D8} {op:Op} {l:List Opr} {vs:List V} (hg:(g.ev vs env).gd b=some false) (w:WO c l Q (un::vs) (Env.set i j un env) h):WO c (.gs g b i j op::l) Q vs env h:=by
 obtain ⟨x,e1,h1,⟨N,ev⟩,q⟩:=w
 refine ⟨x,e1,h1,⟨N,fun m hm R hR=> ?_⟩,q⟩
 show (Option.rec .bad (fun c1=>Bool.rec (Env.dD i j un (fun env=>eu l (aR c R m) (un::vs) env h) env) (oS i j op (eu l) (aR c R m) vs env h) c1) ((g.ev vs env).gd b):CR)=_
 rw [hg]
 show Env.dD i j un (fun env=>eu l (aR c R m) (un::vs) env h) env=_
 rw [Env.dM];exact ev m hm R hR
end
end
end Go.Eng
namespace Go.Eng
noncomputable section
structure Fr (M F:List Nat) (h h':Heap):Prop where
 next:h.next≤h'.next
 t:∀b,b<h.next→b∉M→T.get b h'.t=T.get b h.t
 f:∀b,b<h.next→b∉F→T.get b h'.aO=T.get b h.aO
 wf:Wf h→Wf h'
theorem Fr.refl (h:Heap):Fr [] [] h h:=⟨Nat.le_refl _,fun _ _ _=>rfl,fun _ _ _=>rfl,fun w=>w⟩
theorem Fr.trans {M F M' F':List Nat} {a b c:Heap} (x:Fr M F a b) (y:Fr M' F' b c):Fr (M++M') (F++F') a c:=
 ⟨Nat.le_trans x.next y.next,fun k hk hn=>(y.t k (Nat.lt_of_lt_of_le hk x.next) fun e=>hn (List.mem_append_right _ e)).trans (x.t k hk fun e=>hn (List.mem_append_left _ e)),
   fun k hk hn=>(y.f k (Nat.lt_of_lt_of_le hk x.next) fun e=>hn (List.mem_append_right _ e)).trans (x.f k hk fun e=>hn (List.mem_append_left _ e)),fun w=>y.wf (x.wf w)⟩
theorem Fr.weak {M F M' F':List Nat} {a b:Heap} (x:Fr M F a b) (hM:∀k∈M,k<a.next→k∈M') (hF:∀k∈F,k<a.next→k∈F'):Fr M' F' a b:=
 ⟨x.next,fun k hk hn=>x.t k hk fun e=>hn (hM k e hk),fun k hk hn=>x.f k hk fun e=>hn (hF k e hk),x.wf⟩
theorem Fr.add (h:Heap) (ob:Obj):Fr [] [] h (h.add ob):=by
 refine ⟨Nat.le_succ _,fun b hb _=>iU (by omega),fun _ _ _=>rfl,fun w=>⟨fun b hb=> ?_,fun b hb=>Nat.lt_succ_of_lt (w.f b hb),Nat.le_succ_of_le w.lim⟩⟩
 rw [uV] at hb
 by_cases e:b=h.next
 · show b<h.next+1;omega
 · rw [if_neg e] at hb;exact Nat.lt_succ_of_lt (w.t b hb)
def Heap.put (h:Heap) (b:Nat) (o:Obj):Heap:=⟨T.set b o h.t,h.next,h.aO,h.ds,h.pc⟩
theorem get_put (h:Heap) (b:Nat) (o:Obj) (k:Nat):T.get k (h.put b o).t=if k=b then some o else T.get k h.t:=T.bQ (Nat.zero_le _) (Nat.zero_le _) ..
theorem xu (h:Heap) (b:Nat) (o:Obj):T.get b (h.put b o).t=some o:=by rw [get_put,if_pos rfl]
theorem Oj {R:Type} (h:Heap) (b:Nat) (o:Obj) (k:Heap→R):h.pQ b o k=k (h.put b o):=by
 show T.dD b o h.t (fun t=>k ⟨t,h.next,h.aO,h.ds,h.pc⟩)=_
 rw [T.dM];rfl
theorem Fr.put {h:Heap} {b:Nat} {o o':Obj} (hb:T.get b h.t=some o'):Fr [b] [] h (h.put b o):=by
 refine ⟨Nat.le_refl _,fun k hk hn=> ?_,fun _ _ _=>rfl,fun w=>⟨fun k hk=> ?_,fun k hk=>w.f k hk,w.lim⟩⟩
 · rw [get_put,if_neg (by simpa using hn)]
 · rw [get_put] at hk
   by_cases e:k=b
   · subst e;exact w.t k (by rw [hb];simp)
   · rw [if_neg e] at hk;exact w.t k hk
theorem Fr.get {M F:List Nat} {h h':Heap} {b:Nat} {o:Obj} (x:Fr M F h h') (w:Wf h) (hb:T.get b h.t=some o) (hn:b∉M):T.get b h'.t=some o:=
 (x.t b (w.t b (by rw [hb];simp)) hn).trans hb
theorem Wf.lt {h:Heap} (w:Wf h) {b:Nat} {o:Obj} (hb:T.get b h.t=some o):b<h.next:=w.t b (by rw [hb];simp)
end
end Go.Eng
namespace Go.Eng
noncomputable section
namespace L
variable {ev:Ev} {h:Heap} {x y:A}
def In64 (n:Int):Prop:= -9223372036854775808≤n∧n<9223372036854775808
theorem wrap64 {n:Int} (hn:In64 n):IntKind.wrap .i64 n=n:=by
 obtain ⟨h1,h2⟩:=hn
 have e:IntKind.wrap .i64 n=if (n % 18446744073709551616≥9223372036854775808) then n % 18446744073709551616 - 18446744073709551616 else n % 18446744073709551616:=by
  unfold IntKind.wrap
  simp [IntKind.bits,IntKind.signed]
 rw [e]
 split<;>omega
theorem add {a b:Int} (hx:ev x= .int .i64 a) (hy:ev y= .int .i64 b) (hn:In64 (a+b)):light (.bin .add x y) ev h= .val (.int .i64 (a+b)):=by
 show (ev x).gV (fun k a=>(ev y).gV fun j b=>xX .add k a j b)=_
 rw [hx,hy]
 show LR.of (some (jX .i64 (M9 a b)))=_
 rw [jK,JS,wrap64 hn];rfl
theorem sub {a b:Int} (hx:ev x= .int .i64 a) (hy:ev y= .int .i64 b) (hn:In64 (a - b)):light (.bin .sub x y) ev h= .val (.int .i64 (a - b)):=by
 show (ev x).gV (fun k a=>(ev y).gV fun j b=>xX .sub k a j b)=_
 rw [hx,hy]
 show LR.of (some (jX .i64 (Na a b)))=_
 rw [jK,JV,wrap64 hn];rfl
theorem mul {a b:Int} (hx:ev x= .int .i64 a) (hy:ev y= .int .i64 b) (hn:In64 (a * b)):light (.bin .mul x y) ev h= .val (.int .i64 (a * b)):=by
 show (ev x).gV (fun k a=>(ev y).gV fun j b=>xX .mul k a j b)=_
 rw [hx,hy]
 show LR.of (some (jX .i64 (Ld a b)))=_
 rw [jK,JU,wrap64 hn];rfl
theorem kC {a b n:Int} (hx:ev x= .int .i64 a) (hy:ev y= .int .i64 b) (hc:a+b=n) (hn:In64 n):light (.bin .add x y) ev h= .val (.int .i64 n):=by subst hc;exact add hx hy hn
theorem Ol {a b n:Int} (hx:ev x= .int .i64 a) (hy:ev y= .int .i64 b) (hc:a - b=n) (hn:In64 n):light (.bin .sub x y) ev h= .val (.int .i64 n):=by subst hc;exact sub hx hy hn
theorem mulE {a b n:Int} (hx:ev x= .int .i64 a) (hy:ev y= .int .i64 b) (hc:a * b=n) (hn:In64 n):light (.bin .mul x y) ev h= .val (.int .i64 n):=by subst hc;exact mul hx hy hn
theorem lss {k:IntKind} {a b:Int} (hx:ev x= .int k a) (hy:ev y= .int k b):light (.bin .lss x y) ev h= .val (.bool (decide (a<b))):=by
 show (ev x).gV (fun k a=>(ev y).gV fun j b=>xX .lss k a j b)=_
 rw [hx,hy]
 show (Bool.rec .bad (.of (FB .lss k a b)) (kEq k k):LR)=_
 rw [qB,decide_eq_true rfl]
 show LR.val (.bool (ilt a b))=_
 rw [sD]
theorem leq {k:IntKind} {a b:Int} (hx:ev x= .int k a) (hy:ev y= .int k b):light (.bin .leq x y) ev h= .val (.bool (decide (a≤b))):=by
 show (ev x).gV (fun k a=>(ev y).gV fun j b=>xX .leq k a j b)=_
 rw [hx,hy]
 show (Bool.rec .bad (.of (FB .leq k a b)) (kEq k k):LR)=_
 rw [qB,decide_eq_true rfl]
 show LR.val (.bool (vI (ilt b a)))=_
 rw [sD,nI];congr 2;rw [Bool.eq_iff_iff];simp
theorem gtr {k:IntKind} {a b:Int} (hx:ev x= .int k a) (hy:ev y= .int k b):light (.bin .gtr x y) ev h= .val (.bool (decide (b<a))):=by
 show (ev x).gV (fun k a=>(ev y).gV fun j b=>xX .gtr k a j b)=_
 rw [hx,hy]
 show (Bool.rec .bad (.of (FB .gtr k a b)) (kEq k k):LR)=_
 rw [qB,decide_eq_true rfl]
 show LR.val (.bool (ilt b a))=_
 rw [sD]
theorem geq {k:IntKind} {a b:Int} (hx:ev x= .int k a) (hy:ev y= .int k b):light (.bin .geq x y) ev h= .val (.bool (decide (b≤a))):=by
 show (ev x).gV (fun k a=>(ev y).gV fun j b=>xX .geq k a j b)=_
 rw [hx,hy]
 show (Bool.rec .bad (.of (FB .geq k a b)) (kEq k k):LR)=_
 rw [qB,decide_eq_true rfl]
 show LR.val (.bool (vI (ilt a b)))=_
 rw [sD,nI];congr 2;rw [Bool.eq_iff_iff];simp
theorem eql {k:IntKind} {a b:Int} (hx:ev x= .int k a) (hy:ev y= .int k b):light (.bin .eql x y) ev h= .val (.bool (decide (a=b))):=by
 show (ev x).gV (fun k a=>(ev y).gV fun j b=>xX .eql k a j b)=_
 rw [hx,hy]
 show (Bool.rec .bad (.of (FB .eql k a b)) (kEq k k):LR)=_
 rw [qB,decide_eq_true rfl]
 show LR.val (.bool (ieq a b))=_
 rw [xZ]
theorem neq {k:IntKind} {a b:Int} (hx:ev x= .int k a) (hy:ev y= .int k b):light (.bin .neq x y) ev h= .val (.bool (decide (a≠b))):=by
 show (ev x).gV (fun k a=>(ev y).gV fun j b=>xX .neq k a j b)=_
 rw [hx,hy]
 show (Bool.rec .bad (.of (FB .neq k a b)) (kEq k k):LR)=_
 rw [qB,decide_eq_true rfl]
 show LR.val (.bool (vI (ieq a b)))=_
 rw [xZ,nI];congr 2;rw [Bool.eq_iff_iff];simp
def str (l:List UInt8):V:= .str l.length (enc l)
theorem seq {l m:List UInt8} (hx:ev x=str l) (hy:ev y=str m):light (.bins .eql x y) ev h= .val (.bool (decide (l=m))):=by
 show (ev x).mF (fun n a=>(ev y).mF fun m b=> .of (Le .eql n a m b))=_
 rw [hx,hy]
 show LR.val (.bool (sEq l.length (enc l) m.length (enc m)))=_
 congr 2
 have e:∀l m:List UInt8,sEq l.length (enc l) m.length (enc m)=decide (l=m):=by
  intro l m
  have:=sJ (s:=⟨⟨l⟩⟩) (t:=⟨⟨m⟩⟩) (n:=l.length) (x:=enc l) (m:=m.length) (y:=enc m) ⟨rfl,rfl⟩ ⟨rfl,rfl⟩
  rw [this];congr 1
  rw [eq_iff_iff]
  constructor
  · intro h;cases h;rfl
  · intro h;rw [h]
 exact e l m
theorem sne {l m:List UInt8} (hx:ev x=str l) (hy:ev y=str m):light (.bins .neq x y) ev h= .val (.bool (decide (l≠m))):=by
 have h1:=seq (h:=h) hx hy
 have e1:light (.bins .eql x y) ev h=(ev x).mF (fun n a=>(ev y).mF fun m b=> .of (Le .eql n a m b)):=rfl
 rw [e1,hx,hy] at h1
 show (ev x).mF (fun n a=>(ev y).mF fun m b=> .of (Le .neq n a m b))=_
 rw [hx,hy]
 show LR.val (.bool (vI (sEq l.length (enc l) m.length (enc m))))=_
 have h1:LR.val (.bool (sEq l.length (enc l) m.length (enc m)))= .val (.bool (decide (l=m))):=h1
 have h2:sEq l.length (enc l) m.length (enc m)=decide (l=m):=by simpa using h1
 rw [h2,nI];congr 2;simp
theorem yE {l:List UInt8} (hx:ev x=str l):light (.len true x) ev h= .val (.int .i64 (l.length:Int)):=by
 show (ev x).mF (fun n _=> .val (kG .i64 n))=_
 rw [hx]
 show LR.val (kG .i64 l.length)=_
 rw [jy];rfl
theorem llenN (hx:ev x= .slN):light (.len false x) ev h= .val (.int .i64 ((0:Nat):Int)):=by
 show (ev x).JL (fun n=> .val (kG .i64 n))=_
 rw [hx];rfl
theorem llen {b o n:Nat} {cap:Option Nat} (hx:ev x= .sl b o n cap):light (.len false x) ev h= .val (.int .i64 (n:Int)):=by
 show (ev x).JL (fun n=> .val (kG .i64 n))=_
 rw [hx]
 show LR.val (kG .i64 n)=_
 rw [jy];rfl
theorem E5 {l:List UInt8} {i:Nat} {b:UInt8} (hx:ev x=str l) (hy:ev y= .int .i64 (i:Int)) (hi:l[i]? =some b):light (.istr x y) ev h= .val (.int .u8 (b.toNat:Int)):=by
 show (ev x).mF (fun n a=>(ev y).Ap fun j=>Bool.rec .bad (.val (kG .u8 (MR a j))) (j.blt n))=_
 rw [hx,hy]
 show (Bool.rec .bad (.val (kG .u8 (MR (enc l) i))) (i.blt l.length):LR)=_
 have hlt:i<l.length:=(List.getElem?_eq_some_iff.1 hi).1
 rw [jJ,decide_eq_true hlt]
 show LR.val (kG .u8 (MR (enc l) i))=_
 rw [jy]
 congr 3
 show (enc l >>> (8 * i)) % 256=b.toNat
 rw [Nat.shiftRight_eq_div_pow,Ny,Ey]
 obtain ⟨_,rfl⟩:=List.getElem?_eq_some_iff.1 hi
 rw [List.drop_eq_getElem_cons hlt]
 simp only [enc]
 have:=(l[i]).toNat_lt
 omega
theorem uI (n x:Nat):xW n x= .str n x:=by unfold xW;simp
theorem Jk {l:List UInt8} {lo hi:Option A} {i j:Nat} (hx:ev x=str l) (hj:bF hi ev l.length=some j) (hi':bF lo ev 0=some i) (hij:i≤j) (hjl:j≤l.length):light (.sstr x lo hi) ev h= .val (str ((l.drop i).take (j - i))):=by
 show (ev x).mF (fun n a=>Nc n a (bF hi ev n) (bF lo ev 0))=_
 rw [hx]
 show Nc l.length (enc l) (bF hi ev l.length) (bF lo ev 0)=_
 rw [hj,hi']
 show (Bool.rec .bad (.val (xW (Nat.sub j i) (sSub (enc l) i (Nat.sub j i)))) (i.ble j&&j.ble l.length):LR)=_
 rw [iM,iM,decide_eq_true hij,decide_eq_true hjl]
 show LR.val (xW (j - i) (sSub (enc l) i (j - i)))=_
 rw [uI,J5]
 have:((l.drop i).take (j - i)).length=j - i:=by simp;omega
 unfold str;rw [this]
theorem scat {l m:List UInt8} (hx:ev x=str l) (hy:ev y=str m) (hn:l.length+m.length<4294967296):light (.bins .add x y) ev h= .val (str (l++m)):=by
 show (ev x).mF (fun n a=>(ev y).mF fun m b=> .of (Le .add n a m b))=_
 rw [hx,hy]
 show LR.of (bif (Nat.add l.length m.length).blt 4294967296 then some (xW (Nat.add l.length m.length) (sCat l.length (enc l) (enc m))) else none)=_
 have:(Nat.add l.length m.length).blt 4294967296=true:=by rw [jJ];simpa using hn
 rw [this]
 show LR.val (xW (l.length+m.length) (sCat l.length (enc l) (enc m)))=_
 rw [uI,J6];unfold str;rw [List.length_append]
theorem load {b o:Nat} {v:V} (hx:ev x= .ptr b o) (hl:h.jG b o=some v):light (.load x) ev h= .val v:=by
 show (ev x).ru (fun b o=> .of (h.jG b o))=_
 rw [hx]
 show LR.of (h.jG b o)=_
 rw [hl];rfl
theorem qP {α R:Type} (l:List α) (k:List α→R):eP l k=k l:=by
 have:∀(l:List α) (k:List α→R),eP l k=k l:=by
  intro l
  induction l with
  |nil=>intro k;rfl
  |cons a l ih=>intro k;exact ih _
 exact this l k
theorem bE {b o n:Nat} {l:List V} (hx:ev x= .ptr b o) (hl:h.load b o n=some l):light (.bE n x) ev h= .val (.agg l):=by
 show (ev x).ru (fun b o=>Option.rec .bad (fun l=>eP l fun l=> .val (.agg l)) (h.load b o n))=_
 rw [hx]
 show (Option.rec .bad (fun l=>eP l fun l=> .val (.agg l)) (h.load b o n):LR)=_
 rw [hl];exact qP l _
theorem jf {b o:Nat} {row:List V} {v:V} (hb:T.get b h.t=some (.box row)) (hr:hd (jr o row)=some v):h.jG b o=some v:=by
 unfold Heap.jG;rw [show h.obj b=_ from hb];exact hr
theorem dP {b o n:Nat} {row l:List V} (hb:T.get b h.t=some (.box row)) (hn:n.beq 0=false) (ho:(Nat.add o n).ble (eO row)=true) (hr:lI n (jr o row)=l):h.load b o n=some l:=by
 unfold Heap.load;rw [hn,show h.obj b=_ from hb]
 show (bif (Nat.add o n).ble (eO row) then some (lI n (jr o row)) else none)=_
 rw [ho,hr];rfl
theorem ay {b o:Nat} {row:List V} {v:V} (hx:ev x= .ptr b o) (hb:T.get b h.t=some (.box row)) (hr:hd (jr o row)=some v):light (.load x) ev h= .val v:=load hx (jf hb hr)
theorem aI {b o n:Nat} {row l:List V} (hx:ev x= .ptr b o) (hb:T.get b h.t=some (.box row)) (hn:n.beq 0=false) (ho:(Nat.add o n).ble (eO row)=true) (hr:lI n (jr o row)=l):light (.bE n x) ev h= .val (.agg l):=bE hx (dP hb hn ho hr)
theorem bI {r b o n i:Nat} {cap:Option Nat} (hx:ev x= .sl b o n cap) (hy:ev y= .int .i64 (i:Int)) (hi:i<n):light (.bI r x y) ev h= .val (.ptr b (o+i * r)):=by
 show (ev x).onSl (fun b o n=>(ev y).Ap fun j=>Ee r b o n j)=_
 rw [hx,hy]
 show (Bool.rec .bad (force (Nat.add o (Nat.mul i r)) fun o=> .val (.ptr b o)) (i.blt n):LR)=_
 rw [jJ,decide_eq_true hi]
 show force (Nat.add o (Nat.mul i r)) (fun o=>LR.val (.ptr b o))=_
 rw [force_eq];rfl
theorem ak {b o f:Nat} (hx:ev x= .ptr b o):light (.ak f x) ev h= .val (.ptr b (o+f)):=by
 show (ev x).ru (fun b o=>force (Nat.add o f) fun o=> .val (.ptr b o))=_
 rw [hx]
 show force (Nat.add o f) (fun o=>LR.val (.ptr b o))=_
 rw [force_eq];rfl
theorem alloc {cs:List V}:light (.alloc cs) ev h= .new (.box cs) (.ptr h.next 0):=by
 show force h.next (fun b=>LR.new (.box cs) (.ptr b 0))=_
 rw [force_eq]
theorem box {n:Nat} {l:List V} (hx:(ev x).bW=some l) (hl:eO l=n):light (.box n x) ev h= .new (.box l) (.ptr h.next 0):=by
 show force h.next (fun b=>(Option.rec .bad (fun l=>Bool.rec .bad (eP l fun l=> .new (.box l) (.ptr b 0)) ((eO l).beq n)) (ev x).bW:LR))=_
 rw [force_eq,hx]
 show (Bool.rec .bad (eP l fun l=> .new (.box l) (.ptr h.next 0)) ((eO l).beq n):LR)=_
 rw [hl,Nat.beq_refl];exact qP l _
theorem build {zero l:List V} {ps:List (Nat×Nat×A)} (hf:fill ps ev zero=some l):light (.build zero ps) ev h= .val (.agg l):=by
 show (Option.rec .bad (fun l=>eP l fun l=> .val (.agg l)) (fill ps ev zero):LR)=_
 rw [hf];exact qP l _
theorem Om {call:dN} {n b o:Nat} {cs row row':List V} (hx:ev x= .ptr b o) (hy:(ev y).bW=some cs) (hn:eO cs=n) (h0:n.beq 0=false) (h8:8≤b) (hb:T.get b h.t=some (.box row)) (ho:(Nat.add o n).ble (eO row)=true) (hr:kF o cs row=row'):
  heavy (.store n x y) call ev h= .ok un (h.put b (.box row')):=by
 show (Option.rec .bad (fun p=>Option.rec .bad (fun l=>Bool.rec .bad (h.fw p.1 p.2 n l .bad fun h=> .ok un h) ((eO l).beq n)) (ev y).bW) (ev x).nG:OR)=_
 rw [hx,hy]
 show (Bool.rec .bad (h.fw b o n cs .bad fun h=> .ok un h) ((eO cs).beq n):OR)=_
 rw [hn,Nat.beq_refl]
 show h.fw b o n cs .bad (fun h=>OR.ok un h)=_
 unfold Heap.fw
 rw [h0,show b.blt 8=false by rw [jJ];simpa using h8,show h.obj b=_ from hb]
 show (bif (Nat.add o n).ble (eO row) then eP (kF o cs row) fun row=>h.pQ b (.box row) (fun h=>OR.ok un h) else .bad)=_
 rw [ho,hr]
 show eP row' (fun row=>h.pQ b (.box row) (fun h=>OR.ok un h))=_
 rw [qP,Oj]
end L
end
end Go.Eng
namespace Go.Eng
noncomputable section
inductive Fact where
 |box (b:Nat) (row:List V)
 |map (b:Nat) (es:List Ent) (clock:Nat)
 |acc (f r:Nat) (v:V) (rows:List (List V))
 |stb (P:Heap→Prop)
 |obj (b:Nat) (P:Obj→Prop)
 |acu (bs:List Nat) (f r:Nat) (v:V) (rows:List (List V))
structure AccR (f r:Nat) (h:Heap) (b:Nat) (rows:List (List V)):Prop where
 ge:8≤b
 pos:0<rows.length
 fb:f≤b
 ob:∃ap t,T.get b h.t=some (.cells r f ap (rows.length * r) t)∧(∀i row,rows[i]? =some row→T.get i t=some row)∧∀F,T.get f h.aO=some F→F.last≤ap+rows.length * r
 len:∀row∈rows,row.length=r
inductive tH (f r:Nat) (h:Heap):V→List (List V)→Prop
 |nil:tH f r h .slN []
 |row {b:Nat} {rows:List (List V)} (a:AccR f r h b rows):tH f r h (.sl b 0 rows.length none) rows
inductive Mc (bs:List Nat) (f r:Nat) (h:Heap):V→List (List V)→Prop
 |nil (hb:bs=[]):Mc bs f r h .slN []
 |row {b ap:Nat} {rows hid:List (List V)} {t:T (List V)} (ge:8≤b) (hb:b∈bs) (hf:f∈bs) (ob:T.get b h.t=some (.cells r f ap ((rows.length+hid.length) * r) t))
   (hrow:∀i row,(rows++hid)[i]? =some row→T.get i t=some row) (len:∀row∈rows++hid,row.length=r) (mem:∀F,T.get f h.aO=some F→∀m∈F.mem,m∈bs):Mc bs f r h (.sl b 0 rows.length none) rows
theorem Mc.stay {bs:List Nat} {f r:Nat} {h h':Heap} {v:V} {rows:List (List V)} (a:Mc bs f r h v rows) (hb:∀b∈bs,T.get b h'.t=T.get b h.t) (hf:∀b∈bs,T.get b h'.aO=T.get b h.aO):Mc bs f r h' v rows:=by
 cases a with
 |nil e=>exact .nil e
 |row ge h1 h2 ob hrow len mem=>exact .row ge h1 h2 ((hb _ h1).trans ob) hrow len (fun F hF=>mem F ((hf _ h2).symm.trans hF))
def Fact.own:Fact→List Nat
 | .box b _=>[b]
 | .map b _ _=>[b]
 | .acc .. =>[]
 | .stb _=>[]
 | .obj b _=>[b]
 | .acu bs .. =>bs
def Fact.fam:Fact→List Nat
 | .acc f _ v _=>match v with
   | .slN=>[]
   |_=>[f]
 |_=>[]
def Fact.holds (Z:Nat→Prop) (h:Heap):Fact→Prop
 | .box b row=>T.get b h.t=some (.box row)∧T.get b h.aO=none
 | .map b es c=>T.get b h.t=some (.map es c)∧T.get b h.aO=none
 | .acc f r v rows=>tH f r h v rows∧∀b o n c,v= .sl b o n c→Z b
 | .stb P=>∀h',(∀b,Z b→T.get b h'.t=T.get b h.t)→P h'
 | .obj b P=>(∃o,T.get b h.t=some o∧P o)∧T.get b h.aO=none
 | .acu bs f r v rows=>Mc bs f r h v rows∧∀b∈bs,T.get b h.t≠none
def owns (fs:List Fact):List Nat:=fs.flatMap Fact.own
def aO (fs:List Fact):List Nat:=fs.flatMap Fact.fam
structure StZ (Z:Nat→Prop) (fs:List Fact) (h:Heap):Prop where
 wf:Wf h
 z:∀b,Z b→T.get b h.t≠none
 oz:∀b∈owns fs,¬Z b∧8≤b
 nb:(owns fs).Nodup
 nf:(aO fs).Nodup
 nd:∀b∈owns fs,b∉aO fs
 all:∀x∈fs,x.holds Z h
def St (fs:List Fact) (h:Heap):Prop:=∃Z,StZ Z fs h
theorem o7 {Z:Nat→Prop} {fs:List Fact} {h:Heap} (s:StZ Z fs h) {b:Nat} (hb:b∈owns fs):b<h.next:=by
 obtain ⟨x,hx,hb⟩:=List.mem_flatMap.1 hb
 have:=s.all x hx
 cases x with
 |box c row=>obtain rfl:b=c:=by simpa [Fact.own] using hb
             exact s.wf.lt this.1
 |map c es k=>obtain rfl:b=c:=by simpa [Fact.own] using hb
              exact s.wf.lt this.1
 |acc f r v rows=>simp [Fact.own] at hb
 |stb P=>simp [Fact.own] at hb
 |obj c P=>obtain rfl:b=c:=by simpa [Fact.own] using hb
           obtain ⟨⟨o,ho,_⟩,_⟩:=this
           exact s.wf.lt ho
 |acu bs f r v rows=>exact s.wf.t b (this.2 b hb)
theorem Kz {Z:Nat→Prop} {fs:List Fact} {h:Heap} (s:StZ Z fs h) {f:Nat} (hf:f∈aO fs):f<h.next:=by
 obtain ⟨x,hx,hf⟩:=List.mem_flatMap.1 hf
 have hh:=s.all x hx
 cases x with
 |box c row=>simp [Fact.fam] at hf
 |map c es k=>simp [Fact.fam] at hf
 |stb P=>simp [Fact.fam] at hf
 |obj c P=>simp [Fact.fam] at hf
 |acu bs f r v rows=>simp [Fact.fam] at hf
 |acc g r v rows=>
  obtain ⟨a,_⟩:=hh
  cases a with
  |nil=>simp [Fact.fam] at hf
  |row a=>
   obtain rfl:f=g:=by simpa [Fact.fam] using hf
   obtain ⟨ap,t,hob,_⟩:=a.ob
   exact Nat.lt_of_le_of_lt a.fb (s.wf.lt hob)
theorem Me {Z:Nat→Prop} {fs:List Fact} {h:Heap} (s:StZ Z fs h) {b:Nat} (hb:Z b):b<h.next:=s.wf.t b (s.z b hb)
theorem Gj (g:Fact→List Nat) {fs gs:List Fact} (hs:gs.Sublist fs):(gs.flatMap g).Sublist (fs.flatMap g):=by
 induction hs with
 |slnil=>exact List.Sublist.refl _
 |cons a _ ih=>rw [List.flatMap_cons];exact ih.trans (List.sublist_append_right _ _)
 |cons_cons a _ ih=>rw [List.flatMap_cons,List.flatMap_cons];exact List.Sublist.append (List.Sublist.refl _) ih
theorem Dv (g:Fact→List Nat) {fs gs:List Fact} (hs:fs.Perm gs):(fs.flatMap g).Perm (gs.flatMap g):=by
 induction hs with
 |nil=>exact List.Perm.refl _
 |cons a _ ih=>rw [List.flatMap_cons,List.flatMap_cons];exact List.Perm.append_left _ ih
 |swap a b l=>
  simp only [List.flatMap_cons]
  rw [←List.append_assoc,←List.append_assoc]
  exact List.Perm.append_right _ List.perm_append_comm
 |trans _ _ ih1 ih2=>exact ih1.trans ih2
theorem St.sub {fs gs:List Fact} {h:Heap} (s:St fs h) (hs:gs.Sublist fs):St gs h:=by
 obtain ⟨Z,s⟩:=s
 have e1:(owns gs).Sublist (owns fs):=by
  exact Gj _ hs
 have e2:(aO gs).Sublist (aO fs):=by
  exact Gj _ hs
 exact ⟨Z,s.wf,s.z,fun b hb=>s.oz b (e1.subset hb),s.nb.sublist e1,s.nf.sublist e2,fun b hb hf=>s.nd b (e1.subset hb) (e2.subset hf),fun x hx=>s.all x (hs.subset hx)⟩
theorem St.perm {fs gs:List Fact} {h:Heap} (s:St fs h) (hs:fs.Perm gs):St gs h:=by
 obtain ⟨Z,s⟩:=s
 have e1:(owns fs).Perm (owns gs):=Dv _ hs
 have e2:(aO fs).Perm (aO gs):=Dv _ hs
 exact ⟨Z,s.wf,s.z,fun b hb=>s.oz b (e1.symm.subset hb),e1.nodup_iff.1 s.nb,e2.nodup_iff.1 s.nf,fun b hb hf=>s.nd b (e1.symm.subset hb) (e2.symm.subset hf),fun x hx=>s.all x (hs.symm.subset hx)⟩
theorem Dw:∀(fs:List Fact) (k:Nat) (x:Fact),fs[k]? =some x→fs.Perm (x::fs.eraseIdx k)
 |[],k,x,h=>by simp at h
 |a::fs,0,x,h=>by simp at h;subst h;exact List.Perm.refl _
 |a::fs,k+1,x,h=>by
  have:=Dw fs k x (by simpa using h)
  exact (List.Perm.cons a this).trans (List.Perm.swap ..)
theorem St.pick {fs:List Fact} {h:Heap} (s:St fs h) (k:Nat) {x:Fact} (hk:fs[k]? =some x):St (x::fs.eraseIdx k) h:=s.perm (Dw fs k x hk)
theorem St.tail {x:Fact} {fs:List Fact} {h:Heap} (s:St (x::fs) h):St fs h:=s.sub (List.sublist_cons_self _ _)
theorem St.wf {fs:List Fact} {h:Heap} (s:St fs h):Wf h:=let ⟨_,s⟩:=s;s.wf
theorem St.nil {h:Heap} (w:Wf h):St [] h:=⟨fun _=>False,w,fun _ hb=>hb.elim,fun b hb=>by simp [owns] at hb,by simp [owns],by simp [aO],fun b hb=>by simp [owns] at hb,fun x hx=>by simp at hx⟩
theorem St.aj {fs:List Fact} {h:Heap} (s:St fs h) (k:Nat) {b:Nat} {row:List V} (hk:fs[k]? =some (.box b row)):T.get b h.t=some (.box row):=by
 obtain ⟨Z,s⟩:=s
 exact (s.all (.box b row) (List.mem_of_getElem? hk)).1
theorem St.Oo {fs:List Fact} {h:Heap} (s:St fs h) (k:Nat) {b:Nat} {row:List V} (hk:fs[k]? =some (.box b row)):8≤b:=by
 obtain ⟨Z,s⟩:=s
 exact (s.oz b (List.mem_flatMap.2 ⟨_,List.mem_of_getElem? hk,by simp [Fact.own]⟩)).2
theorem St.map_ge {fs:List Fact} {h:Heap} (s:St fs h) (k:Nat) {b:Nat} {es:List Ent} {c:Nat} (hk:fs[k]? =some (.map b es c)):8≤b:=by
 obtain ⟨Z,s⟩:=s
 exact (s.oz b (List.mem_flatMap.2 ⟨_,List.mem_of_getElem? hk,by simp [Fact.own]⟩)).2
theorem St.obj_ge {fs:List Fact} {h:Heap} (s:St fs h) (k:Nat) {b:Nat} {P:Obj→Prop} (hk:fs[k]? =some (.obj b P)):8≤b:=by
 obtain ⟨Z,s⟩:=s
 exact (s.oz b (List.mem_flatMap.2 ⟨_,List.mem_of_getElem? hk,by simp [Fact.own]⟩)).2
theorem St.map_at {fs:List Fact} {h:Heap} (s:St fs h) (k:Nat) {b:Nat} {es:List Ent} {c:Nat} (hk:fs[k]? =some (.map b es c)):T.get b h.t=some (.map es c):=by
 obtain ⟨Z,s⟩:=s
 exact (s.all (.map b es c) (List.mem_of_getElem? hk)).1
theorem St.aF {fs:List Fact} {h:Heap} (s:St fs h) (k:Nat) {P:Heap→Prop} (hk:fs[k]? =some (.stb P)):P h:=by
 obtain ⟨Z,s⟩:=s
 exact s.all (.stb P) (List.mem_of_getElem? hk) h fun _ _=>rfl
theorem St.dS {fs:List Fact} {h:Heap} (s:St fs h) (k:Nat) {f r:Nat} {v:V} {rows:List (List V)} (hk:fs[k]? =some (.acc f r v rows)):tH f r h v rows:=by
 obtain ⟨Z,s⟩:=s
 exact (s.all (.acc f r v rows) (List.mem_of_getElem? hk)).1
theorem St.imp {P Q:Heap→Prop} {fs:List Fact} {h:Heap} (s:St (.stb P::fs) h) (hpq:∀h,P h→Q h):St (.stb Q:: .stb P::fs) h:=by
 obtain ⟨Z,s⟩:=s
 refine ⟨Z,s.wf,s.z,s.oz,s.nb,s.nf,s.nd,fun x hx=> ?_⟩
 rcases List.mem_cons.1 hx with rfl|hx
 · exact fun h' hz=>hpq h' (s.all (.stb P) (by simp) h' hz)
 · exact s.all x hx
theorem St.kI {P Q:Heap→Prop} {fs:List Fact} {h:Heap} (s:St (.stb P::fs) h) (hpq:∀h,P h→Q h):St (.stb Q::fs) h:=by
 have:=s.imp hpq
 exact this.sub (List.Sublist.cons_cons _ (List.sublist_cons_self _ _))
theorem St.pure {Q:Prop} {fs:List Fact} {h:Heap} (s:St fs h) (hq:Q):St (.stb (fun _=>Q)::fs) h:=by
 obtain ⟨Z,s⟩:=s
 refine ⟨Z,s.wf,s.z,s.oz,s.nb,s.nf,s.nd,fun x hx=> ?_⟩
 rcases List.mem_cons.1 hx with rfl|hx
 · exact fun h' _=>hq
 · exact s.all x hx
theorem St.and {P Q:Heap→Prop} {fs:List Fact} {h:Heap} (s:St (.stb P:: .stb Q::fs) h):St (.stb (fun h=>P h∧Q h)::fs) h:=by
 obtain ⟨Z,s⟩:=s
 refine ⟨Z,s.wf,s.z,s.oz,s.nb,s.nf,s.nd,fun x hx=> ?_⟩
 rcases List.mem_cons.1 hx with rfl|hx
 · exact fun h' hz=>⟨s.all (.stb P) (by simp) h' hz,s.all (.stb Q) (by simp) h' hz⟩
 · exact s.all x (by simp [hx])
theorem Fact.stay {Z Z':Nat→Prop} {h h':Heap} {x:Fact} (hx:x.holds Z h) (hZ:∀b,Z b→Z' b∧T.get b h'.t=T.get b h.t) (hb:∀b∈x.own,T.get b h'.t=T.get b h.t) (hbf:∀b∈x.own,T.get b h'.aO=T.get b h.aO) (hf:∀f∈x.fam,T.get f h'.aO=T.get f h.aO):x.holds Z' h':=by
 cases x with
 |box b row=>exact ⟨(hb b (by simp [Fact.own])).trans hx.1,(hbf b (by simp [Fact.own])).trans hx.2⟩
 |map b es c=>exact ⟨(hb b (by simp [Fact.own])).trans hx.1,(hbf b (by simp [Fact.own])).trans hx.2⟩
 |obj b P=>obtain ⟨⟨o,ho,hp⟩,hn⟩:=hx;exact ⟨⟨o,(hb b (by simp [Fact.own])).trans ho,hp⟩,(hbf b (by simp [Fact.own])).trans hn⟩
 |acu bs f r v rows=>exact ⟨hx.1.stay hb hbf,fun b hm=>by rw [hb b hm];exact hx.2 b hm⟩
 |stb P=>exact fun h2 hz=>hx h2 fun b hb=>(hz b (hZ b hb).1).trans (hZ b hb).2
 |acc f r v rows=>
  obtain ⟨a,hz⟩:=hx
  refine ⟨?_,fun b o n c e=>(hZ b (hz b o n c e)).1⟩
  cases a with
  |nil=>exact .nil
  |row a=>
   obtain ⟨ap,t,h1,h2,h3⟩:=a.ob
   refine .row ⟨a.ge,a.pos,a.fb,⟨ap,t, ?_,h2,fun F hF=>h3 F ?_⟩,a.len⟩
   · rw [(hZ _ (hz _ _ _ _ rfl)).2];exact h1
   · rw [←hf f (by simp [Fact.fam])];exact hF
theorem fJ (x:Fact) (fs:List Fact):owns (x::fs)=x.own++owns fs:=rfl
theorem gD (x:Fact) (fs:List Fact):aO (x::fs)=x.fam++aO fs:=rfl
theorem tJ {x:Fact} {fs:List Fact} (hx:x∈fs) {b:Nat} (hb:b∈x.own):b∈owns fs:=List.mem_flatMap.2 ⟨x,hx,hb⟩
theorem Oq {x:Fact} {fs:List Fact} (hx:x∈fs) {b:Nat} (hb:b∈x.fam):b∈aO fs:=List.mem_flatMap.2 ⟨x,hx,hb⟩
theorem St.new {fs:List Fact} {h:Heap} (s:St fs h) (ob:Obj) {x:Fact} (ho:x.own=[h.next]) (hf:x.fam=[]) (hx:T.get h.next h.aO=none→∀Z,x.holds Z (h.add ob)):St (x::fs) (h.add ob):=by
 obtain ⟨Z,s⟩:=s
 have hz:∀b,Z b→T.get b (h.add ob).t=T.get b h.t:=fun b hb=>iU (Me s hb)
 have hnn:T.get h.next h.aO=none:=by
  cases e:T.get h.next h.aO with
  |none=>rfl
  |some F=>have:=s.wf.f h.next (by rw [e];simp);omega
 refine ⟨Z,(Fr.add h ob).wf s.wf,fun b hb=>by rw [hz b hb];exact s.z b hb,fun b hb=> ?_, ?_, ?_,fun b hb hf2=> ?_,fun y hy=> ?_⟩
 · rw [fJ,ho] at hb
   rcases List.mem_append.1 hb with hb|hb
   · obtain rfl:b=h.next:=by simpa using hb
     exact ⟨fun hz=>Nat.lt_irrefl _ (Me s hz),s.wf.lim⟩
   · exact s.oz b hb
 · rw [fJ,ho]
   refine List.nodup_cons.2 ⟨fun hb=>Nat.lt_irrefl _ (o7 s hb),s.nb⟩
 · rw [gD,hf];exact s.nf
 · rw [gD,hf] at hf2
   rw [fJ,ho] at hb
   rcases List.mem_append.1 hb with hb|hb
   · obtain rfl:b=h.next:=by simpa using hb
     exact Nat.lt_irrefl _ (Kz s hf2)
   · exact s.nd b hb hf2
 · rcases List.mem_cons.1 hy with rfl|hy
   · exact hx hnn Z
   · exact Fact.stay (s.all y hy) (fun b hb=>⟨hb,hz b hb⟩) (fun b hb=>iU (o7 s (tJ hy hb))) (fun _ _=>rfl) fun _ _=>rfl
theorem St.box {fs:List Fact} {h:Heap} (s:St fs h) (row:List V):St (.box h.next row::fs) (h.add (.box row)):=s.new _ rfl rfl fun hn _=>⟨iT ..,hn⟩
theorem St.map {fs:List Fact} {h:Heap} (s:St fs h):St (.map h.next [] 0::fs) (h.add (.map [] 0)):=s.new _ rfl rfl fun hn _=>⟨iT ..,hn⟩
theorem St.put1 {x y:Fact} {fs:List Fact} {h:Heap} {b:Nat} {o:Obj} (s:St (x::fs) h) (hx:x.own=[b]) (hxf:x.fam=[]) (hy:y.own=[b]) (hyf:y.fam=[]) (hh:∀Z,x.holds Z h→y.holds Z (h.put b o)):St (y::fs) (h.put b o):=by
 obtain ⟨Z,s⟩:=s
 have hbz:¬Z b:=(s.oz b (by rw [fJ,hx];simp)).1
 have hbo:b∉owns fs:=by
  have:=s.nb;rw [fJ,hx] at this
  exact (List.nodup_cons.1 this).1
 have hz:∀k,k≠b→T.get k (h.put b o).t=T.get k h.t:=fun k hk=>by rw [get_put,if_neg hk]
 have hne:∀k,Z k→k≠b:=fun k hk e=>hbz (e▸hk)
 have hlt:b<h.next:=o7 s (by rw [fJ,hx];simp)
 refine ⟨Z,⟨fun k hk=> ?_,fun k hk=>s.wf.f k hk,s.wf.lim⟩,fun k hk=>by rw [hz k (hne k hk)];exact s.z k hk,fun k hk=>s.oz k ?_, ?_, ?_,fun k hk hf=>s.nd k ?_ ?_,fun w hw=> ?_⟩
 · by_cases e:k=b
   · subst e;exact hlt
   · rw [hz k e] at hk;exact s.wf.t k hk
 · rw [fJ,hx];rw [fJ,hy] at hk;exact hk
 · rw [fJ,hy];have:=s.nb;rw [fJ,hx] at this;exact this
 · rw [gD,hyf];have:=s.nf;rw [gD,hxf] at this;exact this
 · rw [fJ,hx];rw [fJ,hy] at hk;exact hk
 · rw [gD,hxf];rw [gD,hyf] at hf;exact hf
 · rcases List.mem_cons.1 hw with rfl|hw
   · exact hh Z (s.all x (by simp))
   · exact Fact.stay (s.all w (by simp [hw])) (fun k hk=>⟨hk,hz k (hne k hk)⟩) (fun k hk=>hz k fun e=>hbo (e▸tJ hw hk)) (fun _ _=>rfl) fun _ _=>rfl
theorem Br:∀(fs:List Fact) (k:Nat) (x y:Fact),fs[k]? =some x→(y::fs.eraseIdx k).Perm (fs.set k y)
 |[],k,x,y,h=>by simp at h
 |a::fs,0,x,y,h=>List.Perm.refl _
 |a::fs,k+1,x,y,h=>by
  have:=Br fs k x y (by simpa using h)
  exact (List.Perm.swap ..).trans (List.Perm.cons a this)
theorem St.put {fs:List Fact} {h:Heap} (s:St fs h) (k:Nat) {x y:Fact} {b:Nat} {o:Obj} (hk:fs[k]? =some x) (hx:x.own=[b]) (hxf:x.fam=[]) (hy:y.own=[b]) (hyf:y.fam=[]) (hh:∀Z,x.holds Z h→y.holds Z (h.put b o)):St (fs.set k y) (h.put b o):=
 ((s.pick k hk).put1 hx hxf hy hyf hh).perm (Br fs k x y hk)
theorem St.Jl {fs:List Fact} {h:Heap} (s:St fs h) (k:Nat) {b:Nat} {row:List V} (row':List V) (hk:fs[k]? =some (.box b row)):St (fs.set k (.box b row')) (h.put b (.box row')):=
 s.put k hk rfl rfl rfl rfl fun _ hx=>⟨xu ..,hx.2⟩
theorem St.putMap {fs:List Fact} {h:Heap} (s:St fs h) (k:Nat) {b:Nat} {es:List Ent} {c:Nat} (es':List Ent) (c':Nat) (hk:fs[k]? =some (.map b es c)):St (fs.set k (.map b es' c')) (h.put b (.map es' c')):=
 s.put k hk rfl rfl rfl rfl fun _ hx=>⟨xu ..,hx.2⟩
end
end Go.Eng
namespace Go.Eng
noncomputable section
def Heap.fm (h:Heap) (fm:T Fam):Heap:=⟨h.t,h.next,fm,h.ds,h.pc⟩
theorem St.grow {x:Fact} {fs:List Fact} {h:Heap} (s:St (x::fs) h) (hxo:x.own=[]) {fm:T Fam} {f:Nat} {ob:Obj} {y:Fact}
  (hfm:∀g,g≠f→T.get g fm=T.get g h.aO) (hf:f≤h.next) (hfx:f∉aO fs) (hfo:f∉owns fs) (hyo:y.own=[]) (hyf:y.fam=[f])
  (hy:∀Z:Nat→Prop,Z h.next→y.holds Z ((h.fm fm).add ob)):St (y::fs) ((h.fm fm).add ob):=by
 obtain ⟨Z,s⟩:=s
 have hz:∀b,b<h.next→T.get b ((h.fm fm).add ob).t=T.get b h.t:=fun b hb=>iU (h:=h.fm fm) hb
 have ho:owns (x::fs)=owns fs:=by rw [fJ,hxo];rfl
 refine ⟨fun b=>Z b∨b=h.next,⟨fun b hb=> ?_,fun g hg=> ?_,Nat.le_succ_of_le s.wf.lim⟩,fun b hb=> ?_,fun b hb=> ?_, ?_, ?_,fun b hb hf2=> ?_,fun w hw=> ?_⟩
 · show b<h.next+1
   by_cases e:b<h.next+1
   · exact e
   · have e2:T.get b ((h.fm fm).add ob).t=T.get b h.t:=by
      rw [uV];rw [if_neg (show ¬b=(h.fm fm).next from fun e3=>e (by rw [e3];exact Nat.lt_succ_self _))];rfl
     rw [e2] at hb
     have:=s.wf.t b hb;omega
 · show g<h.next+1
   have hg:T.get g fm≠none:=hg
   by_cases e:g=f
   · omega
   · rw [hfm g e] at hg;have:=s.wf.f g hg;omega
 · rcases hb with hb|rfl
   · rw [hz b (Me s hb)];exact s.z b hb
   · rw [show T.get h.next ((h.fm fm).add ob).t=some ob from iT (h.fm fm) ob];simp
 · rw [fJ,hyo] at hb
   refine ⟨?_,(s.oz b (by rw [ho];exact hb)).2⟩
   rintro (hzb|rfl)
   · exact (s.oz b (by rw [ho];exact hb)).1 hzb
   · exact Nat.lt_irrefl _ (o7 s (by rw [ho];exact hb))
 · rw [fJ,hyo];have:=s.nb;rw [ho] at this;exact this
 · rw [gD,hyf]
   have:(aO fs).Nodup:=by
    have:=s.nf;rw [gD] at this
    exact (List.nodup_append.1 this).2.1
   exact List.nodup_cons.2 ⟨hfx,this⟩
 · rw [fJ,hyo] at hb
   rw [gD,hyf] at hf2
   rcases List.mem_append.1 hf2 with hf2|hf2
   · obtain rfl:b=f:=by simpa using hf2
     exact hfo hb
   · exact s.nd b (by rw [ho];exact hb) (by rw [gD];exact List.mem_append_right _ hf2)
 · rcases List.mem_cons.1 hw with rfl|hw
   · exact hy _ (Or.inr rfl)
   · refine Fact.stay (s.all w (by simp [hw])) (fun b hb=>⟨Or.inl hb,hz b (Me s hb)⟩) (fun b hb=>hz b (o7 s ?_)) (fun b hb=>hfm b fun e=> ?_) fun g hg=>hfm g fun e=> ?_
     · rw [ho];exact tJ hw hb
     · subst e;exact hfo (tJ hw hb)
     · subst e;exact hfx (Oq hw hg)
theorem Gl {r:Nat}:∀{l:List (List V)},(∀row∈l,row.length=r)→l.flatten.length=l.length * r
 |[],_=>by simp
 |a::l,h=>by
  rw [List.flatten_cons,List.length_append,h a (by simp),Gl (fun row hm=>h row (by simp [hm])),List.length_cons,Nat.add_mul];omega
theorem mX {r:Nat}:∀{l:List (List V)} (i:Nat) {row:List V},(∀row∈l,row.length=r)→l[i]? =some row→(l.flatten.drop (i * r)).take r=row
 |[],i,row,_,h=>by simp at h
 |a::l,0,row,hl,h=>by
  simp at h;subst h
  rw [Nat.zero_mul,List.drop_zero,List.flatten_cons,←hl a (by simp),List.take_left']
  rfl
 |a::l,i+1,row,hl,h=>by
  have h:l[i]? =some row:=by simpa using h
  rw [List.flatten_cons,show (i+1) * r=a.length+i * r by rw [hl a (by simp),Nat.add_mul];omega,←List.drop_drop,List.drop_left' rfl]
  exact mX i (fun row hm=>hl row (by simp [hm])) h
theorem St.appendA {fs:List Fact} {h:Heap} {f r bytes:Nat} {v:V} {rows new:List (List V)} (s:St (.acc f r v rows::fs) h) (hr:0<r) (hl:∀row∈new,row.length=r) (hfit:(rows.length+new.length) * bytes≤1099511627776):
  ∃f' v' h',bY h r bytes v new.flatten new.length= .ok v' h'∧St (.acc f' r v' (rows++new)::fs) h':=by
 have a:=s.dS 0 rfl
 have w:=s.wf
 by_cases hm0:new.length=0
 · obtain rfl:new=[]:=by simpa using hm0
   refine ⟨f,v,h, ?_,by rw [List.append_nil];exact s⟩
   cases a with
   |nil=>rfl
   |row a=>rfl
 have hb0:Nat.beq new.length 0=false:=by
  cases e:Nat.beq new.length 0 with
  |false=>rfl
  |true=>exact absurd (Nat.eq_of_beq_eq_true e) hm0
 have hfn:T.get h.next h.aO=none:=by
  cases e:T.get h.next h.aO with
  |none=>rfl
  |some F=>have:=w.f h.next (by rw [e];simp);omega
 cases a with
 |nil=>
  have hok:dI (.cells r h.next 0 (new.length * r) (aS r new.length 0 new.flatten T.e))=true:=by show Nat.blt 0 r=true;rw [jJ];simpa using hr
  refine ⟨h.next, .sl h.next 0 new.length none,(h.fm h.aO).add (.cells r h.next 0 (new.length * r) (aS r new.length 0 new.flatten T.e)), ?_, ?_⟩
  · unfold bY
    have h1:(Nat.mul new.length bytes).ble 1099511627776=true:=by
     rw [iM];have:new.length * bytes≤1099511627776:=by simpa using hfit
     simpa using this
    simp only [hb0,cond_false,h1,cond_true,force_eq,bG]
    show (Bool.rec .bad (h.newC (.cells r h.next 0 (Nat.mul new.length r) (aS r new.length 0 new.flatten T.e)) fun h2=> .ok (.sl h.next 0 new.length none) h2) (dI (.cells r h.next 0 (Nat.mul new.length r) (aS r new.length 0 new.flatten T.e))):OR)=_
    rw [show dI (.cells r h.next 0 (Nat.mul new.length r) (aS r new.length 0 new.flatten T.e))=true from hok,jY];rfl
  · refine s.grow rfl (f:=h.next) (fun _ _=>rfl) (Nat.le_refl _) (fun hm=> ?_) (fun hm=> ?_) rfl rfl fun Z hZ=>⟨?_,fun b o n c e=> ?_⟩
    · obtain ⟨Z,s⟩:=s
      exact Nat.lt_irrefl _ (Kz s (by rw [gD];exact List.mem_append_right _ hm))
    · obtain ⟨Z,s⟩:=s
      exact Nat.lt_irrefl _ (o7 s (by rw [fJ];exact hm))
    · have:=tH.row (f:=h.next) (r:=r) (h:=(h.fm h.aO).add (.cells r h.next 0 (new.length * r) (aS r new.length 0 new.flatten T.e))) (b:=h.next) (rows:=new)
       ⟨w.lim,by omega,Nat.le_refl _,⟨0,_,iT (h.fm h.aO) _,fun i row hi=> ?_,fun F hF=> ?_⟩,hl⟩
      · rw [List.nil_append];exact this
      · rw [fP r _ 0 _ T.e i (by omega) (by omega),if_pos ⟨by omega,by have:=(List.getElem?_eq_some_iff.1 hi).1;omega⟩,Nat.sub_zero,mX i hl hi]
      · have hF:T.get h.next h.aO=some F:=hF
        rw [hfn] at hF;cases hF
    · cases e;exact hZ
 |row a=>
  rename_i b
  obtain ⟨ap,t,hob,hrow,hfam⟩:=a.ob
  have hn:=a.pos
  have hlen:=a.len
  have hbn:b<h.next:=w.t b (by rw [hob];simp)
  have hflt:f<h.next:=Nat.lt_of_le_of_lt a.fb hbn
  have hfx:f∉Go.Eng.aO fs:=by
   obtain ⟨Z,s⟩:=s
   have:=s.nf
   rw [gD] at this
   exact (List.nodup_cons.1 this).1
  have hfo:f∉owns fs:=by
   obtain ⟨Z,s⟩:=s
   exact fun hm=>s.nd f hm (by rw [gD];exact List.mem_append_left _ (by simp [Fact.fam]))
  have hbn2:(rows++new).length=rows.length+new.length:=by simp
  have fin:∀l,St (.acc f r (.sl h.next 0 (rows.length+new.length) none) (rows++new)::fs) ((h.fm (T.set f ⟨ap+rows.length * r+new.length * r,l⟩ h.aO)).add (.cells r f ap ((rows.length+new.length) * r) (aS r new.length rows.length new.flatten t))):=by
   intro l
   refine s.grow rfl (f:=f) (fun g hg=>by rw [T.bQ (Nat.zero_le _) (Nat.zero_le _),if_neg hg]) (by omega) hfx hfo rfl rfl fun Z hZ=>⟨?_,fun b o n c e=>by cases e;exact hZ⟩
   have:=tH.row (f:=f) (r:=r) (h:=(h.fm (T.set f ⟨ap+rows.length * r+new.length * r,l⟩ h.aO)).add (.cells r f ap ((rows.length+new.length) * r) (aS r new.length rows.length new.flatten t))) (b:=h.next) (rows:=rows++new)
    ⟨w.lim,by omega,by omega,⟨ap,aS r new.length rows.length new.flatten t,by rw [hbn2];exact iT (h.fm _) _,fun i row hi=> ?_,fun F hF=> ?_⟩,fun row hx=> ?_⟩
   · rw [hbn2] at this;exact this
   · rw [fP r _ _ _ t i (by omega) (by omega)]
     have hi1:=(List.getElem?_eq_some_iff.1 hi).1
     rw [hbn2] at hi1
     by_cases hlt:i<rows.length
     · rw [if_neg (by omega)]
       rw [List.getElem?_append_left hlt] at hi
       exact hrow i row hi
     · rw [if_pos ⟨by omega,by omega⟩]
       rw [List.getElem?_append_right (by omega)] at hi
       rw [mX _ hl hi]
   · have hF:T.get f (T.set f (⟨ap+rows.length * r+new.length * r,l⟩:Fam) h.aO)=some F:=hF
     rw [T.get_set_same] at hF;cases hF
     show ap+rows.length * r+new.length * r≤ap+(rows++new).length * r
     rw [hbn2,Nat.add_mul];omega
   · rcases List.mem_append.1 hx with hx|hx
     · exact hlen row hx
     · exact hl row hx
  have run:∃l,bY h r bytes (.sl b 0 rows.length none) new.flatten new.length= .ok (.sl h.next 0 (rows.length+new.length) none) ((h.fm (T.set f ⟨ap+rows.length * r+new.length * r,l⟩ h.aO)).add (.cells r f ap ((rows.length+new.length) * r) (aS r new.length rows.length new.flatten t))):=by
   unfold bY Go.Eng.nH
   have h1:(Nat.mul (Nat.add rows.length new.length) bytes).ble 1099511627776=true:=by rw [iM];simpa using hfit
   have h2:Nat.ble 8 b=true:=Nat.ble_eq_true_of_le a.ge
   simp only [hb0,cond_false,force_eq,h1,h2,Bool.and_self,cond_true]
   show ∃l,(Obj.cells? .bad _ (h.obj b):OR)=_
   rw [show h.obj b=some (.cells r f ap (rows.length * r) t) from hob]
   have c1:(r.beq r&&(Nat.mod 0 r).beq 0)=true:=by
    have:Nat.mod 0 r=0:=Nat.zero_mod r
    rw [this,Nat.beq_refl];rfl
   have hmr:0<new.length * r:=Nat.mul_pos (by omega) hr
   have c2:(Nat.add 0 (Nat.mul (Nat.add rows.length new.length) r)).ble (rows.length * r)=false:=by
    rw [iM]
    have:¬(0+(rows.length+new.length) * r≤rows.length * r):=by rw [Nat.add_mul];omega
    simpa using this
   have c3:(Nat.add 0 (Nat.mul rows.length r)).ble (rows.length * r)=true:=by
    rw [iM]
    simp
   show ∃l,(bif (r.beq r&&(Nat.mod 0 r).beq 0) then _ else _)=_
   rw [c1,cond_true]
   show ∃l,(bif (Nat.add 0 (Nat.mul (Nat.add rows.length new.length) r)).ble (rows.length * r) then _ else _)=_
   rw [c2,cond_false]
   show ∃l,(bif (Nat.add 0 (Nat.mul rows.length r)).ble (rows.length * r) then _ else _)=_
   rw [c3,cond_true]
   have hs:dI (.cells r f ap (Nat.mul (Nat.add rows.length new.length) r) (aS r new.length rows.length new.flatten t))=true:=by show Nat.blt 0 r=true;rw [jJ];simpa using hr
   have last:∀h3:Heap,(bif Nat.beq 0 0 then setRows r new.length rows.length new.flatten t fun t=>mk h3 (.cells r f ap (Nat.mul (Nat.add rows.length new.length) r) t) (.sl h.next 0 (Nat.add rows.length new.length) none)
     else Option.rec .bad (fun old=>force (Nat.add ap 0) fun ap=>setRows r (Nat.add rows.length new.length) 0 (dV old new.flatten) T.e fun t=>mk h3 (.cells r f ap (Nat.mul (Nat.add rows.length new.length) r) t) (.sl h.next 0 (Nat.add rows.length new.length) none)) (gU t rows.length (Nat.div 0 r)):OR)=
     .ok (.sl h.next 0 (rows.length+new.length) none) (h3.add (.cells r f ap ((rows.length+new.length) * r) (aS r new.length rows.length new.flatten t))):=by
    intro h3
    rw [show Nat.beq 0 0=true from rfl,cond_true,bG]
    show (Bool.rec .bad (h3.newC (.cells r f ap (Nat.mul (Nat.add rows.length new.length) r) (aS r new.length rows.length new.flatten t)) fun h2=> .ok (.sl h.next 0 (rows.length+new.length) none) h2) (dI (.cells r f ap (Nat.mul (Nat.add rows.length new.length) r) (aS r new.length rows.length new.flatten t))):OR)=_
    rw [hs,jY];rfl
   have htop:(Nat.add (Nat.add ap 0) (Nat.mul (Nat.add rows.length new.length) r))=ap+rows.length * r+new.length * r:=by
    show ap+0+(rows.length+new.length) * r=_
    rw [Nat.add_mul];omega
   unfold grown
   cases hF:T.get f h.aO with
   |none=>
    have c4:(Nat.add (Nat.add ap 0) (Nat.mul rows.length r)).blt (Nat.add ap (rows.length * r))=false:=by
     rw [jJ]
     simp
    refine ⟨[h.next,b], ?_⟩
    show (Bool.rec (iI h f _ [h.next,b] _) _ ((Nat.add (Nat.add ap 0) (Nat.mul rows.length r)).blt (Nat.add ap (rows.length * r))):OR)=_
    rw [c4]
    show iI h f _ [h.next,b] _=_
    rw [ku,htop]
    exact last _
   |some F=>
    have c5:(Fam.last F).ble (Nat.add (Nat.add ap 0) (Nat.mul rows.length r))=true:=by
     rw [iM]
     have:F.last≤ap+0+rows.length * r:=by have:=hfam F hF;omega
     simpa using this
    refine ⟨h.next::F.mem, ?_⟩
    show (Bool.rec _ (iI h f _ (h.next::Fam.mem F) _) ((Fam.last F).ble (Nat.add (Nat.add ap 0) (Nat.mul rows.length r))):OR)=_
    rw [c5]
    show iI h f _ (h.next::Fam.mem F) _=_
    rw [ku,htop]
    exact last _
  obtain ⟨l,hrun⟩:=run
  exact ⟨f,_,_,hrun,fin l⟩
theorem St.append {fs:List Fact} {h:Heap} {f r bytes:Nat} {v:V} {rows new:List (List V)} (s:St fs h) (k:Nat) (hk:fs[k]? =some (.acc f r v rows)) (hr:0<r) (hl:∀row∈new,row.length=r) (hfit:(rows.length+new.length) * bytes≤1099511627776):
  ∃f' v' h',bY h r bytes v new.flatten new.length= .ok v' h'∧St (fs.set k (.acc f' r v' (rows++new))) h':=by
 obtain ⟨f',v',h',e,s'⟩:=(s.pick k hk).appendA hr hl hfit
 exact ⟨f',v',h',e,s'.perm (Br fs k _ _ hk)⟩
theorem St.acc0 {fs:List Fact} {h:Heap} (s:St fs h) (r:Nat):St (.acc 0 r .slN []::fs) h:=by
 obtain ⟨Z,s⟩:=s
 refine ⟨Z,s.wf,s.z,s.oz,s.nb,s.nf,s.nd,fun x hx=> ?_⟩
 rcases List.mem_cons.1 hx with rfl|hx
 · exact ⟨.nil,fun b o n c e=>by cases e⟩
 · exact s.all x hx
theorem tH.rows {f r:Nat} {h:Heap} {v:V} {rows:List (List V)} (hr:0<r) (a:tH f r h v rows):Rows r h v rows:=by
 cases a with
 |nil=>exact .nil
 |row a=>
  obtain ⟨ap,t,hob,hrow,hfam⟩:=a.ob
  exact .row hr hob (Nat.zero_mod r) (fun i row hi=>by rw [Nat.zero_div,Nat.zero_add];exact hrow i row hi) (by omega) a.len
theorem St.shut {fs:List Fact} {h:Heap} {f r:Nat} {v:V} {rows:List (List V)} (s:St (.acc f r v rows::fs) h) (hr:0<r):St (.stb (fun h=>Rows r h v rows)::fs) h:=by
 obtain ⟨Z,s⟩:=s
 refine ⟨Z,s.wf,s.z,s.oz,s.nb, ?_,fun b hb hf=>s.nd b hb (by rw [gD];exact List.mem_append_right _ hf),fun x hx=> ?_⟩
 · have:=s.nf;rw [gD] at this
   exact (List.nodup_append.1 this).2.1
 · rcases List.mem_cons.1 hx with rfl|hx
   · intro h' hz
     obtain ⟨a,hzb⟩:=s.all (.acc f r v rows) (by simp)
     have ar:=a.rows hr
     cases a with
     |nil=>exact .nil
     |row a=>
      obtain ⟨ap,t,hob,hrow,hfam⟩:=a.ob
      refine .row (f:=f) (ap:=ap) hr ?_ (Nat.zero_mod r) (fun i row hi=>by rw [Nat.zero_div,Nat.zero_add];exact hrow i row hi) (Nat.le_of_eq (by rw [Nat.zero_add])) a.len
      rw [hz _ (hzb _ _ _ _ rfl)];exact hob
   · exact s.all x (by simp [hx])
theorem St.accRows {fs:List Fact} {h:Heap} (s:St fs h) (k:Nat) {f r:Nat} {v:V} {rows:List (List V)} (hk:fs[k]? =some (.acc f r v rows)) (hr:0<r):Rows r h v rows:=(s.dS k hk).rows hr
end
end Go.Eng
namespace Go.Eng
noncomputable section
theorem St.frozen {fs:List Fact} {h:Heap} (s:St fs h) (ob:Obj) {P:Heap→Prop} (hP:∀h',T.get h.next h'.t=some ob→P h'):St (.stb P::fs) (h.add ob):=by
 obtain ⟨Z,s⟩:=s
 have hz:∀b,b<h.next→T.get b (h.add ob).t=T.get b h.t:=fun b hb=>iU hb
 refine ⟨fun b=>Z b∨b=h.next,(Fr.add h ob).wf s.wf,fun b hb=> ?_,fun b hb=> ?_,s.nb,s.nf,s.nd,fun w hw=> ?_⟩
 · rcases hb with hb|rfl
   · rw [hz b (Me s hb)];exact s.z b hb
   · rw [iT];simp
 · refine ⟨?_,(s.oz b hb).2⟩
   rintro (hzb|rfl)
   · exact (s.oz b hb).1 hzb
   · exact Nat.lt_irrefl _ (o7 s hb)
 · rcases List.mem_cons.1 hw with rfl|hw
   · intro h' hh
     exact hP h' ((hh _ (Or.inr rfl)).trans (iT ..))
   · exact Fact.stay (s.all w hw) (fun b hb=>⟨Or.inl hb,hz b (Me s hb)⟩) (fun b hb=>hz b (o7 s (tJ hw hb))) (fun _ _=>rfl) fun _ _=>rfl
theorem Bt {r:Nat} {t:T (List V)}:∀(rows:List (List V)) (i:Nat),(∀k row,rows[k]? =some row→T.get (i+k) t=some row)→gU t rows.length i=some rows.flatten
 |[],i,h=>rfl
 |a::l,i,h=>by
  show (Option.rec none (fun row=>Option.rec none (fun l=>some (dV row l)) (gU t l.length (Nat.succ i))) (T.get i t):Option (List V))=_
  have h0:=h 0 a rfl
  rw [Nat.add_zero] at h0
  rw [h0]
  have ih:=Bt (r:=r) (t:=t) l (i+1) fun k row hk=>by
   have:=h (k+1) row (by simpa using hk)
   rw [←this];congr 1;omega
  show (Option.rec none (fun l=>some (dV a l)) (gU t l.length (Nat.succ i)):Option (List V))=_
  rw [show Nat.succ i=i+1 from rfl,ih]
  show some (dV a l.flatten)=_
  rw [kR];rfl
theorem Rows.loadAll {r b o n:Nat} {cap:Option Nat} {h:Heap} {rows:List (List V)} (a:Rows r h (.sl b o n cap) rows):h.load b o (Nat.mul n r)=some rows.flatten:=by
 cases a with
 |row hr hob ho hrow hsz hlen=>
  rename_i f ap sz t
  by_cases h0:rows.length=0
  · obtain rfl:rows=[]:=by simpa using h0
    unfold Heap.load
    have:(Nat.mul ([]:List (List V)).length r).beq 0=true:=by
     show (Nat.mul 0 r).beq 0=true
     rw [show Nat.mul 0 r=0 from Nat.zero_mul r];rfl
    rw [this];rfl
  · unfold Heap.load
    have hpos:0<rows.length * r:=Nat.mul_pos (by omega) hr
    have e0:(Nat.mul rows.length r).beq 0=false:=by
     cases hb:(Nat.mul rows.length r).beq 0 with
     |false=>rfl
     |true=>have:rows.length * r=0:=Nat.eq_of_beq_eq_true hb;omega
    rw [e0,cond_false,show h.obj b=_ from hob]
    show (bif (Nat.add o (Nat.mul rows.length r)).ble sz then cut r o (Nat.mul rows.length r) t else none)=_
    have e1:(Nat.add o (Nat.mul rows.length r)).ble sz=true:=by rw [iM];simpa using hsz
    rw [e1,cond_true]
    unfold cut
    have m0:(o.mod r).beq 0=true:=by rw [show o.mod r=0 from ho];rfl
    have d0:o.div r=o / r:=rfl
    by_cases h1:rows.length=1
    · have e2:((Nat.mul rows.length r).beq r&&(o.mod r).beq 0)=true:=by
       rw [m0,Bool.and_true,h1,show Nat.mul 1 r=r from Nat.one_mul r,Nat.beq_refl]
      rw [e2,cond_true]
      obtain ⟨x,rfl⟩:∃x,rows=[x]:=List.length_eq_one_iff.1 h1
      have:=hrow 0 x rfl
      rw [Nat.add_zero] at this
      rw [d0,this];simp
    · have hr2:r<rows.length * r:=by
       have:2 * r≤rows.length * r:=Nat.mul_le_mul_right r (by omega)
       omega
      have e2:((Nat.mul rows.length r).beq r&&(o.mod r).beq 0)=false:=by
       have:(Nat.mul rows.length r).beq r=false:=by
        cases hb:(Nat.mul rows.length r).beq r with
        |false=>rfl
        |true=>have:rows.length * r=r:=Nat.eq_of_beq_eq_true hb;omega
       rw [this];rfl
      rw [e2,cond_false]
      have e3:(Nat.add (o.mod r) (Nat.mul rows.length r)).ble r=false:=by
       rw [iM,show o.mod r=0 from ho]
       have:¬(0+rows.length * r≤r):=by omega
       simpa using this
      rw [e3,cond_false]
      have e4:((o.mod r).beq 0&&((Nat.mul rows.length r).mod r).beq 0)=true:=by
       rw [m0,show (Nat.mul rows.length r).mod r=0 from Nat.mul_mod_left _ _];rfl
      rw [e4,cond_true]
      have:(Nat.mul rows.length r).div r=rows.length:=Nat.mul_div_cancel _ hr
      rw [this,d0]
      exact Bt (r:=r) rows _ hrow
section
variable {c:Ctx} {Q:QT} {env:Env} {h:Heap} {fs:List Fact} {l:List Opr} {vs:List V} {i j:D8}
theorem WO.boxF {o:OpL} {row:List V} (st:St fs h) (hl:light o (fun a=>a.ev vs env) h= .new (.box row) (.ptr h.next 0)) (K:∀b h1,St (.box b row::fs) h1→WO c l Q (.ptr b 0::vs) env h1):WO c (.p (.L o)::l) Q vs env h:=
 WO.new hl rfl (K _ _ (st.box row))
theorem WO.dQ {o:OpL} {row:List V} (st:St fs h) (hl:light o (fun a=>a.ev vs env) h= .new (.box row) (.ptr h.next 0)) (K:∀b h1,St (.box b row::fs) h1→WO c l Q (.ptr b 0::vs) (Env.set i j (.ptr b 0) env) h1):WO c (.s i j (.L o)::l) Q vs env h:=
 WO.newS hl rfl (K _ _ (st.box row))
theorem L.mY {ev:Ev} {h:Heap}:light .mY ev h= .new (.map [] 0) (.map h.next):=by
 show force h.next (fun b=>LR.new (.map [] 0) (.map b))=_
 rw [force_eq]
theorem WO.mapF (st:St fs h) (K:∀b h1,St (.map b [] 0::fs) h1→WO c l Q (.map b::vs) env h1):WO c (.p (.L .mY)::l) Q vs env h:=
 WO.new L.mY rfl (K _ _ st.map)
theorem WO.mapFS (st:St fs h) (K:∀b h1,St (.map b [] 0::fs) h1→WO c l Q (.map b::vs) (Env.set i j (.map b) env) h1):WO c (.s i j (.L .mY)::l) Q vs env h:=
 WO.newS L.mY rfl (K _ _ st.map)
theorem L.bsl {ev:Ev} {h:Heap} {r n:Nat} {zero:List V} {ps:List (Nat×Nat×A)} {l:List V} (hf:fill ps ev (rep n zero)=some l):
  light (.bsl r n zero ps) ev h= .new (.cells r h.next 0 (Nat.mul n r) (aS r n 0 l T.e)) (.sl h.next 0 n (some n)):=by
 show force h.next (fun b=>(Option.rec .bad (fun l=>setRows r n 0 l T.e fun t=> .new (.cells r b 0 (Nat.mul n r) t) (.sl b 0 n (some n))) (fill ps ev (rep n zero)):LR))=_
 rw [force_eq,hf]
 show setRows r n 0 l T.e (fun t=>LR.new (.cells r h.next 0 (Nat.mul n r) t) (.sl h.next 0 n (some n)))=_
 rw [bG]
theorem Bu {r n b:Nat} {rows:List (List V)} {cap:Option Nat} {h':Heap} (hr:0<r) (hn:rows.length=n) (hl:∀row∈rows,row.length=r) (hg:T.get b h'.t=some (.cells r b 0 (Nat.mul n r) (aS r n 0 rows.flatten T.e))):Rows r h' (.sl b 0 n cap) rows:=by
 subst hn
 refine .row hr hg (Nat.zero_mod r) (fun i row hi=> ?_) (by rw [Nat.zero_add];exact Nat.le_refl _) hl
 rw [Nat.zero_div,Nat.zero_add,fP r _ 0 _ T.e i (by omega) (by omega),if_pos ⟨by omega,by have:=(List.getElem?_eq_some_iff.1 hi).1;omega⟩,Nat.sub_zero,mX i hl hi]
theorem yF {r f a n:Nat} {t:T (List V)} (hr:0<r):dI (.cells r f a n t)=true:=by show Nat.blt 0 r=true;rw [jJ];simpa using hr
theorem WO.oO {r n:Nat} {zero:List V} {ps:List (Nat×Nat×A)} {rows:List (List V)} (st:St fs h) (hf:fill ps (fun a=>a.ev vs env) (rep n zero)=some rows.flatten) (hr:0<r) (hn:rows.length=n) (hl:∀row∈rows,row.length=r)
  (K:∀b h1,St (.stb (fun h=>Rows r h (.sl b 0 n (some n)) rows)::fs) h1→WO c l Q (.sl b 0 n (some n)::vs) env h1):WO c (.p (.L (.bsl r n zero ps))::l) Q vs env h:=
 WO.new (L.bsl hf) (yF hr) (K _ _ (st.frozen _ fun h' hg=>Bu hr hn hl hg))
theorem WO.bslFS {r n:Nat} {zero:List V} {ps:List (Nat×Nat×A)} {rows:List (List V)} (st:St fs h) (hf:fill ps (fun a=>a.ev vs env) (rep n zero)=some rows.flatten) (hr:0<r) (hn:rows.length=n) (hl:∀row∈rows,row.length=r)
  (K:∀b h1,St (.stb (fun h=>Rows r h (.sl b 0 n (some n)) rows)::fs) h1→WO c l Q (.sl b 0 n (some n)::vs) (Env.set i j (.sl b 0 n (some n)) env) h1):WO c (.s i j (.L (.bsl r n zero ps))::l) Q vs env h:=
 WO.newS (L.bsl hf) (yF hr) (K _ _ (st.frozen _ fun h' hg=>Bu hr hn hl hg))
theorem WO.aH {n b o:Nat} {x y:A} {cs row row':List V} (st:St fs h) (k:Nat) (hk:fs[k]? =some (.box b row)) (hx:x.ev vs env= .ptr b o) (hy:(y.ev vs env).bW=some cs) (hn:eO cs=n) (h0:n.beq 0=false) (ho:(Nat.add o n).ble (eO row)=true) (hr:kF o cs row=row')
  (K:∀h1,St (fs.set k (.box b row')) h1→WO c l Q (un::vs) env h1):WO c (.p (.H (.store n x y))::l) Q vs env h:=
 WO.act (fun _=>L.Om hx hy hn h0 (st.Oo k hk) (st.aj k hk) ho hr) (K _ (st.Jl k row' hk))
theorem L.append {call:dN} {ev:Ev} {s x:A} {r bytes:Nat} {v xv:V} {new:List (List V)} {out:OR} (hs:ev s=v) (hx:ev x=xv) (hn:Rows r h xv new) (ho:bY h r bytes v new.flatten new.length=out):heavy (.append r bytes s x) call ev h=out:=by
 subst ho hs hx
 show (match ev x with
  | .slN=>bY h r bytes (ev s) [] 0
  | .sl b o m _=>(Option.rec .bad (fun new=>bY h r bytes (ev s) new m) (h.load b o (Nat.mul m r)):OR)
  | .str m a=>bif r.beq 1 then bY h r bytes (ev s) (strCells (dU m a)) m else .bad
  |_=> .bad)=_
 generalize hv:ev x=xv at hn
 cases hn with
 |nil=>rfl
 |row hr hob ho hrow hsz hlen=>
  have:=(Rows.row (cap:=none) hr hob ho hrow hsz hlen).loadAll
  simp only [this]
theorem WO.Bv {r bytes f:Nat} {s x:A} {v xv:V} {rows new:List (List V)} (st:St fs h) (k:Nat) (hk:fs[k]? =some (.acc f r v rows)) (hs:s.ev vs env=v) (hx:x.ev vs env=xv) (hn:Rows r h xv new) (hr:0<r) (hfit:(rows.length+new.length) * bytes≤1099511627776)
  (K:∀f' v' h1,St (fs.set k (.acc f' r v' (rows++new))) h1→WO c l Q (v'::vs) env h1):WO c (.p (.H (.append r bytes s x))::l) Q vs env h:=by
 have hl:∀row∈new,row.length=r:=by
  cases hn with
  |nil=>intro row hm;simp at hm
  |row _ _ _ _ _ hlen=>exact hlen
 obtain ⟨f',v',h',e,s'⟩:=st.append k hk hr hl hfit
 exact WO.act (fun _=>L.append (ev:=fun a=>a.ev vs env) hs hx hn e) (K _ _ _ s')
theorem WO.zF {r bytes f:Nat} {s x:A} {v xv:V} {rows new:List (List V)} (st:St fs h) (k:Nat) (hk:fs[k]? =some (.acc f r v rows)) (hs:s.ev vs env=v) (hx:x.ev vs env=xv) (hn:Rows r h xv new) (hr:0<r) (hfit:(rows.length+new.length) * bytes≤1099511627776)
  (K:∀f' v' h1,St (fs.set k (.acc f' r v' (rows++new))) h1→WO c l Q (v'::vs) (Env.set i j v' env) h1):WO c (.s i j (.H (.append r bytes s x))::l) Q vs env h:=by
 have hl:∀row∈new,row.length=r:=by
  cases hn with
  |nil=>intro row hm;simp at hm
  |row _ _ _ _ _ hlen=>exact hlen
 obtain ⟨f',v',h',e,s'⟩:=st.append k hk hr hl hfit
 exact WO.actS (fun _=>L.append (ev:=fun a=>a.ev vs env) hs hx hn e) (K _ _ _ s')
theorem WO.bR {f:Nat} {as:List A} {as':List V} {P:V→Heap→Prop} (ha:evs as (fun a=>a.ev vs env)=as') (hr:∃v h1,Runs c f as' h (.ok v h1)∧P v h1) (K:∀v h1,P v h1→WO c l Q (v::vs) env h1):WO c (.p (.H (.call f as))::l) Q vs env h:=by
 obtain ⟨v,h1,hr,hp⟩:=hr
 exact WO.call (by rw [ha];exact hr) (K v h1 hp)
theorem WO.eG {f:Nat} {as:List A} {as':List V} {P:V→Heap→Prop} (ha:evs as (fun a=>a.ev vs env)=as') (hr:∃v h1,Runs c f as' h (.ok v h1)∧P v h1) (K:∀v h1,P v h1→WO c l Q (v::vs) (Env.set i j v env) h1):WO c (.s i j (.H (.call f as))::l) Q vs env h:=by
 obtain ⟨v,h1,hr,hp⟩:=hr
 exact WO.Kw (by rw [ha];exact hr) (K v h1 hp)
theorem WO.iH {x:A} {as:List A} {f:Nat} {a b:List V} {v:V} {h2:Heap} (hx:x.ev vs env= .fn f a b) (hl:Runs c f (dV a (dV (evs as fun a=>a.ev vs env) b)) h (.ok v h2)) (w:WO c l Q (v::vs) env h2):WO c (.p (.H (.iH x as))::l) Q vs env h:=by
 obtain ⟨x1,e1,h1,⟨N,ev⟩,q⟩:=w
 obtain ⟨N2,hl⟩:=hl
 refine ⟨x1,e1,h1,⟨max N N2,fun m hm R hR=> ?_⟩,q⟩
 show ((Option.rec .bad (fun x=>ofC h (aR c R m x.1 (dV x.2.1 (dV (evs as fun a=>a.ev vs env) x.2.2)) .none h).1) (x.ev vs env).Ao:OR).k env fun v h=>eu l (aR c R m) (v::vs) env h)=_
 rw [hx]
 show ((ofC h (aR c R m f (dV a (dV (evs as fun a=>a.ev vs env) b)) .none h).1).k env fun v h=>eu l (aR c R m) (v::vs) env h)=_
 rw [lW,hl m (by omega) R (by omega)]
 show v.force (fun v=>eu l (aR c R m) (v::vs) env h2)=_
 rw [V.force_eq];exact ev m (by omega) R (by omega)
theorem WO.Ot {x:A} {as:List A} {f:Nat} {a b:List V} {v:V} {h2:Heap} (hx:x.ev vs env= .fn f a b) (hl:Runs c f (dV a (dV (evs as fun a=>a.ev vs env) b)) h (.ok v h2)) (w:WO c l Q (v::vs) (Env.set i j v env) h2):WO c (.s i j (.H (.iH x as))::l) Q vs env h:=by
 obtain ⟨x1,e1,h1,⟨N,ev⟩,q⟩:=w
 obtain ⟨N2,hl⟩:=hl
 refine ⟨x1,e1,h1,⟨max N N2,fun m hm R hR=> ?_⟩,q⟩
 show ((Option.rec .bad (fun x=>ofC h (aR c R m x.1 (dV x.2.1 (dV (evs as fun a=>a.ev vs env) x.2.2)) .none h).1) (x.ev vs env).Ao:OR).k env fun v h=>Env.dD i j v (fun env=>eu l (aR c R m) (v::vs) env h) env)=_
 rw [hx]
 show ((ofC h (aR c R m f (dV a (dV (evs as fun a=>a.ev vs env) b)) .none h).1).k env fun v h=>Env.dD i j v (fun env=>eu l (aR c R m) (v::vs) env h) env)=_
 rw [lW,hl m (by omega) R (by omega)]
 show v.force (fun v=>Env.dD i j v (fun env=>eu l (aR c R m) (v::vs) env h2) env)=_
 rw [V.force_eq,Env.dM];exact ev m (by omega) R (by omega)
theorem WO.Ou {x:A} {as:List A} {f:Nat} {a b as':List V} {P:V→Heap→Prop} (hx:x.ev vs env= .fn f a b) (ha:dV a (dV (evs as (fun a=>a.ev vs env)) b)=as') (hr:∃v h1,Runs c f as' h (.ok v h1)∧P v h1) (K:∀v h1,P v h1→WO c l Q (v::vs) env h1):WO c (.p (.H (.iH x as))::l) Q vs env h:=by
 obtain ⟨v,h1,hr,hp⟩:=hr
 exact WO.iH hx (by rw [ha];exact hr) (K v h1 hp)
theorem WO.KA {x:A} {as:List A} {f:Nat} {a b as':List V} {P:V→Heap→Prop} (hx:x.ev vs env= .fn f a b) (ha:dV a (dV (evs as (fun a=>a.ev vs env)) b)=as') (hr:∃v h1,Runs c f as' h (.ok v h1)∧P v h1) (K:∀v h1,P v h1→WO c l Q (v::vs) (Env.set i j v env) h1):WO c (.s i j (.H (.iH x as))::l) Q vs env h:=by
 obtain ⟨v,h1,hr,hp⟩:=hr
 exact WO.Ot hx (by rw [ha];exact hr) (K v h1 hp)
theorem WO.Ac {f:Nat} {as:List A} {as':List V} {v:V} {h2:Heap} (ha:evs as (fun a=>a.ev vs env)=as') (hl:Runs c f as' h (.pan v h2)) (q:Q (.pan v) env h2):WO c (.p (.H (.call f as))::l) Q vs env h:=by
 obtain ⟨N2,hl⟩:=hl
 refine ⟨.pan v,env,h2,⟨N2,fun m hm R hR=> ?_⟩,q⟩
 show ((ofC h (aR c R m f (evs as fun a=>a.ev vs env) .none h).1).k env fun v h=>eu l (aR c R m) (v::vs) env h)=_
 rw [ha,lW,hl m hm R hR];rfl
theorem WO.Gm {f:Nat} {as:List A} {as':List V} {v:V} {h2:Heap} (ha:evs as (fun a=>a.ev vs env)=as') (hl:Runs c f as' h (.pan v h2)) (q:Q (.pan v) env h2):WO c (.s i j (.H (.call f as))::l) Q vs env h:=by
 obtain ⟨N2,hl⟩:=hl
 refine ⟨.pan v,env,h2,⟨N2,fun m hm R hR=> ?_⟩,q⟩
 show ((ofC h (aR c R m f (evs as fun a=>a.ev vs env) .none h).1).k env fun v h=>Env.dD i j v (fun env=>eu l (aR c R m) (v::vs) env h) env)=_
 rw [ha,lW,hl m hm R hR];rfl
theorem WO.Ov {x:A} {f:Nat} {as:List A} {a b as':List V} {v:V} {h2:Heap} (hx:x.ev vs env= .fn f a b) (ha:dV a (dV (evs as (fun a=>a.ev vs env)) b)=as') (hl:Runs c f as' h (.pan v h2)) (q:Q (.pan v) env h2):WO c (.p (.H (.iH x as))::l) Q vs env h:=by
 obtain ⟨N2,hl⟩:=hl
 refine ⟨.pan v,env,h2,⟨N2,fun m hm R hR=> ?_⟩,q⟩
 show ((Option.rec .bad (fun x=>ofC h (aR c R m x.1 (dV x.2.1 (dV (evs as fun a=>a.ev vs env) x.2.2)) .none h).1) (x.ev vs env).Ao:OR).k env fun v h=>eu l (aR c R m) (v::vs) env h)=_
 rw [hx]
 show ((ofC h (aR c R m f (dV a (dV (evs as fun a=>a.ev vs env) b)) .none h).1).k env fun v h=>eu l (aR c R m) (v::vs) env h)=_
 rw [ha,lW,hl m hm R hR];rfl
theorem WO.Mf {x:A} {f:Nat} {as:List A} {a b as':List V} {v:V} {h2:Heap} (hx:x.ev vs env= .fn f a b) (ha:dV a (dV (evs as (fun a=>a.ev vs env)) b)=as') (hl:Runs c f as' h (.pan v h2)) (q:Q (.pan v) env h2):WO c (.s i j (.H (.iH x as))::l) Q vs env h:=by
 obtain ⟨N2,hl⟩:=hl
 refine ⟨.pan v,env,h2,⟨N2,fun m hm R hR=> ?_⟩,q⟩
 show ((Option.rec .bad (fun x=>ofC h (aR c R m x.1 (dV x.2.1 (dV (evs as fun a=>a.ev vs env) x.2.2)) .none h).1) (x.ev vs env).Ao:OR).k env fun v h=>Env.dD i j v (fun env=>eu l (aR c R m) (v::vs) env h) env)=_
 rw [hx]
 show ((ofC h (aR c R m f (dV a (dV (evs as fun a=>a.ev vs env) b)) .none h).1).k env fun v h=>Env.dD i j v (fun env=>eu l (aR c R m) (v::vs) env h) env)=_
 rw [ha,lW,hl m hm R hR];rfl
theorem WO.pan {x:A} {t:Nat} {v:V} (hx:x.ev vs env= .ifc t v) (q:Q (.pan (.ifc t v)) env h):WO c (.p (.H (.panic x))::l) Q vs env h:=by
 refine ⟨.pan (.ifc t v),env,h,⟨0,fun m hm R hR=> ?_⟩,q⟩
 show ((match x.ev vs env with| .ifc t v=>OR.pan (.ifc t v) h|_=> .bad).k env fun v h=>eu l (aR c R m) (v::vs) env h)=_
 rw [hx];rfl
theorem WO.ifV {o:OpL} {p:Prop} [Decidable p] (hl:light o (fun a=>a.ev vs env) h= .val (.bool (decide p))) (ht:p→WO c l Q (.bool true::vs) env h) (hf:¬p→WO c l Q (.bool false::vs) env h):WO c (.p (.L o)::l) Q vs env h:=by
 by_cases hp:p
 · exact WO.val (hl.trans (by rw [decide_eq_true hp])) (ht hp)
 · exact WO.val (hl.trans (by rw [decide_eq_false hp])) (hf hp)
theorem WO.ifS {o:OpL} {p:Prop} [Decidable p] (hl:light o (fun a=>a.ev vs env) h= .val (.bool (decide p))) (ht:p→WO c l Q (.bool true::vs) (Env.set i j (.bool true) env) h) (hf:¬p→WO c l Q (.bool false::vs) (Env.set i j (.bool false) env) h):WO c (.s i j (.L o)::l) Q vs env h:=by
 by_cases hp:p
 · exact WO.aA (hl.trans (by rw [decide_eq_true hp])) (ht hp)
 · exact WO.aA (hl.trans (by rw [decide_eq_false hp])) (hf hp)
theorem WP.seqCut {a b:C} (R:Env→Heap→Prop) (w:WP c a (fun x e h=>match x with| .nrm=>R e h|x=>Q x e h) env h) (k:∀e h,R e h→WP c b Q e h):WP c (.seq a b) Q env h:=
 WP.seq (w.mono fun x e h q=>by cases x<;>first|exact k e h q|exact q)
theorem WP.iW {α:Type} {a:C} (I:α→Env→Heap→Prop) (μ:α→Nat) (g:α) (h0:I g env h) (step:∀g e1 h1,I g e1 h1→WP c a (fun x e2 h2=>match x with| .nrm=>∃g',μ g'<μ g∧I g' e2 h2|x=>Q x e2 h2) e1 h1):WP c (.loop a) Q env h:=by
 have key:∀k g e1 h1,μ g=k→I g e1 h1→∃x e2 h2,(∃N,∀m,N≤m→∀R,N≤R→∀n,N≤n→rounds (fun env h=>code a (aR c R m) R env h) n e1 h1= .ok x e2 h2)∧Q x e2 h2:=by
  intro k
  induction k using Nat.strongRecOn with
  |_ k ih=>
   intro g e1 h1 hk hI
   obtain ⟨x,e2,h2,⟨N,ev⟩,q⟩:=step g e1 h1 hI
   have one:∀m,N≤m→∀R,N≤R→∀n,rounds (fun env h=>code a (aR c R m) R env h) (n+1) e1 h1=(X.rec (rounds (fun env h=>code a (aR c R m) R env h) n e2 h2) (.ok .ret e2 h2) (fun i=> .ok (.exit i) e2 h2) (fun v=> .ok (.pan v) e2 h2) x:CR):=by
    intro m hm R hR n
    show (CR.rec (fun x env h=>X.rec (rounds (fun env h=>code a (aR c R m) R env h) n env h) (.ok .ret env h) (fun i=> .ok (.exit i) env h) (fun v=> .ok (.pan v) env h) x) .bad (code a (aR c R m) R e1 h1):CR)=_
    rw [ev m hm R hR]
   cases x with
   |nrm=>
    obtain ⟨g',hlt,hI2⟩:=q
    obtain ⟨x3,e3,h3,⟨N3,ev3⟩,q3⟩:=ih (μ g') (hk▸hlt) g' e2 h2 rfl hI2
    refine ⟨x3,e3,h3,⟨max N N3+1,fun m hm R hR n hn=> ?_⟩,q3⟩
    obtain ⟨n',rfl⟩:∃n',n=n'+1:=⟨n - 1,by omega⟩
    rw [one m (by omega) R (by omega)]
    exact ev3 m (by omega) R (by omega) n' (by omega)
   |ret=>
    refine ⟨.ret,e2,h2,⟨N+1,fun m hm R hR n hn=> ?_⟩,q⟩
    obtain ⟨n',rfl⟩:∃n',n=n'+1:=⟨n - 1,by omega⟩
    rw [one m (by omega) R (by omega)]
   |exit i=>
    refine ⟨.exit i,e2,h2,⟨N+1,fun m hm R hR n hn=> ?_⟩,q⟩
    obtain ⟨n',rfl⟩:∃n',n=n'+1:=⟨n - 1,by omega⟩
    rw [one m (by omega) R (by omega)]
   |pan v=>
    refine ⟨.pan v,e2,h2,⟨N+1,fun m hm R hR n hn=> ?_⟩,q⟩
    obtain ⟨n',rfl⟩:∃n',n=n'+1:=⟨n - 1,by omega⟩
    rw [one m (by omega) R (by omega)]
 obtain ⟨x,e2,h2,⟨N,ev⟩,q⟩:=key _ g env h rfl h0
 exact ⟨x,e2,h2,⟨N,fun m hm R hR=>ev m hm R hR R hR⟩,q⟩
end
end
end Go.Eng
namespace Go.Eng
noncomputable section
theorem Obj.Ow (row:List V):Obj.same (.box row) (.box row)=true:=V.lX row
theorem aC {fs:List Fact} {h:Heap} (s:St fs h) (k:Nat) {b:Nat} {row:List V} (hk:fs[k]? =some (.box b row)):still h (.nw b (.box row))=true:=by
 obtain ⟨Z,s⟩:=s
 have:=s.all (.box b row) (List.mem_of_getElem? hk)
 show (match T.get b h.t,T.get b h.aO with
  |some o,none=>Obj.same (.box row) o
  |_,_=>false)=true
 rw [this.1,this.2]
 exact Obj.Ow row
theorem still_map {fs:List Fact} {h:Heap} (s:St fs h) (k:Nat) {b:Nat} {c:Nat} (hk:fs[k]? =some (.map b [] c)):still h (.nw b (.map [] c))=true:=by
 obtain ⟨Z,s⟩:=s
 have:=s.all (.map b [] c) (List.mem_of_getElem? hk)
 show (match T.get b h.t,T.get b h.aO with
  |some o,none=>Obj.same (.map [] c) o
  |_,_=>false)=true
 rw [this.1,this.2]
 exact Nat.beq_refl c
section
variable {c:Ctx} {Q:QT} {env:Env} {h:Heap} {fs:List Fact} {l:List Opd} {vs:List V} {lg:List Log} {uo:List Nat} {i j:D8}
theorem WD.boxF {o:OpL} {row:List V} (st:St fs h) (hl:light o (fun a=>a.ev vs env) h= .new (.box row) (.ptr h.next 0)) (K:∀b h1,St (.box b row::fs) h1→WD c l Q (.ptr b 0::vs) (.nw b (.box row)::lg) env h1):WD c (⟨.p (.L o),uo⟩::l) Q vs lg env h:=
 WD.new hl rfl (K _ _ (st.box row))
theorem WD.dQ {o:OpL} {row:List V} (st:St fs h) (hl:light o (fun a=>a.ev vs env) h= .new (.box row) (.ptr h.next 0)) (K:∀b h1,St (.box b row::fs) h1→WD c l Q (.ptr b 0::vs) (.nw b (.box row)::lg) (Env.set i j (.ptr b 0) env) h1):WD c (⟨.s i j (.L o),uo⟩::l) Q vs lg env h:=
 WD.newS hl rfl (K _ _ (st.box row))
theorem WD.mapF (st:St fs h) (K:∀b h1,St (.map b [] 0::fs) h1→WD c l Q (.map b::vs) (.nw b (.map [] 0)::lg) env h1):WD c (⟨.p (.L .mY),uo⟩::l) Q vs lg env h:=
 WD.new L.mY rfl (K _ _ st.map)
theorem WD.mapFS (st:St fs h) (K:∀b h1,St (.map b [] 0::fs) h1→WD c l Q (.map b::vs) (.nw b (.map [] 0)::lg) (Env.set i j (.map b) env) h1):WD c (⟨.s i j (.L .mY),uo⟩::l) Q vs lg env h:=
 WD.newS L.mY rfl (K _ _ st.map)
theorem WD.oO {r n:Nat} {zero:List V} {ps:List (Nat×Nat×A)} {rows:List (List V)} (st:St fs h) (hf:fill ps (fun a=>a.ev vs env) (rep n zero)=some rows.flatten) (hr:0<r) (hn:rows.length=n) (hl:∀row∈rows,row.length=r)
  (K:∀b h1 lo,St (.stb (fun h=>Rows r h (.sl b 0 n (some n)) rows)::fs) h1→WD c l Q (.sl b 0 n (some n)::vs) (lo::lg) env h1):WD c (⟨.p (.L (.bsl r n zero ps)),uo⟩::l) Q vs lg env h:=
 WD.new (L.bsl hf) (yF hr) (K _ _ _ (st.frozen _ fun h' hg=>Bu hr hn hl hg))
theorem WD.aH {n b o:Nat} {x y:A} {cs row row':List V} (st:St fs h) (k:Nat) (hk:fs[k]? =some (.box b row)) (hx:x.ev vs env= .ptr b o) (hy:(y.ev vs env).bW=some cs) (hn:eO cs=n) (h0:n.beq 0=false) (ho:(Nat.add o n).ble (eO row)=true) (hr:kF o cs row=row')
  (hs:∀h1,St (fs.set k (.box b row')) h1→dX uo h1 lg=true) (K:∀h1,St (fs.set k (.box b row')) h1→WD c l Q (un::vs) (.no::lg) env h1):WD c (⟨.p (.H (.store n x y)),uo⟩::l) Q vs lg env h:=
 WD.act (fun _=>L.Om hx hy hn h0 (st.Oo k hk) (st.aj k hk) ho hr) (hs _ (st.Jl k row' hk)) (K _ (st.Jl k row' hk))
theorem WD.Bv {r bytes f:Nat} {s x:A} {v xv:V} {rows new:List (List V)} (st:St fs h) (k:Nat) (hk:fs[k]? =some (.acc f r v rows)) (hs:s.ev vs env=v) (hx:x.ev vs env=xv) (hn:Rows r h xv new) (hr:0<r) (hfit:(rows.length+new.length) * bytes≤1099511627776)
  (hst:∀f' v' h1,St (fs.set k (.acc f' r v' (rows++new))) h1→dX uo h1 lg=true) (K:∀f' v' h1,St (fs.set k (.acc f' r v' (rows++new))) h1→WD c l Q (v'::vs) (.no::lg) env h1):WD c (⟨.p (.H (.append r bytes s x)),uo⟩::l) Q vs lg env h:=by
 have hl:∀row∈new,row.length=r:=by
  cases hn with
  |nil=>intro row hm;simp at hm
  |row _ _ _ _ _ hlen=>exact hlen
 obtain ⟨f',v',h',e,s'⟩:=st.append k hk hr hl hfit
 exact WD.act (fun _=>L.append (ev:=fun a=>a.ev vs env) hs hx hn e) (hst _ _ _ s') (K _ _ _ s')
theorem WD.zF {r bytes f:Nat} {s x:A} {v xv:V} {rows new:List (List V)} (st:St fs h) (k:Nat) (hk:fs[k]? =some (.acc f r v rows)) (hs:s.ev vs env=v) (hx:x.ev vs env=xv) (hn:Rows r h xv new) (hr:0<r) (hfit:(rows.length+new.length) * bytes≤1099511627776)
  (hst:∀f' v' h1,St (fs.set k (.acc f' r v' (rows++new))) h1→dX uo h1 lg=true) (K:∀f' v' h1,St (fs.set k (.acc f' r v' (rows++new))) h1→WD c l Q (v'::vs) (.no::lg) (Env.set i j v' env) h1):WD c (⟨.s i j (.H (.append r bytes s x)),uo⟩::l) Q vs lg env h:=by
 have hl:∀row∈new,row.length=r:=by
  cases hn with
  |nil=>intro row hm;simp at hm
  |row _ _ _ _ _ hlen=>exact hlen
 obtain ⟨f',v',h',e,s'⟩:=st.append k hk hr hl hfit
 exact WD.actS (fun _=>L.append (ev:=fun a=>a.ev vs env) hs hx hn e) (hst _ _ _ s') (K _ _ _ s')
theorem WD.bR {f:Nat} {as:List A} {as':List V} {P:V→Heap→Prop} (ha:evs as (fun a=>a.ev vs env)=as') (hr:∃v h1,Runs c f as' h (.ok v h1)∧P v h1) (hs:∀v h1,P v h1→dX uo h1 lg=true) (K:∀v h1,P v h1→WD c l Q (v::vs) (.no::lg) env h1):WD c (⟨.p (.H (.call f as)),uo⟩::l) Q vs lg env h:=by
 obtain ⟨v,h1,hr,hp⟩:=hr
 exact WD.call (by rw [ha];exact hr) (hs v h1 hp) (K v h1 hp)
theorem WD.eG {f:Nat} {as:List A} {as':List V} {P:V→Heap→Prop} (ha:evs as (fun a=>a.ev vs env)=as') (hr:∃v h1,Runs c f as' h (.ok v h1)∧P v h1) (hs:∀v h1,P v h1→dX uo h1 lg=true) (K:∀v h1,P v h1→WD c l Q (v::vs) (.no::lg) (Env.set i j v env) h1):WD c (⟨.s i j (.H (.call f as)),uo⟩::l) Q vs lg env h:=by
 obtain ⟨v,h1,hr,hp⟩:=hr
 exact WD.Kw (by rw [ha];exact hr) (hs v h1 hp) (K v h1 hp)
theorem WD.Ac {f:Nat} {as:List A} {as':List V} {v:V} {h2:Heap} (ha:evs as (fun a=>a.ev vs env)=as') (hl:Runs c f as' h (.pan v h2)) (q:Q (.pan v) env h2):WD c (⟨.p (.H (.call f as)),uo⟩::l) Q vs lg env h:=by
 obtain ⟨N2,hl⟩:=hl
 refine ⟨.pan v,env,h2,⟨N2,fun m hm R hR=> ?_⟩,q⟩
 show ((ofC h (aR c R m f (evs as fun a=>a.ev vs env) .none h).1).k env fun v h'=>Bool.rec .bad (fA l (aR c R m) (v::vs) (.no::lg) env h') (dX uo h' lg))=_
 rw [ha,lW,hl m hm R hR];rfl
theorem WD.Gm {f:Nat} {as:List A} {as':List V} {v:V} {h2:Heap} (ha:evs as (fun a=>a.ev vs env)=as') (hl:Runs c f as' h (.pan v h2)) (q:Q (.pan v) env h2):WD c (⟨.s i j (.H (.call f as)),uo⟩::l) Q vs lg env h:=by
 obtain ⟨N2,hl⟩:=hl
 refine ⟨.pan v,env,h2,⟨N2,fun m hm R hR=> ?_⟩,q⟩
 show ((ofC h (aR c R m f (evs as fun a=>a.ev vs env) .none h).1).k env fun v h'=>Bool.rec .bad (Env.dD i j v (fun env=>fA l (aR c R m) (v::vs) (.no::lg) env h') env) (dX uo h' lg))=_
 rw [ha,lW,hl m hm R hR];rfl
theorem WD.pan {x:A} {t:Nat} {v:V} (hx:x.ev vs env= .ifc t v) (q:Q (.pan (.ifc t v)) env h):WD c (⟨.p (.H (.panic x)),uo⟩::l) Q vs lg env h:=by
 refine ⟨.pan (.ifc t v),env,h,⟨0,fun m hm R hR=> ?_⟩,q⟩
 show ((match x.ev vs env with| .ifc t v=>OR.pan (.ifc t v) h|_=> .bad).k env fun v h'=>Bool.rec .bad (fA l (aR c R m) (v::vs) (.no::lg) env h') (dX uo h' lg))=_
 rw [hx];rfl
theorem WD.ifV {o:OpL} {p:Prop} [Decidable p] (hl:light o (fun a=>a.ev vs env) h= .val (.bool (decide p))) (ht:∀lo,p→WD c l Q (.bool true::vs) (lo::lg) env h) (hf:∀lo,¬p→WD c l Q (.bool false::vs) (lo::lg) env h):WD c (⟨.p (.L o),uo⟩::l) Q vs lg env h:=by
 by_cases hp:p
 · exact WD.val (hl.trans (by rw [decide_eq_true hp])) (ht _ hp)
 · exact WD.val (hl.trans (by rw [decide_eq_false hp])) (hf _ hp)
theorem WD.ifS {o:OpL} {p:Prop} [Decidable p] (hl:light o (fun a=>a.ev vs env) h= .val (.bool (decide p))) (ht:∀lo,p→WD c l Q (.bool true::vs) (lo::lg) (Env.set i j (.bool true) env) h) (hf:∀lo,¬p→WD c l Q (.bool false::vs) (lo::lg) (Env.set i j (.bool false) env) h):WD c (⟨.s i j (.L o),uo⟩::l) Q vs lg env h:=by
 by_cases hp:p
 · exact WD.aA (hl.trans (by rw [decide_eq_true hp])) (ht _ hp)
 · exact WD.aA (hl.trans (by rw [decide_eq_false hp])) (hf _ hp)
theorem WD.iH {x:A} {as:List A} {f:Nat} {a b:List V} {v:V} {h2:Heap} (hx:x.ev vs env= .fn f a b) (hl:Runs c f (dV a (dV (evs as fun a=>a.ev vs env) b)) h (.ok v h2)) (hs:dX uo h2 lg=true) (w:WD c l Q (v::vs) (.no::lg) env h2):WD c (⟨.p (.H (.iH x as)),uo⟩::l) Q vs lg env h:=by
 obtain ⟨x1,e1,h1,⟨N,ev⟩,q⟩:=w
 obtain ⟨N2,hl⟩:=hl
 refine ⟨x1,e1,h1,⟨max N N2,fun m hm R hR=> ?_⟩,q⟩
 show ((Option.rec .bad (fun x=>ofC h (aR c R m x.1 (dV x.2.1 (dV (evs as fun a=>a.ev vs env) x.2.2)) .none h).1) (x.ev vs env).Ao:OR).k env fun v h'=>Bool.rec .bad (fA l (aR c R m) (v::vs) (.no::lg) env h') (dX uo h' lg))=_
 rw [hx]
 show ((ofC h (aR c R m f (dV a (dV (evs as fun a=>a.ev vs env) b)) .none h).1).k env fun v h'=>Bool.rec .bad (fA l (aR c R m) (v::vs) (.no::lg) env h') (dX uo h' lg))=_
 rw [lW,hl m (by omega) R (by omega)]
 show v.force (fun v=>(Bool.rec .bad (fA l (aR c R m) (v::vs) (.no::lg) env h2) (dX uo h2 lg):CR))=_
 rw [V.force_eq,hs];exact ev m (by omega) R (by omega)
end
def bZ (c:Ctx) (f:Nat) (as:List V) (h:Heap) (P:V→Heap→Prop):Prop:=∃v h1,Runs c f as h (.ok v h1)∧P v h1
def gG (c:Ctx) (f:Nat) (as:List V) (h:Heap) (P:OR→Prop):Prop:=∃r,Runs c f as h r∧P r
def QF (rs:List Res) (P:V→Heap→Prop):QT:=fun x e h=>match x with
 | .nrm=>∃vs,results e h rs=some vs∧P (one vs) h
 | .ret=>∃vs,results e h rs=some vs∧P (one vs) h
 | .pan _=>False
 | .exit _=>False
def QR (rs:List Res) (P:OR→Prop):QT:=fun x e h=>match x with
 | .nrm=>∃vs,results e h rs=some vs∧P (.ok (one vs) h)
 | .ret=>∃vs,results e h rs=some vs∧P (.ok (one vs) h)
 | .pan v=>P (.pan v h)
 | .exit _=>False
section
variable {c:Ctx} {h:Heap}
theorem bZ.eZ {f:Nat} {F:Fun} {as:List V} {P:V→Heap→Prop} (hF:T.get f c.bJ=some F) (hn:as.length=F.np) (w:WP c F.body (QF F.results P) (dx as 0 Env.nil) h):bZ c f as h P:=by
 obtain ⟨x,e1,h1,ev,q⟩:=w
 cases x with
 |nrm=>
  obtain ⟨vs,hv,hp⟩:=q
  exact ⟨_,_,Runs.eZ hF hn ⟨_,_,_,ev,⟨vs,hv,rfl⟩⟩,hp⟩
 |ret=>
  obtain ⟨vs,hv,hp⟩:=q
  exact ⟨_,_,Runs.eZ hF hn ⟨_,_,_,ev,⟨vs,hv,rfl⟩⟩,hp⟩
 |pan v=>exact q.elim
 |exit i=>exact q.elim
theorem gG.eZ {f:Nat} {F:Fun} {as:List V} {P:OR→Prop} (hF:T.get f c.bJ=some F) (hn:as.length=F.np) (w:WP c F.body (QR F.results P) (dx as 0 Env.nil) h):gG c f as h P:=by
 obtain ⟨x,e1,h1,ev,q⟩:=w
 cases x with
 |nrm=>
  obtain ⟨vs,hv,hp⟩:=q
  exact ⟨_,Runs.eZ hF hn ⟨_,_,_,ev,⟨vs,hv,rfl⟩⟩,hp⟩
 |ret=>
  obtain ⟨vs,hv,hp⟩:=q
  exact ⟨_,Runs.eZ hF hn ⟨_,_,_,ev,⟨vs,hv,rfl⟩⟩,hp⟩
 |pan v=>exact ⟨_,Runs.eZ hF hn ⟨_,_,_,ev,rfl⟩,q⟩
 |exit i=>exact q.elim
theorem bZ.mono {f:Nat} {as:List V} {P P':V→Heap→Prop} (r:bZ c f as h P) (hp:∀v h,P v h→P' v h):bZ c f as h P':=let ⟨v,h1,r,q⟩:=r;⟨v,h1,r,hp _ _ q⟩
end
end
end Go.Eng
namespace Go.Eng
noncomputable section
theorem aG (e:Env) (h:Heap):results e h []=some []:=rfl
theorem av {e:Env} {h:Heap} {r:Res} {rs:List Res} {v:V} {vs:List V} (h1:res1 h e r=some v) (h2:results e h rs=some vs):results e h (r::rs)=some (v::vs):=by
 show (Option.rec none (fun v=>Option.rec none (fun vs=>some (v::vs)) (results e h rs)) (res1 h e r):Option (List V))=_
 rw [h1,h2]
theorem aB {e:Env} {h:Heap} {i j:D8} {v:V} (hv:Env.get i j e=v):res1 h e (.tmp i j)=some v:=by rw [←hv];rfl
theorem dB {e:Env} {h:Heap} {i j:D8} {b o n:Nat} {l:List V} (hx:Env.get i j e= .ptr b o) (hl:h.load b o n=some l):res1 h e (.cell i j (some n))=some (.agg l):=by
 show (match (Env.get i j e).nG with
  |some (b,o)=>(match h.load b o n with|some cs=>some (V.agg cs)|none=>none)
  |none=>none)=_
 rw [hx]
 show (match h.load b o n with|some cs=>some (V.agg cs)|none=>none)=_
 rw [hl]
theorem jO {e:Env} {h:Heap} {i j:D8} {b o:Nat} {v:V} (hx:Env.get i j e= .ptr b o) (hl:h.jG b o=some v):res1 h e (.cell i j none)=some v:=by
 show (match (Env.get i j e).nG with
  |some (b,o)=>h.jG b o
  |none=>none)=_
 rw [hx];exact hl
end
end Go.Eng
namespace Go.Eng
noncomputable section
theorem tH.ne {f r:Nat} {h:Heap} {v:V} {rows:List (List V)} (a:tH f r h v rows) (hn:rows≠[]):∃b,v= .sl b 0 rows.length none:=by
 cases a with
 |nil=>exact absurd rfl hn
 |row a=>exact ⟨_,rfl⟩
theorem tH.len {f r:Nat} {h:Heap} {v:V} {rows:List (List V)} (a:tH f r h v rows):(v= .slN∧rows=[])∨∃b,v= .sl b 0 rows.length none:=by
 cases a with
 |nil=>exact .inl ⟨rfl,rfl⟩
 |row a=>exact .inr ⟨_,rfl⟩
theorem Rows.cells {r:Nat} {h:Heap} {v:V} {rows:List (List V)} (a:Rows r h v rows):v.bW=some [v]:=by cases a<;>rfl
theorem tH.cells {f r:Nat} {h:Heap} {v:V} {rows:List (List V)} (a:tH f r h v rows):v.bW=some [v]:=by cases a<;>rfl
theorem L.Ox {f r:Nat} {ev:Ev} {h:Heap} {x:A} {v:V} {rows:List (List V)} (hx:ev x=v) (a:tH f r h v rows):light (.len false x) ev h= .val (.int .i64 (rows.length:Int)):=by
 subst hx
 generalize hv:ev x=v at a
 cases a with
 |nil=>exact L.llenN hv
 |row a=>exact L.llen hv
theorem L.llenR {r:Nat} {ev:Ev} {h:Heap} {x:A} {v:V} {rows:List (List V)} (hx:ev x=v) (a:Rows r h v rows):light (.len false x) ev h= .val (.int .i64 (rows.length:Int)):=by
 subst hx
 generalize hv:ev x=v at a
 cases a with
 |nil=>exact L.llenN hv
 |row=>exact L.llen hv
theorem map_snoc {α β:Type} (f:α→β) (l:List α) (x:α):l.map f++[f x]=(l++[x]).map f:=by simp
end
end Go.Eng
namespace Go.Eng
noncomputable section
theorem strCells_eq:∀l:List UInt8,strCells (l.map (·.toNat))=l.map fun c=>V.int .u8 (c.toNat:Int)
 |[]=>rfl
 |a::l=>by
  show kG .u8 a.toNat::strCells (l.map (·.toNat))=_
  rw [jy,strCells_eq l];rfl
theorem zP {α β:Type} (g:α→β):∀l:List α,(l.map fun c=>[g c]).flatten=l.map g
 |[]=>rfl
 |a::l=>by simp [zP g l]
def iX (l:List UInt8):List (List V):=l.map fun c=>[V.int .u8 (c.toNat:Int)]
theorem L.lG {ev:Ev} {h:Heap} {x:A} {l:List UInt8} (hx:ev x=L.str l):
  light (.lG x) ev h= .new (.cells 1 h.next 0 l.length (aS 1 l.length 0 (iX l).flatten T.e)) (.sl h.next 0 l.length none):=by
 show force h.next (fun b=>(Option.rec .bad (fun x=>setRows 1 x.1 0 (strCells (dU x.1 x.2)) T.e fun t=> .new (.cells 1 b 0 x.1 t) (.sl b 0 x.1 none)) (ev x).za:LR))=_
 rw [force_eq,hx]
 show setRows 1 l.length 0 (strCells (dU l.length (enc l))) T.e (fun t=>LR.new (.cells 1 h.next 0 l.length t) (.sl h.next 0 l.length none))=_
 rw [bG,iK,strCells_eq]
 unfold iX
 rw [zP]
theorem Bz {b:Nat} {l:List UInt8} {h':Heap} (hg:T.get b h'.t=some (.cells 1 b 0 l.length (aS 1 l.length 0 (iX l).flatten T.e))):Rows 1 h' (.sl b 0 l.length none) (iX l):=by
 have hlen:(iX l).length=l.length:=by unfold iX;simp
 have hr:∀row∈iX l,row.length=1:=by intro row hm;unfold iX at hm;simp at hm;obtain ⟨c,_,rfl⟩:=hm;rfl
 have:=Rows.row (r:=1) (h:=h') (b:=b) (o:=0) (f:=b) (ap:=0) (sz:=l.length) (cap:=none) (t:=aS 1 l.length 0 (iX l).flatten T.e) (rows:=iX l) (by omega) hg rfl (fun i row hi=> ?_) (by rw [hlen];omega) hr
 · rw [hlen] at this;exact this
 · rw [fP 1 _ 0 _ T.e (0 / 1+i) (by omega) (by omega),if_pos ⟨by omega,by have:=(List.getElem?_eq_some_iff.1 hi).1;omega⟩]
   have e:0 / 1+i - 0=i:=by omega
   rw [e,mX i hr hi]
section
variable {c:Ctx} {Q:QT} {env:Env} {h:Heap} {fs:List Fact} {l:List Opr} {vs:List V} {i j:D8}
theorem WO.Oy {x:A} {s:List UInt8} (st:St fs h) (hx:x.ev vs env=L.str s) (K:∀b h1,St (.stb (fun h=>Rows 1 h (.sl b 0 s.length none) (iX s))::fs) h1→WO c l Q (.sl b 0 s.length none::vs) (Env.set i j (.sl b 0 s.length none) env) h1):WO c (.s i j (.L (.lG x))::l) Q vs env h:=
 WO.newS (L.lG hx) rfl (K _ _ (st.frozen _ fun h' hg=>Bz hg))
theorem WO.sbytesF {x:A} {s:List UInt8} (st:St fs h) (hx:x.ev vs env=L.str s) (K:∀b h1,St (.stb (fun h=>Rows 1 h (.sl b 0 s.length none) (iX s))::fs) h1→WO c l Q (.sl b 0 s.length none::vs) env h1):WO c (.p (.L (.lG x))::l) Q vs env h:=
 WO.new (L.lG hx) rfl (K _ _ (st.frozen _ fun h' hg=>Bz hg))
end
namespace L
variable {ev:Ev} {h:Heap} {x y:A}
theorem Jm {n:Nat} (hn:n<256):IntKind.wrap .u8 (n:Int)=(n:Int):=by
 have e:IntKind.wrap .u8 (n:Int)=(n:Int) % 256:=by unfold IntKind.wrap;simp [IntKind.bits,IntKind.signed]
 rw [e];omega
theorem subU8 {a b n:Nat} (hx:ev x= .int .u8 (a:Int)) (hy:ev y= .int .u8 (b:Int)) (hc:a - b=n) (hb:b≤a) (hn:a<256):light (.bin .sub x y) ev h= .val (.int .u8 (n:Int)):=by
 show (ev x).gV (fun k a=>(ev y).gV fun j b=>xX .sub k a j b)=_
 rw [hx,hy]
 show LR.of (some (jX .u8 (Na (a:Int) (b:Int))))=_
 rw [jK,JV,show (a:Int) - (b:Int)=(n:Int) by omega,Jm (by omega)];rfl
theorem addU8 {a b n:Nat} (hx:ev x= .int .u8 (a:Int)) (hy:ev y= .int .u8 (b:Int)) (hc:a+b=n) (hn:n<256):light (.bin .add x y) ev h= .val (.int .u8 (n:Int)):=by
 show (ev x).gV (fun k a=>(ev y).gV fun j b=>xX .add k a j b)=_
 rw [hx,hy]
 show LR.of (some (jX .u8 (M9 (a:Int) (b:Int))))=_
 rw [jK,JS,show (a:Int)+(b:Int)=(n:Int) by omega,Jm hn];rfl
theorem Oz {k:IntKind} {a:Int} (hx:ev x= .int k a) (hn:In64 a):light (.conv .i64 x) ev h= .val (.int .i64 a):=by
 show (ev x).gV (fun _ a=> .val (jX .i64 a))=_
 rw [hx]
 show LR.val (jX .i64 a)=_
 rw [jK,wrap64 hn]
theorem convU8 {k:IntKind} {a:Nat} (hx:ev x= .int k (a:Int)) (hn:a<256):light (.conv .u8 x) ev h= .val (.int .u8 (a:Int)):=by
 show (ev x).gV (fun _ a=> .val (jX .u8 a))=_
 rw [hx]
 show LR.val (jX .u8 (a:Int))=_
 rw [jK,Jm hn]
theorem neg64 {a n:Int} (hx:ev x= .int .i64 a) (hc: -a=n) (hn:In64 n):light (.neg x) ev h= .val (.int .i64 n):=by
 show (ev x).gV (fun k a=> .val (jX k (Int.neg a)))=_
 rw [hx]
 show LR.val (jX .i64 (-a))=_
 rw [jK,hc,wrap64 hn]
end L
end
end Go.Eng
namespace Go.Eng
noncomputable section
def qQ:C→Bool
 | .seq a b=>qQ a&&qQ b
 | .cond _ a b=>qQ a&&qQ b
 | .block _ a=>qQ a
 | .loop _=>false
 |_=>true
theorem ko (call:dN):∀(e:C),qQ e=true→∀(n n':Nat) (env:Env) (h:Heap),code e call n env h=code e call n' env h
 | .skip,_,_,_,_,_=>rfl
 | .ret,_,_,_,_,_=>rfl
 | .exit _,_,_,_,_,_=>rfl
 | .stuck,_,_,_,_,_=>rfl
 | .reg _ _,_,_,_,_,_=>rfl
 | .draw _ _,_,_,_,_,_=>rfl
 | .seq a b,hl,n,n',env,h=>by
   have hl:=Bool.aL hl
   show (CR.rec (fun x env h=>X.rec (code b call n env h) (.ok .ret env h) (fun i=> .ok (.exit i) env h) (fun v=> .ok (.pan v) env h) x) .bad (code a call n env h):CR)=
    CR.rec (fun x env h=>X.rec (code b call n' env h) (.ok .ret env h) (fun i=> .ok (.exit i) env h) (fun v=> .ok (.pan v) env h) x) .bad (code a call n' env h)
   rw [ko call a hl.1 n n' env h]
   cases code a call n' env h with
   |bad=>rfl
   |ok x env1 h1=>cases x<;>first|exact ko call b hl.2 n n' env1 h1|rfl
 | .cond x a b,hl,n,n',env,h=>by
   have hl:=Bool.aL hl
   show (Option.rec .bad (fun t=>Bool.rec (code b call n env h) (code a call n env h) t) (x.ev [] env).asBool:CR)=Option.rec .bad (fun t=>Bool.rec (code b call n' env h) (code a call n' env h) t) (x.ev [] env).asBool
   rw [ko call a hl.1 n n',ko call b hl.2 n n']
 | .block id a,hl,n,n',env,h=>by
   have hl:qQ a=true:=hl
   show (CR.rec (fun x env h=>X.rec (.ok .nrm env h) (.ok .ret env h) (fun i=> .ok (Bool.rec (.exit i) .nrm (i.beq id)) env h) (fun v=> .ok (.pan v) env h) x) .bad (code a call n env h):CR)=CR.rec _ .bad (code a call n' env h)
   rw [ko call a hl n n']
 | .loop _,hl,_,_,_,_=>by cases hl
def Jo (c:Ctx) (F:lF) (P:V→Heap→Prop) (cv:List V) (envr:Env) (v:V) (h:Heap):Prop:=
 WP c F.gbody (fun x _ h3=>(x= .nrm∨x= .ret)∧∃vs,results envr h3 F.results=some vs∧P (one vs) h3) (Env.set (bA F.gk).1 (bA F.gk).2 v (dx cv 0 Env.nil)) h
def QD (c:Ctx) (F:lF) (P:V→Heap→Prop) (env1:Env):QT:=fun x env2 h2=>match x with
 | .nrm=>Jo c F P (evs F.caps fun a=>a.ev [] env1) env2 .ifcN h2
 | .pan v=>Jo c F P (evs F.caps fun a=>a.ev [] env1) (clr F.ws env1) v h2
 |_=>False
def QD0 (c:Ctx) (F:lF) (P:V→Heap→Prop):QT:=fun x env1 h1=>match x with
 | .nrm=>WO c F.ops (QD c F P env1) [] env1 h1
 |_=>False
def QG (F:lF) (P:V→Heap→Prop) (envr:Env):QT:=fun x _ h3=>(x= .nrm∨x= .ret)∧∃vs,results envr h3 F.results=some vs∧P (one vs) h3
theorem QD.nrm_ {c:Ctx} {F:lF} {P:V→Heap→Prop} {env1 env2:Env} {h2:Heap} {i j:D8} (cv:List V) (hcv:evs F.caps (fun a=>a.ev [] env1)=cv) (hg:bA F.gk=(i,j)) (w:WP c F.gbody (QG F P env2) (Env.set i j .ifcN (dx cv 0 Env.nil)) h2):QD c F P env1 .nrm env2 h2:=by
 show Jo c F P (evs F.caps fun a=>a.ev [] env1) env2 .ifcN h2
 unfold Jo
 rw [hcv,hg];exact w
theorem QD.pan_ {c:Ctx} {F:lF} {P:V→Heap→Prop} {env1 env2:Env} {v:V} {h2:Heap} {i j:D8} (cv:List V) (hcv:evs F.caps (fun a=>a.ev [] env1)=cv) (hg:bA F.gk=(i,j)) (hw:F.ws=[]) (w:WP c F.gbody (QG F P env1) (Env.set i j v (dx cv 0 Env.nil)) h2):QD c F P env1 (.pan v) env2 h2:=by
 show Jo c F P (evs F.caps fun a=>a.ev [] env1) (clr F.ws env1) v h2
 unfold Jo
 rw [hcv,hg,hw];exact w
theorem bZ.funD {c:Ctx} {bJ:T Fun} {gY:T lF} {more:Nat→List V→Heap→OR} (hc:c=Ctx.of bJ gY more) {f:Nat} {F:lF} (h0:T.get f bJ=none) (hF:T.get f gY=some F) {as:List V} {P:V→Heap→Prop} {h:Heap} (hn:as.length=F.np) (hl1:qQ F.pre=true) (hl2:qQ F.gbody=true)
  (w:WP c F.pre (QD0 c F P) (dx as 0 Env.nil) h):bZ c f as h P:=by
 obtain ⟨x,env1,h1,⟨N1,ev1⟩,q⟩:=w
 cases x with
 |ret=>exact q.elim
 |exit i=>exact q.elim
 |pan v=>exact q.elim
 |nrm=>
  obtain ⟨x2,env2,h2,⟨N2,ev2⟩,q2⟩:=q
  have fin:∀{envr:Env} {v:V},Jo c F P (evs F.caps fun a=>a.ev [] env1) envr v h2→∃N3 w h3,P w h3∧∀m,N3≤m→∀R,N3≤R→F.fin (aR c R m) (evs F.caps fun a=>a.ev [] env1) envr h2 v= .ok w h3:=by
   intro envr v hw
   obtain ⟨x3,env3,h3,⟨N3,ev3⟩,hx,vs,hv,hp⟩:=hw
   refine ⟨N3,one vs,h3,hp,fun m hm R hR=> ?_⟩
   show (CR.rec (fun x _ h3=>X.rec (finish F.results envr h3) (finish F.results envr h3) (fun _=> .bad) (fun _=> .bad) x) .bad
    (args (evs F.caps fun a=>a.ev [] env1) 0 Env.nil fun env=>Env.dD (bA F.gk).1 (bA F.gk).2 v (fun env=>code F.gbody (aR c R m) bV env h2) env):OR)=_
   rw [lD,Env.dM,ko _ F.gbody hl2 bV R,ev3 m hm R hR]
   have hfin:finish F.results envr h3= .ok (one vs) h3:=by unfold finish;rw [hv]
   rcases hx with rfl|rfl
   · exact hfin
   · exact hfin
  have main:∀{w:V} {h3:Heap} {N3:Nat},(∀m,N3≤m→∀R,N3≤R→F.go (aR c R m) env1 h1= .ok w h3)→P w h3→bZ c f as h P:=by
   intro w h3 N3 hgo hp
   refine ⟨w,h3,⟨max N1 N3+1,fun m hm R hR=> ?_⟩,hp⟩
   obtain ⟨m',rfl⟩:∃m',m=m'+1:=⟨m - 1,by omega⟩
   show (Option.rec (c.sums (aR c R m') f as h) (fun fn=>jv fn R (aR c R m') as h) (T.get f c.bJ):OR)=_
   have e1:c.bJ=bJ:=by rw [hc];rfl
   have e2:c.sums (aR c R m') f as h=xg F (aR c R m') as h:=by
    rw [show c.sums=(Ctx.of bJ gY more).sums by rw [hc]]
    show (Option.rec (more f as h) (fun F=>xg F (aR c R m') as h) (T.get f gY):OR)=_
    rw [hF]
   rw [e1,h0]
   show c.sums (aR c R m') f as h=_
   rw [e2]
   show (Bool.rec .bad (CR.rec (fun x env1 h1=>X.rec (F.go (aR c R m') env1 h1) .bad (fun _=> .bad) (fun _=> .bad) x) .bad (args as 0 Env.nil fun env=>code F.pre (aR c R m') bV env h)) ((eO as).beq F.np):OR)=_
   have hl:(eO as).beq F.np=true:=by rw [fF,hn];exact Nat.beq_refl _
   rw [hl,lD]
   show (CR.rec (fun x env1 h1=>X.rec (F.go (aR c R m') env1 h1) .bad (fun _=> .bad) (fun _=> .bad) x) .bad (code F.pre (aR c R m') bV (dx as 0 Env.nil) h):OR)=_
   rw [ko _ F.pre hl1 bV R,ev1 m' (by omega) R (by omega)]
   exact hgo m' (by omega) R (by omega)
  cases x2 with
  |ret=>exact q2.elim
  |exit i=>exact q2.elim
  |nrm=>
   obtain ⟨N3,w,h3,hp,hf⟩:=fin q2
   refine main (N3:=max N2 N3) (fun m hm R hR=> ?_) hp
   show (CR.rec (fun x env2 h2=>X.rec (F.fin (aR c R m) (evs F.caps fun a=>a.ev [] env1) env2 h2 .ifcN) .bad (fun _=> .bad) (fun v=>F.fin (aR c R m) (evs F.caps fun a=>a.ev [] env1) (clr F.ws env1) h2 v) x) .bad (eu F.ops (aR c R m) [] env1 h1):OR)=_
   rw [ev2 m (by omega) R (by omega)]
   exact hf m (by omega) R (by omega)
  |pan v=>
   obtain ⟨N3,w,h3,hp,hf⟩:=fin q2
   refine main (N3:=max N2 N3) (fun m hm R hR=> ?_) hp
   show (CR.rec (fun x env2 h2=>X.rec (F.fin (aR c R m) (evs F.caps fun a=>a.ev [] env1) env2 h2 .ifcN) .bad (fun _=> .bad) (fun v=>F.fin (aR c R m) (evs F.caps fun a=>a.ev [] env1) (clr F.ws env1) h2 v) x) .bad (eu F.ops (aR c R m) [] env1 h1):OR)=_
   rw [ev2 m (by omega) R (by omega)]
   exact hf m (by omega) R (by omega)
end
end Go.Eng
namespace Go.Eng
noncomputable section
theorem yG {row:List V} {z:List V} {n:Nat} (hr:row.length=n) (hz:z.length=n:=by rfl):kF 0 row z=row:=by
 show dV row (jr (eO row) z)=row
 rw [kR,jI,fF,hr,←hz,List.drop_length,List.append_nil]
theorem qf {row:List V} {n:Nat} (hr:row.length=n):lI n (jr 0 row)=row:=by
 show lI n row=row
 rw [pR,←hr,List.take_length]
end
end Go.Eng
namespace Go.Eng
noncomputable section
theorem OA (k:IntKind) (n:Nat):Fy k (n:Int)= .int k (n:Int):=by
 show kG k n=_
 rw [jy];rfl
theorem L.rem {ev:Ev} {h:Heap} {x y:A} {k:IntKind} {a b n:Nat} (hx:ev x= .int k (a:Int)) (hy:ev y= .int k (b:Int)) (hc:a % b=n) (hb:b≠0):light (.bin .rem x y) ev h= .val (.int k (n:Int)):=by
 show (ev x).gV (fun k a=>(ev y).gV fun j b=>xX .rem k a j b)=_
 rw [hx,hy]
 show (Bool.rec .bad (.of (Bool.rec (some (Fy k ((a:Int).tmod (b:Int)))) none (ieq (b:Int) 0))) (kEq k k):LR)=_
 have h1:kEq k k=true:=by cases k<;>rfl
 have h2:ieq (b:Int) 0=false:=by
  show b.beq 0=false
  cases b with
  |zero=>exact absurd rfl hb
  |succ n=>rfl
 rw [h1,h2]
 show LR.of (some (Fy k ((a:Int).tmod (b:Int))))=_
 rw [show (a:Int).tmod (b:Int)=((a % b:Nat):Int) from rfl,hc,OA];rfl
theorem L.scatE {ev:Ev} {h:Heap} {x y:A} {l m n:List UInt8} (hx:ev x=L.str l) (hy:ev y=L.str m) (hc:l++m=n) (hn:l.length+m.length<4294967296):light (.bins .add x y) ev h= .val (L.str n):=by
 subst hc;exact L.scat hx hy hn
theorem L.iaddrK {ev:Ev} {h:Heap} {x y:A} {k:IntKind} {r b o n i:Nat} {cap:Option Nat} (hx:ev x= .sl b o n cap) (hy:ev y= .int k (i:Int)) (hi:i<n):light (.bI r x y) ev h= .val (.ptr b (o+i * r)):=by
 show (ev x).onSl (fun b o n=>(ev y).Ap fun j=>Ee r b o n j)=_
 rw [hx,hy]
 show (Bool.rec .bad (force (Nat.add o (Nat.mul i r)) fun o=> .val (.ptr b o)) (i.blt n):LR)=_
 rw [jJ,decide_eq_true hi]
 show force (Nat.add o (Nat.mul i r)) (fun o=>LR.val (.ptr b o))=_
 rw [force_eq];rfl
theorem Rows.load1F {r b o n i j:Nat} {cap:Option Nat} {h:Heap} {rows:List (List V)} {row:List V} {v:V} (a:Rows r h (.sl b o n cap) rows) (hi:rows[i]? =some row) (hj:row[j]? =some v):h.jG b (o+i * r+j)=some v:=by
 cases a with
 |row hr hob ho hrow hsz hlen=>
  rename_i f ap sz t
  have hlt:i<rows.length:=(List.getElem?_eq_some_iff.1 hi).1
  have hl:=hlen row (List.mem_of_getElem? hi)
  have hjl:j<row.length:=(List.getElem?_eq_some_iff.1 hj).1
  have hle:(i+1) * r≤rows.length * r:=Nat.mul_le_mul_right r hlt
  rw [Nat.add_mul] at hle
  unfold Heap.jG
  rw [show h.obj b=_ from hob]
  show (Bool.rec none (iA r (o+i * r+j) t) ((o+i * r+j).blt sz):Option V)=_
  have h1:(o+i * r+j).blt sz=true:=by rw [jJ];simp;omega
  rw [h1]
  show iA r (o+i * r+j) t=_
  unfold iA
  obtain ⟨m,hm⟩:∃m,o=m * r:=⟨o / r,by have:=Nat.div_add_mod o r;rw [ho,Nat.mul_comm] at this;omega⟩
  have he:o+i * r+j=r * (m+i)+j:=by rw [hm,Nat.mul_comm r (m+i),Nat.add_mul]
  have h2:(o+i * r+j).div r=o / r+i:=by
   show (o+i * r+j) / r=_
   rw [he,Nat.mul_add_div hr,Nat.div_eq_of_lt (by omega),hm,Nat.mul_div_cancel _ hr];omega
  have h3:(o+i * r+j).mod r=j:=by
   show (o+i * r+j) % r=j
   rw [he,Nat.mul_add_mod,Nat.mod_eq_of_lt (by omega)]
  rw [h2,h3,hrow i row hi]
  show hd (jr j row)=some v
  rw [CW,jI,List.head?_drop,hj]
theorem Runs.more {c:Ctx} {bJ:T Fun} {gY:T lF} {more:Nat→List V→Heap→OR} (hc:c=Ctx.of bJ gY more) {f:Nat} (h0:T.get f bJ=none) (h1:T.get f gY=none) {as:List V} {h:Heap} {r:OR} (e:more f as h=r):Runs c f as h r:=by
 subst hc
 refine ⟨1,fun m hm R _=> ?_⟩
 obtain ⟨m',rfl⟩:∃m',m=m'+1:=⟨m - 1,by omega⟩
 show (Option.rec (Option.rec (more f as h) (fun F=>xg F (aR _ R m') as h) (T.get f gY)) (fun fn=>jv fn R (aR _ R m') as h) (T.get f bJ):OR)=r
 rw [h0,h1];exact e
theorem Mg:∀l:List UInt8,dU l.length (enc l)=l.map (·.toNat):=by
 intro l
 exact iK l
theorem BA {f0:Nat} (l:List UInt8) (b:UInt8) (h:Heap):uU f0 f0 [L.str l, .int .u8 (b.toNat:Int)] h= .ok (.int .i64 (Lib.indexByte l b)) h:=by
 unfold uU
 have hb:f0.beq f0=true:=Nat.beq_refl f0
 show (match f0.beq f0,[V.str l.length (enc l),V.int .u8 (Int.ofNat b.toNat)] with
  |true,[.str n x, .int .u8 (.ofNat c)]=>(Bool.rec .bad ((Jg c (dU n x) 0).force fun v=> .ok v h) (c.blt 256):OR)
  |_,_=> .bad)=_
 rw [hb]
 show (Bool.rec .bad ((Jg b.toNat (dU l.length (enc l)) 0).force fun v=> .ok v h) (b.toNat.blt 256):OR)=_
 have hlt:b.toNat.blt 256=true:=by rw [jJ];simpa using b.toNat_lt
 rw [hlt,Mg]
 show (Jg b.toNat (l.map (·.toNat)) 0).force (fun v=>OR.ok v h)=_
 rw [V.force_eq,EL _ b.toNat_lt]
 have hbb:b.toNat.toUInt8=b:=by simp
 rw [hbb]
 by_cases e:Lib.indexByte l b= -1
 · rw [if_pos e,e]
 · rw [if_neg e];simp
theorem idx_runs {c:Ctx} {bJ:T Fun} {gY:T lF} {f0:Nat} (hc:c=Ctx.of bJ gY (uU f0)) (h0:T.get f0 bJ=none) (h1:T.get f0 gY=none) {fs:List Fact} {h:Heap} {l:List UInt8} {b:UInt8} (st:St fs h):
  bZ c f0 [L.str l, .int .u8 (b.toNat:Int)] h fun v h1=>v= .int .i64 (Lib.indexByte l b)∧St fs h1:=⟨_,h,Runs.more hc h0 h1 (BA l b h),rfl,st⟩
theorem Wf.empty:Wf Heap.empty:=⟨fun b hb=>absurd (T.ze b) hb,fun b hb=>absurd (T.ze b) hb,Nat.le_refl _⟩
theorem St.empty:St [] Heap.empty:=St.nil Wf.empty
theorem OB {P:Program} (hmx:P.follows .mixedOrders=true) {bJ:T Fun} {gY:T lF} {more:Nat→List V→Heap→OR} (hf:allT (CG P) bJ=true) (hd:allT (Dn P) gY=true) (hm:lS P more)
  {f:Nat} {as:List V} (he:bZ (Ctx.of bJ gY more) f as Heap.empty fun v _=>v= .bool true) {args:Array Value} (hr:aW Inj.none as args.toList) (w:World):
  Calls P f args w fun e w'=>e= .returned (.bool true)∧Kept w w':=by
 obtain ⟨v,h1,⟨N,e⟩,rfl⟩:=he
 exact zC hmx (c:=Ctx.of bJ gY more) hf (EK hmx hd hm) (e N (Nat.le_refl _) N (Nat.le_refl _)) hr w
end
end Go.Eng
namespace Go.Eng
noncomputable section
def slB:V→Nat
 | .sl b _ _ _=>b
 |_=>0
def slO:V→Nat
 | .sl _ o _ _=>o
 |_=>0
def slC:V→Option Nat
 | .sl _ _ _ c=>c
 |_=>none
theorem Rows.sl {r i:Nat} {h:Heap} {v:V} {rows:List (List V)} (a:Rows r h v rows) (hi:i<rows.length):v= .sl (slB v) (slO v) rows.length (slC v):=by
 cases a with
 |nil=>exact absurd hi (Nat.not_lt_zero _)
 |row=>rfl
theorem Rows.fB {r i:Nat} {h:Heap} {v:V} {rows:List (List V)} {row:List V} (a:Rows r h v rows) (hi:rows[i]? =some row):h.load (slB v) (slO v+i * r) r=some row:=by
 have e:=a.sl (List.getElem?_eq_some_iff.1 hi).1
 rw [e] at a
 exact a.bE hi
theorem Rows.iA {r i j:Nat} {h:Heap} {v x:V} {rows:List (List V)} {row:List V} (a:Rows r h v rows) (hi:rows[i]? =some row) (hj:row[j]? =some x):h.jG (slB v) (slO v+i * r+j)=some x:=by
 have e:=a.sl (List.getElem?_eq_some_iff.1 hi).1
 rw [e] at a
 exact a.load1F hi hj
theorem Rows.yH {i:Nat} {h:Heap} {v x:V} {rows:List (List V)} (a:Rows 1 h v rows) (hi:rows[i]? =some [x]):h.jG (slB v) (slO v+i * 1)=some x:=by
 have:=a.iA (j:=0) hi rfl
 rwa [Nat.add_zero] at this
theorem OC (n x:Nat):sEq n x n x=true:=by
 unfold sEq;simp
theorem L.tO {ev:Ev} {h:Heap} {x y:A} {b:Bool} (hx:ev x= .bool b) (hy:ev y= .bool b):light (.eq true .bool x y) ev h= .val (.bool false):=by
 show (Option.rec .bad (fun b=> .val (.bool (b !=true))) (Eq1.eq .bool (ev x) (ev y)):LR)=_
 rw [hx,hy]
 cases b<;>rfl
theorem L.Mh {ev:Ev} {h:Heap} {x y:A} {l:List (Nat×Eq1)} {row:List V} (hx:ev x= .agg row) (hy:ev y= .agg row) (he:Eq1.eqs l row row=some true):light (.eq true (.st l) x y) ev h= .val (.bool false):=by
 show (Option.rec .bad (fun b=> .val (.bool (b !=true))) (Eq1.eq (.st l) (ev x) (ev y)):LR)=_
 rw [hx,hy]
 show (Option.rec .bad (fun b=> .val (.bool (b !=true))) (Eq1.eq (.st l) (.agg row) (.agg row)):LR)=_
 have e:Eq1.eq (.st l) (.agg row) (.agg row)=Eq1.eqs l row row:=by simp [Eq1.eq]
 rw [e,he];rfl
theorem Eq1.lY {off:Nat} {q:Eq1} {l:List (Nat×Eq1)} {row:List V} {v:V} (hv:hd (jr off row)=some v) (hq:Eq1.eq q v v=some true) (hl:Eq1.eqs l row row=some true):Eq1.eqs ((off,q)::l) row row=some true:=by
 simp only [Eq1.eqs,hv,hq,hl]
theorem Eq1.tQ (a:Int):Eq1.eq .int (.int .i64 a) (.int .i64 a)=some true:=by
 simp only [Eq1.eq,xZ];simp [kEq]
theorem Eq1.Gn (l:List UInt8):Eq1.eq .str (L.str l) (L.str l)=some true:=by
 unfold L.str;simp only [Eq1.eq,OC]
theorem L.dO {r n:Nat} {ev:Ev} {h:Heap} {x:A} {v:V} {rows:List (List V)} (hx:ev x=v) (a:Rows r h v rows) (hn:rows.length=n):light (.len false x) ev h= .val (.int .i64 (n:Int)):=by
 subst hn;exact L.llenR hx a
theorem Rows.det {r:Nat} {h h':Heap} {v:V} {rows rows':List (List V)} (a:Rows r h v rows) (a':Rows r h' v rows') (hb:T.get (slB v) h'.t=T.get (slB v) h.t):rows'=rows:=by
 cases a with
 |nil=>
  generalize hv:V.slN=v at a'
  cases a' with
  |nil=>rfl
  |row=>cases hv
 | @row b o f ap sz cap t rows hr hob ho hrow hsz hlen=>
   generalize hv:V.sl b o rows.length cap=v at a'
   cases a' with
   |nil=>cases hv
   | @row b' o' f' ap' sz' cap' t' rows' hr' hob' ho' hrow' hsz' hlen'=>
     injection hv with e1 e2 e3 e4
     subst e1;subst e2;subst e4
     have hb:T.get b h'.t=T.get b h.t:=hb
     rw [hob,hob'] at hb
     injection hb with hb
     injection hb with e5 e6 e7 e8 e9
     subst e9
     refine List.ext_getElem? fun i=> ?_
     by_cases hi:i<rows.length
     · have h1:=List.getElem?_eq_getElem hi
       have h2:=List.getElem?_eq_getElem (l:=rows') (i:=i) (by omega)
       have h3:=hrow i _ h1
       have h4:=hrow' i _ h2
       rw [h3] at h4
       rw [h1,h2,Option.some.inj h4]
     · rw [List.getElem?_eq_none (by omega),List.getElem?_eq_none (by omega)]
theorem Rows.dep {r:Nat} {h:Heap} {v:V} {rows:List (List V)} (a:Rows r h v rows) {h':Heap} (hb:T.get (slB v) h'.t=T.get (slB v) h.t):Rows r h' v rows:=by
 cases a with
 |nil=>exact .nil
 |row hr hob ho hrow hsz hlen=>exact .row hr (hb.trans hob) ho hrow hsz hlen
theorem St.E8 {r:Nat} {v:V} {Q:Heap→List (List V)→Prop} {fs:List Fact} {h:Heap} (s:St (.stb (fun h=>∃rows,Rows r h v rows∧Q h rows)::fs) h):∃rows,St (.stb (fun h=>Rows r h v rows):: .stb (fun h=>Q h rows)::fs) h:=by
 obtain ⟨Z,s⟩:=s
 have hall:=s.all _ (List.mem_cons_self ..)
 obtain ⟨rows,h1,h2⟩:=hall h fun _ _=>rfl
 have hz:v= .slN∨Z (slB v):=by
  apply Classical.byContradiction
  intro hn
  have hn1:v≠.slN:=fun e=>hn (Or.inl e)
  have hn2:¬Z (slB v):=fun e=>hn (Or.inr e)
  obtain ⟨rows',h3,_⟩:=hall {h with t:=T.set (slB v) (.box []) h.t} fun b hb=>by
   show T.get b (T.set (slB v) (.box []) h.t)=_
   rw [T.bQ (Nat.zero_le _) (Nat.zero_le _),if_neg (by intro e;subst e;exact hn2 hb)]
  generalize hv:v=w at h3
  cases h3 with
  |nil=>exact hn1 hv
  | @row b o f ap sz cap t rows hr hob ho hrow hsz hlen=>
    subst hv
    have e:T.get b (T.set b (.box []) h.t)=some (.cells r f ap sz t):=hob
    rw [T.get_set_same] at e;cases e
 have dep:∀h',(∀b,Z b→T.get b h'.t=T.get b h.t)→Rows r h' v rows∧Q h' rows:=by
  intro h' hh
  obtain ⟨rows',h3,h4⟩:=hall h' hh
  rcases hz with rfl|hz
  · have e1:rows=[]:=by cases h1;rfl
    have e2:rows'=[]:=by cases h3;rfl
    subst e1;subst e2;exact ⟨h3,h4⟩
  · have e:=h1.det h3 (hh _ hz)
    subst e;exact ⟨h3,h4⟩
 refine ⟨rows,Z,s.wf,s.z,s.oz,s.nb,s.nf,s.nd,fun x hx=> ?_⟩
 rcases List.mem_cons.1 hx with rfl|hx
 · exact fun h' hh=>(dep h' hh).1
 · rcases List.mem_cons.1 hx with rfl|hx
   · exact fun h' hh=>(dep h' hh).2
   · exact s.all x (List.mem_cons_of_mem _ hx)
theorem St.twice {P Q:Heap→Prop} {fs:List Fact} {h:Heap} (s:St (.stb P:: .stb Q::fs) h):St (.stb P:: .stb Q:: .stb P:: .stb Q::fs) h:=by
 obtain ⟨Z,s⟩:=s
 refine ⟨Z,s.wf,s.z,s.oz,s.nb,s.nf,s.nd,fun x hx=>s.all x ?_⟩
 simp at hx ⊢
 rcases hx with rfl|rfl|rfl|rfl|hx
 · exact Or.inl rfl
 · exact Or.inr (Or.inl rfl)
 · exact Or.inl rfl
 · exact Or.inr (Or.inl rfl)
 · exact Or.inr (Or.inr hx)
section
variable {c:Ctx} {Q:QT} {env:Env} {h:Heap}
theorem WD.yes {g:A} {b:Bool} {op:Op} {uo:List Nat} {l:List Opd} {vs:List V} {lg:List Log} (hg:(g.ev vs env).gd b=some true) (w:WD c (⟨.p op,uo⟩::l) Q vs lg env h):WD c (⟨.g g b op,uo⟩::l) Q vs lg env h:=by
 obtain ⟨x,e1,h1,⟨N,ev⟩,q⟩:=w
 refine ⟨x,e1,h1,⟨N,fun m hm R hR=> ?_⟩,q⟩
 show (Option.rec .bad (fun c1=>Bool.rec (fA l (aR c R m) (un::vs) (.no::lg) env h) (dOp op uo (aR c R m) (fun a=>a.ev vs env) lg env h fun l' v h=>fA l (aR c R m) (v::vs) (l'::lg) env h) c1) ((g.ev vs env).gd b):CR)=_
 rw [hg];exact ev m hm R hR
theorem WD.no {g:A} {b:Bool} {op:Op} {uo:List Nat} {l:List Opd} {vs:List V} {lg:List Log} (hg:(g.ev vs env).gd b=some false) (w:WD c l Q (un::vs) (.no::lg) env h):WD c (⟨.g g b op,uo⟩::l) Q vs lg env h:=by
 obtain ⟨x,e1,h1,⟨N,ev⟩,q⟩:=w
 refine ⟨x,e1,h1,⟨N,fun m hm R hR=> ?_⟩,q⟩
 show (Option.rec .bad (fun c1=>Bool.rec (fA l (aR c R m) (un::vs) (.no::lg) env h) (dOp op uo (aR c R m) (fun a=>a.ev vs env) lg env h fun l' v h=>fA l (aR c R m) (v::vs) (l'::lg) env h) c1) ((g.ev vs env).gd b):CR)=_
 rw [hg];exact ev m hm R hR
theorem WD.yesS {g:A} {b:Bool} {i j:D8} {op:Op} {uo:List Nat} {l:List Opd} {vs:List V} {lg:List Log} (hg:(g.ev vs env).gd b=some true) (w:WD c (⟨.s i j op,uo⟩::l) Q vs lg env h):WD c (⟨.gs g b i j op,uo⟩::l) Q vs lg env h:=by
 obtain ⟨x,e1,h1,⟨N,ev⟩,q⟩:=w
 refine ⟨x,e1,h1,⟨N,fun m hm R hR=> ?_⟩,q⟩
 show (Option.rec .bad (fun c1=>Bool.rec (Env.dD i j un (fun env=>fA l (aR c R m) (un::vs) (.no::lg) env h) env) (dOp op uo (aR c R m) (fun a=>a.ev vs env) lg env h fun l' v h=>Env.dD i j v (fun env=>fA l (aR c R m) (v::vs) (l'::lg) env h) env) c1) ((g.ev vs env).gd b):CR)=_
 rw [hg];exact ev m hm R hR
end
end
end Go.Eng
namespace Go.Eng
noncomputable section
structure Tok where
 kind:Nat
 text:List UInt8
 at_:Nat
def Tok.row (t:Tok):List V:=[.int .i64 (t.kind:Int),L.str t.text, .int .i64 (t.at_:Int)]
structure RP where
 rb:Nat
 tb:Nat
 to:Nat
 cap:Option Nat
 ts:List Tok
def RP.box (p:RP) (i d:Nat):Fact:= .box p.rb [.sl p.tb p.to p.ts.length p.cap, .int .i64 (i:Int), .int .i64 (d:Int)]
def RP.toks (p:RP):Fact:= .stb (fun h=>Rows 3 h (.sl p.tb p.to p.ts.length p.cap) (p.ts.map Tok.row))
structure pG (s:List UInt8):Prop where
 ne:s≠[]
 len:s.length≤9
 dig:∀b∈s,48≤b.toNat∧b.toNat≤57
def num (s:List UInt8):Nat:=s.foldl (fun n b=>n * 10+(b.toNat - 48)) 0
theorem BB {s:List UInt8} {k:Nat} {b:UInt8} (hb:s[k]? =some b):num (s.take (k+1))=num (s.take k) * 10+(b.toNat - 48):=by
 unfold num
 rw [List.take_add_one,hb];simp
theorem OD:∀(n:Nat) (s:List UInt8),s.length=n→(∀b∈s,b.toNat≤57)→num s<10 ^ n
 |0,s,hl,_=>by
  obtain rfl:s=[]:=by simpa using hl
  simp [num]
 |n+1,s,hl,hd=>by
  have hk:n<s.length:=by omega
  have h1:=BB (s:=s) (k:=n) (List.getElem?_eq_getElem hk)
  have h2:=OD n (s.take n) (by simp;omega) (fun b hb=>hd b (List.mem_of_mem_take hb))
  have h3:=hd _ (List.getElem_mem hk)
  rw [List.take_of_length_le (by omega)] at h1
  rw [h1,Nat.pow_succ];omega
theorem pG.bound {s:List UInt8} (d:pG s) (k:Nat):num (s.take k)<1000000000:=by
 have h1:=OD (s.take k).length (s.take k) rfl fun b hb=>(d.dig b (List.mem_of_mem_take hb)).2
 have h2:(s.take k).length≤9:=by simp;have:=d.len;omega
 have h3:10 ^ (s.take k).length≤10 ^ 9:=Nat.pow_le_pow_right (by omega) h2
 omega
structure Left (p:RP) (i:Nat) (l:List Tok):Prop where
 drop:p.ts.drop i=l
 ne:l≠[]
 last:∀t,l.getLast? =some t→t.kind=0
 num:∀t∈l,t.kind=2→pG t.text
 small:p.ts.length<4294967296
theorem Left.get {p:RP} {i:Nat} {t:Tok} {l:List Tok} (h:Left p i (t::l)):p.ts[i]? =some t∧i<p.ts.length:=by
 have h1:(p.ts.drop i)[0]? =some t:=by rw [h.drop];rfl
 rw [List.getElem?_drop,Nat.add_zero] at h1
 exact ⟨h1,(List.getElem?_eq_some_iff.1 h1).1⟩
theorem Left.row {p:RP} {i:Nat} {t:Tok} {l:List Tok} (h:Left p i (t::l)):(p.ts.map Tok.row)[i]? =some t.row:=by
 rw [List.getElem?_map,h.get.1];rfl
theorem Left.next {p:RP} {i:Nat} {t:Tok} {l:List Tok} (h:Left p i (t::l)) (hk:t.kind≠0):Left p (i+1) l:=by
 have hne:l≠[]:=by
  intro e;subst e
  exact hk (h.last t rfl)
 refine ⟨?_,hne,fun u hu=>h.last u ?_,fun u hu=>h.num u (List.mem_cons_of_mem _ hu),h.small⟩
 · rw [←List.drop_drop,h.drop];rfl
 · rw [List.getLast?_cons_of_ne_nil hne];exact hu
theorem Left.cons {p:RP} {i:Nat} {l:List Tok} (h:Left p i l):∃t l',l=t::l':=by
 cases l with
 |nil=>exact absurd rfl h.ne
 |cons t l'=>exact ⟨t,l',rfl⟩
namespace Par
def hd:List Tok→Tok
 |[]=>⟨0,[],0⟩
 |t::_=>t
def is (s:List UInt8) (l:List Tok):Bool:=decide ((hd l).text=s)&&(decide ((hd l).kind=4)||decide ((hd l).kind=3))
def here (l:List Tok):Nat:=(hd l).at_
abbrev R (α:Type):=Except (Nat×Nat) (α×List Tok)
def fail {α:Type} (e:Nat) (l:List Tok):R α:= .error (e,here l)
def must (s:List UInt8) (l:List Tok):R Nat:=if is s l=true then .ok (here l,l.tail) else fail 11 l
def of (kind:Nat) (l:List Tok):R Tok:=if (hd l).kind=kind then .ok (hd l,l.tail) else fail 11 l
def name (l:List Tok):R (List UInt8):=match of 1 l with
 | .ok (t,l)=> .ok (t.text,l)
 | .error e=> .error e
def number (l:List Tok):R Nat:=match of 2 l with
 | .ok (t,l)=> .ok (Go.Eng.num t.text,l)
 | .error e=> .error e
def fM (l:List Tok):R (List UInt8×List UInt8):=match name l with
 | .error e=> .error e
 | .ok (a,l)=>if is [46] l=true then (match name l.tail with
   | .error e=> .error e
   | .ok (b,l)=> .ok ((a,b),l)) else .ok (([],a),l)
end Par
theorem Left.tail {p:RP} {i:Nat} {l:List Tok} (h:Left p i l) (hk:(Par.hd l).kind≠0):Left p (i+1) l.tail:=by
 obtain ⟨t,l,rfl⟩:=h.cons
 exact h.next hk
theorem Left.is {p:RP} {i:Nat} {l:List Tok} {s:List UInt8} (h:Left p i l) (hi:Par.is s l=true):Left p (i+1) l.tail:=h.tail fun e=>by simp [Par.is,e] at hi
theorem Par.OE {p:RP} {i:Nat} {l l':List Tok} {t:Tok} (h:Left p i l) (ho:Par.of 2 l= .ok (t,l')):pG t.text:=by
 obtain ⟨u,l,rfl⟩:=h.cons
 unfold Par.of Par.hd at ho
 by_cases hk:u.kind=2
 · rw [if_pos hk] at ho;cases ho;exact h.num u (by simp) hk
 · rw [if_neg hk] at ho;cases ho
theorem Left.lt {p:RP} {i:Nat} {l:List Tok} (h:Left p i l):i<p.ts.length:=by
 obtain ⟨t,l,rfl⟩:=h.cons
 exact h.get.2
theorem Left.len {p:RP} {i:Nat} {l:List Tok} (h:Left p i l):l.length=p.ts.length - i:=by rw [←h.drop,List.length_drop]
end
end Go.Eng
namespace Go.Eng
noncomputable section
def xw (T:Nat) (e a:Nat):V:= .ifc T (.agg [.int .i64 (e:Int), .int .i64 (a:Int)])
def aN {α:Type} (p:RP) (T:Nat) (res:Par.R α) (P:α→Nat→V→Heap→Prop) (E:Heap→Prop) (r:OR):Prop:=match res with
 | .ok (a,l)=>∃v h1 i,r= .ok v h1∧Left p i l∧P a i v h1
 | .error (e,a)=>∃h1,r= .pan (xw T e a) h1∧E h1
theorem aN.pan {α:Type} {p:RP} {T:Nat} {res:Par.R α} {P:α→Nat→V→Heap→Prop} {E:Heap→Prop} {e a:Nat} {h1:Heap} (hr:res= .error (e,a)) (hE:E h1):aN p T res P E (.pan (xw T e a) h1):=by
 subst hr;exact ⟨h1,rfl,hE⟩
theorem aN.ok {α:Type} {p:RP} {T:Nat} {res:Par.R α} {P:α→Nat→V→Heap→Prop} {E:Heap→Prop} {x:α} {l:List Tok} {v:V} {i:Nat} {h1:Heap} (hr:res= .ok (x,l)) (hl:Left p i l) (hP:P x i v h1):aN p T res P E (.ok v h1):=by
 subst hr;exact ⟨v,h1,i,rfl,hl,hP⟩
section
variable {c:Ctx} {Q:QT} {env:Env} {h:Heap} {fs:List Fact} {vs:List V} {i j:D8}
theorem WO.bC {α:Type} {l:List Opr} {f:Nat} {as:List A} {as':List V} {p:RP} {T:Nat} {res:Par.R α} {P:α→Nat→V→Heap→Prop} {E:Heap→Prop} (ha:evs as (fun a=>a.ev vs env)=as') (hr:gG c f as' h (aN p T res P E))
  (pan:∀e a h1,res= .error (e,a)→E h1→Q (.pan (xw T e a)) env h1) (ok:∀x l' v h1 i,res= .ok (x,l')→Left p i l'→P x i v h1→WO c l Q (v::vs) env h1):WO c (.p (.H (.call f as))::l) Q vs env h:=by
 obtain ⟨r,hr,ho⟩:=hr
 cases res with
 |ok x=>
  obtain ⟨x,l'⟩:=x
  obtain ⟨v,h1,i,rfl,hl,hp⟩:=ho
  exact WO.call (by rw [ha];exact hr) (ok _ _ _ _ _ rfl hl hp)
 |error x=>
  obtain ⟨e,a⟩:=x
  obtain ⟨h1,rfl,hE⟩:=ho
  exact WO.Ac ha hr (pan _ _ _ rfl hE)
theorem WO.vW {α:Type} {l:List Opr} {f:Nat} {as:List A} {as':List V} {p:RP} {T:Nat} {res:Par.R α} {P:α→Nat→V→Heap→Prop} {E:Heap→Prop} (ha:evs as (fun a=>a.ev vs env)=as') (hr:gG c f as' h (aN p T res P E))
  (pan:∀e a h1,res= .error (e,a)→E h1→Q (.pan (xw T e a)) env h1) (ok:∀x l' v h1 i',res= .ok (x,l')→Left p i' l'→P x i' v h1→WO c l Q (v::vs) (Env.set i j v env) h1):WO c (.s i j (.H (.call f as))::l) Q vs env h:=by
 obtain ⟨r,hr,ho⟩:=hr
 cases res with
 |ok x=>
  obtain ⟨x,l'⟩:=x
  obtain ⟨v,h1,i,rfl,hl,hp⟩:=ho
  exact WO.Kw (by rw [ha];exact hr) (ok _ _ _ _ _ rfl hl hp)
 |error x=>
  obtain ⟨e,a⟩:=x
  obtain ⟨h1,rfl,hE⟩:=ho
  exact WO.Gm ha hr (pan _ _ _ rfl hE)
theorem WO.yI {α:Type} {l:List Opr} {x:A} {f:Nat} {as:List A} {a b as':List V} {p:RP} {T:Nat} {res:Par.R α} {P:α→Nat→V→Heap→Prop} {E:Heap→Prop} (hx:x.ev vs env= .fn f a b) (ha:dV a (dV (evs as (fun a=>a.ev vs env)) b)=as') (hr:gG c f as' h (aN p T res P E))
  (pan:∀e a h1,res= .error (e,a)→E h1→Q (.pan (xw T e a)) env h1) (ok:∀x l' v h1 i,res= .ok (x,l')→Left p i l'→P x i v h1→WO c l Q (v::vs) env h1):WO c (.p (.H (.iH x as))::l) Q vs env h:=by
 obtain ⟨r,hr,ho⟩:=hr
 cases res with
 |ok x=>
  obtain ⟨x,l'⟩:=x
  obtain ⟨v,h1,i,rfl,hl,hp⟩:=ho
  exact WO.iH hx (by rw [ha];exact hr) (ok _ _ _ _ _ rfl hl hp)
 |error x=>
  obtain ⟨e,a⟩:=x
  obtain ⟨h1,rfl,hE⟩:=ho
  exact WO.Ov hx ha hr (pan _ _ _ rfl hE)
theorem WO.KC {α:Type} {l:List Opr} {x:A} {f:Nat} {as:List A} {a b as':List V} {p:RP} {T:Nat} {res:Par.R α} {P:α→Nat→V→Heap→Prop} {E:Heap→Prop} (hx:x.ev vs env= .fn f a b) (ha:dV a (dV (evs as (fun a=>a.ev vs env)) b)=as') (hr:gG c f as' h (aN p T res P E))
  (pan:∀e a h1,res= .error (e,a)→E h1→Q (.pan (xw T e a)) env h1) (ok:∀x l' v h1 i',res= .ok (x,l')→Left p i' l'→P x i' v h1→WO c l Q (v::vs) (Env.set i j v env) h1):WO c (.s i j (.H (.iH x as))::l) Q vs env h:=by
 obtain ⟨r,hr,ho⟩:=hr
 cases res with
 |ok x=>
  obtain ⟨x,l'⟩:=x
  obtain ⟨v,h1,i,rfl,hl,hp⟩:=ho
  exact WO.Ot hx (by rw [ha];exact hr) (ok _ _ _ _ _ rfl hl hp)
 |error x=>
  obtain ⟨e,a⟩:=x
  obtain ⟨h1,rfl,hE⟩:=ho
  exact WO.Mf hx ha hr (pan _ _ _ rfl hE)
theorem WD.bC {α:Type} {l:List Opd} {lg:List Log} {uo:List Nat} {f:Nat} {as:List A} {as':List V} {p:RP} {T:Nat} {res:Par.R α} {P:α→Nat→V→Heap→Prop} {E:Heap→Prop} (ha:evs as (fun a=>a.ev vs env)=as') (hr:gG c f as' h (aN p T res P E))
  (pan:∀e a h1,res= .error (e,a)→E h1→Q (.pan (xw T e a)) env h1) (hs:∀x v h1 i,P x i v h1→dX uo h1 lg=true) (ok:∀x l' v h1 i,res= .ok (x,l')→Left p i l'→P x i v h1→WD c l Q (v::vs) (.no::lg) env h1):WD c (⟨.p (.H (.call f as)),uo⟩::l) Q vs lg env h:=by
 obtain ⟨r,hr,ho⟩:=hr
 cases res with
 |ok x=>
  obtain ⟨x,l'⟩:=x
  obtain ⟨v,h1,i,rfl,hl,hp⟩:=ho
  exact WD.call (by rw [ha];exact hr) (hs _ _ _ _ hp) (ok _ _ _ _ _ rfl hl hp)
 |error x=>
  obtain ⟨e,a⟩:=x
  obtain ⟨h1,rfl,hE⟩:=ho
  exact WD.Ac ha hr (pan _ _ _ rfl hE)
end
end
end Go.Eng
namespace Go.Eng
noncomputable section
def vX (c:Ctx) (f:Nat) (as:List V) (h:Heap) (v:V) (E:Heap→Prop):Prop:=∃h1,Runs c f as h (.pan v h1)∧E h1
def QP (v:V) (E:Heap→Prop):QT:=fun x _ h=>match x with
 | .pan w=>w=v∧E h
 |_=>False
theorem vX.eZ {c:Ctx} {h:Heap} {f:Nat} {F:Fun} {as:List V} {v:V} {E:Heap→Prop} (hF:T.get f c.bJ=some F) (hn:as.length=F.np) (w:WP c F.body (QP v E) (dx as 0 Env.nil) h):vX c f as h v E:=by
 obtain ⟨x,e1,h1,ev,q⟩:=w
 cases x with
 |nrm=>exact q.elim
 |ret=>exact q.elim
 |exit i=>exact q.elim
 |pan u=>
  obtain ⟨rfl,q⟩:=q
  exact ⟨_,Runs.eZ hF hn ⟨_,_,_,ev,rfl⟩,q⟩
section
variable {c:Ctx} {Q:QT} {env:Env} {h:Heap} {fs:List Fact} {vs:List V} {i j:D8}
theorem WO.om {l:List Opr} {f:Nat} {as:List A} {as':List V} {v:V} {E:Heap→Prop} (ha:evs as (fun a=>a.ev vs env)=as') (hr:vX c f as' h v E) (K:∀h1,E h1→Q (.pan v) env h1):WO c (.p (.H (.call f as))::l) Q vs env h:=by
 obtain ⟨h1,hr,hE⟩:=hr
 exact WO.Ac ha hr (K h1 hE)
end
end
end Go.Eng
namespace Go.Eng
noncomputable section
structure Nd where
 kind:Nat
 num:Int
 mod:List UInt8
 name:List UInt8
 a:Int
 b:Int
 at_:Nat
def Nd.row (n:Nd):List V:=[.int .i64 (n.kind:Int), .int .i64 n.num,L.str n.mod,L.str n.name, .int .i64 n.a, .int .i64 n.b, .int .i64 (n.at_:Int)]
abbrev Opn:=List UInt8×Nat
def Opn.row (o:Opn):List V:=[L.str o.1, .int .i64 (o.2:Int)]
namespace Par
def find (ops:List Opn) (l:List Tok):Option Opn:=ops.find? fun o=>is o.1 l
abbrev E:=Nat→List Tok→List Nd→R (Nat×List Nd)
def put (n:Nd) (ns:List Nd):Nat×List Nd:=(ns.length,ns++[n])
def eX (un:E) (ops:List Opn):Nat→Nat→List Tok→Nat→List Nd→R (Nat×List Nd)
 |0,_,l,a,ns=> .ok ((a,ns),l)
 |f+1,d,l,a,ns=>match find ops l with
  |none=> .ok ((a,ns),l)
  |some o=>match un d l.tail ns with
   | .error e=> .error e
   | .ok ((b,ns),l')=>eX un ops f d l' ns.length (ns++[⟨o.2,0,[],[],(a:Int),(b:Int),here l⟩])
def chain (un:E) (ops:List Opn):E:=fun d l ns=>match un d l ns with
 | .error e=> .error e
 | .ok ((a,ns),l)=>eX un ops l.length d l a ns
def Jp:List Opn:=[([42],7),([47],8),([37],9)]
def Jq:List Opn:=[([43],5),([45],6)]
def jB:List Opn:=[([61,61],10),([60,61],12),([60],11)]
def jo:List Opn:=[([45],3),([33],4)]
def term (un:E):E:=chain un Jp
def sum (un:E):E:=chain (term un) Jq
def whole (un:E):E:=fun d l ns=>match sum un d l ns with
 | .error e=> .error e
 | .ok ((a,ns),l)=>match find jB l with
   |none=> .ok ((a,ns),l)
   |some o=>match sum un d l.tail ns with
    | .error e=> .error e
    | .ok ((b,ns),l')=> .ok ((ns.length,ns++[⟨o.2,0,[],[],(a:Int),(b:Int),here l⟩]),l')
def fU (un:E):E:=fun d l ns=>match find jo l with
 |some o=>if 40≤d then fail 12 l else (match un (d+1) l.tail ns with
  | .error e=> .error e
  | .ok ((a,ns),l')=> .ok ((ns.length,ns++[⟨o.2,0,[],[],(a:Int), -1,here l⟩]),l'))
 |none=>if is [40] l=true then (if 40≤d then fail 12 l else (match whole un (d+1) l.tail ns with
   | .error e=> .error e
   | .ok ((a,ns),l')=>match must [41] l' with
     | .error e=> .error e
     | .ok (_,l')=> .ok ((a,ns),l')))
  else if (hd l).kind=2 then (match number l with
   | .error e=> .error e
   | .ok (n,l')=> .ok ((ns.length,ns++[⟨1,(n:Int),[],[], -1, -1,here l⟩]),l'))
  else (match fM l with
   | .error e=> .error e
   | .ok ((m,n),l')=> .ok ((ns.length,ns++[⟨2,0,m,n, -1, -1,here l⟩]),l'))
def unary:Nat→E
 |0=>fun _ _ _=> .error (0,0)
 |f+1=>fU (unary f)
end Par
def Par.Good (un:Par.E) (N:Nat):Prop:=∀{d:Nat} {l:List Tok} {ns:List Nd} {a:Nat} {ns':List Nd} {l':List Tok},l.length≤N→un d l ns= .ok ((a,ns'),l')→l'.length<l.length∧ns'.length+l'.length≤ns.length+l.length
theorem Par.Good.mono {un:Par.E} {N N':Nat} (h:Par.Good un N) (hn:N'≤N):Par.Good un N':=fun hl hr=>h (Nat.le_trans hl hn) hr
theorem zQ {un:Par.E} {N:Nat} {ops:List Opn} (hg:Par.Good un N):∀{f d:Nat} {l:List Tok} {a:Nat} {ns:List Nd} {b:Nat} {ns':List Nd} {l':List Tok},l.length≤N→Par.eX un ops f d l a ns= .ok ((b,ns'),l')→l'.length≤l.length∧ns'.length+l'.length≤ns.length+l.length
 |0,d,l,a,ns,b,ns',l',hl,hr=>by
  simp only [Par.eX] at hr;cases hr;exact ⟨Nat.le_refl _,Nat.le_refl _⟩
 |f+1,d,l,a,ns,b,ns',l',hl,hr=>by
  simp only [Par.eX] at hr
  cases hf:Par.find ops l with
  |none=>rw [hf] at hr;cases hr;exact ⟨Nat.le_refl _,Nat.le_refl _⟩
  |some o=>
   rw [hf] at hr
   have hne:l≠[]:=by
    rintro rfl
    have:=List.find?_some hf
    simp [Par.is,Par.hd] at this
   have hlp:0<l.length:=List.length_pos_iff.2 hne
   have htl:l.tail.length=l.length - 1:=List.length_tail
   cases hu:un d l.tail ns with
   |error e=>rw [hu] at hr;cases hr
   |ok x=>
    obtain ⟨⟨b1,ns1⟩,l1⟩:=x
    rw [hu] at hr
    obtain ⟨g1,g2⟩:=hg (by omega) hu
    obtain ⟨k1,k2⟩:=zQ hg (by omega) hr
    simp only [List.length_append,List.length_cons,List.length_nil] at k2
    omega
theorem wu {un:Par.E} {N:Nat} {ops:List Opn} (hg:Par.Good un N):Par.Good (Par.chain un ops) N:=by
 intro d l ns a ns' l' hl hr
 unfold Par.chain at hr
 cases hu:un d l ns with
 |error e=>rw [hu] at hr;cases hr
 |ok x=>
  obtain ⟨⟨b1,ns1⟩,l1⟩:=x
  rw [hu] at hr
  obtain ⟨g1,g2⟩:=hg hl hu
  obtain ⟨k1,k2⟩:=zQ hg (by omega) hr
  omega
theorem BD {un:Par.E} {N:Nat} (hg:Par.Good un N):Par.Good (Par.sum un) N:=wu (wu hg)
theorem Gp {ops:List Opn} {l:List Tok} {o:Opn} (hf:Par.find ops l=some o):0<l.length:=by
 refine List.length_pos_iff.2 ?_
 rintro rfl
 have:=List.find?_some hf
 simp [Par.is,Par.hd] at this
theorem wB {un:Par.E} {N:Nat} (hg:Par.Good un N):Par.Good (Par.whole un) N:=by
 intro d l ns a ns' l' hl hr
 unfold Par.whole at hr
 cases hu:Par.sum un d l ns with
 |error e=>rw [hu] at hr;cases hr
 |ok x=>
  obtain ⟨⟨b1,ns1⟩,l1⟩:=x
  obtain ⟨g1,g2⟩:=BD hg hl hu
  simp only [hu] at hr
  cases hf:Par.find Par.jB l1 with
  |none=>rw [hf] at hr;cases hr;omega
  |some o=>
   rw [hf] at hr
   have hlp:=Gp hf
   have htl:l1.tail.length=l1.length - 1:=List.length_tail
   cases hv:Par.sum un d l1.tail ns1 with
   |error e=>simp only [hv] at hr;cases hr
   |ok x=>
    obtain ⟨⟨b2,ns2⟩,l2⟩:=x
    simp only [hv] at hr
    cases hr
    obtain ⟨k1,k2⟩:=BD hg (by omega) hv
    simp;omega
theorem Par.OG {k:Nat} {l l':List Tok} {t:Tok} (hk:k≠0) (h:Par.of k l= .ok (t,l')):l'.length<l.length:=by
 unfold Par.of at h
 by_cases hh:(Par.hd l).kind=k
 · rw [if_pos hh] at h;cases h
   cases l with
   |nil=>exact absurd hh.symm hk
   |cons a l=>simp
 · rw [if_neg hh] at h;cases h
theorem Par.gu {s:List UInt8} {l:List Tok} (h:Par.is s l=true):0<l.length:=by
 cases l with
 |nil=>simp [Par.is,Par.hd] at h
 |cons a l=>simp
theorem Par.aV {s:List UInt8} {l l':List Tok} {a:Nat} (h:Par.must s l= .ok (a,l')):l'.length<l.length:=by
 unfold Par.must at h
 by_cases hh:Par.is s l=true
 · rw [if_pos hh] at h;cases h
   have:=Par.gu hh
   have htl:l.tail.length=l.length - 1:=List.length_tail
   omega
 · rw [if_neg hh] at h;cases h
theorem Par.dF {l l':List Tok} {a:List UInt8} (h:Par.name l= .ok (a,l')):l'.length<l.length:=by
 unfold Par.name at h
 cases ho:Par.of 1 l with
 |error e=>rw [ho] at h;cases h
 |ok x=>obtain ⟨t,l1⟩:=x;rw [ho] at h;cases h;exact Par.OG (by decide) ho
theorem Par.wC {l l':List Tok} {a:Nat} (h:Par.number l= .ok (a,l')):l'.length<l.length:=by
 unfold Par.number at h
 cases ho:Par.of 2 l with
 |error e=>rw [ho] at h;cases h
 |ok x=>obtain ⟨t,l1⟩:=x;rw [ho] at h;cases h;exact Par.OG (by decide) ho
theorem Par.uW {l l':List Tok} {a:List UInt8×List UInt8} (h:Par.fM l= .ok (a,l')):l'.length<l.length:=by
 unfold Par.fM at h
 cases ho:Par.name l with
 |error e=>rw [ho] at h;cases h
 |ok x=>
  obtain ⟨t,l1⟩:=x
  have h1:=Par.dF ho
  simp only [ho] at h
  by_cases hi:Par.is [46] l1=true
  · rw [if_pos hi] at h
    cases hn:Par.name l1.tail with
    |error e=>simp only [hn] at h;cases h
    |ok y=>
     obtain ⟨b,l2⟩:=y
     simp only [hn] at h;cases h
     have h2:=Par.dF hn
     have htl:l1.tail.length=l1.length - 1:=List.length_tail
     omega
  · rw [if_neg hi] at h;cases h;exact h1
theorem zR {un:Par.E} {N:Nat} (hg:Par.Good un N):Par.Good (Par.fU un) (N+1):=by
 intro d l ns a ns' l' hl hr
 unfold Par.fU at hr
 have htl:l.tail.length=l.length - 1:=List.length_tail
 cases hf:Par.find Par.jo l with
 |some o=>
  have hp:=Gp hf
  simp only [hf] at hr
  by_cases hd:40≤d
  · rw [if_pos hd] at hr;cases hr
  · rw [if_neg hd] at hr
    cases hu:un (d+1) l.tail ns with
    |error e=>simp only [hu] at hr;cases hr
    |ok x=>
     obtain ⟨⟨b,ns1⟩,l1⟩:=x
     simp only [hu] at hr;cases hr
     have:=hg (by omega) hu
     simp;omega
 |none=>
  simp only [hf] at hr
  by_cases hi:Par.is [40] l=true
  · have hp:=Par.gu hi
    rw [if_pos hi] at hr
    by_cases hd:40≤d
    · rw [if_pos hd] at hr;cases hr
    · rw [if_neg hd] at hr
      cases hu:Par.whole un (d+1) l.tail ns with
      |error e=>simp only [hu] at hr;cases hr
      |ok x=>
       obtain ⟨⟨b,ns1⟩,l1⟩:=x
       have hwg:Par.Good (Par.whole un) N:=wB hg
       have h1:=hwg (by omega) hu
       simp only [hu] at hr
       cases hm:Par.must [41] l1 with
       |error e=>simp only [hm] at hr;cases hr
       |ok y=>
        obtain ⟨q,l2⟩:=y
        have h2:=Par.aV hm
        simp only [hm] at hr;cases hr;omega
  · rw [if_neg hi] at hr
    by_cases hk:(Par.hd l).kind=2
    · rw [if_pos hk] at hr
      cases hn:Par.number l with
      |error e=>simp only [hn] at hr;cases hr
      |ok x=>
       obtain ⟨n,l1⟩:=x
       have h1:=Par.wC hn
       simp only [hn] at hr;cases hr;simp;omega
    · rw [if_neg hk] at hr
      cases hn:Par.fM l with
      |error e=>simp only [hn] at hr;cases hr
      |ok x=>
       obtain ⟨⟨m,n⟩,l1⟩:=x
       have h1:=Par.uW hn
       simp only [hn] at hr;cases hr;simp;omega
def Par.expr (d:Nat) (l:List Tok):Par.R (List Nd):=match Par.whole (Par.unary l.length) d l [] with
 | .error e=> .error e
 | .ok ((_,ns),l)=> .ok (ns,l)
theorem Ad (ops:List Opn):∀row∈ops.map Opn.row,row.length=2:=by
 intro row hm;simp at hm;obtain ⟨a,b,_,rfl⟩:=hm;rfl
theorem yJ {ops:List Opn} {l:List Tok}:∀{k:Nat} {o:Opn},ops[k]? =some o→(∀j o',ops[j]? =some o'→j<k→Par.is o'.1 l=false)→Par.is o.1 l=true→Par.find ops l=some o:=by
 induction ops with
 |nil=>intro k o ho;simp at ho
 |cons a ops ih=>
  intro k o ho hno hi
  unfold Par.find
  cases k with
  |zero=>
   simp at ho;subst ho
   simp [hi]
  |succ k=>
   have h0:=hno 0 a rfl (by omega)
   simp only [List.find?_cons,h0]
   exact ih (by simpa using ho) (fun j o' hj hlt=>hno (j+1) o' (by simpa using hj) (by omega)) hi
theorem Dx {ops:List Opn} {l:List Tok} (hno:∀j o,ops[j]? =some o→j<ops.length→Par.is o.1 l=false):Par.find ops l=none:=by
 unfold Par.find
 rw [List.find?_eq_none]
 intro o ho
 obtain ⟨j,hj⟩:=List.mem_iff_getElem?.1 ho
 simp [hno j o hj (List.getElem?_eq_some_iff.1 hj).1]
end
end Go.Eng
namespace Go.Eng
noncomputable section
inductive Sm where
 |mk (kind at_:Nat) (mod name label:List UInt8) (has:Bool) (tomod to:List UInt8) (e:List Nd) (args:List (List Nd)) (body els:List Sm)
def dh (h:Heap):List (List Nd)→List V→Prop
 |[],[]=>True
 |e::as,v::vs=>Rows 7 h v (e.map Nd.row)∧dh h as vs
 |_,_=>False
def Gq (h:Heap) (v:V) (as:List (List Nd)):Prop:=∃vs:List V,Rows 1 h v (vs.map fun x=>[x])∧dh h as vs
mutual
def SmR (h:Heap):Sm→List V→Prop
 | .mk k a m n l hs tm t e as b el,row=>∃ve va vb vl,row=[.int .i64 (k:Int), .int .i64 (a:Int),L.str m,L.str n,L.str l, .bool hs,L.str tm,L.str t,ve,va,vb,vl]∧
     Rows 7 h ve (e.map Nd.row)∧Gq h va as∧(∃rows,Rows 12 h vb rows∧bH h b rows)∧(∃rows,Rows 12 h vl rows∧bH h el rows)
def bH (h:Heap):List Sm→List (List V)→Prop
 |[],rows=>rows=[]
 |s::l,rows=>∃r rs,rows=r::rs∧SmR h s r∧bH h l rs
end
def pJ (h:Heap) (v:V) (l:List Sm):Prop:=∃rows,Rows 12 h v rows∧bH h l rows
theorem dh.snoc {h:Heap}:∀{as:List (List Nd)} {vs:List V} {e:List Nd} {v:V},dh h as vs→Rows 7 h v (e.map Nd.row)→dh h (as++[e]) (vs++[v])
 |[],[],e,v,_,hr=>⟨hr,trivial⟩
 |_::_,_::_,e,v,ha,hr=>⟨ha.1,ha.2.snoc hr⟩
 |[],_::_,_,_,ha,_=>ha.elim
 |_::_,[],_,_,ha,_=>ha.elim
theorem bH.nil {h:Heap}:bH h [] []:=by simp [bH]
theorem bH.snoc {h:Heap}:∀{l:List Sm} {rows:List (List V)} {s:Sm} {row:List V},bH h l rows→SmR h s row→bH h (l++[s]) (rows++[row])
 |[],rows,s,row,hl,hs=>by
  simp only [bH] at hl;subst hl
  simp only [List.nil_append,bH]
  exact ⟨row,[],rfl,hs,rfl⟩
 |a::l,rows,s,row,hl,hs=>by
  simp only [bH] at hl
  obtain ⟨r,rs,rfl,h1,h2⟩:=hl
  simp only [List.cons_append,bH]
  exact ⟨r,rs++[row],rfl,h1,bH.snoc h2 hs⟩
theorem SmR.len {h:Heap} {s:Sm} {row:List V} (hs:SmR h s row):row.length=12:=by
 cases s with
 |mk k a m n l hs' tm t e as b el=>
  simp only [SmR] at hs
  obtain ⟨ve,va,vb,vl,rfl,_⟩:=hs
  rfl
theorem xA {ev:Ev} {x:A} {z v:V} (hc:(ev x).bW=some [v]):fill [(0,1,x)] ev (rep 1 [z])=some [v]:=by
 show (Option.rec none (fun l=>bif (eO l).beq 1&&(Nat.add 0 1).ble (eO (rep 1 [z])) then some (kF 0 l (rep 1 [z])) else none) (ev x).bW:Option (List V))=_
 rw [hc];rfl
theorem Gs {ev:Ev} {x:A} {n:Nat} {zero row:List V} (hx:ev x= .agg row) (hl:row.length=n) (hz:zero.length=n:=by rfl):fill [(0,n,x)] ev (rep 1 zero)=some [row].flatten:=by
 show (Option.rec none (fun l=>bif (eO l).beq n&&(Nat.add 0 n).ble (eO (rep 1 zero)) then some (kF 0 l (rep 1 zero)) else none) (ev x).bW:Option (List V))=_
 rw [hx]
 have e1:rep 1 zero=zero:=by
  show dV zero []=zero
  rw [kR,List.append_nil]
 show (bif (eO row).beq n&&(Nat.add 0 n).ble (eO (rep 1 zero)) then some (kF 0 row (rep 1 zero)) else none)=_
 have e2:(Nat.add 0 n).ble n=true:=by rw [iM];simp
 rw [e1,fF,fF,hl,hz,Nat.beq_refl,e2]
 show some (dV row (jr (eO row) zero))=_
 rw [kR,jI,fF,hl,←hz,List.drop_length];simp
theorem dh.len {h:Heap}:∀{as:List (List Nd)} {vs:List V},dh h as vs→vs.length=as.length
 |[],[],_=>rfl
 |_::_,_::_,ha=>by simp [ha.2.len]
 |[],_::_,ha=>ha.elim
 |_::_,[],ha=>ha.elim
namespace Par
def fin (s:Sm) (l:List Tok):R Sm:=match must [59] l with
 | .error e=> .error e
 | .ok (_,l')=> .ok (s,l')
def fO (d:Nat):Nat→List Tok→List (List Nd)→R (List (List Nd))
 |0,_,_=> .error (0,0)
 |f+1,l,as=>if is [41] l=true then .ok (as,l.tail) else
   match as with
   |[]=>(match expr d l with
    | .error e=> .error e
    | .ok (e,l')=>fO d f l' [e])
   |a::as=>(match must [44] l with
    | .error e=> .error e
    | .ok (_,l1)=>match expr d l1 with
      | .error e=> .error e
      | .ok (e,l')=>fO d f l' ((a::as)++[e]))
structure Cl where
 has:Bool
 mod:List UInt8
 name:List UInt8
 tomod:List UInt8
 to:List UInt8
 args:List (List Nd)
def iY (d:Nat) (c:Cl) (l:List Tok):R Cl:=match must [40] l with
 | .error e=> .error e
 | .ok (_,l1)=>match fO d l1.length l1 [] with
   | .error e=> .error e
   | .ok (as,l2)=> .ok ({c with args:=as},l2)
def call (d:Nat) (l:List Tok):R Cl:=match fM l with
 | .error e=> .error e
 | .ok (q,l1)=>if is [61] l1=true then (match fM l1.tail with
     | .error e=> .error e
     | .ok (r,l2)=>iY d ⟨true,q.1,q.2,r.1,r.2,[]⟩ l2)
   else iY d ⟨false,[],[],q.1,q.2,[]⟩ l1
abbrev Bk:=Nat→List Tok→R (List Sm)
def iF (blk:Bk) (d a:Nat) (l:List Tok):R Sm:=match expr d l with
 | .error e=> .error e
 | .ok (e,l1)=>match blk d l1 with
   | .error e=> .error e
   | .ok (b,l2)=>if is [101,108,115,101] l2=true then (match blk d l2.tail with
       | .error e=> .error e
       | .ok (el,l3)=> .ok (.mk 5 a [] [] [] false [] [] e [] b el,l3))
     else .ok (.mk 5 a [] [] [] false [] [] e [] b [],l2)
def bP (blk:Bk) (d a:Nat) (l:List Tok):R Sm:=match expr d l with
 | .error e=> .error e
 | .ok (e,l1)=>match blk d l1 with
   | .error e=> .error e
   | .ok (b,l2)=> .ok (.mk 6 a [] [] [] false [] [] e [] b [],l2)
def fo (d a:Nat) (l:List Tok):R Sm:=match name l with
 | .error e=> .error e
 | .ok (n,l1)=>match must [58] l1 with
   | .error e=> .error e
   | .ok (_,l2)=>match name l2 with
     | .error e=> .error e
     | .ok (lb,l3)=>match must [61] l3 with
       | .error e=> .error e
       | .ok (_,l4)=>match expr d l4 with
         | .error e=> .error e
         | .ok (e,l5)=>fin (.mk 1 a [] n lb false [] [] e [] [] []) l5
def aZ (d a:Nat) (l:List Tok):R Sm:=match must [61] l with
 | .error e=> .error e
 | .ok (_,l1)=>match expr d l1 with
   | .error e=> .error e
   | .ok (e,l2)=>fin (.mk 3 a [] [] [] false [] [] e [] [] []) l2
def dG (d a:Nat) (l:List Tok):R Sm:=match call d l with
 | .error e=> .error e
 | .ok (c,l1)=>fin (.mk 4 a c.mod c.name [] c.has c.tomod c.to [] c.args [] []) l1
def dH (a:Nat) (l:List Tok):R Sm:=match name l with
 | .error e=> .error e
 | .ok (n,l1)=>fin (.mk 7 a [] n [] false [] [] [] [] [] []) l1
def dL (a:Nat) (l:List Tok):R Sm:=fin (.mk 8 a [] [] [] false [] [] [] [] [] []) l
def fC (d a:Nat) (l:List Tok):R Sm:=match fM l with
 | .error e=> .error e
 | .ok (q,l1)=>match must [61] l1 with
   | .error e=> .error e
   | .ok (_,l2)=>match expr d l2 with
     | .error e=> .error e
     | .ok (e,l3)=>fin (.mk 2 a q.1 q.2 [] false [] [] e [] [] []) l3
def cO (blk:Bk) (d:Nat) (l:List Tok):R Sm:=
 if is [105,102] l=true then iF blk d (here l) l.tail else
 if is [119,104,105,108,101] l=true then bP blk d (here l) l.tail else
 if is [108,101,116] l=true then fo d (here l) l.tail else
 if is [114,101,115,117,108,116] l=true then aZ d (here l) l.tail else
 if is [99,97,108,108] l=true then dG d (here l) l.tail else
 if is [101,109,105,116] l=true then dH (here l) l.tail else
 if is [115,107,105,112] l=true then dL (here l) l.tail else fC d (here l) l
def gF (stm:Nat→List Tok→R Sm) (d:Nat):Nat→List Tok→List Sm→R (List Sm)
 |0,_,_=> .error (0,0)
 |f+1,l,ss=>if is [125] l=true then .ok (ss,l.tail) else match stm d l with
  | .error e=> .error e
  | .ok (s,l')=>gF stm d f l' (ss++[s])
def jQ (stm:Nat→List Tok→R Sm):Bk:=fun d l=>if is [123] l=true then (if 40≤d then fail 12 l else gF stm (d+1) l.tail.length l.tail []) else fail 11 l
def stmt:Nat→Nat→List Tok→R Sm
 |0=>fun _ _=> .error (0,0)
 |f+1=>cO (jQ (stmt f))
def block (d:Nat) (l:List Tok):R (List Sm):=jQ (stmt l.length) d l
def Goes {α:Type} (g:Nat→List Tok→R α) (N:Nat):Prop:=∀d l a l',l.length≤N→g d l= .ok (a,l')→l'.length<l.length
end Par
theorem fV {d:Nat} {l l':List Tok} {ns:List Nd} (h:Par.expr d l= .ok (ns,l')):l'.length<l.length:=by
 unfold Par.expr at h
 have hg:∀f,Par.Good (Par.unary f) f:=by
  intro f
  induction f with
  |zero=>intro d l ns a ns' l' hl hr;cases hr
  |succ f ih=>exact zR ih
 cases hu:Par.whole (Par.unary l.length) d l [] with
 |error e=>simp only [hu] at h;cases h
 |ok x=>
  obtain ⟨⟨a,ns1⟩,l1⟩:=x
  simp only [hu] at h;cases h
  have hw:Par.Good (Par.whole (Par.unary l.length)) l.length:=wB (hg _)
  exact (hw (Nat.le_refl _) hu).1
theorem yK {d:Nat}:∀{f:Nat} {l l':List Tok} {as bs:List (List Nd)},Par.fO d f l as= .ok (bs,l')→l'.length<l.length
 |0,l,l',as,bs,h=>by cases h
 |f+1,l,l',as,bs,h=>by
  unfold Par.fO at h
  by_cases hi:Par.is [41] l=true
  · rw [if_pos hi] at h;cases h
    have:=Par.gu hi
    have htl:l.tail.length=l.length - 1:=List.length_tail
    omega
  · rw [if_neg hi] at h
    cases as with
    |nil=>
     cases he:Par.expr d l with
     |error e=>simp only [he] at h;cases h
     |ok x=>
      obtain ⟨e,l1⟩:=x
      simp only [he] at h
      have h1:=fV he
      have h2:=yK h
      omega
    |cons a as=>
     cases hm:Par.must [44] l with
     |error e=>simp only [hm] at h;cases h
     |ok x=>
      obtain ⟨q,l1⟩:=x
      simp only [hm] at h
      have h0:=Par.aV hm
      cases he:Par.expr d l1 with
      |error e=>simp only [he] at h;cases h
      |ok x=>
       obtain ⟨e,l2⟩:=x
       simp only [he] at h
       have h1:=fV he
       have h2:=yK h
       omega
theorem Dy {d:Nat} {l l':List Tok} {c c':Par.Cl} (h:Par.iY d c l= .ok (c',l')):l'.length<l.length:=by
 unfold Par.iY at h
 cases hm:Par.must [40] l with
 |error e=>simp only [hm] at h;cases h
 |ok x=>
  obtain ⟨q,l1⟩:=x
  simp only [hm] at h
  have h0:=Par.aV hm
  cases ha:Par.fO d l1.length l1 [] with
  |error e=>simp only [ha] at h;cases h
  |ok x=>
   obtain ⟨as,l2⟩:=x
   simp only [ha] at h;cases h
   have:=yK ha
   omega
theorem OH {d:Nat} {l l':List Tok} {c:Par.Cl} (h:Par.call d l= .ok (c,l')):l'.length<l.length:=by
 unfold Par.call at h
 cases hq:Par.fM l with
 |error e=>simp only [hq] at h;cases h
 |ok x=>
  obtain ⟨q,l1⟩:=x
  simp only [hq] at h
  have h0:=Par.uW hq
  by_cases hi:Par.is [61] l1=true
  · rw [if_pos hi] at h
    cases hr:Par.fM l1.tail with
    |error e=>simp only [hr] at h;cases h
    |ok x=>
     obtain ⟨r,l2⟩:=x
     simp only [hr] at h
     have h1:=Par.uW hr
     have h2:=Dy h
     have htl:l1.tail.length=l1.length - 1:=List.length_tail
     omega
  · rw [if_neg hi] at h
    have:=Dy h
    omega
end
end Go.Eng
namespace Go.Eng
noncomputable section
structure Pm where
 name:List UInt8
 label:List UInt8
 at_:Nat
def Pm.row (x:Pm):List V:=[L.str x.name,L.str x.label, .int .i64 (x.at_:Int)]
structure Vr where
 name:List UInt8
 label:List UInt8
 init:Int
 at_:Nat
def Vr.row (x:Vr):List V:=[L.str x.name,L.str x.label, .int .i64 x.init, .int .i64 (x.at_:Int)]
structure Im where
 name:List UInt8
 at_:Nat
def Im.row (x:Im):List V:=[L.str x.name, .int .i64 (x.at_:Int)]
structure Pr where
 name:List UInt8
 params:List Pm
 has:Bool
 result:List UInt8
 pc:List UInt8
 uses:List (List UInt8)
 body:List Sm
 at_:Nat
def fH (u:List UInt8):List V:=[L.str u]
def PrR (h:Heap) (p:Pr) (row:List V):Prop:=∃vp vu vb,row=[L.str p.name,vp, .bool p.has,L.str p.result,L.str p.pc,vu,vb, .int .i64 (p.at_:Int)]∧Rows 3 h vp (p.params.map Pm.row)∧Rows 1 h vu (p.uses.map fH)∧pJ h vb p.body
def cB (h:Heap):List Pr→List (List V)→Prop
 |[],rows=>rows=[]
 |p::l,rows=>∃r rs,rows=r::rs∧PrR h p r∧cB h l rs
structure Md where
 name:List UInt8
 at_:Nat
 imports:List Im
 vars:List Vr
 procs:List Pr
def MdR (h:Heap) (m:Md) (row:List V):Prop:=∃vi vv vp,row=[L.str m.name, .int .i64 (m.at_:Int),vi,vv,vp]∧Rows 2 h vi (m.imports.map Im.row)∧Rows 4 h vv (m.vars.map Vr.row)∧∃rows,Rows 8 h vp rows∧cB h m.procs rows
theorem cB.nil {h:Heap}:cB h [] []:=rfl
theorem cB.snoc {h:Heap}:∀{l:List Pr} {rows:List (List V)} {s:Pr} {row:List V},cB h l rows→PrR h s row→cB h (l++[s]) (rows++[row])
 |[],rows,s,row,hl,hs=>by
  have hl:rows=[]:=hl
  subst hl;exact ⟨row,[],rfl,hs,rfl⟩
 |a::l,rows,s,row,hl,hs=>by
  obtain ⟨r,rs,rfl,h1,h2⟩:=hl
  exact ⟨r,rs++[row],rfl,h1,h2.snoc hs⟩
namespace Par
def bU {α:Type} (one:α→List Tok→R α) (e:List UInt8):Nat→Nat→List Tok→α→R α
 |0,_,_,_=> .error (0,0)
 |f+1,n,l,x=>if is e l=true then .ok (x,l.tail) else
   if n=0 then (match one x l with
    | .error e=> .error e
    | .ok (y,l')=>bU one e f 1 l' y)
   else (match must [44] l with
    | .error e=> .error e
    | .ok (_,l1)=>match one x l1 with
      | .error e=> .error e
      | .ok (y,l')=>bU one e f (n+1) l' y)
def several {α:Type} (one:α→List Tok→R α) (e:List UInt8) (l:List Tok) (x:α):R α:=bU one e l.length 0 l x
def pO (x:List Pm) (l:List Tok):R (List Pm):=match name l with
 | .error e=> .error e
 | .ok (n,l1)=>match must [58] l1 with
   | .error e=> .error e
   | .ok (_,l2)=>match name l2 with
     | .error e=> .error e
     | .ok (b,l3)=> .ok (x++[⟨n,b,here l⟩],l3)
def use (x:List (List UInt8)) (l:List Tok):R (List (List UInt8)):=match name l with
 | .error e=> .error e
 | .ok (n,l1)=> .ok (x++[n],l1)
def dW (d:Nat) (q:Pr) (l:List Tok):R Pr:=match must [112,99] l with
 | .error e=> .error e
 | .ok (_,l1)=>match name l1 with
   | .error e=> .error e
   | .ok (pc,l2)=>match must [117,115,101,115] l2 with
     | .error e=> .error e
     | .ok (_,l3)=>match must [123] l3 with
       | .error e=> .error e
       | .ok (_,l4)=>match several use [125] l4 [] with
         | .error e=> .error e
         | .ok (us,l5)=>match block d l5 with
           | .error e=> .error e
           | .ok (b,l6)=> .ok ({q with pc:=pc,uses:=us,body:=b},l6)
def proc (d:Nat) (l:List Tok):R Pr:=match name l with
 | .error e=> .error e
 | .ok (n,l1)=>match must [40] l1 with
   | .error e=> .error e
   | .ok (_,l2)=>match several pO [41] l2 [] with
     | .error e=> .error e
     | .ok (ps,l3)=>if is [45,62] l3=true then (match name l3.tail with
         | .error e=> .error e
         | .ok (r,l4)=>dW d ⟨n,ps,true,r,[],[],[],here l⟩ l4)
       else dW d ⟨n,ps,false,[],[],[],[],here l⟩ l3
def iG (n lb:List UInt8) (at_:Nat) (neg:Bool) (l:List Tok):R Vr:=match number l with
 | .error e=> .error e
 | .ok (k,l1)=>match must [59] l1 with
   | .error e=> .error e
   | .ok (_,l2)=> .ok (⟨n,lb,if neg then -(k:Int) else (k:Int),at_⟩,l2)
def lH (l:List Tok):R Vr:=match name l with
 | .error e=> .error e
 | .ok (n,l1)=>match must [58] l1 with
   | .error e=> .error e
   | .ok (_,l2)=>match name l2 with
     | .error e=> .error e
     | .ok (b,l3)=>match must [61] l3 with
       | .error e=> .error e
       | .ok (_,l4)=>if is [45] l4=true then iG n b (here l) true l4.tail else iG n b (here l) false l4
def fq:Nat→List Tok→List Im→R (List Im)
 |0,_,_=> .error (0,0)
 |f+1,l,x=>if is [105,109,112,111,114,116] l=true then (match name l.tail with
   | .error e=> .error e
   | .ok (n,l1)=>match must [59] l1 with
     | .error e=> .error e
     | .ok (_,l2)=>fq f l2 (x++[⟨n,here l.tail⟩]))
  else .ok (x,l)
def bO (d:Nat):Nat→List Tok→List Vr→List Pr→R (List Vr×List Pr)
 |0,_,_,_=> .error (0,0)
 |f+1,l,vs,ps=>if (hd l).kind=0 then .ok ((vs,ps),l) else
   if is [118,97,114] l=true then (match lH l.tail with
    | .error e=> .error e
    | .ok (v,l1)=>bO d f l1 (vs++[v]) ps)
   else (match must [112,114,111,99] l with
    | .error e=> .error e
    | .ok (_,l1)=>match proc d l1 with
      | .error e=> .error e
      | .ok (p,l2)=>bO d f l2 vs (ps++[p]))
def gT (d:Nat) (l:List Tok):R Md:=match must [109,111,100,117,108,101] l with
 | .error e=> .error e
 | .ok (_,l1)=>match name l1 with
   | .error e=> .error e
   | .ok (n,l2)=>match must [59] l2 with
     | .error e=> .error e
     | .ok (_,l3)=>match fq l3.length l3 [] with
       | .error e=> .error e
       | .ok (is,l4)=>match bO d l4.length l4 [] [] with
         | .error e=> .error e
         | .ok (x,l5)=> .ok (⟨n,here l1,is,x.1,x.2⟩,l5)
def oq:Nat→List Tok→List UInt8→List Pm→Bool→R ((List UInt8×Bool)×List Pm)
 |0,_,_,_,_=> .error (0,0)
 |f+1,l,last,x,alone=>if is [60] l=true then (match name l.tail with
   | .error e=> .error e
   | .ok (n,l1)=>oq f l1 n (x++[⟨last,n,here l.tail⟩]) false)
  else .ok (((last,alone),x),l)
def gH:Nat→List Tok→List Pm→R (List Pm)
 |0,_,_=> .error (0,0)
 |f+1,l,x=>if (hd l).kind=0 then .ok (x,l) else match name l with
  | .error e=> .error e
  | .ok (n,l1)=>match oq l1.length l1 n x true with
    | .error e=> .error e
    | .ok (((last,alone),y),l2)=>match must [59] l2 with
      | .error e=> .error e
      | .ok (_,l3)=>gH f l3 (if alone then y++[⟨last,[],here l⟩] else y)
def labels (l:List Tok):R (List Pm):=match must [108,97,98,101,108,115] l with
 | .error e=> .error e
 | .ok (_,l1)=>gH l1.length l1 []
end Par
theorem Left.rb_ {p:RP} {i:Nat} {l:List Tok} (h:Left p i l) (b:Nat):Left {p with rb:=b} i l:=⟨h.drop,h.ne,h.last,h.num,h.small⟩
theorem Par.Mi {p:RP} {i:Nat} {l l':List Tok} {n:Nat} (h:Left p i l) (hn:Par.number l= .ok (n,l')):n<1000000000:=by
 unfold Par.number at hn
 cases ho:Par.of 2 l with
 |error e=>rw [ho] at hn;cases hn
 |ok x=>
  obtain ⟨t,l1⟩:=x
  rw [ho] at hn;cases hn
  have hd:=Par.OE h ho
  have:=hd.bound t.text.length
  rwa [List.take_length] at this
end
end Go.Eng
namespace Go.Eng
noncomputable section
namespace Lex
def small (c:UInt8):Bool:=decide (97≤c.toNat)&&decide (c.toNat≤122)
def digit (c:UInt8):Bool:=decide (48≤c.toNat)&&decide (c.toNat≤57)
def within (c:UInt8):Bool:=small c||(digit c||decide (c.toNat=95))
def j6 (c:UInt8):Bool:=decide (c.toNat≠10)
def blank (c:UInt8):Bool:=decide (c.toNat=32)||(decide (c.toNat=9)||(decide (c.toNat=10)||decide (c.toNat=13)))
def keys:List (List UInt8):=[[109,111,100,117,108,101],[105,109,112,111,114,116],[118,97,114],[112,114,111,99],[112,99],[117,115,101,115],[108,101,116],[99,97,108,108],[105,102],[101,108,115,101],[119,104,105,108,101],[101,109,105,116],[114,101,115,117,108,116],[115,107,105,112],[108,97,98,101,108,115]]
def kD:List (List UInt8):=[[61,61],[60,61],[45,62]]
def ones:List UInt8:=[40,41,123,125,44,59,58,46,61,60,43,45,42,47,37,33]
def iD (p l:List UInt8):Bool:=decide (p.length≤l.length)&&decide (l.take p.length=p)
def sign (l:List UInt8):List UInt8:=match kD.find? (iD · l) with
 |some t=>t
 |none=>match l with
  |[]=>[]
  |c::_=>if 0≤Lib.indexByte ones c then [c] else []
def word (w:List UInt8):Nat×Nat:=if w∈keys then (3,0) else if w.length>20 then (0,9) else (1,0)
def number (w f:List UInt8):Nat×Nat:=if w.length>9 then (0,9) else
 if w.head? =some 48∧w.length>1 then (0,10) else
 match f with
 |[]=>(2,0)
 |c::_=>if within c then (0,10) else (2,0)
def put (t:Nat×Nat) (w:List UInt8) (pos:Nat) (out:List Tok) (k:List Tok→Except (Nat×Nat) (List Tok)):Except (Nat×Nat) (List Tok):=if t.2≠0 then .error (t.2,pos) else k (out++[⟨t.1,w,pos⟩])
def all:Nat→Nat→List UInt8→List Tok→Except (Nat×Nat) (List Tok)
 |0,_,_,_=> .error (0,0)
 |_+1,pos,[],out=> .ok (out++[⟨0,[],pos⟩])
 |f+1,pos,c::r,out=>
  if blank c then all f (pos+1) r out else
  if c.toNat=35 then all f (pos+((c::r).takeWhile j6).length) ((c::r).drop ((c::r).takeWhile j6).length) out else
  if small c then put (word ((c::r).takeWhile within)) ((c::r).takeWhile within) pos out (all f (pos+((c::r).takeWhile within).length) ((c::r).drop ((c::r).takeWhile within).length)) else
  if digit c then put (number ((c::r).takeWhile digit) ((c::r).drop ((c::r).takeWhile digit).length)) ((c::r).takeWhile digit) pos out (all f (pos+((c::r).takeWhile digit).length) ((c::r).drop ((c::r).takeWhile digit).length)) else
  put (if sign (c::r)=[] then (4,10) else (4,0)) (sign (c::r)) pos out (all f (pos+(sign (c::r)).length) ((c::r).drop (sign (c::r)).length))
def lex (s:List UInt8):Except (Nat×Nat) (List Tok):=if 8192<s.length then .error (9,8192) else all (s.length+1) 0 s []
end Lex
theorem tT {f:UInt8→Bool} {l:List UInt8} {k:Nat} {c:UInt8} (hk:l[k]? =some c) (hf:f c=true):(l.drop k).takeWhile f=c::(l.drop (k+1)).takeWhile f:=by
 obtain ⟨hlt,rfl⟩:=List.getElem?_eq_some_iff.1 hk
 rw [List.drop_eq_getElem_cons hlt,List.takeWhile_cons,if_pos hf]
theorem BF {f:UInt8→Bool} {l:List UInt8} {k:Nat} {c:UInt8} (hk:l[k]? =some c) (hf:f c=false):(l.drop k).takeWhile f=[]:=by
 obtain ⟨hlt,rfl⟩:=List.getElem?_eq_some_iff.1 hk
 rw [List.drop_eq_getElem_cons hlt,List.takeWhile_cons,if_neg (by simp [hf])]
theorem BG {α:Type} {p:α→Bool}:∀{l:List α} {k:Nat} {x:α},l[k]? =some x→(∀j y,l[j]? =some y→j<k→p y=false)→p x=true→l.find? p=some x
 |[],k,x,h,_,_=>by simp at h
 |a::l,0,x,h,_,hp=>by simp at h;subst h;simp [hp]
 |a::l,k+1,x,h,hno,hp=>by
  have h0:=hno 0 a rfl (by omega)
  rw [List.find?_cons,h0]
  exact BG (by simpa using h) (fun j y hj hlt=>hno (j+1) y (by simpa using hj) (by omega)) hp
theorem wD {α:Type} {p:α→Bool} {l:List α} (hno:∀j y,l[j]? =some y→j<l.length→p y=false):l.find? p=none:=by
 rw [List.find?_eq_none]
 intro x hx
 obtain ⟨j,hj⟩:=List.mem_iff_getElem?.1 hx
 simp [hno j x hj (List.getElem?_eq_some_iff.1 hj).1]
def Dz (ts:List Tok):Prop:=∀t∈ts,t.kind=2→pG t.text
theorem Dz.snoc {ts:List Tok} {t:Tok} (h:Dz ts) (ht:t.kind=2→pG t.text):Dz (ts++[t]):=by
 intro u hu
 rcases List.mem_append.1 hu with hu|hu
 · exact h u hu
 · simp at hu;subst hu;exact ht
theorem Lex.wE {t:Nat×Nat} {w:List UInt8} {pos:Nat} {out ts:List Tok} {k:List Tok→Except (Nat×Nat) (List Tok)} (h:Lex.put t w pos out k= .ok ts):t.2=0∧k (out++[⟨t.1,w,pos⟩])= .ok ts:=by
 unfold Lex.put at h
 by_cases he:t.2≠0
 · rw [if_pos he] at h;cases h
 · rw [if_neg he] at h;exact ⟨by omega,h⟩
theorem Lex.Mj (w:List UInt8):(Lex.word w).1≠2:=by
 unfold Lex.word;split
 · decide
 · split<;>decide
theorem Lex.CO {w f:List UInt8} (hw:∀b∈w,Lex.digit b=true) (hne:w≠[]) (h:(Lex.number w f).2=0):pG w:=by
 refine ⟨hne, ?_,fun b hb=> ?_⟩
 · unfold Lex.number at h
   by_cases hl:w.length>9
   · rw [if_pos hl] at h;cases h
   · omega
 · have:=hw b hb
   simp [Lex.digit] at this;exact this
theorem jP {α:Type} {p:α→Bool}:∀{l:List α} {x:α},x∈l.takeWhile p→p x=true
 |[],x,h=>by simp at h
 |a::l,x,h=>by
  rw [List.takeWhile_cons] at h
  by_cases hp:p a=true
  · rw [if_pos hp] at h
    rcases List.mem_cons.1 h with rfl|h
    · exact hp
    · exact jP h
  · rw [if_neg hp] at h;simp at h
theorem Lex.wF:∀{f pos:Nat} {r:List UInt8} {out ts:List Tok},Lex.all f pos r out= .ok ts→Dz out→∃us a,ts=us++[⟨0,[],a⟩]∧Dz us
 |0,_,_,_,_,h,_=>by cases h
 |f+1,pos,[],out,ts,h,ho=>by
  simp only [Lex.all] at h;cases h;exact ⟨out,pos,rfl,ho⟩
 |f+1,pos,c::r,out,ts,h,ho=>by
  simp only [Lex.all] at h
  by_cases h1:Lex.blank c=true
  · rw [if_pos h1] at h;exact Lex.wF h ho
  rw [if_neg h1] at h
  by_cases h2:c.toNat=35
  · rw [if_pos h2] at h;exact Lex.wF h ho
  rw [if_neg h2] at h
  by_cases h3:Lex.small c=true
  · rw [if_pos h3] at h
    obtain ⟨e0,h⟩:=Lex.wE h
    exact Lex.wF h (ho.snoc fun hk=>absurd hk (Lex.Mj _))
  rw [if_neg h3] at h
  by_cases h4:Lex.digit c=true
  · rw [if_pos h4] at h
    obtain ⟨e0,h⟩:=Lex.wE h
    refine Lex.wF h (ho.snoc fun _=>Lex.CO (fun b hb=>jP hb) ?_ e0)
    rw [List.takeWhile_cons,if_pos h4];simp
  rw [if_neg h4] at h
  obtain ⟨e0,h⟩:=Lex.wE h
  refine Lex.wF h (ho.snoc fun hk=> ?_)
  by_cases hs:Lex.sign (c::r)=[]
  · simp [hs] at e0
  · simp [hs] at hk
theorem Left.start {p:RP} {us:List Tok} {a:Nat} (h:p.ts=us++[⟨0,[],a⟩]) (hn:Dz us) (hs:p.ts.length<4294967296):Left p 0 p.ts:=by
 refine ⟨rfl,by rw [h];simp,fun t ht=> ?_,fun t ht hk=> ?_,hs⟩
 · rw [h] at ht;simp at ht;rw [←ht]
 · rw [h] at ht
   rcases List.mem_append.1 ht with ht|ht
   · exact hn t ht hk
   · simp at ht;subst ht;cases hk
theorem Lex.o8:∀{f pos:Nat} {r:List UInt8} {out ts:List Tok},Lex.all f pos r out= .ok ts→ts.length≤out.length+f
 |0,_,_,_,_,h=>by cases h
 |f+1,pos,[],out,ts,h=>by
  simp only [Lex.all] at h;cases h;simp
 |f+1,pos,c::r,out,ts,h=>by
  simp only [Lex.all] at h
  by_cases h1:Lex.blank c=true
  · rw [if_pos h1] at h;have:=Lex.o8 h;omega
  rw [if_neg h1] at h
  by_cases h2:c.toNat=35
  · rw [if_pos h2] at h;have:=Lex.o8 h;omega
  rw [if_neg h2] at h
  by_cases h3:Lex.small c=true
  · rw [if_pos h3] at h
    have:=Lex.o8 (Lex.wE h).2;simp at this;omega
  rw [if_neg h3] at h
  by_cases h4:Lex.digit c=true
  · rw [if_pos h4] at h
    have:=Lex.o8 (Lex.wE h).2;simp at this;omega
  rw [if_neg h4] at h
  have:=Lex.o8 (Lex.wE h).2;simp at this;omega
end
end Go.Eng
namespace Go.Eng
noncomputable section
theorem Gt (c:UInt8):∀l:List UInt8,0≤Lib.indexByte l c↔c∈l
 |[]=>by simp [Lib.indexByte]
 |b::l=>by
  have ih:=Gt c l
  have hge:=Lib.indexByte_ge l c
  unfold Lib.indexByte
  by_cases h:b=c
  · subst h;simp
  · have h2:(b==c)=false:=by simpa using h
    rw [h2]
    have h3:¬c=b:=fun e=>h e.symm
    simp only [List.mem_cons,h3,false_or]
    rw [←ih]
    by_cases h4:Lib.indexByte l c= -1
    · simp [h4]
    · have:(Lib.indexByte l c== -1)=false:=by simpa using h4
      rw [this];simp only [Bool.false_eq_true,if_false];omega
theorem Gu {l t:List UInt8} (ht:t∈Lex.kD) (hl:l.take 2=t):Lex.sign l=t:=by
 have hlen:t.length=2:=by simp [Lex.kD] at ht;rcases ht with rfl|rfl|rfl<;>rfl
 have h2:2≤l.length:=by have:=congrArg List.length hl;rw [List.length_take,hlen] at this;omega
 unfold Lex.sign
 have hp:∀u,u∈Lex.kD→Lex.iD u l=decide (u=t):=by
  intro u hu
  have:u.length=2:=by simp [Lex.kD] at hu;rcases hu with rfl|rfl|rfl<;>rfl
  unfold Lex.iD;rw [this,hl]
  have e:decide (2≤l.length)=true:=decide_eq_true h2
  rw [e,Bool.true_and]
  by_cases h:t=u
  · subst h;simp
  · have:¬u=t:=fun e=>h e.symm
    simp [h,this]
 have:Lex.kD.find? (Lex.iD · l)=some t:=by
  simp only [Lex.kD,List.find?] at ht ⊢
  have h1:=hp [61,61] (by simp [Lex.kD]);have h2:=hp [60,61] (by simp [Lex.kD]);have h3:=hp [45,62] (by simp [Lex.kD])
  simp at ht
  rcases ht with rfl|rfl|rfl
  · rw [h1];rfl
  · rw [h1,h2];rfl
  · rw [h1,h2,h3];rfl
 rw [this]
theorem sign_one {c:UInt8} {r:List UInt8} (hn:(c::r).take 2∉Lex.kD):Lex.sign (c::r)=if c∈Lex.ones then [c] else []:=by
 unfold Lex.sign
 have:Lex.kD.find? (Lex.iD · (c::r))=none:=by
  rw [List.find?_eq_none]
  intro u hu hp
  have hlen:u.length=2:=by simp [Lex.kD] at hu;rcases hu with rfl|rfl|rfl<;>rfl
  unfold Lex.iD at hp;rw [hlen] at hp;simp at hp
  exact hn (by rw [show (c::r).take 2=c::r.take 1 from rfl,of_decide_eq_true hp.2];exact hu)
 rw [this]
 simp only [Gt]
theorem keys_len {w:List UInt8} (h:w∈Lex.keys):w.length≤20:=by
 have:∀w∈Lex.keys,w.length≤20:=by decide
 exact this w h
theorem Mk {f:UInt8→Bool} (l:List UInt8):(l.takeWhile f).length≤l.length:=by
 induction l with
 |nil=>simp
 |cons a l ih=>rw [List.takeWhile_cons];split<;>simp<;>omega
theorem kr {g k:Nat} {s:List UInt8} {ts:List Tok} {b:UInt8} (hb:s[k]? =some b):
  Lex.all (g+1) k (s.drop k) ts=
  if Lex.blank b then Lex.all g (k+1) (s.drop (k+1)) ts else
  if b.toNat=35 then Lex.all g (k+((s.drop k).takeWhile Lex.j6).length) (s.drop (k+((s.drop k).takeWhile Lex.j6).length)) ts else
  if Lex.small b then Lex.put (Lex.word ((s.drop k).takeWhile Lex.within)) ((s.drop k).takeWhile Lex.within) k ts (Lex.all g (k+((s.drop k).takeWhile Lex.within).length) (s.drop (k+((s.drop k).takeWhile Lex.within).length))) else
  if Lex.digit b then Lex.put (Lex.number ((s.drop k).takeWhile Lex.digit) (s.drop (k+((s.drop k).takeWhile Lex.digit).length))) ((s.drop k).takeWhile Lex.digit) k ts (Lex.all g (k+((s.drop k).takeWhile Lex.digit).length) (s.drop (k+((s.drop k).takeWhile Lex.digit).length))) else
  Lex.put (if Lex.sign (s.drop k)=[] then (4,10) else (4,0)) (Lex.sign (s.drop k)) k ts (Lex.all g (k+(Lex.sign (s.drop k)).length) (s.drop (k+(Lex.sign (s.drop k)).length))):=by
 obtain ⟨hlt,rfl⟩:=List.getElem?_eq_some_iff.1 hb
 have hd:=List.drop_eq_getElem_cons hlt
 rw [hd];simp only [Lex.all];rw [←hd];simp only [List.drop_drop]
theorem yL {f:UInt8→Bool} {s:List UInt8} {k:Nat} {b:UInt8} (hb:s[k]? =some b) (hf:f b=true):0<((s.drop k).takeWhile f).length∧k+((s.drop k).takeWhile f).length≤s.length∧((s.drop k).takeWhile f).head? =some b:=by
 have h1:=Mk (f:=f) (s.drop k)
 have h2:=(List.getElem?_eq_some_iff.1 hb).1
 rw [List.length_drop] at h1
 refine ⟨?_,by omega, ?_⟩<;>rw [tT hb hf]<;>simp
theorem E9 (l:List UInt8):(Lex.sign l).length≤l.length:=by
 unfold Lex.sign
 cases e:Lex.kD.find? (Lex.iD · l) with
 |some t=>
  have:=List.find?_some e
  simp [Lex.iD] at this;exact this.1
 |none=>
  cases l with
  |nil=>simp
  |cons c r=>simp only;split<;>simp
theorem tw_take {f:UInt8→Bool}:∀l:List UInt8,l.take (l.takeWhile f).length=l.takeWhile f
 |[]=>rfl
 |a::l=>by
  rw [List.takeWhile_cons]
  split
  · rw [List.length_cons,List.take_succ_cons,tw_take l]
  · rfl
theorem drop_at {l:List UInt8} {i:Nat} {b:UInt8} (h:l[i]? =some b):l.drop i=b::l.drop (i+1):=by
 obtain ⟨hlt,rfl⟩:=List.getElem?_eq_some_iff.1 h
 exact List.drop_eq_getElem_cons hlt
theorem KD {f:UInt8→Bool}:∀{l:List UInt8} {b:UInt8},l[(l.takeWhile f).length]? =some b→f b=false
 |[],b,h=>by simp at h
 |a::l,b,h=>by
  rw [List.takeWhile_cons] at h
  by_cases hf:f a=true
  · rw [if_pos hf] at h;exact KD (l:=l) (by simpa using h)
  · rw [if_neg hf] at h;simp at h;subst h;simpa using hf
theorem tw_stop {f:UInt8→Bool} {s:List UInt8} {k:Nat} {b:UInt8} (h:s[k+((s.drop k).takeWhile f).length]? =some b):f b=false:=KD (l:=s.drop k) (by rw [List.getElem?_drop];exact h)
theorem L.ssubE {ev:Ev} {h:Heap} {x:A} {l m:List UInt8} {lo hi:Option A} {i j:Nat} (hx:ev x=L.str l) (hj:bF hi ev l.length=some j) (hi':bF lo ev 0=some i) (hij:i≤j) (hjl:j≤l.length) (hm:(l.drop i).take (j - i)=m):light (.sstr x lo hi) ev h= .val (L.str m):=by subst hm;exact L.Jk hx hj hi' hij hjl
theorem take2_len {l:List UInt8} (h:l.take 2∈Lex.kD):2≤l.length:=by
 have:∀t∈Lex.kD,t.length=2:=by decide
 have:=this _ h
 rw [List.length_take] at this;omega
def Par.text (s:List UInt8):Except (Nat×Nat) Md:=match Lex.lex s with
 | .error x=> .error x
 | .ok ts=>match Par.gT 0 ts with
   | .error x=> .error x
   | .ok (m,_)=> .ok m
def Par.rows (s:List UInt8):Except (Nat×Nat) (List Pm):=match Lex.lex s with
 | .error x=> .error x
 | .ok ts=>match Par.labels ts with
   | .error x=> .error x
   | .ok (m,_)=> .ok m
theorem KE {fs:List Fact} {h:Heap} {x:V} {ts:List Tok} (st:St (.stb (fun h=>Rows 3 h x (ts.map Tok.row))::fs) h) (hne:ts≠[]):∃p:RP,p.ts=ts∧x= .sl p.tb p.to p.ts.length p.cap:=by
 have hr:=st.aF 0 rfl
 cases ts with
 |nil=>exact absurd rfl hne
 |cons t ts=>
  generalize hl:(t::ts).map Tok.row=rows at hr
  cases hr with
  |nil=>cases hl
  |row _ _ _ _ _ _=>exact ⟨⟨0,_,_,_,t::ts⟩,rfl,by rw [show (t::ts).length=_ from (List.length_map (as:=t::ts) Tok.row).symm,hl]⟩
theorem Fa {s:List UInt8} {ts:List Tok} (h:Lex.lex s= .ok ts) (p:RP) (hp:p.ts=ts):Left p 0 p.ts∧ts≠[]:=by
 unfold Lex.lex at h
 by_cases hs:8192<s.length
 · rw [if_pos hs] at h;cases h
 · rw [if_neg hs] at h
   obtain ⟨us,a,e,hn⟩:=Lex.wF h (fun t ht=>by simp at ht)
   have hlen:=Lex.o8 h
   subst hp
   exact ⟨Left.start e hn (by simp at hlen;omega),by rw [e];simp⟩
theorem wG {t:Nat×Nat} {w:List UInt8} {pos:Nat} {out:List Tok} {k:List Tok→Except (Nat×Nat) (List Tok)} {e a:Nat} (h:Lex.put t w pos out k= .error (e,a)):(e≠0)∨k (out++[⟨t.1,w,pos⟩])= .error (e,a):=by
 unfold Lex.put at h
 by_cases he:t.2≠0
 · rw [if_pos he] at h;cases h;exact Or.inl he
 · rw [if_neg he] at h;exact Or.inr h
theorem mg:∀{f pos:Nat} {r:List UInt8} {out:List Tok} {e a:Nat},r.length<f→Lex.all f pos r out= .error (e,a)→e≠0
 |0,_,_,_,_,_,hf,_=>by omega
 |f+1,pos,[],out,e,a,hf,h=>by simp only [Lex.all] at h;cases h
 |f+1,pos,c::r,out,e,a,hf,h=>by
  simp only [Lex.all] at h
  have hl:r.length<f:=by simp at hf;omega
  have hd:∀n,0<n→((c::r).drop n).length<f:=fun n hn=>by rw [List.length_drop,List.length_cons];omega
  by_cases h1:Lex.blank c=true
  · rw [if_pos h1] at h;exact mg hl h
  rw [if_neg h1] at h
  by_cases h2:c.toNat=35
  · rw [if_pos h2] at h;exact mg (hd _ (yL (s:=c::r) (k:=0) rfl (by simp [Lex.j6,h2])).1) h
  rw [if_neg h2] at h
  by_cases h3:Lex.small c=true
  · rw [if_pos h3] at h
    exact (wG h).elim id fun h=>mg (hd _ (yL (s:=c::r) (k:=0) rfl (by simp [Lex.within,h3])).1) h
  rw [if_neg h3] at h
  by_cases h4:Lex.digit c=true
  · rw [if_pos h4] at h
    exact (wG h).elim id fun h=>mg (hd _ (yL (s:=c::r) (k:=0) rfl h4).1) h
  rw [if_neg h4] at h
  by_cases hs:Lex.sign (c::r)=[]
  · rw [if_pos hs] at h;unfold Lex.put at h;rw [if_pos (by decide)] at h;cases h;decide
  · exact (wG h).elim id fun h=>mg (hd _ (List.length_pos_iff.2 hs)) h
theorem Fb {s:List UInt8} {e a:Nat} (h:Lex.lex s= .error (e,a)):e≠0:=by
 unfold Lex.lex at h
 by_cases hs:8192<s.length
 · rw [if_pos hs] at h;cases h;decide
 · rw [if_neg hs] at h;exact mg (by omega) h
namespace Par
variable {α β:Type}
abbrev SQ:=Except (Nat×Nat) (List Tok)
def bn (r:R α) (f:α→List Tok→R β):R β:=match r with
 | .error e=> .error e
 | .ok (x,l)=>f x l
def Res (S:SQ) (f:List Tok→R α) (x:α) (S':SQ):Prop:=match S with
 | .error z=>S'= .error z
 | .ok l=>match f l with
   | .error z=>S'= .error z
   | .ok (y,l')=>x=y∧S'= .ok l'
def isS (s:List UInt8):SQ→Bool
 | .ok l=>is s l
 | .error _=>false
variable {S S1 S2:SQ} {f g:List Tok→R α} {x:α} {y:β}
theorem Res.bn {g:α→List Tok→R β} (h1:Res S f x S1) (h2:Res S1 (g x) y S2):Res S (fun l=>Par.bn (f l) g) y S2:=by
 cases S with
 |error z=>obtain rfl:S1= .error z:=h1;exact h2
 |ok l=>
  unfold Res at h1 ⊢
  simp only at h1 ⊢
  cases hf:f l with
  |error z=>rw [hf] at h1;obtain rfl:S1= .error z:=h1;exact h2
  |ok q=>obtain ⟨q,l'⟩:=q;rw [hf] at h1;obtain ⟨rfl,rfl⟩:=h1;exact h2
theorem Res.no {s:List UInt8} {A B:List Tok→R α} (hi:isS s S=false) (h:Res S B x S1):Res S (fun l=>if is s l=true then A l else B l) x S1:=by
 cases S with
 |error z=>exact h
 |ok l=>
  have hi:is s l=false:=hi
  unfold Res at h ⊢;simp only [hi] at h ⊢;exact h
theorem Res.yes {s:List UInt8} {l:List Tok} {A B:List Tok→R α} (hi:is s l=true) (h:Res (.ok l) A x S1):Res (.ok l) (fun l=>if is s l=true then A l else B l) x S1:=by
 unfold Res at h ⊢;simp only [hi] at h ⊢;exact h
theorem Res.pure (S:SQ) (x:α):Res S (fun l=> .ok (x,l)) x S:=by cases S with
 |error z=>rfl
 |ok l=>exact ⟨rfl,rfl⟩
theorem Res.cast (h:∀l,S= .ok l→f l=g l) (r:Res S f x S1):Res S g x S1:=by cases S with
 |error z=>exact r
 |ok l=>unfold Res at r ⊢;simp only [h l rfl] at r;exact r
def SQ.len:SQ→Nat
 | .ok l=>l.length
 | .error _=>0
theorem Res.len {F:Nat→List Tok→R α} (r:Res S (F S.len) x S1):Res S (fun l=>F l.length l) x S1:=by cases S with
 |error z=>exact r
 |ok l=>exact r
theorem Res.err {z:Nat×Nat}:Res (.error z) f x (.error z):=rfl
theorem Res.rQ {l l':List Tok} {y:α} (hf:f l= .ok (y,l')):Res (.ok l) f y (.ok l'):=by unfold Res;simp [hf]
theorem Res.qR {l:List Tok} {z:Nat×Nat} (hf:f l= .error z):Res (.ok l) f x (.error z):=by unfold Res;simp only [hf]
end Par
def RP.xbox (p:RP) (i d e a:Nat):Fact:= .box p.rb [.sl p.tb p.to p.ts.length p.cap, .int .i64 (i:Int), .int .i64 (d:Int), .int .i64 (e:Int), .int .i64 (a:Int)]
inductive XAt (p:RP):Nat→Nat→Nat→Par.SQ→Prop
 |ok {i:Nat} {l:List Tok} (h:Left p i l):XAt p i 0 0 (.ok l)
 |err {i e a:Nat} (he:e≠0) (hi:i<p.ts.length) (hs:p.ts.length<4294967296):XAt p i e a (.error (e,a))
namespace XAt
variable {p:RP} {i e a:Nat} {S:Par.SQ}
theorem lt (h:XAt p i e a S):i<p.ts.length:=by cases h with
 |ok h=>exact h.lt
 |err _ hi _=>exact hi
theorem small (h:XAt p i e a S):p.ts.length<4294967296:=by cases h with
 |ok h=>exact h.small
 |err _ _ hs=>exact hs
theorem good (h:XAt p i e a S) (he:e=0):∃l,S= .ok l∧a=0∧Left p i l:=by cases h with
 |ok h=>exact ⟨_,rfl,rfl,h⟩
 |err hn _ _=>exact absurd he hn
theorem bad (h:XAt p i e a S) (he:e≠0):S= .error (e,a):=by cases h with
 |ok h=>exact absurd rfl he
 |err hn _ _=>rfl
theorem row (h:XAt p i e a S):∃t,p.ts[i]? =some t∧(p.ts.map Tok.row)[i]? =some t.row:=by
 refine ⟨p.ts[i]'h.lt,List.getElem?_eq_getElem h.lt, ?_⟩
 rw [List.getElem?_map,List.getElem?_eq_getElem h.lt];rfl
theorem ok0 {l:List Tok} (h:XAt p i e a (.ok l)):e=0∧a=0∧Left p i l:=by cases h with
 |ok h=>exact ⟨rfl,rfl,h⟩
theorem isS (h:XAt p i e a S) {s:List UInt8} (hi:Par.isS s S=true):∃l,S= .ok l∧e=0∧a=0∧Par.is s l=true∧Left p i l:=by cases h with
 |ok h=>exact ⟨_,rfl,rfl,rfl,hi,h⟩
 |err _ _ _=>cases hi
end XAt
theorem XAt.fuel {p:RP} {i e a:Nat} {S:Par.SQ} (h:XAt p i e a S) (he:e=0):p.ts.length≤i+Par.SQ.len S:=by
 obtain ⟨l,rfl,_,hl⟩:=h.good he
 have:=hl.len
 show _≤i+l.length
 have:=hl.lt
 omega
def KF (p:RP) (i:Nat):Nat:=match p.ts[i]? with
 |some t=>t.at_
 |none=>0
theorem Jr {p:RP} {i:Nat} {t:Tok} (h:p.ts[i]? =some t):KF p i=t.at_:=by unfold KF;rw [h]
theorem Left.here {p:RP} {i:Nat} {l:List Tok} (h:Left p i l):KF p i=Par.here l:=by
 obtain ⟨t,l,rfl⟩:=h.cons
 rw [Jr h.get.1];rfl
theorem XAt.here {p:RP} {i e a:Nat} {S:Par.SQ} (h:XAt p i e a S) {l:List Tok} (hS:S= .ok l):KF p i=Par.here l:=by subst hS;exact h.ok0.2.2.here
theorem XAt.hd {p:RP} {i e a:Nat} {l:List Tok} (h:XAt p i e a (.ok l)) {t:Tok} (ht:p.ts[i]? =some t):Par.hd l=t:=by
 obtain ⟨u,l,rfl⟩:=h.ok0.2.2.cons
 have:=h.ok0.2.2.get.1
 rw [ht] at this;cases this;rfl
theorem XAt.isS_eq {p:RP} {i e a:Nat} {S:Par.SQ} (h:XAt p i e a S) {t:Tok} (ht:p.ts[i]? =some t) (s:List UInt8):Par.isS s S=(decide (e=0)&&(decide (t.text=s)&&(decide (t.kind=4)||decide (t.kind=3)))):=by
 cases S with
 |error z=>
  cases h with
  |err he _ _=>simp [Par.isS,he]
 |ok l=>
  have hd:=h.hd ht
  obtain ⟨rfl,_,_⟩:=h.ok0
  show Par.is s l=_
  unfold Par.is;rw [hd];simp
def Par.DC (k:Nat):Par.SQ→Par.SQ
 | .ok l=> .error (k,Par.here l)
 | .error z=> .error z
namespace Par
variable {α:Type} {S S1 S2 S3 S4:SQ}
theorem Res.must_no {s:List UInt8} {x:Nat} (hi:isS s S=false):Res S (must s) x (DC 11 S):=by cases S with
 |error z=>rfl
 |ok l=>
  have hi:is s l=false:=hi
  exact Res.qR (by unfold must;rw [hi];rfl)
theorem Res.name_no {x:List UInt8} (hi:∀l,S= .ok l→(hd l).kind≠1):Res S name x (DC 11 S):=by cases S with
 |error z=>rfl
 |ok l=>exact Res.qR (by unfold name of;rw [if_neg (hi l rfl)];rfl)
theorem Res.name_ok {l:List Tok} (hi:(hd l).kind=1):Res (.ok l) name (hd l).text (.ok l.tail):=Res.rQ (by unfold name of;rw [if_pos hi])
theorem Res.out {f:List Tok→R α} {l:List Tok} {x:α} (r:Res (.ok l) f x S):match S with
  | .ok l'=>f l= .ok (x,l')
  | .error z=>f l= .error z:=by
 unfold Res at r
 cases hf:f l with
 |error z=>simp only [hf] at r;subst r;rfl
 |ok q=>obtain ⟨q,l'⟩:=q;simp only [hf] at r;obtain ⟨rfl,rfl⟩:=r;rfl
theorem Res.step {β:Type} {f:List Tok→R α} {g:α→List Tok→R β} {F:List Tok→R β} {l l1:List Tok} {x:α} {y:β} (e:F l=Par.bn (f l1) g) (q:Res (.ok l1) f x S1) (r:Res S1 (g x) y S2):Res (.ok l) F y S2:=by
 have:=Res.bn q r
 unfold Res at this ⊢;simp only [e];exact this
theorem rowL_step {k at_:Nat} {l:List Tok} {last n:List UInt8} {x:List Pm} {al:Bool} {y:(List UInt8×Bool)×List Pm} (hi:is [60] l=true) (hh:at_=here l.tail) (q:Res (.ok l.tail) name n S1) (r:Res S1 (fun l=>oq k l n (x++[⟨last,n,at_⟩]) false) y S2):Res (.ok l) (fun l=>oq (k+1) l last x al) y S2:=by
 subst hh
 exact Res.step (g:=fun n l1=>oq k l1 n (x++[⟨last,n,here l.tail⟩]) false) (by show oq (k+1) l last x al=_;rw [oq,if_pos hi];kernel_rfl) q r
theorem rowL_stop {k:Nat} {last:List UInt8} {x:List Pm} {al:Bool} (hi:isS [60] S=false) (hk:∀l,S= .ok l→1≤k):Res S (fun l=>oq k l last x al) ((last,al),x) S:=by cases S with
 |error z=>rfl
 |ok l=>
  have hi:is [60] l=false:=hi
  obtain ⟨k,rfl⟩:∃m,k=m+1:=⟨k - 1,by have:=hk l rfl;omega⟩
  exact Res.rQ (by rw [oq,if_neg (by rw [hi];decide)])
theorem labelsL_step {k at_ z:Nat} {l:List Tok} {last n:List UInt8} {x y out:List Pm} {al:Bool} (hk:(hd l).kind≠0) (hh:at_=here l) (q:Res (.ok l) name n S1) (r:Res S1 (fun l=>oq l.length l n x true) ((last,al),y) S2) (w:Res S2 (must [59]) z S3)
  (v:Res S3 (fun l=>gH k l (if al then y++[⟨last,[],at_⟩] else y)) out S4):Res (.ok l) (fun l=>gH (k+1) l x) out S4:=by
 subst hh
 exact Res.step (f:=name) (g:=fun n l1=>bn (oq l1.length l1 n x true) fun r l2=>bn (must [59] l2) fun _ l3=>gH k l3 (if r.1.2 then r.2++[⟨r.1.1,[],here l⟩] else r.2)) (by show gH (k+1) l x=_;rw [gH,if_neg hk];kernel_rfl) q (r.bn (w.bn v))
theorem labelsL_end {k:Nat} {l:List Tok} {x:List Pm} (hk:(hd l).kind=0):Res (.ok l) (fun l=>gH (k+1) l x) x (.ok l):=Res.rQ (by rw [gH,if_pos hk])
theorem labels_eq (l:List Tok):bn (must [108,97,98,101,108,115] l) (fun _ l1=>gH l1.length l1 [])=labels l:=by kernel_rfl
end Par
structure Stp (p:RP) (S:Par.SQ) (i:Nat) {α:Type} (f:List Tok→Par.R α) (x:α) (S':Par.SQ) (i' e' a':Nat):Prop where
 at_:XAt p i' e' a' S'
 res:Par.Res S f x S'
 adv:i+1≤i'+min e' 1
theorem Stp.good {p:RP} {S S':Par.SQ} {i e a i' e' a':Nat} {α:Type} {f:List Tok→Par.R α} {x:α} (q:Stp p S i f x S' i' e' a') (h:XAt p i e a S) (h0:e'=0):e=0:=by
 apply Classical.byContradiction
 intro he
 have hb:=h.bad he
 subst hb
 have h1:S'= .error (e,a):=q.res
 obtain ⟨l,h2,_⟩:=q.at_.good h0
 rw [h1] at h2;cases h2
theorem GD:∀{k:Nat} {l l':List Tok} {last:List UInt8} {x y:List Pm} {al:Bool} {r:List UInt8×Bool},Par.oq k l last x al= .ok ((r,y),l')→y.length+l'.length≤x.length+l.length
 |0,_,_,_,_,_,_,_,h=>by cases h
 |k+1,l,l',last,x,y,al,r,h=>by
  rw [Par.oq] at h
  by_cases hi:Par.is [60] l=true
  · rw [if_pos hi] at h
    cases hn:Par.name l.tail with
    |error z=>simp only [hn] at h;cases h
    |ok q=>
     obtain ⟨n,l1⟩:=q
     simp only [hn] at h
     have h1:=Par.dF hn
     have h2:=GD h
     have h3:l.tail.length=l.length - 1:=List.length_tail
     simp at h2;omega
  · rw [if_neg hi] at h;cases h;exact Nat.le_refl _
theorem zS:∀{k:Nat} {l l':List Tok} {x y:List Pm},Par.gH k l x= .ok (y,l')→y.length+l'.length≤x.length+l.length
 |0,_,_,_,_,h=>by cases h
 |k+1,l,l',x,y,h=>by
  rw [Par.gH] at h
  by_cases hi:(Par.hd l).kind=0
  · rw [if_pos hi] at h;cases h;exact Nat.le_refl _
  · rw [if_neg hi] at h
    cases hn:Par.name l with
    |error z=>simp only [hn] at h;cases h
    |ok q=>
     obtain ⟨n,l1⟩:=q
     simp only [hn] at h
     have h1:=Par.dF hn
     cases hr:Par.oq l1.length l1 n x true with
     |error z=>simp only [hr] at h;cases h
     |ok q=>
      obtain ⟨⟨⟨last,al⟩,z⟩,l2⟩:=q
      simp only [hr] at h
      have h2:=GD hr
      cases hm:Par.must [59] l2 with
      |error z=>simp only [hm] at h;cases h
      |ok q=>
       obtain ⟨_,l3⟩:=q
       simp only [hm] at h
       have h3:=Par.aV hm
       have h4:=zS h
       cases al<;>simp at h4<;>omega
theorem rows_len {s:List UInt8} {m:List Pm} (h:Par.rows s= .ok m):m.length<2147483648:=by
 unfold Par.rows at h
 cases hl:Lex.lex s with
 |error z=>simp only [hl] at h;cases h
 |ok ts=>
  simp only [hl] at h
  cases hp:Par.labels ts with
  |error z=>simp only [hp] at h;cases h
  |ok q=>
   obtain ⟨m',l'⟩:=q
   simp only [hp] at h;cases h
   have h1:ts.length≤8193:=by
    unfold Lex.lex at hl
    by_cases hs:8192<s.length
    · rw [if_pos hs] at hl;cases hl
    · rw [if_neg hs] at hl;have:=Lex.o8 hl;simp at this;omega
   unfold Par.labels at hp
   cases hm:Par.must [108,97,98,101,108,115] ts with
   |error z=>simp only [hm] at hp;cases hp
   |ok q=>
    obtain ⟨_,l1⟩:=q
    simp only [hm] at hp
    have h2:=Par.aV hm
    have h3:=zS hp
    simp at h3;omega
end
end Go.Eng
namespace Go.Eng
noncomputable section
namespace Par
variable {α:Type} {S S1 S2 S3:SQ}
def fn (o:Option Opn) (a:R α) (g:Opn→R α):R α:=match o with
 |none=>a
 |some o=>g o
theorem OI (un:E) (ops:List Opn) (d:Nat) (l:List Tok) (ns:List Nd):bn (un d l ns) (fun x l'=>eX un ops l'.length d l' x.1 x.2)=chain un ops d l ns:=by kernel_rfl
theorem DF (un:E) (ops:List Opn) (f d a:Nat) (l:List Tok) (ns:List Nd):eX un ops (f+1) d l a ns=fn (find ops l) (.ok ((a,ns),l)) fun o=>bn (un d l.tail ns) fun x l'=>eX un ops f d l' x.2.length (x.2++[⟨o.2,0,[],[],(a:Int),(x.1:Int),here l⟩]):=by kernel_rfl
theorem GH (un:E) (d:Nat) (l:List Tok) (ns:List Nd):bn (sum un d l ns) (fun x l1=>fn (find jB l1) (.ok (x,l1)) fun o=>bn (sum un d l1.tail x.2) fun y l'=> .ok ((y.2.length,y.2++[⟨o.2,0,[],[],(x.1:Int),(y.1:Int),here l1⟩]),l'))=whole un d l ns:=by kernel_rfl
theorem qg (un:E) (d:Nat) (l:List Tok) (ns:List Nd):fU un d l ns=fn (find jo l)
  (if is [40] l=true then (if 40≤d then fail 12 l else bn (whole un (d+1) l.tail ns) fun x l'=>bn (must [41] l') fun _ l'=> .ok (x,l'))
   else if (hd l).kind=2 then bn (number l) fun n l'=> .ok ((ns.length,ns++[⟨1,(n:Int),[],[], -1, -1,here l⟩]),l')
   else bn (fM l) fun q l'=> .ok ((ns.length,ns++[⟨2,0,q.1,q.2, -1, -1,here l⟩]),l'))
  fun o=>if 40≤d then fail 12 l else bn (un (d+1) l.tail ns) fun x l'=> .ok ((x.2.length,x.2++[⟨o.2,0,[],[],(x.1:Int), -1,here l⟩]),l'):=by kernel_rfl
theorem yM (l:List Tok):number l=bn (of 2 l) fun t l=> .ok (Go.Eng.num t.text,l):=by kernel_rfl
theorem GI (l:List Tok):bn (name l) (fun a l=>if is [46] l=true then bn (name l.tail) (fun b l=> .ok ((a,b),l)) else .ok (([],a),l))=fM l:=by kernel_rfl
def ou (d:Nat) (s:List UInt8) (l:List Tok):R Unit:=if is s l=true then (if 40≤d then fail 12 l else .ok ((),l.tail)) else fail 11 l
theorem Res.eqv {f g:List Tok→R α} {x:α} (h:∀l,f l=g l) (r:Res S f x S1):Res S g x S1:=Res.cast (fun l _=>h l) r
theorem Res.one {F G:List Tok→R α} {l:List Tok} {x:α} (e:F l=G l) (r:Res (.ok l) G x S1):Res (.ok l) F x S1:=by
 unfold Res at r ⊢;simp only [e];exact r
theorem chain_res {un:E} {ops:List Opn} {d:Nat} {ns ns1:List Nd} {y:Nat×List Nd} (q:Res S (fun l=>un d l ns) (ns1.length - 1,ns1) S1) (r:Res S1 (fun l=>eX un ops l.length d l (ns1.length - 1) ns1) y S2):Res S (fun l=>chain un ops d l ns) y S2:=
 Res.eqv (fun l=>OI un ops d l ns) (q.bn r)
theorem chainL_step {un:E} {ops:List Opn} {o:Opn} {k d a b at_:Nat} {ai bi:Int} {l:List Tok} {ns ns1:List Nd} {y:Nat×List Nd} (hf:find ops l=some o) (hh:at_=here l) (ha:ai=(a:Int)) (q:Res (.ok l.tail) (fun l=>un d l ns) (b,ns1) S1) (hb:∀l,S1= .ok l→bi=(b:Int))
  (r:Res S1 (fun l=>eX un ops k d l ((ns1++[(⟨o.2,0,[],[],ai,bi,at_⟩:Nd)]).length - 1) (ns1++[⟨o.2,0,[],[],ai,bi,at_⟩])) y S2):Res (.ok l) (fun l=>eX un ops (k+1) d l a ns) y S2:=by
 subst hh;subst ha
 refine Res.one (G:=fun _=>bn (un d l.tail ns) fun x l'=>eX un ops k d l' x.2.length (x.2++[⟨o.2,0,[],[],(a:Int),(x.1:Int),here l⟩])) (by show eX un ops (k+1) d l a ns=_;rw [DF,hf];rfl) ?_
 exact (q.bn (g:=fun x l'=>eX un ops k d l' x.2.length (x.2++[⟨o.2,0,[],[],(a:Int),(x.1:Int),here l⟩])) (r.cast fun l' e=>by rw [hb l' e];simp))
theorem chainL_stop {un:E} {ops:List Opn} {k d a:Nat} {l:List Tok} {ns:List Nd} (hf:find ops l=none):Res (.ok l) (fun l=>eX un ops (k+1) d l a ns) (a,ns) (.ok l):=Res.rQ (by rw [DF,hf];rfl)
theorem whole_one {un:E} {d:Nat} {ns ns1:List Nd} (q:Res S (fun l=>sum un d l ns) (ns1.length - 1,ns1) S1) (hf:∀l,S1= .ok l→find jB l=none):Res S (fun l=>whole un d l ns) (ns1.length - 1,ns1) S1:=
 Res.eqv (fun l=>GH un d l ns) (q.bn (Res.cast (fun l e=>by rw [hf l e];rfl) (Res.pure S1 (ns1.length - 1,ns1))))
theorem whole_two {un:E} {o:Opn} {d b at_:Nat} {ai bi:Int} {l:List Tok} {ns ns1 ns2:List Nd} (q:Res S (fun l=>sum un d l ns) (ns1.length - 1,ns1) (.ok l)) (hf:find jB l=some o) (hh:at_=here l) (ha:ai=((ns1.length - 1:Nat):Int)) (r:Res (.ok l.tail) (fun l=>sum un d l ns1) (b,ns2) S2) (hb:∀l,S2= .ok l→bi=(b:Int)):
  Res S (fun l=>whole un d l ns) ((ns2++[(⟨o.2,0,[],[],ai,bi,at_⟩:Nd)]).length - 1,ns2++[⟨o.2,0,[],[],ai,bi,at_⟩]) S2:=by
 subst hh;subst ha
 refine Res.eqv (fun l=>GH un d l ns) (q.bn ?_)
 refine Res.one (G:=fun _=>bn (sum un d l.tail ns1) fun y l'=> .ok ((y.2.length,y.2++[⟨o.2,0,[],[],((ns1.length - 1:Nat):Int),(y.1:Int),here l⟩]),l')) (by show fn (find jB l) _ _=_;rw [hf];rfl) ?_
 refine r.bn (g:=fun y l'=> .ok ((y.2.length,y.2++[⟨o.2,0,[],[],((ns1.length - 1:Nat):Int),(y.1:Int),here l⟩]),l')) ?_
 exact Res.cast (fun l' e=>by rw [hb l' e];simp) (Res.pure S2 _)
theorem isS_ok {s:List UInt8} {l:List Tok} (h:isS s (.ok l)=true):is s l=true:=h
theorem unary_neg {un:E} {o:Opn} {d b at_:Nat} {ai:Int} {l:List Tok} {ns ns1:List Nd} (hf:find jo l=some o) (hi:is o.1 l=true) (hh:at_=here l) (q:Res (.ok l) (ou d o.1) () S1) (r:Res S1 (fun l=>un (d+1) l ns) (b,ns1) S2) (hb:∀l,S2= .ok l→ai=(b:Int)):
  Res (.ok l) (fun l=>fU un d l ns) ((ns1++[(⟨o.2,0,[],[],ai, -1,at_⟩:Nd)]).length - 1,ns1++[⟨o.2,0,[],[],ai, -1,at_⟩]) S2:=by
 subst hh
 refine Res.one (G:=fun l0=>bn (ou d o.1 l0) fun _ l'=>bn (un (d+1) l' ns) fun x l'=> .ok ((x.2.length,x.2++[⟨o.2,0,[],[],(x.1:Int), -1,here l⟩]),l')) (by
  show fU un d l ns=_;rw [qg,hf];unfold ou fn;simp only [hi,if_true]
  by_cases h:40≤d
  · simp [h,fail,bn]
  · simp [h,bn]) ?_
 refine q.bn (r.bn (g:=fun x l'=> .ok ((x.2.length,x.2++[⟨o.2,0,[],[],(x.1:Int), -1,here l⟩]),l')) ?_)
 exact Res.cast (fun l' e=>by rw [hb l' e];simp) (Res.pure S2 _)
theorem unary_par {un:E} {d z:Nat} {l:List Tok} {ns ns1:List Nd} (hf:find jo l=none) (hi:is [40] l=true) (q:Res (.ok l) (ou d [40]) () S1) (r:Res S1 (fun l=>whole un (d+1) l ns) (ns1.length - 1,ns1) S2) (w:Res S2 (must [41]) z S3):
  Res (.ok l) (fun l=>fU un d l ns) (ns1.length - 1,ns1) S3:=by
 refine Res.one (G:=fun l0=>bn (ou d [40] l0) fun _ l'=>bn (whole un (d+1) l' ns) fun x l'=>bn (must [41] l') fun _ l'=> .ok (x,l')) (by
  show fU un d l ns=_;rw [qg,hf];unfold ou fn;simp only [hi,if_true]
  by_cases h:40≤d
  · simp [h,fail,bn]
  · simp [h,bn]) ?_
 exact q.bn (r.bn (w.bn (Res.pure S3 _)))
theorem unary_num {un:E} {d at_:Nat} {l:List Tok} {ns:List Nd} (hf:find jo l=none) (hi:is [40] l=false) (hk:(hd l).kind=2) (hh:at_=here l):
  Res (.ok l) (fun l=>fU un d l ns) ((ns++[(⟨1,(num (hd l).text:Int),[],[], -1, -1,at_⟩:Nd)]).length - 1,ns++[⟨1,(num (hd l).text:Int),[],[], -1, -1,at_⟩]) (.ok l.tail):=by
 subst hh
 refine Res.rQ (by
  rw [qg,hf]
  show (if is [40] l=true then _ else if (hd l).kind=2 then _ else _)=_
  rw [if_neg (by rw [hi];decide),if_pos hk,yM]
  unfold of;rw [if_pos hk]
  simp [bn])
theorem unary_var {un:E} {d at_:Nat} {x:List UInt8×List UInt8} {l:List Tok} {ns:List Nd} (hf:find jo l=none) (hi:is [40] l=false) (hk:(hd l).kind≠2) (hh:at_=here l) (q:Res (.ok l) fM x S1):
  Res (.ok l) (fun l=>fU un d l ns) ((ns++[(⟨2,0,x.1,x.2, -1, -1,at_⟩:Nd)]).length - 1,ns++[⟨2,0,x.1,x.2, -1, -1,at_⟩]) S1:=by
 subst hh
 refine Res.one (G:=fun l0=>bn (fM l0) fun q l'=> .ok ((ns.length,ns++[⟨2,0,q.1,q.2, -1, -1,here l⟩]),l')) (by
  show fU un d l ns=_
  rw [qg,hf]
  show (if is [40] l=true then _ else if (hd l).kind=2 then _ else _)=_
  rw [if_neg (by rw [hi];decide),if_neg hk]) ?_
 exact q.bn (Res.cast (fun l' _=>by simp) (Res.pure S1 _))
theorem unary_no {un:E} {d:Nat} {x:Nat×List Nd} {l:List Tok} {ns:List Nd} (hf:find jo l=none) (hi:is [40] l=false) (hk:(hd l).kind≠2) (hn:(hd l).kind≠1):Res (.ok l) (fun l=>fU un d l ns) x (.error (11,here l)):=by
 refine Res.qR (by
  rw [qg,hf]
  show (if is [40] l=true then _ else if (hd l).kind=2 then _ else _)=_
  rw [if_neg (by rw [hi];decide),if_neg hk]
  unfold fM name of;rw [if_neg hn];rfl)
theorem qname_dot {a b:List UInt8} {l:List Tok} (q:Res S name a (.ok l)) (hi:is [46] l=true) (r:Res (.ok l.tail) name b S2):Res S fM (a,b) S2:=
 Res.eqv GI (q.bn (Res.yes (S1:=S2) (l:=l) (A:=fun l=>bn (name l.tail) fun b l=> .ok ((a,b),l)) hi (Res.bn (S:= .ok l) (f:=fun l=>name l.tail) (g:=fun b l=> .ok ((a,b),l)) r (Res.pure S2 (a,b)))))
theorem qname_no {a:List UInt8} (q:Res S name a S1) (hi:isS [46] S1=false):Res S fM ([],a) S1:=Res.eqv GI (q.bn (Res.no hi (Res.pure S1 ([],a))))
theorem Ae {d:Nat} {s:List UInt8} {l:List Tok} (hi:is s l=true) (hd:¬40≤d):Res (.ok l) (ou d s) () (.ok l.tail):=Res.rQ (by unfold ou;rw [if_pos hi,if_neg hd])
theorem open_deep {d:Nat} {s:List UInt8} {l:List Tok} (hi:is s l=true) (hd:40≤d):Res (.ok l) (ou d s) () (DC 12 (.ok l)):=Res.qR (by unfold ou;rw [if_pos hi,if_pos hd];rfl)
theorem open_no {d:Nat} {s:List UInt8} (hi:isS s S=false):Res S (ou d s) () (DC 11 S):=by cases S with
 |error z=>rfl
 |ok l=>
  have hi:is s l=false:=hi
  exact Res.qR (by unfold ou;rw [hi];rfl)
theorem is_text {s:List UInt8} {l:List Tok} (h:is s l=true):(hd l).text=s:=by simp [is] at h;exact h.1
theorem Fe {s t:List UInt8} {l:List Tok} (h:is s l=true) (hn:s≠t):is t l=false:=by
 have:=is_text h
 unfold is;rw [this];simp [hn]
def xB:List (List UInt8):=[[61,61],[60],[60,61]]
theorem cmp_at {j:Nat} {y:List UInt8} (hy:xB[j]? =some y):(j=0∧y=[61,61])∨(j=1∧y=[60])∨(j=2∧y=[60,61]):=by
 unfold xB at hy
 match j,hy with
 |0,hy=>simp at hy;exact .inl ⟨rfl,hy.symm⟩
 |1,hy=>simp at hy;exact .inr (.inl ⟨rfl,hy.symm⟩)
 |2,hy=>simp at hy;exact .inr (.inr ⟨rfl,hy.symm⟩)
 |n+3,hy=>simp at hy
theorem cmp_find {j:Nat} {y:List UInt8} {l:List Tok} (hy:xB[j]? =some y) (hi:is y l=true):find jB l=some (y,10+j):=by
 rcases cmp_at hy with ⟨rfl,rfl⟩|⟨rfl,rfl⟩|⟨rfl,rfl⟩
 · simp [find,jB,hi]
 · simp [find,jB,hi,Fe hi (t:=[61,61]) (by decide),Fe hi (t:=[60,61]) (by decide)]
 · simp [find,jB,hi,Fe hi (t:=[61,61]) (by decide)]
theorem cmp_none {S:SQ} {l:List Tok} (hS:S= .ok l) (hn:∀q y,xB[q]? =some y→q<3→isS y S=false):find jB l=none:=by
 subst hS
 have h0:is [61,61] l=false:=hn 0 _ rfl (by omega)
 have h1:is [60] l=false:=hn 1 _ rfl (by omega)
 have h2:is [60,61] l=false:=hn 2 _ rfl (by omega)
 simp [find,jB,h0,h1,h2]
end Par
def XPost (p:RP) (d:Nat) (S:Par.SQ) (i e:Nat) (g:Par.E) (ns:List Nd) (fs:List Fact) (v:V) (h1:Heap):Prop:=∃(ns':List Nd) (S':Par.SQ) (i' e' a' k':Nat),Stp p S i (fun l=>g d l ns) (ns'.length - 1,ns') S' i' e' a'∧ns'.length+(i+min e 1)≤ns.length+(i'+min e' 1)∧(e'=0→1≤ns'.length)∧St (p.xbox i' d e' a'::p.toks:: .acc k' 7 v (ns'.map Nd.row)::fs) h1
def XReads (c:Ctx) (f N:Nat) (g:Par.E):Prop:=∀{fs:List Fact} {h:Heap} {p:RP} {i d e a:Nat} {S:Par.SQ} {ns:List Nd} {k:Nat} {v:V},St (p.xbox i d e a::p.toks:: .acc k 7 v (ns.map Nd.row)::fs) h→XAt p i e a S→(e=0→p.ts.length≤i+N∧d≤40)→d≤41→ns.length≤i+min e 1→
 bZ c f [.ptr p.rb 0,v] h (XPost p d S i e g ns fs)
end
end Go.Eng
namespace Go.Eng
noncomputable section
theorem St.triv_ {fs:List Fact} {h:Heap} {P:Heap→Prop} (s:St fs h) (hp:∀h,P h):St (.stb P::fs) h:=(St.pure s (Q:=True) trivial).kI fun h _=>hp h
namespace Par
variable {α:Type} {S S1 S2 S3 S4 S5 S6:SQ}
theorem Res.any {β:Type} {f:List Tok→R α} {g:List Tok→R β} {x:α} {y:β} {z:Nat×Nat} (hS:S= .error z) (w:Res S f x S1):Res S g y S1:=by subst hS;exact w
def Js (one:α→List Tok→R α) (e:List UInt8) (k n:Nat) (x:α):List Tok→R α:=fun l=>bn (one x l) fun y l'=>bU one e k (n+1) l' y
theorem uX (one:α→List Tok→R α) (e:List UInt8) (f n:Nat) (l:List Tok) (x:α):bU one e (f+1) n l x=if is e l=true then .ok (x,l.tail) else if n=0 then bn (one x l) (fun y l'=>bU one e f 1 l' y) else bn (must [44] l) fun _ l1=>bn (one x l1) fun y l'=>bU one e f (n+1) l' y:=by kernel_rfl
theorem tV {s:List UInt8} {l:List Tok} (hi:is s l=true):must s l= .ok (here l,l.tail):=by unfold must;rw [if_pos hi]
theorem BH {s:List UInt8} {l:List Tok} (hi:is s l=false):must s l= .error (11,here l):=by unfold must;rw [if_neg (by rw [hi];decide)];rfl
theorem gB {s t:List UInt8} {l:List Tok} (h:is s l=true) (hn:s≠t):¬is t l=true:=by rw [Fe h hn];decide
section
variable {one:α→List Tok→R α} {e:List UInt8} {k n z:Nat} {x y w:α} {l:List Tok}
theorem sev_zero (hi:isS e S=true) (w:Res S (must e) z S1):Res S (fun l=>several one e l x) x S1:=by cases S with
 |error z=>cases hi
 |ok l=>
  have hi:is e l=true:=hi
  have hw:S1= .ok l.tail:=by unfold Res at w;simp only [tV hi] at w;exact w.2
  subst hw
  refine Res.rQ ?_
  show bU one e l.length 0 l x=_
  obtain ⟨m,hm⟩:∃m,l.length=m+1:=⟨l.length - 1,by have:=gu hi;omega⟩
  rw [hm,uX,if_pos hi]
theorem sev_start (hi:isS e S=false) (hl:∀l,S= .ok l→0<l.length) (r:Res S (Js one e (S.len - 1) 0 x) y S1):Res S (fun l=>several one e l x) y S1:=by cases S with
 |error z=>exact r
 |ok l=>
  have hi:is e l=false:=hi
  refine Res.one (G:=Js one e (SQ.len (.ok l) - 1) 0 x) ?_ r
  show bU one e l.length 0 l x=_
  obtain ⟨m,hm⟩:∃m,l.length=m+1:=⟨l.length - 1,by have:=hl l rfl;omega⟩
  show bU one e l.length 0 l x=Js one e (l.length - 1) 0 x l
  rw [hm,uX,if_neg (by rw [hi];decide),if_pos rfl];rfl
theorem sev_step {l2:List Tok} (he:[44]≠e) (q:Res S (one x) y (.ok l2)) (hi:is [44] l2=true) (r:Res (.ok l2.tail) (Js one e k (n+1) y) w S1):Res S (Js one e (k+1) n x) w S1:=by
 refine q.bn (g:=fun y l'=>bU one e (k+1) (n+1) l' y) (Res.one (G:=fun _=>Js one e k (n+1) y l2.tail) ?_ ?_)
 · show bU one e (k+1) (n+1) l2 y=_
   rw [uX,if_neg (gB hi he),if_neg (by omega),tV hi];rfl
 · exact r
theorem sev_stop (q:Res S (one x) y S1) (hi:isS [44] S1=false) (w:Res S1 (must e) z S2) (hk:∀l,S1= .ok l→1≤k):Res S (Js one e k n x) y S2:=by
 refine q.bn (g:=fun y l'=>bU one e k (n+1) l' y) ?_
 cases S1 with
 |error z=>exact w
 |ok l=>
  have hi:is [44] l=false:=hi
  obtain ⟨k,rfl⟩:∃m,k=m+1:=⟨k - 1,by have:=hk l rfl;omega⟩
  cases he:is e l with
  |true=>
   have hw:S2= .ok l.tail:=by unfold Res at w;simp only [tV he] at w;exact w.2
   subst hw
   exact Res.rQ (by rw [uX,if_pos he])
  |false=>
   have hw:S2= .error (11,here l):=by unfold Res at w;simp only [BH he] at w;exact w
   subst hw
   exact Res.qR (by rw [uX,if_neg (by rw [he];decide),if_neg (by omega),BH hi];rfl)
end
def ow (d:Nat) (as:List (List Nd)) (l:List Tok):R (List (List Nd)):=bn (expr d l) fun e l'=> .ok (as++[e],l')
theorem BJ (d:Nat):∀(f:Nat) (as:List (List Nd)) (l:List Tok),fO d f l as=bU (ow d) [41] f as.length l as
 |0,_,_=>rfl
 |f+1,as,l=>by
  rw [uX]
  by_cases hi:is [41] l=true
  · rw [if_pos hi];unfold fO;rw [if_pos hi]
  · rw [if_neg hi];unfold fO;rw [if_neg hi]
    cases as with
    |nil=>
     rw [if_pos (show ([]:List (List Nd)).length=0 from rfl)]
     show (match expr d l with| .error e=> .error e| .ok (e,l')=>fO d f l' [e])=bn (bn (expr d l) fun e l'=> .ok ([]++[e],l')) fun y l'=>bU (ow d) [41] f 1 l' y
     cases expr d l with
     |error e=>rfl
     |ok q=>exact BJ d f [q.1] q.2
    |cons a as=>
     rw [if_neg (by simp)]
     show (match must [44] l with| .error e=> .error e| .ok (_,l1)=>match expr d l1 with| .error e=> .error e| .ok (e,l')=>fO d f l' ((a::as)++[e]))=bn (must [44] l) fun _ l1=>bn (bn (expr d l1) fun e l'=> .ok ((a::as)++[e],l')) fun y l'=>bU (ow d) [41] f ((a::as).length+1) l' y
     cases must [44] l with
     |error e=>rfl
     |ok q=>
      show (match expr d q.2 with| .error e=> .error e| .ok (e,l')=>fO d f l' ((a::as)++[e]))=bn (bn (expr d q.2) fun e l'=> .ok ((a::as)++[e],l')) fun y l'=>bU (ow d) [41] f ((a::as).length+1) l' y
      cases expr d q.2 with
      |error e=>rfl
      |ok w=>
       have:=BJ d f ((a::as)++[w.1]) w.2
       rw [show ((a::as)++[w.1]).length=(a::as).length+1 by simp] at this
       exact this
theorem OJ (d:Nat) (c:Cl) (l:List Tok):iY d c l=bn (must [40] l) fun _ l1=>bn (several (ow d) [41] l1 []) fun as l2=> .ok ({c with args:=as},l2):=by
 unfold iY several
 cases must [40] l with
 |error e=>rfl
 |ok q=>
  obtain ⟨a,l1⟩:=q
  show (match fO d l1.length l1 [] with| .error e=> .error e| .ok (as,l2)=> .ok ({c with args:=as},l2))=bn (bU (ow d) [41] l1.length 0 l1 []) _
  rw [BJ]
  show _=bn (bU (ow d) [41] l1.length ([]:List (List Nd)).length l1 []) _
  cases bU (ow d) [41] l1.length ([]:List (List Nd)).length l1 [] with
  |error e=>rfl
  |ok q=>rfl
theorem KG (d:Nat) (l:List Tok):bn (fM l) (fun q l1=>if is [61] l1=true then bn (fM l1.tail) (fun r l2=>iY d ⟨true,q.1,q.2,r.1,r.2,[]⟩ l2) else iY d ⟨false,[],[],q.1,q.2,[]⟩ l1)=call d l:=by kernel_rfl
section
variable {d z:Nat} {l:List Tok} {as:List (List Nd)} {q r:List UInt8×List UInt8}
theorem DK {c:Cl} (w:Res S (must [40]) z S1) (a:Res S1 (fun l=>several (ow d) [41] l []) as S2):Res S (iY d c) {c with args:=as} S2:=
 Res.eqv (fun l=>(OJ d c l).symm) (w.bn (a.bn (Res.pure S2 _)))
theorem call_set (hq:Res S fM q (.ok l)) (hi:is [61] l=true) (hr:Res (.ok l.tail) fM r S2) (w:Res S2 (must [40]) z S3) (a:Res S3 (fun l=>several (ow d) [41] l []) as S4):Res S (call d) ⟨true,q.1,q.2,r.1,r.2,as⟩ S4:=
 Res.eqv (KG d) (hq.bn (Res.yes (A:=fun l1=>bn (fM l1.tail) (fun r l2=>iY d ⟨true,q.1,q.2,r.1,r.2,[]⟩ l2)) hi (Res.bn (S:= .ok l) (f:=fun l1=>fM l1.tail) (g:=fun r l2=>iY d ⟨true,q.1,q.2,r.1,r.2,[]⟩ l2) hr (DK w a))))
theorem call_plain (hq:Res S fM q S1) (hi:isS [61] S1=false) (w:Res S1 (must [40]) z S3) (a:Res S3 (fun l=>several (ow d) [41] l []) as S4):Res S (call d) ⟨false,[],[],q.1,q.2,as⟩ S4:=
 Res.eqv (KG d) (hq.bn (Res.no hi (DK w a)))
end
theorem expr_bn (d:Nat) (l:List Tok):bn (whole (unary l.length) d l []) (fun x l'=> .ok (x.2,l'))=expr d l:=by kernel_rfl
theorem fin_bn (s:Sm) (l:List Tok):fin s l=bn (must [59] l) fun _ l'=> .ok (s,l'):=by kernel_rfl
section
variable {blk:Bk} {d a:Nat} {l:List Tok}
theorem KH:iF blk d a l=bn (expr d l) fun e l1=>bn (blk d l1) fun b l2=>if is [101,108,115,101] l2=true then bn (blk d l2.tail) (fun el l3=> .ok (Sm.mk 5 a [] [] [] false [] [] e [] b el,l3)) else .ok (.mk 5 a [] [] [] false [] [] e [] b [],l2):=by kernel_rfl
theorem Jt:bP blk d a l=bn (expr d l) fun e l1=>bn (blk d l1) fun b l2=> .ok (.mk 6 a [] [] [] false [] [] e [] b [],l2):=by kernel_rfl
theorem OL:fo d a l=bn (name l) fun n l1=>bn (must [58] l1) fun _ l2=>bn (name l2) fun lb l3=>bn (must [61] l3) fun _ l4=>bn (expr d l4) fun e l5=>fin (.mk 1 a [] n lb false [] [] e [] [] []) l5:=by kernel_rfl
theorem GJ:aZ d a l=bn (must [61] l) fun _ l1=>bn (expr d l1) fun e l2=>fin (.mk 3 a [] [] [] false [] [] e [] [] []) l2:=by kernel_rfl
theorem Ml:dG d a l=bn (call d l) fun c l1=>fin (.mk 4 a c.mod c.name [] c.has c.tomod c.to [] c.args [] []) l1:=by kernel_rfl
theorem Mq:dH a l=bn (name l) fun n l1=>fin (.mk 7 a [] n [] false [] [] [] [] [] []) l1:=by kernel_rfl
theorem GK:fC d a l=bn (fM l) fun q l1=>bn (must [61] l1) fun _ l2=>bn (expr d l2) fun e l3=>fin (.mk 2 a q.1 q.2 [] false [] [] e [] [] []) l3:=by kernel_rfl
theorem BK (hk:(hd l).kind=1) (s:List UInt8):¬is s l=true:=by unfold is;rw [hk];simp
end
section
variable {blk:Bk} {d at_ y z:Nat} {l:List Tok} {e:List Nd} {n lb:List UInt8} {b el:List Sm}
theorem uY {s:Sm} (w:Res S (must [59]) z S1):Res S (fin s) s S1:=Res.eqv (fun l=>(fin_bn s l).symm) (w.bn (Res.pure S1 s))
theorem stmt_set {q:List UInt8×List UInt8} {z:Nat} (hk:(hd l).kind=1) (hh:at_=here l) (hq:Res (.ok l) fM q S1) (w:Res S1 (must [61]) y S2) (r:Res S2 (expr d) e S3) (f:Res S3 (must [59]) z S4):Res (.ok l) (cO blk d) (.mk 2 at_ q.1 q.2 [] false [] [] e [] [] []) S4:=by
 subst hh
 refine Res.one (G:=fC d (here l)) (by unfold cO;rw [if_neg (BK hk _),if_neg (BK hk _),if_neg (BK hk _),if_neg (BK hk _),if_neg (BK hk _),if_neg (BK hk _),if_neg (BK hk _)]) ?_
 exact Res.eqv (fun l=>GK.symm) (hq.bn (w.bn (r.bn (uY f))))
theorem stmt_let (hi:is [108,101,116] l=true) (hh:at_=here l) (h1:Res (.ok l.tail) name n S1) (w1:Res S1 (must [58]) y S2) (h2:Res S2 name lb S3) {y':Nat} (w2:Res S3 (must [61]) y' S4) (r:Res S4 (expr d) e S5) (f:Res S5 (must [59]) z S6):Res (.ok l) (cO blk d) (.mk 1 at_ [] n lb false [] [] e [] [] []) S6:=by
 subst hh
 refine Res.one (G:=fun l0=>fo d (here l) l0.tail) (by unfold cO;rw [if_neg (gB hi (by decide)),if_neg (gB hi (by decide)),if_pos hi]) ?_
 show Res (.ok l.tail) (fo d (here l)) _ _
 exact Res.eqv (fun l=>OL.symm) (h1.bn (w1.bn (h2.bn (w2.bn (r.bn (uY f))))))
theorem stmt_result (hi:is [114,101,115,117,108,116] l=true) (hh:at_=here l) (w2:Res (.ok l.tail) (must [61]) y S4) (r:Res S4 (expr d) e S5) (f:Res S5 (must [59]) z S6):Res (.ok l) (cO blk d) (.mk 3 at_ [] [] [] false [] [] e [] [] []) S6:=by
 subst hh
 refine Res.one (G:=fun l0=>aZ d (here l) l0.tail) (by unfold cO;rw [if_neg (gB hi (by decide)),if_neg (gB hi (by decide)),if_neg (gB hi (by decide)),if_pos hi]) ?_
 show Res (.ok l.tail) (aZ d (here l)) _ _
 exact Res.eqv (fun l=>GJ.symm) (w2.bn (r.bn (uY f)))
theorem stmt_call {c:Cl} (hi:is [99,97,108,108] l=true) (hh:at_=here l) (r:Res (.ok l.tail) (call d) c S5) (f:Res S5 (must [59]) z S6):Res (.ok l) (cO blk d) (.mk 4 at_ c.mod c.name [] c.has c.tomod c.to [] c.args [] []) S6:=by
 subst hh
 refine Res.one (G:=fun l0=>dG d (here l) l0.tail) (by unfold cO;rw [if_neg (gB hi (by decide)),if_neg (gB hi (by decide)),if_neg (gB hi (by decide)),if_neg (gB hi (by decide)),if_pos hi]) ?_
 show Res (.ok l.tail) (dG d (here l)) _ _
 exact Res.eqv (fun l=>Ml.symm) (r.bn (uY f))
theorem stmt_emit (hi:is [101,109,105,116] l=true) (hh:at_=here l) (r:Res (.ok l.tail) name n S5) (f:Res S5 (must [59]) z S6):Res (.ok l) (cO blk d) (.mk 7 at_ [] n [] false [] [] [] [] [] []) S6:=by
 subst hh
 refine Res.one (G:=fun l0=>dH (here l) l0.tail) (by unfold cO;rw [if_neg (gB hi (by decide)),if_neg (gB hi (by decide)),if_neg (gB hi (by decide)),if_neg (gB hi (by decide)),if_neg (gB hi (by decide)),if_pos hi]) ?_
 show Res (.ok l.tail) (dH (here l)) _ _
 exact Res.eqv (fun l=>Mq.symm) (r.bn (uY f))
theorem stmt_skip (hi:is [115,107,105,112] l=true) (hh:at_=here l) (f:Res (.ok l.tail) (must [59]) z S6):Res (.ok l) (cO blk d) (.mk 8 at_ [] [] [] false [] [] [] [] [] []) S6:=by
 subst hh
 refine Res.one (G:=fun l0=>dL (here l) l0.tail) (by unfold cO;rw [if_neg (gB hi (by decide)),if_neg (gB hi (by decide)),if_neg (gB hi (by decide)),if_neg (gB hi (by decide)),if_neg (gB hi (by decide)),if_neg (gB hi (by decide)),if_pos hi]) ?_
 show Res (.ok l.tail) (dL (here l)) _ _
 exact uY f
theorem stmt_while (hi:is [119,104,105,108,101] l=true) (hh:at_=here l) (r:Res (.ok l.tail) (expr d) e S1) (q:Res S1 (blk d) b S2):Res (.ok l) (cO blk d) (.mk 6 at_ [] [] [] false [] [] e [] b []) S2:=by
 subst hh
 refine Res.one (G:=fun l0=>bP blk d (here l) l0.tail) (by unfold cO;rw [if_neg (gB hi (by decide)),if_pos hi]) ?_
 show Res (.ok l.tail) (bP blk d (here l)) _ _
 exact Res.eqv (fun l=>Jt.symm) (r.bn (q.bn (Res.pure S2 _)))
theorem stmt_if (hi:is [105,102] l=true) (hh:at_=here l) (r:Res (.ok l.tail) (expr d) e S1) (q:Res S1 (blk d) b S2) (hn:isS [101,108,115,101] S2=false):Res (.ok l) (cO blk d) (.mk 5 at_ [] [] [] false [] [] e [] b []) S2:=by
 subst hh
 refine Res.one (G:=fun l0=>iF blk d (here l) l0.tail) (by unfold cO;rw [if_pos hi]) ?_
 show Res (.ok l.tail) (iF blk d (here l)) _ _
 exact Res.eqv (fun l=>KH.symm) (r.bn (q.bn (Res.no hn (Res.pure S2 _))))
theorem stmt_else {l2:List Tok} (hi:is [105,102] l=true) (hh:at_=here l) (r:Res (.ok l.tail) (expr d) e S1) (q:Res S1 (blk d) b (.ok l2)) (hy:is [101,108,115,101] l2=true) (q2:Res (.ok l2.tail) (blk d) el S3):Res (.ok l) (cO blk d) (.mk 5 at_ [] [] [] false [] [] e [] b el) S3:=by
 subst hh
 refine Res.one (G:=fun l0=>iF blk d (here l) l0.tail) (by unfold cO;rw [if_pos hi]) ?_
 show Res (.ok l.tail) (iF blk d (here l)) _ _
 refine Res.eqv (fun l=>KH.symm) (r.bn (q.bn (Res.yes (A:=fun l2=>bn (blk d l2.tail) (fun el l3=> .ok (Sm.mk 5 (here l) [] [] [] false [] [] e [] b el,l3))) hy ?_)))
 exact Res.bn (S:= .ok l2) (f:=fun l2=>blk d l2.tail) (g:=fun el l3=> .ok (Sm.mk 5 (here l) [] [] [] false [] [] e [] b el,l3)) q2 (Res.pure S3 _)
theorem stmt_no {x:Sm} (h1:(hd l).kind≠1) (hn:∀s∈[[105,102],[119,104,105,108,101],[108,101,116],[114,101,115,117,108,116],[99,97,108,108],[101,109,105,116],[115,107,105,112]],is s l=false):Res (.ok l) (cO blk d) x (.error (11,here l)):=by
 refine Res.qR ?_
 have f:=fun s hs=>(show ¬is s l=true by rw [hn s hs];decide)
 unfold cO
 rw [if_neg (f _ (by decide)),if_neg (f _ (by decide)),if_neg (f _ (by decide)),if_neg (f _ (by decide)),if_neg (f _ (by decide)),if_neg (f _ (by decide)),if_neg (f _ (by decide)),GK]
 unfold fM name of;rw [if_neg h1];rfl
end
section
variable {stm:Nat→List Tok→R Sm} {d k y:Nat} {l:List Tok} {ss:List Sm}
theorem Mr:bn (ou d [123] l) (fun _ l'=>gF stm (d+1) l'.length l' [])=jQ stm d l:=by
 unfold ou jQ
 by_cases hi:is [123] l=true
 · rw [if_pos hi,if_pos hi]
   by_cases h:40≤d
   · rw [if_pos h,if_pos h];rfl
   · rw [if_neg h,if_neg h];rfl
 · rw [if_neg hi,if_neg hi];rfl
theorem DL:gF stm d (k+1) l ss=if is [125] l=true then .ok (ss,l.tail) else bn (stm d l) fun s l'=>gF stm d k l' (ss++[s]):=by kernel_rfl
theorem block_res {u:List Sm} (o:Res S (ou d [123]) () S1) (r:Res S1 (fun l=>gF stm (d+1) l.length l []) u S2):Res S (jQ stm d) u S2:=Res.eqv (fun l=>Mr) (o.bn r)
theorem blockL_step {s:Sm} {u:List Sm} (hn:is [125] l=false) (q:Res (.ok l) (stm d) s S1) (r:Res S1 (fun l=>gF stm d k l (ss++[s])) u S2):Res (.ok l) (fun l=>gF stm d (k+1) l ss) u S2:=by
 refine Res.one (G:=fun l=>bn (stm d l) fun s l'=>gF stm d k l' (ss++[s])) (by show gF stm d (k+1) l ss=_;rw [DL,if_neg (by rw [hn];decide)]) (q.bn r)
theorem blockL_end (hy:is [125] l=true) (w:Res (.ok l) (must [125]) y S1):Res (.ok l) (fun l=>gF stm d (k+1) l ss) ss S1:=by
 have hw:S1= .ok l.tail:=by unfold Res at w;simp only [tV hy] at w;exact w.2
 subst hw
 exact Res.rQ (by rw [DL,if_pos hy])
end
end Par
end
end Go.Eng
