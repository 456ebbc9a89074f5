/- Part of a proof of a law: rules of an evaluator, contracts, plain laws. No condition of its own. -/
import Derived.Test.YtjgmahbgfbkhnaaEngD
set_option linter.unusedVariables false
set_option linter.unusedSimpArgs false
namespace Go.Eng
noncomputable section
def Runs (c:Ctx) (f:Nat) (as:List V) (h:Heap) (r:OR):Prop:=∃N,∀m,N≤m→∀R,N≤R→(aL c R m f as .none h).1=r
def EvC (c:Ctx) (e:C) (env:Env) (h:Heap) (x:X) (env':Env) (h':Heap):Prop:=∃N,∀m,N≤m→∀R,N≤R→code e (aL c R m) R env h= .ok x env' h'
def EvO (c:Ctx) (l:List Opr) (vs:List V) (env:Env) (h:Heap) (x:X) (env':Env) (h':Heap):Prop:=∃N,∀m,N≤m→∀R,N≤R→cB l (aL c R m) vs env h= .ok x env' h'
def EvD (c:Ctx) (l:List Opd) (vs:List V) (lg:List Log) (env:Env) (h:Heap) (x:X) (env':Env) (h':Heap):Prop:=∃N,∀m,N≤m→∀R,N≤R→dx l (aL c R m) vs lg env h= .ok x env' h'
abbrev QT:=X→Env→Heap→Prop
def WP (c:Ctx) (e:C) (Q:QT) (env:Env) (h:Heap):Prop:=∃x env' h',EvC c e env h x env' h'∧Q x env' h'
def WO (c:Ctx) (l:List Opr) (Q:QT) (vs:List V) (env:Env) (h:Heap):Prop:=∃x env' h',EvO c l vs env h x env' h'∧Q x env' h'
def WD (c:Ctx) (l:List Opd) (Q:QT) (vs:List V) (lg:List Log) (env:Env) (h:Heap):Prop:=∃x env' h',EvD c l vs lg env h x env' h'∧Q x env' h'
def QT.seq (c:Ctx) (b:C) (Q:QT):QT:=fun x e h=>match x with
 | .nrm=>WP c b Q e h
 |x=>Q x e h
def QT.block (id:Nat) (Q:QT):QT:=fun x e h=>match x with
 | .exit i=>if i=id then Q .nrm e h else Q (.exit i) e h
 |x=>Q x e h
section
variable {c:Ctx} {Q:QT} {env:Env} {h:Heap}
theorem WP.mono {e:C} {Q':QT} (w:WP c e Q env h) (hq:∀x e h,Q x e h→Q' x e h):WP c e Q' env h:=
 let ⟨x,e',h',ev,q⟩:=w;⟨x,e',h',ev,hq _ _ _ q⟩
theorem WP.skip (q:Q .nrm env h):WP c .skip Q env h:=⟨_,_,_,⟨0,fun _ _ _ _=>rfl⟩,q⟩
theorem WP.ret (q:Q .ret env h):WP c .ret Q env h:=⟨_,_,_,⟨0,fun _ _ _ _=>rfl⟩,q⟩
theorem WP.exit {id:Nat} (q:Q (.exit id) env h):WP c (.exit id) Q env h:=⟨_,_,_,⟨0,fun _ _ _ _=>rfl⟩,q⟩
theorem WP.seq {a b:C} (w:WP c a (Q.seq c b) env h):WP c (.seq a b) Q env h:=by
 obtain ⟨x,e1,h1,⟨N,ev⟩,q⟩:=w
 cases x with
 |nrm=>
  obtain ⟨x2,e2,h2,⟨N2,ev2⟩,q2⟩:=q
  refine ⟨x2,e2,h2,⟨max N N2,fun m hm R hR=> ?_⟩,q2⟩
  show (CR.rec (fun x env h=>X.rec (code b (aL c R m) R env h) (.ok .ret env h) (fun i=> .ok (.exit i) env h) (fun v=> .ok (.pan v) env h) x) .bad (code a (aL c R m) R env h):CR)=_
  rw [ev m (by omega) R (by omega)]
  exact ev2 m (by omega) R (by omega)
 |ret=>exact ⟨_,_,_,⟨N,fun m hm R hR=>by
   show (CR.rec (fun x env h=>X.rec (code b (aL c R m) R env h) (.ok .ret env h) (fun i=> .ok (.exit i) env h) (fun v=> .ok (.pan v) env h) x) .bad (code a (aL c R m) R env h):CR)=_
   rw [ev m hm R hR]⟩,q⟩
 |exit i=>exact ⟨_,_,_,⟨N,fun m hm R hR=>by
   show (CR.rec (fun x env h=>X.rec (code b (aL c R m) R env h) (.ok .ret env h) (fun i=> .ok (.exit i) env h) (fun v=> .ok (.pan v) env h) x) .bad (code a (aL c R m) R env h):CR)=_
   rw [ev m hm R hR]⟩,q⟩
 |pan v=>exact ⟨_,_,_,⟨N,fun m hm R hR=>by
   show (CR.rec (fun x env h=>X.rec (code b (aL c R m) R env h) (.ok .ret env h) (fun i=> .ok (.exit i) env h) (fun v=> .ok (.pan v) env h) x) .bad (code a (aL c R m) R env h):CR)=_
   rw [ev m hm R hR]⟩,q⟩
theorem WP.cond {x:A} {a b:C} {t:Bool} (hx:(x.ev [] env).asBool=some t) (w:WP c (if t then a else b) Q env h):WP c (.cond x a b) Q env h:=by
 obtain ⟨y,e1,h1,⟨N,ev⟩,q⟩:=w
 refine ⟨y,e1,h1,⟨N,fun m hm R hR=> ?_⟩,q⟩
 show (Option.rec .bad (fun t=>Bool.rec (code b (aL c R m) R env h) (code a (aL c R m) R env h) t) (x.ev [] env).asBool:CR)=_
 rw [hx]
 have:=ev m hm R hR
 cases t<;>exact this
theorem WP.block {id:Nat} {a:C} (w:WP c a (Q.block id) env h):WP c (.block id a) Q env h:=by
 obtain ⟨y,e1,h1,⟨N,ev⟩,q⟩:=w
 have key:∀m,N≤m→∀R,N≤R→code (.block id a) (aL c R m) R env h=(CR.rec (fun x env h=>X.rec (.ok .nrm env h) (.ok .ret env h) (fun i=> .ok (Bool.rec (.exit i) .nrm (i.beq id)) env h) (fun v=> .ok (.pan v) env h) x) .bad (CR.ok y e1 h1):CR):=fun m hm R hR=>by rw [←ev m hm R hR];rfl
 cases y with
 |nrm=>exact ⟨_,_,_,⟨N,key⟩,q⟩
 |ret=>exact ⟨_,_,_,⟨N,key⟩,q⟩
 |pan v=>exact ⟨_,_,_,⟨N,key⟩,q⟩
 |exit i=>
  by_cases hi:i=id
  · subst hi
    have q:Q .nrm e1 h1:=by have q:(if i=i then Q .nrm e1 h1 else Q (.exit i) e1 h1):=q;rwa [if_pos rfl] at q
    refine ⟨.nrm,e1,h1,⟨N,fun m hm R hR=> ?_⟩,q⟩
    rw [key m hm R hR]
    show CR.ok (Bool.rec (.exit i) .nrm (i.beq i)) e1 h1=_
    rw [Nat.beq_refl]
  · have q:Q (.exit i) e1 h1:=by have q:(if i=id then Q .nrm e1 h1 else Q (.exit i) e1 h1):=q;rwa [if_neg hi] at q
    refine ⟨.exit i,e1,h1,⟨N,fun m hm R hR=> ?_⟩,q⟩
    rw [key m hm R hR]
    show CR.ok (Bool.rec (.exit i) .nrm (i.beq id)) e1 h1=_
    have:i.beq id=false:=by
     cases hb:i.beq id with
     |false=>rfl
     |true=>exact absurd (Nat.eq_of_beq_eq_true hb) hi
    rw [this]
theorem WP.loop {a:C} (I:Env→Heap→Prop) (μ:Env→Heap→Nat) (h0:I env h) (step:∀e1 h1,I e1 h1→WP c a (fun x e2 h2=>match x with| .nrm=>I e2 h2∧μ e2 h2<μ e1 h1|x=>Q x e2 h2) e1 h1):WP c (.loop a) Q env h:=by
 have key:∀k e1 h1,μ e1 h1=k→I e1 h1→∃x e2 h2,(∃N,∀m,N≤m→∀R,N≤R→∀n,N≤n→rounds (fun env h=>code a (aL c R m) R env h) n e1 h1= .ok x e2 h2)∧Q x e2 h2:=by
  intro k
  induction k using Nat.strongRecOn with
  |_ k ih=>
   intro e1 h1 hk hI
   obtain ⟨x,e2,h2,⟨N,ev⟩,q⟩:=step e1 h1 hI
   have one:∀m,N≤m→∀R,N≤R→∀n,rounds (fun env h=>code a (aL c R m) R env h) (n+1) e1 h1=(X.rec (rounds (fun env h=>code a (aL c R m) R env h) n e2 h2) (.ok .ret e2 h2) (fun i=> .ok (.exit i) e2 h2) (fun v=> .ok (.pan v) e2 h2) x:CR):=by
    intro m hm R hR n
    show (CR.rec (fun x env h=>X.rec (rounds (fun env h=>code a (aL c R m) R env h) n env h) (.ok .ret env h) (fun i=> .ok (.exit i) env h) (fun v=> .ok (.pan v) env h) x) .bad (code a (aL c R m) R e1 h1):CR)=_
    rw [ev m hm R hR]
   cases x with
   |nrm=>
    obtain ⟨hI2,hlt⟩:=q
    obtain ⟨x3,e3,h3,⟨N3,ev3⟩,q3⟩:=ih (μ e2 h2) (hk▸hlt) e2 h2 rfl hI2
    refine ⟨x3,e3,h3,⟨max N N3+1,fun m hm R hR n hn=> ?_⟩,q3⟩
    obtain ⟨n',rfl⟩:∃n',n=n'+1:=⟨n - 1,by omega⟩
    rw [one m (by omega) R (by omega)]
    exact ev3 m (by omega) R (by omega) n' (by omega)
   |ret=>
    refine ⟨.ret,e2,h2,⟨N+1,fun m hm R hR n hn=> ?_⟩,q⟩
    obtain ⟨n',rfl⟩:∃n',n=n'+1:=⟨n - 1,by omega⟩
    rw [one m (by omega) R (by omega)]
   |exit i=>
    refine ⟨.exit i,e2,h2,⟨N+1,fun m hm R hR n hn=> ?_⟩,q⟩
    obtain ⟨n',rfl⟩:∃n',n=n'+1:=⟨n - 1,by omega⟩
    rw [one m (by omega) R (by omega)]
   |pan v=>
    refine ⟨.pan v,e2,h2,⟨N+1,fun m hm R hR n hn=> ?_⟩,q⟩
    obtain ⟨n',rfl⟩:∃n',n=n'+1:=⟨n - 1,by omega⟩
    rw [one m (by omega) R (by omega)]
 obtain ⟨x,e2,h2,⟨N,ev⟩,q⟩:=key _ env h rfl h0
 exact ⟨x,e2,h2,⟨N,fun m hm R hR=>ev m hm R hR R hR⟩,q⟩
theorem WP.reg {acts:Nat} {l:List Opr} (w:WO c l Q [] env h):WP c (.reg acts l) Q env h:=w
theorem WP.draw {pm:List Nat} {l:List Opd} (w:WD c l Q [] [] env h):WP c (.draw pm l) Q env h:=w
theorem WO.nil {vs:List V} (q:Q .nrm env h):WO c [] Q vs env h:=⟨_,_,_,⟨0,fun _ _ _ _=>rfl⟩,q⟩
theorem WO.val {o:OpL} {l:List Opr} {vs:List V} {v:V} (hl:light o (fun a=>a.ev vs env) h= .val v) (w:WO c l Q (v::vs) env h):WO c (.p (.L o)::l) Q vs env h:=by
 obtain ⟨x,e1,h1,⟨N,ev⟩,q⟩:=w
 refine ⟨x,e1,h1,⟨N,fun m hm R hR=> ?_⟩,q⟩
 show ((light o (fun a=>a.ev vs env) h).k h fun v h=>cB l (aL c R m) (v::vs) env h)=_
 rw [hl]
 show v.force (fun v=>cB l (aL c R m) (v::vs) env h)=_
 rw [V.force_eq];exact ev m hm R hR
theorem WO.ak {i j:D8} {o:OpL} {l:List Opr} {vs:List V} {v:V} (hl:light o (fun a=>a.ev vs env) h= .val v) (w:WO c l Q (v::vs) (Env.set i j v env) h):WO c (.s i j (.L o)::l) Q vs env h:=by
 obtain ⟨x,e1,h1,⟨N,ev⟩,q⟩:=w
 refine ⟨x,e1,h1,⟨N,fun m hm R hR=> ?_⟩,q⟩
 show ((light o (fun a=>a.ev vs env) h).k h fun v h=>Env.bJ i j v (fun env=>cB l (aL c R m) (v::vs) env h) env)=_
 rw [hl]
 show v.force (fun v=>Env.bJ i j v (fun env=>cB l (aL c R m) (v::vs) env h) env)=_
 rw [V.force_eq,Env.bK];exact ev m hm R hR
theorem WO.new {o:OpL} {l:List Opr} {vs:List V} {v:V} {ob:Obj} (hl:light o (fun a=>a.ev vs env) h= .new ob v) (hs:bI ob=true) (w:WO c l Q (v::vs) env (h.add ob)):WO c (.p (.L o)::l) Q vs env h:=by
 obtain ⟨x,e1,h1,⟨N,ev⟩,q⟩:=w
 refine ⟨x,e1,h1,⟨N,fun m hm R hR=> ?_⟩,q⟩
 show ((light o (fun a=>a.ev vs env) h).k h fun v h=>cB l (aL c R m) (v::vs) env h)=_
 rw [hl]
 show (Bool.rec .bad (h.newC ob fun h=>cB l (aL c R m) (v::vs) env h) (bI ob):CR)=_
 rw [hs,fE];exact ev m hm R hR
theorem WO.newS {i j:D8} {o:OpL} {l:List Opr} {vs:List V} {v:V} {ob:Obj} (hl:light o (fun a=>a.ev vs env) h= .new ob v) (hs:bI ob=true) (w:WO c l Q (v::vs) (Env.set i j v env) (h.add ob)):WO c (.s i j (.L o)::l) Q vs env h:=by
 obtain ⟨x,e1,h1,⟨N,ev⟩,q⟩:=w
 refine ⟨x,e1,h1,⟨N,fun m hm R hR=> ?_⟩,q⟩
 show ((light o (fun a=>a.ev vs env) h).k h fun v h=>Env.bJ i j v (fun env=>cB l (aL c R m) (v::vs) env h) env)=_
 rw [hl]
 show (Bool.rec .bad (h.newC ob fun h=>Env.bJ i j v (fun env=>cB l (aL c R m) (v::vs) env h) env) (bI ob):CR)=_
 rw [hs,fE,Env.bK];exact ev m hm R hR
theorem WO.act {o:OpH} {l:List Opr} {vs:List V} {v:V} {h2:Heap} (hl:∀call,heavy o call (fun a=>a.ev vs env) h= .ok v h2) (w:WO c l Q (v::vs) env h2):WO c (.p (.H o)::l) Q vs env h:=by
 obtain ⟨x,e1,h1,⟨N,ev⟩,q⟩:=w
 refine ⟨x,e1,h1,⟨N,fun m hm R hR=> ?_⟩,q⟩
 show ((heavy o (aL c R m) (fun a=>a.ev vs env) h).k env fun v h=>cB l (aL c R m) (v::vs) env h)=_
 rw [hl]
 show v.force (fun v=>cB l (aL c R m) (v::vs) env h2)=_
 rw [V.force_eq];exact ev m hm R hR
theorem WO.JR {i j:D8} {o:OpH} {l:List Opr} {vs:List V} {v:V} {h2:Heap} (hl:∀call,heavy o call (fun a=>a.ev vs env) h= .ok v h2) (w:WO c l Q (v::vs) (Env.set i j v env) h2):WO c (.s i j (.H o)::l) Q vs env h:=by
 obtain ⟨x,e1,h1,⟨N,ev⟩,q⟩:=w
 refine ⟨x,e1,h1,⟨N,fun m hm R hR=> ?_⟩,q⟩
 show ((heavy o (aL c R m) (fun a=>a.ev vs env) h).k env fun v h=>Env.bJ i j v (fun env=>cB l (aL c R m) (v::vs) env h) env)=_
 rw [hl]
 show v.force (fun v=>Env.bJ i j v (fun env=>cB l (aL c R m) (v::vs) env h2) env)=_
 rw [V.force_eq,Env.bK];exact ev m hm R hR
theorem jm (h:Heap) (r:OR):ofC h r=r:=by cases r<;>rfl
theorem WO.call {f:Nat} {as:List A} {l:List Opr} {vs:List V} {v:V} {h2:Heap} (hl:Runs c f (evs as fun a=>a.ev vs env) h (.ok v h2)) (w:WO c l Q (v::vs) env h2):WO c (.p (.H (.call f as))::l) Q vs env h:=by
 obtain ⟨x,e1,h1,⟨N,ev⟩,q⟩:=w
 obtain ⟨N2,hl⟩:=hl
 refine ⟨x,e1,h1,⟨max N N2,fun m hm R hR=> ?_⟩,q⟩
 show ((ofC h (aL c R m f (evs as fun a=>a.ev vs env) .none h).1).k env fun v h=>cB l (aL c R m) (v::vs) env h)=_
 rw [jm,hl m (by omega) R (by omega)]
 show v.force (fun v=>cB l (aL c R m) (v::vs) env h2)=_
 rw [V.force_eq];exact ev m (by omega) R (by omega)
theorem WO.FM {i j:D8} {f:Nat} {as:List A} {l:List Opr} {vs:List V} {v:V} {h2:Heap} (hl:Runs c f (evs as fun a=>a.ev vs env) h (.ok v h2)) (w:WO c l Q (v::vs) (Env.set i j v env) h2):WO c (.s i j (.H (.call f as))::l) Q vs env h:=by
 obtain ⟨x,e1,h1,⟨N,ev⟩,q⟩:=w
 obtain ⟨N2,hl⟩:=hl
 refine ⟨x,e1,h1,⟨max N N2,fun m hm R hR=> ?_⟩,q⟩
 show ((ofC h (aL c R m f (evs as fun a=>a.ev vs env) .none h).1).k env fun v h=>Env.bJ i j v (fun env=>cB l (aL c R m) (v::vs) env h) env)=_
 rw [jm,hl m (by omega) R (by omega)]
 show v.force (fun v=>Env.bJ i j v (fun env=>cB l (aL c R m) (v::vs) env h2) env)=_
 rw [V.force_eq,Env.bK];exact ev m (by omega) R (by omega)
theorem Runs.bX {f:Nat} {F:Fun} {as:List V} {r:OR} (hF:T.get f c.aR=some F) (hn:as.length=F.np) (w:WP c F.body (fun x e h'=>match x with
  | .nrm=>∃vs,results e h' F.results=some vs∧r= .ok (one vs) h'
  | .ret=>∃vs,results e h' F.results=some vs∧r= .ok (one vs) h'
  | .pan v=>r= .pan v h'
  | .exit _=>False) (aO as 0 Env.nil) h):Runs c f as h r:=by
 obtain ⟨x,e1,h1,⟨N,ev⟩,q⟩:=w
 refine ⟨N+1,fun m hm R hR=> ?_⟩
 obtain ⟨m',rfl⟩:∃m',m=m'+1:=⟨m - 1,by omega⟩
 show (Option.rec (c.sums (aL c R m') f as h) (fun fn=>gq fn R (aL c R m') as h) (T.get f c.aR):OR)=r
 rw [hF]
 show gq F R (aL c R m') as h=r
 unfold gq
 have hl:(bO as).beq F.np=true:=by rw [eG,hn];exact Nat.beq_refl _
 rw [hl]
 show mQ F.results (args as 0 Env.nil fun env=>code F.body (aL c R m') R env h)=r
 rw [iW,ev m' (by omega) R (by omega)]
 have fin:∀vs,results e1 h1 F.results=some vs→finish F.results e1 h1= .ok (one vs) h1:=fun vs hv=>by unfold finish;rw [hv]
 cases x with
 |nrm=>obtain ⟨vs,hv,hr⟩:=q;rw [hr];exact fin vs hv
 |ret=>obtain ⟨vs,hv,hr⟩:=q;rw [hr];exact fin vs hv
 |pan v=>exact q.symm
 |exit i=>exact q.elim
end
end
end Go.Eng
namespace Go.Eng
noncomputable section
structure Wf (h:Heap):Prop where
 t:∀b,T.get b h.t≠none→b<h.next
 f:∀b,T.get b h.aJ≠none→b<h.next
 lim:8≤h.next
structure Same (B:Nat) (h h':Heap):Prop where
 next:h.next≤h'.next
 t:∀b,b<B→T.get b h'.t=T.get b h.t
 f:∀b,b<B→T.get b h'.aJ=T.get b h.aJ
 wf:Wf h→Wf h'
theorem Same.refl (B:Nat) (h:Heap):Same B h h:=⟨Nat.le_refl _,fun _ _=>rfl,fun _ _=>rfl,fun w=>w⟩
theorem Same.trans {B:Nat} {a b c:Heap} (x:Same B a b) (y:Same B b c):Same B a c:=
 ⟨Nat.le_trans x.next y.next,fun k hk=>(y.t k hk).trans (x.t k hk),fun k hk=>(y.f k hk).trans (x.f k hk),fun w=>y.wf (x.wf w)⟩
theorem Same.mono {B B':Nat} {a b:Heap} (x:Same B a b) (hB:B'≤B):Same B' a b:=
 ⟨x.next,fun k hk=>x.t k (Nat.lt_of_lt_of_le hk hB),fun k hk=>x.f k (Nat.lt_of_lt_of_le hk hB),x.wf⟩
theorem nu (h:Heap) (ob:Obj) (b:Nat):T.get b (h.add ob).t=if b=h.next then some ob else T.get b h.t:=
 T.aU (Nat.zero_le _) (Nat.zero_le _) ..
theorem dG (h:Heap) (ob:Obj):T.get h.next (h.add ob).t=some ob:=by rw [nu,if_pos rfl]
theorem dZ {h:Heap} {ob:Obj} {b:Nat} (hb:b<h.next):T.get b (h.add ob).t=T.get b h.t:=by rw [nu,if_neg (by omega)]
theorem Same.add {B:Nat} {h:Heap} (hB:B≤h.next) (ob:Obj):Same B h (h.add ob):=by
 refine ⟨Nat.le_succ _,fun b hb=>dZ (by omega),fun _ _=>rfl,fun w=>⟨fun b hb=> ?_,fun b hb=>Nat.lt_succ_of_lt (w.f b hb),Nat.le_succ_of_le w.lim⟩⟩
 rw [nu] at hb
 by_cases e:b=h.next
 · show b<h.next+1;omega
 · rw [if_neg e] at hb;exact Nat.lt_succ_of_lt (w.t b hb)
inductive Acc (B r:Nat) (h:Heap):V→List (List V)→Prop
 |nil:Acc B r h .slN []
 |row {b f ap:Nat} {t:T (List V)} {rows:List (List V)} (h8:8≤b) (hn:0<rows.length) (hb:B≤b) (hf:B≤f) (hfb:f≤b) (hob:T.get b h.t=some (.cells r f ap (rows.length * r) t))
   (hrow:∀i row,rows[i]? =some row→T.get i t=some row) (hfam:∀F,T.get f h.aJ=some F→F.last≤ap+rows.length * r) (hlen:∀row∈rows,row.length=r):
   Acc B r h (.sl b 0 rows.length none) rows
theorem Acc.len {B r:Nat} {h:Heap} {v:V} {rows:List (List V)} (a:Acc B r h v rows):∀row∈rows,row.length=r:=by
 cases a with
 |nil=>intro row hm;simp at hm
 |row h8 hn hb hf hfb hob hrow hfam hlen=>exact hlen
theorem acc_append1 {B r bytes:Nat} {h:Heap} {v:V} {rows:List (List V)} (hr:0<r) (hB:B≤h.next) (w:Wf h) (a:Acc B r h v rows) {row:List V} (hl:row.length=r) (hfit:(rows.length+1) * bytes≤1099511627776):
  ∃v' h',bq h r bytes v row 1= .ok v' h'∧Acc B r h' v' (rows++[row])∧Same B h h'∧h'.next=h.next+1∧∀b,b<h.next→T.get b h'.t=T.get b h.t:=by
 have hfn:T.get h.next h.aJ=none:=by
  cases e:T.get h.next h.aJ with
  |none=>rfl
  |some F=>have:=w.f h.next (by rw [e];simp);omega
 cases a with
 |nil=>
  refine ⟨.sl h.next 0 1 none,h.add (.cells r h.next 0 (1 * r) (aH r 1 0 row T.e)), ?_, ?_,Same.add hB _,rfl,fun b hb=>dZ hb⟩
  · unfold bq
    have h1:(Nat.mul 1 bytes).ble 1099511627776=true:=by
     rw [dO];have:1 * bytes≤1099511627776:=by simpa using hfit
     simpa using this
    simp only [show Nat.beq 1 0=false from rfl,cond_false,h1,cond_true,force_eq,aX]
    show (Bool.rec .bad (h.newC (.cells r h.next 0 (Nat.mul 1 r) (aH r 1 0 row T.e)) fun h2=> .ok (.sl h.next 0 1 none) h2) (bI (.cells r h.next 0 (Nat.mul 1 r) (aH r 1 0 row T.e))):OR)=_
    have hs:bI (.cells r h.next 0 (Nat.mul 1 r) (aH r 1 0 row T.e))=true:=by show Nat.blt 0 r=true;rw [eH];simpa using hr
    rw [hs,fE];rfl
  · refine Acc.row (rows:=[row]) (f:=h.next) (ap:=0) (t:=aH r 1 0 row T.e) w.lim (by simp) hB hB (Nat.le_refl _) (dG ..) (fun i x hx=> ?_) (fun F hF=> ?_) (fun x hx=> ?_)
    · cases i with
      |zero=>
       simp at hx;subst hx
       rw [bW r 1 0 row T.e 0 (by omega) (by omega),if_pos ⟨by omega,by omega⟩]
       simp [←hl]
      |succ i=>simp at hx
    · rw [show T.get h.next (h.add (.cells r h.next 0 (1 * r) (aH r 1 0 row T.e))).aJ=T.get h.next h.aJ from rfl,hfn] at hF;cases hF
    · simp at hx;rw [hx];exact hl
 |row h8 hn hb hf hfb hob hrow hfam hlen=>
  rename_i b f ap t
  have hbn:b<h.next:=w.t b (by rw [hob];simp)
  have fin:∀l,∃h2,h2=(⟨h.t,h.next,T.set f ⟨ap+0+rows.length * r+r,l⟩ h.aJ,h.ds,h.pc⟩:Heap).add (.cells r f ap ((rows.length+1) * r) (aH r 1 rows.length row t))∧
    Acc B r h2 (.sl h.next 0 (rows.length+1) none) (rows++[row])∧(f<h.next→Same B h h2)∧h2.next=h.next+1∧∀b,b<h.next→T.get b h2.t=T.get b h.t:=by
   intro l
   refine ⟨_,rfl, ?_,fun hfl=> ?_,rfl,fun k hk=> ?_⟩
   · have hln:(rows++[row]).length=rows.length+1:=by simp
     have:=Acc.row (B:=B) (r:=r) (h:=(⟨h.t,h.next,T.set f ⟨ap+0+rows.length * r+r,l⟩ h.aJ,h.ds,h.pc⟩:Heap).add (.cells r f ap ((rows.length+1) * r) (aH r 1 rows.length row t)))
      (b:=h.next) (f:=f) (ap:=ap) (t:=aH r 1 rows.length row t) (rows:=rows++[row]) w.lim (by simp) hB hf (by omega) (by rw [hln];exact dG ..) (fun i x hx=> ?_) (fun F hF=> ?_) (fun x hx=> ?_)
     · rw [hln] at this;exact this
     · rw [bW r 1 rows.length row t i (by omega) (by omega)]
       by_cases hi:i=rows.length
       · subst hi
         simp at hx;subst hx
         rw [if_pos ⟨by omega,by omega⟩];simp [←hl]
       · have hi2:i<rows.length:=by have:=(List.getElem?_eq_some_iff.1 hx).1;simp at this;omega
         rw [if_neg (by omega)]
         rw [List.getElem?_append_left hi2] at hx
         exact hrow i x hx
     · have hF:T.get f (T.set f (⟨ap+0+rows.length * r+r,l⟩:Fam) h.aJ)=some F:=hF
       rw [T.get_set_same] at hF;cases hF
       show ap+0+rows.length * r+r≤ap+(rows++[row]).length * r
       rw [hln,Nat.add_mul];omega
     · rcases List.mem_append.1 hx with hx|hx
       · exact hlen x hx
       · simp at hx;rw [hx];exact hl
   · refine ⟨Nat.le_succ _,fun k hk=> ?_,fun k hk=> ?_,fun w=>⟨fun k hk=> ?_,fun k hk=> ?_,Nat.le_succ_of_le w.lim⟩⟩
     · exact dZ (h:=(⟨h.t,h.next,_,h.ds,h.pc⟩:Heap)) (Nat.lt_of_lt_of_le hk hB)
     · show T.get k (T.set f _ h.aJ)=_
       rw [T.aU (Nat.zero_le _) (Nat.zero_le _),if_neg (by omega)]
     · rw [nu] at hk
       by_cases e:k=h.next
       · show k<h.next+1;omega
       · rw [if_neg e] at hk;exact Nat.lt_succ_of_lt (w.t k hk)
     · show k<h.next+1
       by_cases e:k=f
       · omega
       · have hk:T.get k (T.set f _ h.aJ)≠none:=hk
         rw [T.aU (Nat.zero_le _) (Nat.zero_le _),if_neg e] at hk
         have:=w.f k hk;omega
   · exact dZ (h:=(⟨h.t,h.next,_,h.ds,h.pc⟩:Heap)) hk
  have hfl:f<h.next:=by omega
  have run:∃l,bq h r bytes (.sl b 0 rows.length none) row 1= .ok (.sl h.next 0 (rows.length+1) none) ((⟨h.t,h.next,T.set f ⟨ap+0+rows.length * r+r,l⟩ h.aJ,h.ds,h.pc⟩:Heap).add (.cells r f ap ((rows.length+1) * r) (aH r 1 rows.length row t))):=by
   unfold bq gM
   have h1:(Nat.mul (Nat.add rows.length 1) bytes).ble 1099511627776=true:=by rw [dO];simpa using hfit
   have h2:Nat.ble 8 b=true:=Nat.ble_eq_true_of_le h8
   simp only [show Nat.beq 1 0=false from rfl,cond_false,force_eq,h1,h2,Bool.and_self,cond_true]
   show ∃l,(Obj.cells? .bad _ (h.obj b):OR)=_
   rw [show h.obj b=some (.cells r f ap (rows.length * r) t) from hob]
   have c1:(r.beq r&&(Nat.mod 0 r).beq 0)=true:=by
    have:Nat.mod 0 r=0:=Nat.zero_mod r
    rw [this,Nat.beq_refl];rfl
   have c2:(Nat.add 0 (Nat.mul (Nat.add rows.length 1) r)).ble (rows.length * r)=false:=by
    rw [dO]
    have:¬(0+(rows.length+1) * r≤rows.length * r):=by rw [Nat.add_mul];omega
    simpa using this
   have c3:(Nat.add 0 (Nat.mul rows.length r)).ble (rows.length * r)=true:=by
    rw [dO]
    simp
   show ∃l,(bif (r.beq r&&(Nat.mod 0 r).beq 0) then _ else _)=_
   rw [c1,cond_true]
   show ∃l,(bif (Nat.add 0 (Nat.mul (Nat.add rows.length 1) r)).ble (rows.length * r) then _ else _)=_
   rw [c2,cond_false]
   show ∃l,(bif (Nat.add 0 (Nat.mul rows.length r)).ble (rows.length * r) then _ else _)=_
   rw [c3,cond_true]
   have hs:bI (.cells r f ap (Nat.mul (Nat.add rows.length 1) r) (aH r 1 rows.length row t))=true:=by show Nat.blt 0 r=true;rw [eH];simpa using hr
   have last:∀h3:Heap,(bif Nat.beq 0 0 then setRows r 1 rows.length row t fun t=>mk h3 (.cells r f ap (Nat.mul (Nat.add rows.length 1) r) t) (.sl h.next 0 (Nat.add rows.length 1) none)
     else Option.rec .bad (fun old=>force (Nat.add ap 0) fun ap=>setRows r (Nat.add rows.length 1) 0 (bV old row) T.e fun t=>mk h3 (.cells r f ap (Nat.mul (Nat.add rows.length 1) r) t) (.sl h.next 0 (Nat.add rows.length 1) none)) (dV t rows.length (Nat.div 0 r)):OR)=
     .ok (.sl h.next 0 (rows.length+1) none) (h3.add (.cells r f ap ((rows.length+1) * r) (aH r 1 rows.length row t))):=by
    intro h3
    rw [show Nat.beq 0 0=true from rfl,cond_true,aX]
    show (Bool.rec .bad (h3.newC (.cells r f ap (Nat.mul (Nat.add rows.length 1) r) (aH r 1 rows.length row t)) fun h2=> .ok (.sl h.next 0 (rows.length+1) none) h2) (bI (.cells r f ap (Nat.mul (Nat.add rows.length 1) r) (aH r 1 rows.length row t))):OR)=_
    rw [hs,fE];rfl
   have htop:(Nat.add (Nat.add ap 0) (Nat.mul (Nat.add rows.length 1) r))=ap+0+rows.length * r+r:=by
    show ap+0+(rows.length+1) * r=_
    rw [Nat.add_mul];omega
   unfold grown
   cases hF:T.get f h.aJ with
   |none=>
    have c4:(Nat.add (Nat.add ap 0) (Nat.mul rows.length r)).blt (Nat.add ap (rows.length * r))=false:=by
     rw [eH]
     simp
    refine ⟨[h.next,b], ?_⟩
    show (Bool.rec (eO h f _ [h.next,b] _) _ ((Nat.add (Nat.add ap 0) (Nat.mul rows.length r)).blt (Nat.add ap (rows.length * r))):OR)=_
    rw [c4]
    show eO h f _ [h.next,b] _=_
    rw [gP,htop]
    exact last _
   |some F=>
    have c5:(Fam.last F).ble (Nat.add (Nat.add ap 0) (Nat.mul rows.length r))=true:=by
     rw [dO]
     have:F.last≤ap+0+rows.length * r:=by have:=hfam F hF;omega
     simpa using this
    refine ⟨h.next::F.mem, ?_⟩
    show (Bool.rec _ (eO h f _ (h.next::Fam.mem F) _) ((Fam.last F).ble (Nat.add (Nat.add ap 0) (Nat.mul rows.length r))):OR)=_
    rw [c5]
    show eO h f _ (h.next::Fam.mem F) _=_
    rw [gP,htop]
    exact last _
  obtain ⟨l,hrun⟩:=run
  obtain ⟨h2,rfl,k1,k2,k3,k4⟩:=fin l
  exact ⟨_,_,hrun,k1,k2 hfl,k3,k4⟩
end
end Go.Eng
namespace Go.Eng
noncomputable section
inductive Rows (r:Nat) (h:Heap):V→List (List V)→Prop
 |nil:Rows r h .slN []
 |row {b o f ap sz:Nat} {cap:Option Nat} {t:T (List V)} {rows:List (List V)} (hr:0<r) (hob:T.get b h.t=some (.cells r f ap sz t)) (ho:o % r=0)
   (hrow:∀i row,rows[i]? =some row→T.get (o / r+i) t=some row) (hsz:o+rows.length * r≤sz) (hlen:∀row∈rows,row.length=r):Rows r h (.sl b o rows.length cap) rows
theorem Acc.rows {B r:Nat} {h:Heap} {v:V} {rows:List (List V)} (hr:0<r) (a:Acc B r h v rows):Rows r h v rows:=by
 cases a with
 |nil=>exact .nil
 |row h8 hn hb hf hfb hob hrow hfam hlen=>
  exact .row hr hob (Nat.zero_mod r) (fun i row hi=>by rw [Nat.zero_div,Nat.zero_add];exact hrow i row hi) (by omega) hlen
theorem Rows.stay {r:Nat} {h h':Heap} {v:V} {rows:List (List V)} (a:Rows r h v rows) (hk:∀b,b<h.next→T.get b h'.t=T.get b h.t) (w:Wf h):Rows r h' v rows:=by
 cases a with
 |nil=>exact .nil
 |row hr hob ho hrow hsz hlen=>exact .row hr (by rw [hk _ (w.t _ (by rw [hob];simp))];exact hob) ho hrow hsz hlen
theorem Rows.same {r B:Nat} {h h':Heap} {v:V} {rows:List (List V)} (a:Rows r h v rows) (s:Same B h h') (hB:∀b o n cap,v= .sl b o n cap→b<B):Rows r h' v rows:=by
 cases a with
 |nil=>exact .nil
 |row hr hob ho hrow hsz hlen=>exact .row hr (by rw [s.t _ (hB _ _ _ _ rfl)];exact hob) ho hrow hsz hlen
theorem FN {r o i:Nat} (hr:0<r) (ho:o % r=0):(o+i * r) / r=o / r+i:=by
 rw [Nat.add_mul_div_right _ _ hr]
theorem off_mod {r o i:Nat} (ho:o % r=0):(o+i * r) % r=0:=by rw [Nat.add_mul_mod_self_right];exact ho
theorem Rows.cO {r b o n i:Nat} {cap:Option Nat} {h:Heap} {rows:List (List V)} {row:List V} (a:Rows r h (.sl b o n cap) rows) (hi:rows[i]? =some row):h.load b (o+i * r) r=some row:=by
 cases a with
 |row hr hob ho hrow hsz hlen=>
  rename_i f ap sz t
  have hlt:i<rows.length:=(List.getElem?_eq_some_iff.1 hi).1
  have hle:(i+1) * r≤rows.length * r:=Nat.mul_le_mul_right r hlt
  unfold Heap.load
  have h0:r.beq 0=false:=by
   cases hb:r.beq 0 with
   |false=>rfl
   |true=>have:=Nat.eq_of_beq_eq_true hb;omega
  rw [h0,cond_false,show h.obj b=_ from hob]
  show (bif (Nat.add (o+i * r) r).ble sz then cut r (o+i * r) r t else none)=_
  have h1:(Nat.add (o+i * r) r).ble sz=true:=by
   rw [dO]
   have:o+i * r+r≤sz:=Nat.le_trans (by rw [Nat.add_mul,Nat.one_mul] at hle;omega) hsz
   simpa using this
  rw [h1,cond_true]
  unfold cut
  have h2:(r.beq r&&((o+i * r).mod r).beq 0)=true:=by
   have:(o+i * r).mod r=0:=off_mod ho
   rw [this,Nat.beq_refl];rfl
  rw [h2,cond_true]
  have:(o+i * r).div r=o / r+i:=FN hr ho
  rw [this];exact hrow i row hi
theorem Rows.bE {b o n i:Nat} {cap:Option Nat} {h:Heap} {rows:List (List V)} {x:V} (a:Rows 1 h (.sl b o n cap) rows) (hi:rows[i]? =some [x]):h.bE b (o+i * 1)=some x:=by
 cases a with
 |row hr hob ho hrow hsz hlen=>
  rename_i f ap sz t
  have hlt:i<rows.length:=(List.getElem?_eq_some_iff.1 hi).1
  unfold Heap.bE
  rw [show h.obj b=_ from hob]
  show (Bool.rec none (lM 1 (o+i * 1) t) ((o+i * 1).blt sz):Option V)=_
  have h1:(o+i * 1).blt sz=true:=by rw [eH];simp;omega
  rw [h1]
  show lM 1 (o+i * 1) t=_
  unfold lM
  have h2:(o+i * 1).div 1=o / 1+i:=FN (by omega) ho
  have h3:(o+i * 1).mod 1=0:=Nat.mod_one _
  rw [h2,h3,hrow i [x] hi]
  rfl
theorem Rows.len {r:Nat} {h:Heap} {v:V} {rows:List (List V)} (a:Rows r h v rows):(v= .slN∧rows=[])∨∃b o cap,v= .sl b o rows.length cap:=by
 cases a with
 |nil=>exact .inl ⟨rfl,rfl⟩
 |row=>exact .inr ⟨_,_,_,rfl⟩
end
end Go.Eng
namespace Go.Eng
noncomputable section
mutual
theorem V.gU:∀v:V,V.same v v=true
 | .bot=>rfl
 | .bool b=>by simp [V.same]
 | .int k n=>by simp [V.same]
 | .str n x=>by
   show (Bool.rec false (x.beq x) (n.beq n):Bool)=true
   rw [Nat.beq_refl n];exact Nat.beq_refl x
 | .ptrN=>rfl
 | .ptr a o=>by show (a.beq a&&o.beq o)=true;rw [Nat.beq_refl,Nat.beq_refl];rfl
 | .slN=>rfl
 | .sl a o n c=>by show (a.beq a&&(o.beq o&&(n.beq n&&c==c)))=true;rw [Nat.beq_refl,Nat.beq_refl,Nat.beq_refl];simp
 | .mapN=>rfl
 | .map a=>Nat.beq_refl a
 | .fn f a b=>by show (f.beq f&&(V.nR a a&&V.nR b b))=true;rw [Nat.beq_refl,V.iE a,V.iE b];rfl
 | .fnN=>rfl
 | .ifc t v=>by show (t.beq t&&V.same v v)=true;rw [Nat.beq_refl,V.gU v];rfl
 | .ifcN=>rfl
 | .agg a=>V.iE a
 | .tup a=>V.iE a
theorem V.iE:∀l:List V,V.nR l l=true
 |[]=>rfl
 |a::l=>by show (V.same a a&&V.nR l l)=true;rw [V.gU a,V.iE l];rfl
end
theorem aD {h:Heap} {f:Heap→LR} {v:V} (he:f h= .val v):still h (.rd f v)=true:=by
 show finds f v h=true
 unfold finds;rw [he];exact V.gU v
theorem gy (h:Heap) (lg:List Log):bZ [] h lg=true:=rfl
theorem dm {d:Nat} {uo:List Nat} {h:Heap} {lg:List Log} (h1:still h (logAt lg d)=true) (h2:bZ uo h lg=true):bZ (d::uo) h lg=true:=by
 show (Bool.rec false (bZ uo h lg) (still h (logAt lg d)):Bool)=true
 rw [h1];exact h2
section
variable {c:Ctx} {Q:QT} {env:Env} {h:Heap}
theorem WD.nil {vs:List V} {lg:List Log} (q:Q .nrm env h):WD c [] Q vs lg env h:=⟨_,_,_,⟨0,fun _ _ _ _=>rfl⟩,q⟩
theorem WD.val {o:OpL} {uo:List Nat} {l:List Opd} {vs:List V} {lg:List Log} {v:V} (hl:light o (fun a=>a.ev vs env) h= .val v) (w:WD c l Q (v::vs) (.rd (light o (fun a=>a.ev vs env)) v::lg) env h):WD c (⟨.p (.L o),uo⟩::l) Q vs lg env h:=by
 obtain ⟨x,e1,h1,⟨N,ev⟩,q⟩:=w
 refine ⟨x,e1,h1,⟨N,fun m hm R hR=> ?_⟩,q⟩
 show ((light o (fun a=>a.ev vs env) h).kd (light o (fun a=>a.ev vs env)) h fun l' v h=>dx l (aL c R m) (v::vs) (l'::lg) env h)=_
 rw [hl]
 show v.force (fun v=>dx l (aL c R m) (v::vs) (.rd (light o (fun a=>a.ev vs env)) v::lg) env h)=_
 rw [V.force_eq];exact ev m hm R hR
theorem WD.ak {i j:D8} {o:OpL} {uo:List Nat} {l:List Opd} {vs:List V} {lg:List Log} {v:V} (hl:light o (fun a=>a.ev vs env) h= .val v) (w:WD c l Q (v::vs) (.rd (light o (fun a=>a.ev vs env)) v::lg) (Env.set i j v env) h):WD c (⟨.s i j (.L o),uo⟩::l) Q vs lg env h:=by
 obtain ⟨x,e1,h1,⟨N,ev⟩,q⟩:=w
 refine ⟨x,e1,h1,⟨N,fun m hm R hR=> ?_⟩,q⟩
 show ((light o (fun a=>a.ev vs env) h).kd (light o (fun a=>a.ev vs env)) h fun l' v h=>Env.bJ i j v (fun env=>dx l (aL c R m) (v::vs) (l'::lg) env h) env)=_
 rw [hl]
 show v.force (fun v=>Env.bJ i j v (fun env=>dx l (aL c R m) (v::vs) (.rd (light o (fun a=>a.ev vs _)) v::lg) env h) env)=_
 rw [V.force_eq,Env.bK];exact ev m hm R hR
theorem WD.new {o:OpL} {uo:List Nat} {l:List Opd} {vs:List V} {lg:List Log} {v:V} {ob:Obj} (hl:light o (fun a=>a.ev vs env) h= .new ob v) (hs:bI ob=true) (w:WD c l Q (v::vs) (.nw h.next ob::lg) env (h.add ob)):WD c (⟨.p (.L o),uo⟩::l) Q vs lg env h:=by
 obtain ⟨x,e1,h1,⟨N,ev⟩,q⟩:=w
 refine ⟨x,e1,h1,⟨N,fun m hm R hR=> ?_⟩,q⟩
 show ((light o (fun a=>a.ev vs env) h).kd (light o (fun a=>a.ev vs env)) h fun l' v h=>dx l (aL c R m) (v::vs) (l'::lg) env h)=_
 rw [hl]
 show force h.next (fun id=>Dr (fun v h=>dx l (aL c R m) (v::vs) (.nw id ob::lg) env h) h ob v)=_
 rw [force_eq]
 show (Bool.rec .bad (h.newC ob fun h'=>dx l (aL c R m) (v::vs) (.nw h.next ob::lg) env h') (bI ob):CR)=_
 rw [hs,fE];exact ev m hm R hR
theorem WD.newS {i j:D8} {o:OpL} {uo:List Nat} {l:List Opd} {vs:List V} {lg:List Log} {v:V} {ob:Obj} (hl:light o (fun a=>a.ev vs env) h= .new ob v) (hs:bI ob=true) (w:WD c l Q (v::vs) (.nw h.next ob::lg) (Env.set i j v env) (h.add ob)):WD c (⟨.s i j (.L o),uo⟩::l) Q vs lg env h:=by
 obtain ⟨x,e1,h1,⟨N,ev⟩,q⟩:=w
 refine ⟨x,e1,h1,⟨N,fun m hm R hR=> ?_⟩,q⟩
 show ((light o (fun a=>a.ev vs env) h).kd (light o (fun a=>a.ev vs env)) h fun l' v h=>Env.bJ i j v (fun env=>dx l (aL c R m) (v::vs) (l'::lg) env h) env)=_
 rw [hl]
 show force h.next (fun id=>Dr (fun v h=>Env.bJ i j v (fun env=>dx l (aL c R m) (v::vs) (.nw id ob::lg) env h) env) h ob v)=_
 rw [force_eq]
 show (Bool.rec .bad (h.newC ob fun h'=>Env.bJ i j v (fun env=>dx l (aL c R m) (v::vs) (.nw h.next ob::lg) env h') env) (bI ob):CR)=_
 rw [hs,fE,Env.bK];exact ev m hm R hR
theorem WD.act {o:OpH} {uo:List Nat} {l:List Opd} {vs:List V} {lg:List Log} {v:V} {h2:Heap} (hl:∀call,heavy o call (fun a=>a.ev vs env) h= .ok v h2) (hs:bZ uo h2 lg=true) (w:WD c l Q (v::vs) (.no::lg) env h2):WD c (⟨.p (.H o),uo⟩::l) Q vs lg env h:=by
 obtain ⟨x,e1,h1,⟨N,ev⟩,q⟩:=w
 refine ⟨x,e1,h1,⟨N,fun m hm R hR=> ?_⟩,q⟩
 show ((heavy o (aL c R m) (fun a=>a.ev vs env) h).k env fun v h'=>Bool.rec .bad (dx l (aL c R m) (v::vs) (.no::lg) env h') (bZ uo h' lg))=_
 rw [hl]
 show v.force (fun v=>(Bool.rec .bad (dx l (aL c R m) (v::vs) (.no::lg) env h2) (bZ uo h2 lg):CR))=_
 rw [V.force_eq,hs];exact ev m hm R hR
theorem WD.JR {i j:D8} {o:OpH} {uo:List Nat} {l:List Opd} {vs:List V} {lg:List Log} {v:V} {h2:Heap} (hl:∀call,heavy o call (fun a=>a.ev vs env) h= .ok v h2) (hs:bZ uo h2 lg=true) (w:WD c l Q (v::vs) (.no::lg) (Env.set i j v env) h2):WD c (⟨.s i j (.H o),uo⟩::l) Q vs lg env h:=by
 obtain ⟨x,e1,h1,⟨N,ev⟩,q⟩:=w
 refine ⟨x,e1,h1,⟨N,fun m hm R hR=> ?_⟩,q⟩
 show ((heavy o (aL c R m) (fun a=>a.ev vs env) h).k env fun v h'=>Bool.rec .bad (Env.bJ i j v (fun env=>dx l (aL c R m) (v::vs) (.no::lg) env h') env) (bZ uo h' lg))=_
 rw [hl]
 show v.force (fun v=>(Bool.rec .bad (Env.bJ i j v (fun env=>dx l (aL c R m) (v::vs) (.no::lg) env h2) env) (bZ uo h2 lg):CR))=_
 rw [V.force_eq,hs]
 show Env.bJ i j v (fun env=>dx l (aL c R m) (v::vs) (.no::lg) env h2) env=_
 rw [Env.bK];exact ev m hm R hR
theorem WD.call {f:Nat} {as:List A} {uo:List Nat} {l:List Opd} {vs:List V} {lg:List Log} {v:V} {h2:Heap} (hl:Runs c f (evs as fun a=>a.ev vs env) h (.ok v h2)) (hs:bZ uo h2 lg=true) (w:WD c l Q (v::vs) (.no::lg) env h2):WD c (⟨.p (.H (.call f as)),uo⟩::l) Q vs lg env h:=by
 obtain ⟨x,e1,h1,⟨N,ev⟩,q⟩:=w
 obtain ⟨N2,hl⟩:=hl
 refine ⟨x,e1,h1,⟨max N N2,fun m hm R hR=> ?_⟩,q⟩
 show ((ofC h (aL c R m f (evs as fun a=>a.ev vs env) .none h).1).k env fun v h'=>Bool.rec .bad (dx l (aL c R m) (v::vs) (.no::lg) env h') (bZ uo h' lg))=_
 rw [jm,hl m (by omega) R (by omega)]
 show v.force (fun v=>(Bool.rec .bad (dx l (aL c R m) (v::vs) (.no::lg) env h2) (bZ uo h2 lg):CR))=_
 rw [V.force_eq,hs];exact ev m (by omega) R (by omega)
theorem WD.FM {i j:D8} {f:Nat} {as:List A} {uo:List Nat} {l:List Opd} {vs:List V} {lg:List Log} {v:V} {h2:Heap} (hl:Runs c f (evs as fun a=>a.ev vs env) h (.ok v h2)) (hs:bZ uo h2 lg=true) (w:WD c l Q (v::vs) (.no::lg) (Env.set i j v env) h2):WD c (⟨.s i j (.H (.call f as)),uo⟩::l) Q vs lg env h:=by
 obtain ⟨x,e1,h1,⟨N,ev⟩,q⟩:=w
 obtain ⟨N2,hl⟩:=hl
 refine ⟨x,e1,h1,⟨max N N2,fun m hm R hR=> ?_⟩,q⟩
 show ((ofC h (aL c R m f (evs as fun a=>a.ev vs env) .none h).1).k env fun v h'=>Bool.rec .bad (Env.bJ i j v (fun env=>dx l (aL c R m) (v::vs) (.no::lg) env h') env) (bZ uo h' lg))=_
 rw [jm,hl m (by omega) R (by omega)]
 show v.force (fun v=>(Bool.rec .bad (Env.bJ i j v (fun env=>dx l (aL c R m) (v::vs) (.no::lg) env h2) env) (bZ uo h2 lg):CR))=_
 rw [V.force_eq,hs]
 show Env.bJ i j v (fun env=>dx l (aL c R m) (v::vs) (.no::lg) env h2) env=_
 rw [Env.bK];exact ev m (by omega) R (by omega)
theorem WO.yes {g:A} {b:Bool} {op:Op} {l:List Opr} {vs:List V} (hg:(g.ev vs env).gd b=some true) (w:WO c (.p op::l) Q vs env h):WO c (.g g b op::l) Q vs env h:=by
 obtain ⟨x,e1,h1,⟨N,ev⟩,q⟩:=w
 refine ⟨x,e1,h1,⟨N,fun m hm R hR=> ?_⟩,q⟩
 show (Option.rec .bad (fun c1=>Bool.rec (cB l (aL c R m) (un::vs) env h) (oP op (cB l) (aL c R m) vs env h) c1) ((g.ev vs env).gd b):CR)=_
 rw [hg];exact ev m hm R hR
theorem WO.no {g:A} {b:Bool} {op:Op} {l:List Opr} {vs:List V} (hg:(g.ev vs env).gd b=some false) (w:WO c l Q (un::vs) env h):WO c (.g g b op::l) Q vs env h:=by
 obtain ⟨x,e1,h1,⟨N,ev⟩,q⟩:=w
 refine ⟨x,e1,h1,⟨N,fun m hm R hR=> ?_⟩,q⟩
 show (Option.rec .bad (fun c1=>Bool.rec (cB l (aL c R m) (un::vs) env h) (oP op (cB l) (aL c R m) vs env h) c1) ((g.ev vs env).gd b):CR)=_
 rw [hg];exact ev m hm R hR
theorem WO.yesS {g:A} {b:Bool} {i j:D8} {op:Op} {l:List Opr} {vs:List V} (hg:(g.ev vs env).gd b=some true) (w:WO c (.s i j op::l) Q vs env h):WO c (.gs g b i j op::l) Q vs env h:=by
 obtain ⟨x,e1,h1,⟨N,ev⟩,q⟩:=w
 refine ⟨x,e1,h1,⟨N,fun m hm R hR=> ?_⟩,q⟩
 show (Option.rec .bad (fun c1=>Bool.rec (Env.bJ i j un (fun env=>cB l (aL c R m) (un::vs) env h) env) (oS i j op (cB l) (aL c R m) vs env h) c1) ((g.ev vs env).gd b):CR)=_
 rw [hg];exact ev m hm R hR
theorem WO.noS {g:A} {b:Bool} {i j:D8} {op:Op} {l:List Opr} {vs:List V} (hg:(g.ev vs env).gd b=some false) (w:WO c l Q (un::vs) (Env.set i j un env) h):WO c (.gs g b i j op::l) Q vs env h:=by
 obtain ⟨x,e1,h1,⟨N,ev⟩,q⟩:=w
 refine ⟨x,e1,h1,⟨N,fun m hm R hR=> ?_⟩,q⟩
 show (Option.rec .bad (fun c1=>Bool.rec (Env.bJ i j un (fun env=>cB l (aL c R m) (un::vs) env h) env) (oS i j op (cB l) (aL c R m) vs env h) c1) ((g.ev vs env).gd b):CR)=_
 rw [hg]
 show Env.bJ i j un (fun env=>cB l (aL c R m) (un::vs) env h) env=_
 rw [Env.bK];exact ev m hm R hR
end
end
end Go.Eng
namespace Go.Eng
noncomputable section
structure Fr (M F:List Nat) (h h':Heap):Prop where
 next:h.next≤h'.next
 t:∀b,b<h.next→b∉M→T.get b h'.t=T.get b h.t
 f:∀b,b<h.next→b∉F→T.get b h'.aJ=T.get b h.aJ
 wf:Wf h→Wf h'
theorem Fr.refl (h:Heap):Fr [] [] h h:=⟨Nat.le_refl _,fun _ _ _=>rfl,fun _ _ _=>rfl,fun w=>w⟩
theorem Fr.trans {M F M' F':List Nat} {a b c:Heap} (x:Fr M F a b) (y:Fr M' F' b c):Fr (M++M') (F++F') a c:=
 ⟨Nat.le_trans x.next y.next,fun k hk hn=>(y.t k (Nat.lt_of_lt_of_le hk x.next) fun e=>hn (List.mem_append_right _ e)).trans (x.t k hk fun e=>hn (List.mem_append_left _ e)),
   fun k hk hn=>(y.f k (Nat.lt_of_lt_of_le hk x.next) fun e=>hn (List.mem_append_right _ e)).trans (x.f k hk fun e=>hn (List.mem_append_left _ e)),fun w=>y.wf (x.wf w)⟩
theorem Fr.weak {M F M' F':List Nat} {a b:Heap} (x:Fr M F a b) (hM:∀k∈M,k<a.next→k∈M') (hF:∀k∈F,k<a.next→k∈F'):Fr M' F' a b:=
 ⟨x.next,fun k hk hn=>x.t k hk fun e=>hn (hM k e hk),fun k hk hn=>x.f k hk fun e=>hn (hF k e hk),x.wf⟩
theorem Fr.add (h:Heap) (ob:Obj):Fr [] [] h (h.add ob):=by
 refine ⟨Nat.le_succ _,fun b hb _=>dZ (by omega),fun _ _ _=>rfl,fun w=>⟨fun b hb=> ?_,fun b hb=>Nat.lt_succ_of_lt (w.f b hb),Nat.le_succ_of_le w.lim⟩⟩
 rw [nu] at hb
 by_cases e:b=h.next
 · show b<h.next+1;omega
 · rw [if_neg e] at hb;exact Nat.lt_succ_of_lt (w.t b hb)
def Heap.put (h:Heap) (b:Nat) (o:Obj):Heap:=⟨T.set b o h.t,h.next,h.aJ,h.ds,h.pc⟩
theorem get_put (h:Heap) (b:Nat) (o:Obj) (k:Nat):T.get k (h.put b o).t=if k=b then some o else T.get k h.t:=T.aU (Nat.zero_le _) (Nat.zero_le _) ..
theorem ny (h:Heap) (b:Nat) (o:Obj):T.get b (h.put b o).t=some o:=by rw [get_put,if_pos rfl]
theorem BM {R:Type} (h:Heap) (b:Nat) (o:Obj) (k:Heap→R):h.kI b o k=k (h.put b o):=by
 show T.bJ b o h.t (fun t=>k ⟨t,h.next,h.aJ,h.ds,h.pc⟩)=_
 rw [T.bK];rfl
theorem Fr.put {h:Heap} {b:Nat} {o o':Obj} (hb:T.get b h.t=some o'):Fr [b] [] h (h.put b o):=by
 refine ⟨Nat.le_refl _,fun k hk hn=> ?_,fun _ _ _=>rfl,fun w=>⟨fun k hk=> ?_,fun k hk=>w.f k hk,w.lim⟩⟩
 · rw [get_put,if_neg (by simpa using hn)]
 · rw [get_put] at hk
   by_cases e:k=b
   · subst e;exact w.t k (by rw [hb];simp)
   · rw [if_neg e] at hk;exact w.t k hk
theorem Fr.get {M F:List Nat} {h h':Heap} {b:Nat} {o:Obj} (x:Fr M F h h') (w:Wf h) (hb:T.get b h.t=some o) (hn:b∉M):T.get b h'.t=some o:=
 (x.t b (w.t b (by rw [hb];simp)) hn).trans hb
theorem Wf.lt {h:Heap} (w:Wf h) {b:Nat} {o:Obj} (hb:T.get b h.t=some o):b<h.next:=w.t b (by rw [hb];simp)
end
end Go.Eng
namespace Go.Eng
noncomputable section
namespace L
variable {ev:Ev} {h:Heap} {x y:A}
def In64 (n:Int):Prop:= -9223372036854775808≤n∧n<9223372036854775808
theorem wrap64 {n:Int} (hn:In64 n):IntKind.wrap .i64 n=n:=by
 obtain ⟨h1,h2⟩:=hn
 have e:IntKind.wrap .i64 n=if (n % 18446744073709551616≥9223372036854775808) then n % 18446744073709551616 - 18446744073709551616 else n % 18446744073709551616:=by
  unfold IntKind.wrap
  simp [IntKind.bits,IntKind.signed]
 rw [e]
 split<;>omega
theorem add {a b:Int} (hx:ev x= .int .i64 a) (hy:ev y= .int .i64 b) (hn:In64 (a+b)):light (.bin .add x y) ev h= .val (.int .i64 (a+b)):=by
 show (ev x).dI (fun k a=>(ev y).dI fun j b=>qw .add k a j b)=_
 rw [hx,hy]
 show LR.of (some (fC .i64 (GA a b)))=_
 rw [eu,zI,wrap64 hn];rfl
theorem sub {a b:Int} (hx:ev x= .int .i64 a) (hy:ev y= .int .i64 b) (hn:In64 (a - b)):light (.bin .sub x y) ev h= .val (.int .i64 (a - b)):=by
 show (ev x).dI (fun k a=>(ev y).dI fun j b=>qw .sub k a j b)=_
 rw [hx,hy]
 show LR.of (some (fC .i64 (IW a b)))=_
 rw [eu,Fb,wrap64 hn];rfl
theorem mul {a b:Int} (hx:ev x= .int .i64 a) (hy:ev y= .int .i64 b) (hn:In64 (a * b)):light (.bin .mul x y) ev h= .val (.int .i64 (a * b)):=by
 show (ev x).dI (fun k a=>(ev y).dI fun j b=>qw .mul k a j b)=_
 rw [hx,hy]
 show LR.of (some (fC .i64 (GD a b)))=_
 rw [eu,Fa,wrap64 hn];rfl
theorem bP {a b n:Int} (hx:ev x= .int .i64 a) (hy:ev y= .int .i64 b) (hc:a+b=n) (hn:In64 n):light (.bin .add x y) ev h= .val (.int .i64 n):=by subst hc;exact add hx hy hn
theorem uV {a b n:Int} (hx:ev x= .int .i64 a) (hy:ev y= .int .i64 b) (hc:a - b=n) (hn:In64 n):light (.bin .sub x y) ev h= .val (.int .i64 n):=by subst hc;exact sub hx hy hn
theorem mulE {a b n:Int} (hx:ev x= .int .i64 a) (hy:ev y= .int .i64 b) (hc:a * b=n) (hn:In64 n):light (.bin .mul x y) ev h= .val (.int .i64 n):=by subst hc;exact mul hx hy hn
theorem lss {k:IntKind} {a b:Int} (hx:ev x= .int k a) (hy:ev y= .int k b):light (.bin .lss x y) ev h= .val (.bool (decide (a<b))):=by
 show (ev x).dI (fun k a=>(ev y).dI fun j b=>qw .lss k a j b)=_
 rw [hx,hy]
 show (Bool.rec .bad (.of (AQ .lss k a b)) (kEq k k):LR)=_
 rw [mR,decide_eq_true rfl]
 show LR.val (.bool (ilt a b))=_
 rw [oq]
theorem leq {k:IntKind} {a b:Int} (hx:ev x= .int k a) (hy:ev y= .int k b):light (.bin .leq x y) ev h= .val (.bool (decide (a≤b))):=by
 show (ev x).dI (fun k a=>(ev y).dI fun j b=>qw .leq k a j b)=_
 rw [hx,hy]
 show (Bool.rec .bad (.of (AQ .leq k a b)) (kEq k k):LR)=_
 rw [mR,decide_eq_true rfl]
 show LR.val (.bool (qp (ilt b a)))=_
 rw [oq,jX];congr 2;rw [Bool.eq_iff_iff];simp
theorem gtr {k:IntKind} {a b:Int} (hx:ev x= .int k a) (hy:ev y= .int k b):light (.bin .gtr x y) ev h= .val (.bool (decide (b<a))):=by
 show (ev x).dI (fun k a=>(ev y).dI fun j b=>qw .gtr k a j b)=_
 rw [hx,hy]
 show (Bool.rec .bad (.of (AQ .gtr k a b)) (kEq k k):LR)=_
 rw [mR,decide_eq_true rfl]
 show LR.val (.bool (ilt b a))=_
 rw [oq]
theorem geq {k:IntKind} {a b:Int} (hx:ev x= .int k a) (hy:ev y= .int k b):light (.bin .geq x y) ev h= .val (.bool (decide (b≤a))):=by
 show (ev x).dI (fun k a=>(ev y).dI fun j b=>qw .geq k a j b)=_
 rw [hx,hy]
 show (Bool.rec .bad (.of (AQ .geq k a b)) (kEq k k):LR)=_
 rw [mR,decide_eq_true rfl]
 show LR.val (.bool (qp (ilt a b)))=_
 rw [oq,jX];congr 2;rw [Bool.eq_iff_iff];simp
theorem eql {k:IntKind} {a b:Int} (hx:ev x= .int k a) (hy:ev y= .int k b):light (.bin .eql x y) ev h= .val (.bool (decide (a=b))):=by
 show (ev x).dI (fun k a=>(ev y).dI fun j b=>qw .eql k a j b)=_
 rw [hx,hy]
 show (Bool.rec .bad (.of (AQ .eql k a b)) (kEq k k):LR)=_
 rw [mR,decide_eq_true rfl]
 show LR.val (.bool (ieq a b))=_
 rw [sD]
theorem neq {k:IntKind} {a b:Int} (hx:ev x= .int k a) (hy:ev y= .int k b):light (.bin .neq x y) ev h= .val (.bool (decide (a≠b))):=by
 show (ev x).dI (fun k a=>(ev y).dI fun j b=>qw .neq k a j b)=_
 rw [hx,hy]
 show (Bool.rec .bad (.of (AQ .neq k a b)) (kEq k k):LR)=_
 rw [mR,decide_eq_true rfl]
 show LR.val (.bool (qp (ieq a b)))=_
 rw [sD,jX];congr 2;rw [Bool.eq_iff_iff];simp
def str (l:List UInt8):V:= .str l.length (enc l)
theorem seq {l m:List UInt8} (hx:ev x=str l) (hy:ev y=str m):light (.bins .eql x y) ev h= .val (.bool (decide (l=m))):=by
 show (ev x).iT (fun n a=>(ev y).iT fun m b=> .of (GH .eql n a m b))=_
 rw [hx,hy]
 show LR.val (.bool (sEq l.length (enc l) m.length (enc m)))=_
 congr 2
 have e:∀l m:List UInt8,sEq l.length (enc l) m.length (enc m)=decide (l=m):=by
  intro l m
  have:=oD (s:=⟨⟨l⟩⟩) (t:=⟨⟨m⟩⟩) (n:=l.length) (x:=enc l) (m:=m.length) (y:=enc m) ⟨rfl,rfl⟩ ⟨rfl,rfl⟩
  rw [this];congr 1
  rw [eq_iff_iff]
  constructor
  · intro h;cases h;rfl
  · intro h;rw [h]
 exact e l m
theorem sne {l m:List UInt8} (hx:ev x=str l) (hy:ev y=str m):light (.bins .neq x y) ev h= .val (.bool (decide (l≠m))):=by
 have h1:=seq (h:=h) hx hy
 have e1:light (.bins .eql x y) ev h=(ev x).iT (fun n a=>(ev y).iT fun m b=> .of (GH .eql n a m b)):=rfl
 rw [e1,hx,hy] at h1
 show (ev x).iT (fun n a=>(ev y).iT fun m b=> .of (GH .neq n a m b))=_
 rw [hx,hy]
 show LR.val (.bool (qp (sEq l.length (enc l) m.length (enc m))))=_
 have h1:LR.val (.bool (sEq l.length (enc l) m.length (enc m)))= .val (.bool (decide (l=m))):=h1
 have h2:sEq l.length (enc l) m.length (enc m)=decide (l=m):=by simpa using h1
 rw [h2,jX];congr 2;simp
theorem jo {l:List UInt8} (hx:ev x=str l):light (.len true x) ev h= .val (.int .i64 (l.length:Int)):=by
 show (ev x).iT (fun n _=> .val (gY .i64 n))=_
 rw [hx]
 show LR.val (gY .i64 l.length)=_
 rw [gu];rfl
theorem BN (hx:ev x= .slN):light (.len false x) ev h= .val (.int .i64 ((0:Nat):Int)):=by
 show (ev x).EY (fun n=> .val (gY .i64 n))=_
 rw [hx];rfl
theorem llen {b o n:Nat} {cap:Option Nat} (hx:ev x= .sl b o n cap):light (.len false x) ev h= .val (.int .i64 (n:Int)):=by
 show (ev x).EY (fun n=> .val (gY .i64 n))=_
 rw [hx]
 show LR.val (gY .i64 n)=_
 rw [gu];rfl
theorem o5 {l:List UInt8} {i:Nat} {b:UInt8} (hx:ev x=str l) (hy:ev y= .int .i64 (i:Int)) (hi:l[i]? =some b):light (.istr x y) ev h= .val (.int .u8 (b.toNat:Int)):=by
 show (ev x).iT (fun n a=>(ev y).vE fun j=>Bool.rec .bad (.val (gY .u8 (IV a j))) (j.blt n))=_
 rw [hx,hy]
 show (Bool.rec .bad (.val (gY .u8 (IV (enc l) i))) (i.blt l.length):LR)=_
 have hlt:i<l.length:=(List.getElem?_eq_some_iff.1 hi).1
 rw [eH,decide_eq_true hlt]
 show LR.val (gY .u8 (IV (enc l) i))=_
 rw [gu]
 congr 3
 show (enc l >>> (8 * i)) % 256=b.toNat
 rw [Nat.shiftRight_eq_div_pow,Ji,zQ]
 obtain ⟨_,rfl⟩:=List.getElem?_eq_some_iff.1 hi
 rw [List.drop_eq_getElem_cons hlt]
 simp only [enc]
 have:=(l[i]).toNat_lt
 omega
theorem pI (n x:Nat):nZ n x= .str n x:=by unfold nZ;simp
theorem Ef {l:List UInt8} {lo hi:Option A} {i j:Nat} (hx:ev x=str l) (hj:bg hi ev l.length=some j) (hi':bg lo ev 0=some i) (hij:i≤j) (hjl:j≤l.length):light (.sstr x lo hi) ev h= .val (str ((l.drop i).take (j - i))):=by
 show (ev x).iT (fun n a=>IY n a (bg hi ev n) (bg lo ev 0))=_
 rw [hx]
 show IY l.length (enc l) (bg hi ev l.length) (bg lo ev 0)=_
 rw [hj,hi']
 show (Bool.rec .bad (.val (nZ (Nat.sub j i) (sSub (enc l) i (Nat.sub j i)))) (i.ble j&&j.ble l.length):LR)=_
 rw [dO,dO,decide_eq_true hij,decide_eq_true hjl]
 show LR.val (nZ (j - i) (sSub (enc l) i (j - i)))=_
 rw [pI,Fu]
 have:((l.drop i).take (j - i)).length=j - i:=by simp;omega
 unfold str;rw [this]
theorem scat {l m:List UInt8} (hx:ev x=str l) (hy:ev y=str m) (hn:l.length+m.length<4294967296):light (.bins .add x y) ev h= .val (str (l++m)):=by
 show (ev x).iT (fun n a=>(ev y).iT fun m b=> .of (GH .add n a m b))=_
 rw [hx,hy]
 show LR.of (bif (Nat.add l.length m.length).blt 4294967296 then some (nZ (Nat.add l.length m.length) (sCat l.length (enc l) (enc m))) else none)=_
 have:(Nat.add l.length m.length).blt 4294967296=true:=by rw [eH];simpa using hn
 rw [this]
 show LR.val (nZ (l.length+m.length) (sCat l.length (enc l) (enc m)))=_
 rw [pI,Fv];unfold str;rw [List.length_append]
theorem load {b o:Nat} {v:V} (hx:ev x= .ptr b o) (hl:h.bE b o=some v):light (.load x) ev h= .val v:=by
 show (ev x).nP (fun b o=> .of (h.bE b o))=_
 rw [hx]
 show LR.of (h.bE b o)=_
 rw [hl];rfl
theorem nA {α R:Type} (l:List α) (k:List α→R):cZ l k=k l:=by
 have:∀(l:List α) (k:List α→R),cZ l k=k l:=by
  intro l
  induction l with
  |nil=>intro k;rfl
  |cons a l ih=>intro k;exact ih _
 exact this l k
theorem cO {b o n:Nat} {l:List V} (hx:ev x= .ptr b o) (hl:h.load b o n=some l):light (.cO n x) ev h= .val (.agg l):=by
 show (ev x).nP (fun b o=>Option.rec .bad (fun l=>cZ l fun l=> .val (.agg l)) (h.load b o n))=_
 rw [hx]
 show (Option.rec .bad (fun l=>cZ l fun l=> .val (.agg l)) (h.load b o n):LR)=_
 rw [hl];exact nA l _
theorem aW {b o:Nat} {row:List V} {v:V} (hb:T.get b h.t=some (.box row)) (hr:hd (fH o row)=some v):h.bE b o=some v:=by
 unfold Heap.bE;rw [show h.obj b=_ from hb];exact hr
theorem bC {b o n:Nat} {row l:List V} (hb:T.get b h.t=some (.box row)) (hn:n.beq 0=false) (ho:(Nat.add o n).ble (bO row)=true) (hr:jg n (fH o row)=l):h.load b o n=some l:=by
 unfold Heap.load;rw [hn,show h.obj b=_ from hb]
 show (bif (Nat.add o n).ble (bO row) then some (jg n (fH o row)) else none)=_
 rw [ho,hr];rfl
theorem aG {b o:Nat} {row:List V} {v:V} (hx:ev x= .ptr b o) (hb:T.get b h.t=some (.box row)) (hr:hd (fH o row)=some v):light (.load x) ev h= .val v:=load hx (aW hb hr)
theorem aZ {b o n:Nat} {row l:List V} (hx:ev x= .ptr b o) (hb:T.get b h.t=some (.box row)) (hn:n.beq 0=false) (ho:(Nat.add o n).ble (bO row)=true) (hr:jg n (fH o row)=l):light (.cO n x) ev h= .val (.agg l):=cO hx (bC hb hn ho hr)
theorem aC {r b o n i:Nat} {cap:Option Nat} (hx:ev x= .sl b o n cap) (hy:ev y= .int .i64 (i:Int)) (hi:i<n):light (.aC r x y) ev h= .val (.ptr b (o+i * r)):=by
 show (ev x).onSl (fun b o n=>(ev y).vE fun j=>zB r b o n j)=_
 rw [hx,hy]
 show (Bool.rec .bad (force (Nat.add o (Nat.mul i r)) fun o=> .val (.ptr b o)) (i.blt n):LR)=_
 rw [eH,decide_eq_true hi]
 show force (Nat.add o (Nat.mul i r)) (fun o=>LR.val (.ptr b o))=_
 rw [force_eq];rfl
theorem aA {b o f:Nat} (hx:ev x= .ptr b o):light (.aA f x) ev h= .val (.ptr b (o+f)):=by
 show (ev x).nP (fun b o=>force (Nat.add o f) fun o=> .val (.ptr b o))=_
 rw [hx]
 show force (Nat.add o f) (fun o=>LR.val (.ptr b o))=_
 rw [force_eq];rfl
theorem alloc {cs:List V}:light (.alloc cs) ev h= .new (.box cs) (.ptr h.next 0):=by
 show force h.next (fun b=>LR.new (.box cs) (.ptr b 0))=_
 rw [force_eq]
theorem box {n:Nat} {l:List V} (hx:(ev x).aV=some l) (hl:bO l=n):light (.box n x) ev h= .new (.box l) (.ptr h.next 0):=by
 show force h.next (fun b=>(Option.rec .bad (fun l=>Bool.rec .bad (cZ l fun l=> .new (.box l) (.ptr b 0)) ((bO l).beq n)) (ev x).aV:LR))=_
 rw [force_eq,hx]
 show (Bool.rec .bad (cZ l fun l=> .new (.box l) (.ptr h.next 0)) ((bO l).beq n):LR)=_
 rw [hl,Nat.beq_refl];exact nA l _
theorem build {zero l:List V} {ps:List (Nat×Nat×A)} (hf:fill ps ev zero=some l):light (.build zero ps) ev h= .val (.agg l):=by
 show (Option.rec .bad (fun l=>cZ l fun l=> .val (.agg l)) (fill ps ev zero):LR)=_
 rw [hf];exact nA l _
theorem JS {call:bM} {n b o:Nat} {cs row row':List V} (hx:ev x= .ptr b o) (hy:(ev y).aV=some cs) (hn:bO cs=n) (h0:n.beq 0=false) (h8:8≤b) (hb:T.get b h.t=some (.box row)) (ho:(Nat.add o n).ble (bO row)=true) (hr:fZ o cs row=row'):
  heavy (.store n x y) call ev h= .ok un (h.put b (.box row')):=by
 show (Option.rec .bad (fun p=>Option.rec .bad (fun l=>Bool.rec .bad (h.bA p.1 p.2 n l .bad fun h=> .ok un h) ((bO l).beq n)) (ev y).aV) (ev x).jf:OR)=_
 rw [hx,hy]
 show (Bool.rec .bad (h.bA b o n cs .bad fun h=> .ok un h) ((bO cs).beq n):OR)=_
 rw [hn,Nat.beq_refl]
 show h.bA b o n cs .bad (fun h=>OR.ok un h)=_
 unfold Heap.bA
 rw [h0,show b.blt 8=false by rw [eH];simpa using h8,show h.obj b=_ from hb]
 show (bif (Nat.add o n).ble (bO row) then cZ (fZ o cs row) fun row=>h.kI b (.box row) (fun h=>OR.ok un h) else .bad)=_
 rw [ho,hr]
 show cZ row' (fun row=>h.kI b (.box row) (fun h=>OR.ok un h))=_
 rw [nA,BM]
end L
end
end Go.Eng
namespace Go.Eng
noncomputable section
inductive Fact where
 |box (b:Nat) (row:List V)
 |map (b:Nat) (es:List Ent) (clock:Nat)
 |acc (f r:Nat) (v:V) (rows:List (List V))
 |stb (P:Heap→Prop)
 |obj (b:Nat) (P:Obj→Prop)
 |acu (bs:List Nat) (f r:Nat) (v:V) (rows:List (List V))
structure AccR (f r:Nat) (h:Heap) (b:Nat) (rows:List (List V)):Prop where
 ge:8≤b
 pos:0<rows.length
 fb:f≤b
 ob:∃ap t,T.get b h.t=some (.cells r f ap (rows.length * r) t)∧(∀i row,rows[i]? =some row→T.get i t=some row)∧∀F,T.get f h.aJ=some F→F.last≤ap+rows.length * r
 len:∀row∈rows,row.length=r
inductive qc (f r:Nat) (h:Heap):V→List (List V)→Prop
 |nil:qc f r h .slN []
 |row {b:Nat} {rows:List (List V)} (a:AccR f r h b rows):qc f r h (.sl b 0 rows.length none) rows
inductive kZ (bs:List Nat) (f r:Nat) (h:Heap):V→List (List V)→Prop
 |nil (hb:bs=[]):kZ bs f r h .slN []
 |row {b ap:Nat} {rows hid:List (List V)} {t:T (List V)} (ge:8≤b) (hb:b∈bs) (hf:f∈bs) (ob:T.get b h.t=some (.cells r f ap ((rows.length+hid.length) * r) t))
   (hrow:∀i row,(rows++hid)[i]? =some row→T.get i t=some row) (len:∀row∈rows++hid,row.length=r) (mem:∀F,T.get f h.aJ=some F→∀m∈F.mem,m∈bs):kZ bs f r h (.sl b 0 rows.length none) rows
theorem kZ.stay {bs:List Nat} {f r:Nat} {h h':Heap} {v:V} {rows:List (List V)} (a:kZ bs f r h v rows) (hb:∀b∈bs,T.get b h'.t=T.get b h.t) (hf:∀b∈bs,T.get b h'.aJ=T.get b h.aJ):kZ bs f r h' v rows:=by
 cases a with
 |nil e=>exact .nil e
 |row ge h1 h2 ob hrow len mem=>exact .row ge h1 h2 ((hb _ h1).trans ob) hrow len (fun F hF=>mem F ((hf _ h2).symm.trans hF))
def Fact.own:Fact→List Nat
 | .box b _=>[b]
 | .map b _ _=>[b]
 | .acc .. =>[]
 | .stb _=>[]
 | .obj b _=>[b]
 | .acu bs .. =>bs
def Fact.fam:Fact→List Nat
 | .acc f _ v _=>match v with
   | .slN=>[]
   |_=>[f]
 |_=>[]
def Fact.holds (Z:Nat→Prop) (h:Heap):Fact→Prop
 | .box b row=>T.get b h.t=some (.box row)∧T.get b h.aJ=none
 | .map b es c=>T.get b h.t=some (.map es c)∧T.get b h.aJ=none
 | .acc f r v rows=>qc f r h v rows∧∀b o n c,v= .sl b o n c→Z b
 | .stb P=>∀h',(∀b,Z b→T.get b h'.t=T.get b h.t)→P h'
 | .obj b P=>(∃o,T.get b h.t=some o∧P o)∧T.get b h.aJ=none
 | .acu bs f r v rows=>kZ bs f r h v rows∧∀b∈bs,T.get b h.t≠none
def owns (fs:List Fact):List Nat:=fs.flatMap Fact.own
def aJ (fs:List Fact):List Nat:=fs.flatMap Fact.fam
structure StZ (Z:Nat→Prop) (fs:List Fact) (h:Heap):Prop where
 wf:Wf h
 z:∀b,Z b→T.get b h.t≠none
 oz:∀b∈owns fs,¬Z b∧8≤b
 nb:(owns fs).Nodup
 nf:(aJ fs).Nodup
 nd:∀b∈owns fs,b∉aJ fs
 all:∀x∈fs,x.holds Z h
def St (fs:List Fact) (h:Heap):Prop:=∃Z,StZ Z fs h
theorem kr {Z:Nat→Prop} {fs:List Fact} {h:Heap} (s:StZ Z fs h) {b:Nat} (hb:b∈owns fs):b<h.next:=by
 obtain ⟨x,hx,hb⟩:=List.mem_flatMap.1 hb
 have:=s.all x hx
 cases x with
 |box c row=>obtain rfl:b=c:=by simpa [Fact.own] using hb
             exact s.wf.lt this.1
 |map c es k=>obtain rfl:b=c:=by simpa [Fact.own] using hb
              exact s.wf.lt this.1
 |acc f r v rows=>simp [Fact.own] at hb
 |stb P=>simp [Fact.own] at hb
 |obj c P=>obtain rfl:b=c:=by simpa [Fact.own] using hb
           obtain ⟨⟨o,ho,_⟩,_⟩:=this
           exact s.wf.lt ho
 |acu bs f r v rows=>exact s.wf.t b (this.2 b hb)
theorem Ad {Z:Nat→Prop} {fs:List Fact} {h:Heap} (s:StZ Z fs h) {f:Nat} (hf:f∈aJ fs):f<h.next:=by
 obtain ⟨x,hx,hf⟩:=List.mem_flatMap.1 hf
 have hh:=s.all x hx
 cases x with
 |box c row=>simp [Fact.fam] at hf
 |map c es k=>simp [Fact.fam] at hf
 |stb P=>simp [Fact.fam] at hf
 |obj c P=>simp [Fact.fam] at hf
 |acu bs f r v rows=>simp [Fact.fam] at hf
 |acc g r v rows=>
  obtain ⟨a,_⟩:=hh
  cases a with
  |nil=>simp [Fact.fam] at hf
  |row a=>
   obtain rfl:f=g:=by simpa [Fact.fam] using hf
   obtain ⟨ap,t,hob,_⟩:=a.ob
   exact Nat.lt_of_le_of_lt a.fb (s.wf.lt hob)
theorem BO {Z:Nat→Prop} {fs:List Fact} {h:Heap} (s:StZ Z fs h) {b:Nat} (hb:Z b):b<h.next:=s.wf.t b (s.z b hb)
theorem BP (g:Fact→List Nat) {fs gs:List Fact} (hs:gs.Sublist fs):(gs.flatMap g).Sublist (fs.flatMap g):=by
 induction hs with
 |slnil=>exact List.Sublist.refl _
 |cons a _ ih=>rw [List.flatMap_cons];exact ih.trans (List.sublist_append_right _ _)
 |cons_cons a _ ih=>rw [List.flatMap_cons,List.flatMap_cons];exact List.Sublist.append (List.Sublist.refl _) ih
theorem yZ (g:Fact→List Nat) {fs gs:List Fact} (hs:fs.Perm gs):(fs.flatMap g).Perm (gs.flatMap g):=by
 induction hs with
 |nil=>exact List.Perm.refl _
 |cons a _ ih=>rw [List.flatMap_cons,List.flatMap_cons];exact List.Perm.append_left _ ih
 |swap a b l=>
  simp only [List.flatMap_cons]
  rw [←List.append_assoc,←List.append_assoc]
  exact List.Perm.append_right _ List.perm_append_comm
 |trans _ _ ih1 ih2=>exact ih1.trans ih2
theorem St.sub {fs gs:List Fact} {h:Heap} (s:St fs h) (hs:gs.Sublist fs):St gs h:=by
 obtain ⟨Z,s⟩:=s
 have e1:(owns gs).Sublist (owns fs):=by
  exact BP _ hs
 have e2:(aJ gs).Sublist (aJ fs):=by
  exact BP _ hs
 exact ⟨Z,s.wf,s.z,fun b hb=>s.oz b (e1.subset hb),s.nb.sublist e1,s.nf.sublist e2,fun b hb hf=>s.nd b (e1.subset hb) (e2.subset hf),fun x hx=>s.all x (hs.subset hx)⟩
theorem St.perm {fs gs:List Fact} {h:Heap} (s:St fs h) (hs:fs.Perm gs):St gs h:=by
 obtain ⟨Z,s⟩:=s
 have e1:(owns fs).Perm (owns gs):=yZ _ hs
 have e2:(aJ fs).Perm (aJ gs):=yZ _ hs
 exact ⟨Z,s.wf,s.z,fun b hb=>s.oz b (e1.symm.subset hb),e1.nodup_iff.1 s.nb,e2.nodup_iff.1 s.nf,fun b hb hf=>s.nd b (e1.symm.subset hb) (e2.symm.subset hf),fun x hx=>s.all x (hs.symm.subset hx)⟩
theorem sU:∀(fs:List Fact) (k:Nat) (x:Fact),fs[k]? =some x→fs.Perm (x::fs.eraseIdx k)
 |[],k,x,h=>by simp at h
 |a::fs,0,x,h=>by simp at h;subst h;exact List.Perm.refl _
 |a::fs,k+1,x,h=>by
  have:=sU fs k x (by simpa using h)
  exact (List.Perm.cons a this).trans (List.Perm.swap ..)
theorem St.pick {fs:List Fact} {h:Heap} (s:St fs h) (k:Nat) {x:Fact} (hk:fs[k]? =some x):St (x::fs.eraseIdx k) h:=s.perm (sU fs k x hk)
theorem St.tail {x:Fact} {fs:List Fact} {h:Heap} (s:St (x::fs) h):St fs h:=s.sub (List.sublist_cons_self _ _)
theorem St.wf {fs:List Fact} {h:Heap} (s:St fs h):Wf h:=let ⟨_,s⟩:=s;s.wf
theorem St.nil {h:Heap} (w:Wf h):St [] h:=⟨fun _=>False,w,fun _ hb=>hb.elim,fun b hb=>by simp [owns] at hb,by simp [owns],by simp [aJ],fun b hb=>by simp [owns] at hb,fun x hx=>by simp at hx⟩
theorem St.av {fs:List Fact} {h:Heap} (s:St fs h) (k:Nat) {b:Nat} {row:List V} (hk:fs[k]? =some (.box b row)):T.get b h.t=some (.box row):=by
 obtain ⟨Z,s⟩:=s
 exact (s.all (.box b row) (List.mem_of_getElem? hk)).1
theorem St.JU {fs:List Fact} {h:Heap} (s:St fs h) (k:Nat) {b:Nat} {row:List V} (hk:fs[k]? =some (.box b row)):8≤b:=by
 obtain ⟨Z,s⟩:=s
 exact (s.oz b (List.mem_flatMap.2 ⟨_,List.mem_of_getElem? hk,by simp [Fact.own]⟩)).2
theorem St.map_ge {fs:List Fact} {h:Heap} (s:St fs h) (k:Nat) {b:Nat} {es:List Ent} {c:Nat} (hk:fs[k]? =some (.map b es c)):8≤b:=by
 obtain ⟨Z,s⟩:=s
 exact (s.oz b (List.mem_flatMap.2 ⟨_,List.mem_of_getElem? hk,by simp [Fact.own]⟩)).2
theorem St.obj_ge {fs:List Fact} {h:Heap} (s:St fs h) (k:Nat) {b:Nat} {P:Obj→Prop} (hk:fs[k]? =some (.obj b P)):8≤b:=by
 obtain ⟨Z,s⟩:=s
 exact (s.oz b (List.mem_flatMap.2 ⟨_,List.mem_of_getElem? hk,by simp [Fact.own]⟩)).2
theorem St.map_at {fs:List Fact} {h:Heap} (s:St fs h) (k:Nat) {b:Nat} {es:List Ent} {c:Nat} (hk:fs[k]? =some (.map b es c)):T.get b h.t=some (.map es c):=by
 obtain ⟨Z,s⟩:=s
 exact (s.all (.map b es c) (List.mem_of_getElem? hk)).1
theorem St.aB {fs:List Fact} {h:Heap} (s:St fs h) (k:Nat) {P:Heap→Prop} (hk:fs[k]? =some (.stb P)):P h:=by
 obtain ⟨Z,s⟩:=s
 exact s.all (.stb P) (List.mem_of_getElem? hk) h fun _ _=>rfl
theorem St.dK {fs:List Fact} {h:Heap} (s:St fs h) (k:Nat) {f r:Nat} {v:V} {rows:List (List V)} (hk:fs[k]? =some (.acc f r v rows)):qc f r h v rows:=by
 obtain ⟨Z,s⟩:=s
 exact (s.all (.acc f r v rows) (List.mem_of_getElem? hk)).1
theorem St.imp {P Q:Heap→Prop} {fs:List Fact} {h:Heap} (s:St (.stb P::fs) h) (hpq:∀h,P h→Q h):St (.stb Q:: .stb P::fs) h:=by
 obtain ⟨Z,s⟩:=s
 refine ⟨Z,s.wf,s.z,s.oz,s.nb,s.nf,s.nd,fun x hx=> ?_⟩
 rcases List.mem_cons.1 hx with rfl|hx
 · exact fun h' hz=>hpq h' (s.all (.stb P) (by simp) h' hz)
 · exact s.all x hx
theorem St.o6 {P Q:Heap→Prop} {fs:List Fact} {h:Heap} (s:St (.stb P::fs) h) (hpq:∀h,P h→Q h):St (.stb Q::fs) h:=by
 have:=s.imp hpq
 exact this.sub (List.Sublist.cons_cons _ (List.sublist_cons_self _ _))
theorem St.pure {Q:Prop} {fs:List Fact} {h:Heap} (s:St fs h) (hq:Q):St (.stb (fun _=>Q)::fs) h:=by
 obtain ⟨Z,s⟩:=s
 refine ⟨Z,s.wf,s.z,s.oz,s.nb,s.nf,s.nd,fun x hx=> ?_⟩
 rcases List.mem_cons.1 hx with rfl|hx
 · exact fun h' _=>hq
 · exact s.all x hx
theorem St.and {P Q:Heap→Prop} {fs:List Fact} {h:Heap} (s:St (.stb P:: .stb Q::fs) h):St (.stb (fun h=>P h∧Q h)::fs) h:=by
 obtain ⟨Z,s⟩:=s
 refine ⟨Z,s.wf,s.z,s.oz,s.nb,s.nf,s.nd,fun x hx=> ?_⟩
 rcases List.mem_cons.1 hx with rfl|hx
 · exact fun h' hz=>⟨s.all (.stb P) (by simp) h' hz,s.all (.stb Q) (by simp) h' hz⟩
 · exact s.all x (by simp [hx])
theorem Fact.stay {Z Z':Nat→Prop} {h h':Heap} {x:Fact} (hx:x.holds Z h) (hZ:∀b,Z b→Z' b∧T.get b h'.t=T.get b h.t) (hb:∀b∈x.own,T.get b h'.t=T.get b h.t) (hbf:∀b∈x.own,T.get b h'.aJ=T.get b h.aJ) (hf:∀f∈x.fam,T.get f h'.aJ=T.get f h.aJ):x.holds Z' h':=by
 cases x with
 |box b row=>exact ⟨(hb b (by simp [Fact.own])).trans hx.1,(hbf b (by simp [Fact.own])).trans hx.2⟩
 |map b es c=>exact ⟨(hb b (by simp [Fact.own])).trans hx.1,(hbf b (by simp [Fact.own])).trans hx.2⟩
 |obj b P=>obtain ⟨⟨o,ho,hp⟩,hn⟩:=hx;exact ⟨⟨o,(hb b (by simp [Fact.own])).trans ho,hp⟩,(hbf b (by simp [Fact.own])).trans hn⟩
 |acu bs f r v rows=>exact ⟨hx.1.stay hb hbf,fun b hm=>by rw [hb b hm];exact hx.2 b hm⟩
 |stb P=>exact fun h2 hz=>hx h2 fun b hb=>(hz b (hZ b hb).1).trans (hZ b hb).2
 |acc f r v rows=>
  obtain ⟨a,hz⟩:=hx
  refine ⟨?_,fun b o n c e=>(hZ b (hz b o n c e)).1⟩
  cases a with
  |nil=>exact .nil
  |row a=>
   obtain ⟨ap,t,h1,h2,h3⟩:=a.ob
   refine .row ⟨a.ge,a.pos,a.fb,⟨ap,t, ?_,h2,fun F hF=>h3 F ?_⟩,a.len⟩
   · rw [(hZ _ (hz _ _ _ _ rfl)).2];exact h1
   · rw [←hf f (by simp [Fact.fam])];exact hF
theorem aQ (x:Fact) (fs:List Fact):owns (x::fs)=x.own++owns fs:=rfl
theorem bU (x:Fact) (fs:List Fact):aJ (x::fs)=x.fam++aJ fs:=rfl
theorem iX {x:Fact} {fs:List Fact} (hx:x∈fs) {b:Nat} (hb:b∈x.own):b∈owns fs:=List.mem_flatMap.2 ⟨x,hx,hb⟩
theorem wQ {x:Fact} {fs:List Fact} (hx:x∈fs) {b:Nat} (hb:b∈x.fam):b∈aJ fs:=List.mem_flatMap.2 ⟨x,hx,hb⟩
theorem St.new {fs:List Fact} {h:Heap} (s:St fs h) (ob:Obj) {x:Fact} (ho:x.own=[h.next]) (hf:x.fam=[]) (hx:T.get h.next h.aJ=none→∀Z,x.holds Z (h.add ob)):St (x::fs) (h.add ob):=by
 obtain ⟨Z,s⟩:=s
 have hz:∀b,Z b→T.get b (h.add ob).t=T.get b h.t:=fun b hb=>dZ (BO s hb)
 have hnn:T.get h.next h.aJ=none:=by
  cases e:T.get h.next h.aJ with
  |none=>rfl
  |some F=>have:=s.wf.f h.next (by rw [e];simp);omega
 refine ⟨Z,(Fr.add h ob).wf s.wf,fun b hb=>by rw [hz b hb];exact s.z b hb,fun b hb=> ?_, ?_, ?_,fun b hb hf2=> ?_,fun y hy=> ?_⟩
 · rw [aQ,ho] at hb
   rcases List.mem_append.1 hb with hb|hb
   · obtain rfl:b=h.next:=by simpa using hb
     exact ⟨fun hz=>Nat.lt_irrefl _ (BO s hz),s.wf.lim⟩
   · exact s.oz b hb
 · rw [aQ,ho]
   refine List.nodup_cons.2 ⟨fun hb=>Nat.lt_irrefl _ (kr s hb),s.nb⟩
 · rw [bU,hf];exact s.nf
 · rw [bU,hf] at hf2
   rw [aQ,ho] at hb
   rcases List.mem_append.1 hb with hb|hb
   · obtain rfl:b=h.next:=by simpa using hb
     exact Nat.lt_irrefl _ (Ad s hf2)
   · exact s.nd b hb hf2
 · rcases List.mem_cons.1 hy with rfl|hy
   · exact hx hnn Z
   · exact Fact.stay (s.all y hy) (fun b hb=>⟨hb,hz b hb⟩) (fun b hb=>dZ (kr s (iX hy hb))) (fun _ _=>rfl) fun _ _=>rfl
theorem St.box {fs:List Fact} {h:Heap} (s:St fs h) (row:List V):St (.box h.next row::fs) (h.add (.box row)):=s.new _ rfl rfl fun hn _=>⟨dG ..,hn⟩
theorem St.map {fs:List Fact} {h:Heap} (s:St fs h):St (.map h.next [] 0::fs) (h.add (.map [] 0)):=s.new _ rfl rfl fun hn _=>⟨dG ..,hn⟩
theorem St.put1 {x y:Fact} {fs:List Fact} {h:Heap} {b:Nat} {o:Obj} (s:St (x::fs) h) (hx:x.own=[b]) (hxf:x.fam=[]) (hy:y.own=[b]) (hyf:y.fam=[]) (hh:∀Z,x.holds Z h→y.holds Z (h.put b o)):St (y::fs) (h.put b o):=by
 obtain ⟨Z,s⟩:=s
 have hbz:¬Z b:=(s.oz b (by rw [aQ,hx];simp)).1
 have hbo:b∉owns fs:=by
  have:=s.nb;rw [aQ,hx] at this
  exact (List.nodup_cons.1 this).1
 have hz:∀k,k≠b→T.get k (h.put b o).t=T.get k h.t:=fun k hk=>by rw [get_put,if_neg hk]
 have hne:∀k,Z k→k≠b:=fun k hk e=>hbz (e▸hk)
 have hlt:b<h.next:=kr s (by rw [aQ,hx];simp)
 refine ⟨Z,⟨fun k hk=> ?_,fun k hk=>s.wf.f k hk,s.wf.lim⟩,fun k hk=>by rw [hz k (hne k hk)];exact s.z k hk,fun k hk=>s.oz k ?_, ?_, ?_,fun k hk hf=>s.nd k ?_ ?_,fun w hw=> ?_⟩
 · by_cases e:k=b
   · subst e;exact hlt
   · rw [hz k e] at hk;exact s.wf.t k hk
 · rw [aQ,hx];rw [aQ,hy] at hk;exact hk
 · rw [aQ,hy];have:=s.nb;rw [aQ,hx] at this;exact this
 · rw [bU,hyf];have:=s.nf;rw [bU,hxf] at this;exact this
 · rw [aQ,hx];rw [aQ,hy] at hk;exact hk
 · rw [bU,hxf];rw [bU,hyf] at hf;exact hf
 · rcases List.mem_cons.1 hw with rfl|hw
   · exact hh Z (s.all x (by simp))
   · exact Fact.stay (s.all w (by simp [hw])) (fun k hk=>⟨hk,hz k (hne k hk)⟩) (fun k hk=>hz k fun e=>hbo (e▸iX hw hk)) (fun _ _=>rfl) fun _ _=>rfl
theorem rJ:∀(fs:List Fact) (k:Nat) (x y:Fact),fs[k]? =some x→(y::fs.eraseIdx k).Perm (fs.set k y)
 |[],k,x,y,h=>by simp at h
 |a::fs,0,x,y,h=>List.Perm.refl _
 |a::fs,k+1,x,y,h=>by
  have:=rJ fs k x y (by simpa using h)
  exact (List.Perm.swap ..).trans (List.Perm.cons a this)
theorem St.put {fs:List Fact} {h:Heap} (s:St fs h) (k:Nat) {x y:Fact} {b:Nat} {o:Obj} (hk:fs[k]? =some x) (hx:x.own=[b]) (hxf:x.fam=[]) (hy:y.own=[b]) (hyf:y.fam=[]) (hh:∀Z,x.holds Z h→y.holds Z (h.put b o)):St (fs.set k y) (h.put b o):=
 ((s.pick k hk).put1 hx hxf hy hyf hh).perm (rJ fs k x y hk)
theorem St.Eh {fs:List Fact} {h:Heap} (s:St fs h) (k:Nat) {b:Nat} {row:List V} (row':List V) (hk:fs[k]? =some (.box b row)):St (fs.set k (.box b row')) (h.put b (.box row')):=
 s.put k hk rfl rfl rfl rfl fun _ hx=>⟨ny ..,hx.2⟩
theorem St.putMap {fs:List Fact} {h:Heap} (s:St fs h) (k:Nat) {b:Nat} {es:List Ent} {c:Nat} (es':List Ent) (c':Nat) (hk:fs[k]? =some (.map b es c)):St (fs.set k (.map b es' c')) (h.put b (.map es' c')):=
 s.put k hk rfl rfl rfl rfl fun _ hx=>⟨ny ..,hx.2⟩
end
end Go.Eng
namespace Go.Eng
noncomputable section
def Heap.fm (h:Heap) (fm:T Fam):Heap:=⟨h.t,h.next,fm,h.ds,h.pc⟩
theorem St.grow {x:Fact} {fs:List Fact} {h:Heap} (s:St (x::fs) h) (hxo:x.own=[]) {fm:T Fam} {f:Nat} {ob:Obj} {y:Fact}
  (hfm:∀g,g≠f→T.get g fm=T.get g h.aJ) (hf:f≤h.next) (hfx:f∉aJ fs) (hfo:f∉owns fs) (hyo:y.own=[]) (hyf:y.fam=[f])
  (hy:∀Z:Nat→Prop,Z h.next→y.holds Z ((h.fm fm).add ob)):St (y::fs) ((h.fm fm).add ob):=by
 obtain ⟨Z,s⟩:=s
 have hz:∀b,b<h.next→T.get b ((h.fm fm).add ob).t=T.get b h.t:=fun b hb=>dZ (h:=h.fm fm) hb
 have ho:owns (x::fs)=owns fs:=by rw [aQ,hxo];rfl
 refine ⟨fun b=>Z b∨b=h.next,⟨fun b hb=> ?_,fun g hg=> ?_,Nat.le_succ_of_le s.wf.lim⟩,fun b hb=> ?_,fun b hb=> ?_, ?_, ?_,fun b hb hf2=> ?_,fun w hw=> ?_⟩
 · show b<h.next+1
   by_cases e:b<h.next+1
   · exact e
   · have e2:T.get b ((h.fm fm).add ob).t=T.get b h.t:=by
      rw [nu];rw [if_neg (show ¬b=(h.fm fm).next from fun e3=>e (by rw [e3];exact Nat.lt_succ_self _))];rfl
     rw [e2] at hb
     have:=s.wf.t b hb;omega
 · show g<h.next+1
   have hg:T.get g fm≠none:=hg
   by_cases e:g=f
   · omega
   · rw [hfm g e] at hg;have:=s.wf.f g hg;omega
 · rcases hb with hb|rfl
   · rw [hz b (BO s hb)];exact s.z b hb
   · rw [show T.get h.next ((h.fm fm).add ob).t=some ob from dG (h.fm fm) ob];simp
 · rw [aQ,hyo] at hb
   refine ⟨?_,(s.oz b (by rw [ho];exact hb)).2⟩
   rintro (hzb|rfl)
   · exact (s.oz b (by rw [ho];exact hb)).1 hzb
   · exact Nat.lt_irrefl _ (kr s (by rw [ho];exact hb))
 · rw [aQ,hyo];have:=s.nb;rw [ho] at this;exact this
 · rw [bU,hyf]
   have:(aJ fs).Nodup:=by
    have:=s.nf;rw [bU] at this
    exact (List.nodup_append.1 this).2.1
   exact List.nodup_cons.2 ⟨hfx,this⟩
 · rw [aQ,hyo] at hb
   rw [bU,hyf] at hf2
   rcases List.mem_append.1 hf2 with hf2|hf2
   · obtain rfl:b=f:=by simpa using hf2
     exact hfo hb
   · exact s.nd b (by rw [ho];exact hb) (by rw [bU];exact List.mem_append_right _ hf2)
 · rcases List.mem_cons.1 hw with rfl|hw
   · exact hy _ (Or.inr rfl)
   · refine Fact.stay (s.all w (by simp [hw])) (fun b hb=>⟨Or.inl hb,hz b (BO s hb)⟩) (fun b hb=>hz b (kr s ?_)) (fun b hb=>hfm b fun e=> ?_) fun g hg=>hfm g fun e=> ?_
     · rw [ho];exact iX hw hb
     · subst e;exact hfo (iX hw hb)
     · subst e;exact hfx (wQ hw hg)
theorem BQ {r:Nat}:∀{l:List (List V)},(∀row∈l,row.length=r)→l.flatten.length=l.length * r
 |[],_=>by simp
 |a::l,h=>by
  rw [List.flatten_cons,List.length_append,h a (by simp),BQ (fun row hm=>h row (by simp [hm])),List.length_cons,Nat.add_mul];omega
theorem eZ {r:Nat}:∀{l:List (List V)} (i:Nat) {row:List V},(∀row∈l,row.length=r)→l[i]? =some row→(l.flatten.drop (i * r)).take r=row
 |[],i,row,_,h=>by simp at h
 |a::l,0,row,hl,h=>by
  simp at h;subst h
  rw [Nat.zero_mul,List.drop_zero,List.flatten_cons,←hl a (by simp),List.take_left']
  rfl
 |a::l,i+1,row,hl,h=>by
  have h:l[i]? =some row:=by simpa using h
  rw [List.flatten_cons,show (i+1) * r=a.length+i * r by rw [hl a (by simp),Nat.add_mul];omega,←List.drop_drop,List.drop_left' rfl]
  exact eZ i (fun row hm=>hl row (by simp [hm])) h
theorem St.FP {fs:List Fact} {h:Heap} {f r bytes:Nat} {v:V} {rows new:List (List V)} (s:St (.acc f r v rows::fs) h) (hr:0<r) (hl:∀row∈new,row.length=r) (hfit:(rows.length+new.length) * bytes≤1099511627776):
  ∃f' v' h',bq h r bytes v new.flatten new.length= .ok v' h'∧St (.acc f' r v' (rows++new)::fs) h':=by
 have a:=s.dK 0 rfl
 have w:=s.wf
 by_cases hm0:new.length=0
 · obtain rfl:new=[]:=by simpa using hm0
   refine ⟨f,v,h, ?_,by rw [List.append_nil];exact s⟩
   cases a with
   |nil=>rfl
   |row a=>rfl
 have hb0:Nat.beq new.length 0=false:=by
  cases e:Nat.beq new.length 0 with
  |false=>rfl
  |true=>exact absurd (Nat.eq_of_beq_eq_true e) hm0
 have hfn:T.get h.next h.aJ=none:=by
  cases e:T.get h.next h.aJ with
  |none=>rfl
  |some F=>have:=w.f h.next (by rw [e];simp);omega
 cases a with
 |nil=>
  have hok:bI (.cells r h.next 0 (new.length * r) (aH r new.length 0 new.flatten T.e))=true:=by show Nat.blt 0 r=true;rw [eH];simpa using hr
  refine ⟨h.next, .sl h.next 0 new.length none,(h.fm h.aJ).add (.cells r h.next 0 (new.length * r) (aH r new.length 0 new.flatten T.e)), ?_, ?_⟩
  · unfold bq
    have h1:(Nat.mul new.length bytes).ble 1099511627776=true:=by
     rw [dO];have:new.length * bytes≤1099511627776:=by simpa using hfit
     simpa using this
    simp only [hb0,cond_false,h1,cond_true,force_eq,aX]
    show (Bool.rec .bad (h.newC (.cells r h.next 0 (Nat.mul new.length r) (aH r new.length 0 new.flatten T.e)) fun h2=> .ok (.sl h.next 0 new.length none) h2) (bI (.cells r h.next 0 (Nat.mul new.length r) (aH r new.length 0 new.flatten T.e))):OR)=_
    rw [show bI (.cells r h.next 0 (Nat.mul new.length r) (aH r new.length 0 new.flatten T.e))=true from hok,fE];rfl
  · refine s.grow rfl (f:=h.next) (fun _ _=>rfl) (Nat.le_refl _) (fun hm=> ?_) (fun hm=> ?_) rfl rfl fun Z hZ=>⟨?_,fun b o n c e=> ?_⟩
    · obtain ⟨Z,s⟩:=s
      exact Nat.lt_irrefl _ (Ad s (by rw [bU];exact List.mem_append_right _ hm))
    · obtain ⟨Z,s⟩:=s
      exact Nat.lt_irrefl _ (kr s (by rw [aQ];exact hm))
    · have:=qc.row (f:=h.next) (r:=r) (h:=(h.fm h.aJ).add (.cells r h.next 0 (new.length * r) (aH r new.length 0 new.flatten T.e))) (b:=h.next) (rows:=new)
       ⟨w.lim,by omega,Nat.le_refl _,⟨0,_,dG (h.fm h.aJ) _,fun i row hi=> ?_,fun F hF=> ?_⟩,hl⟩
      · rw [List.nil_append];exact this
      · rw [bW r _ 0 _ T.e i (by omega) (by omega),if_pos ⟨by omega,by have:=(List.getElem?_eq_some_iff.1 hi).1;omega⟩,Nat.sub_zero,eZ i hl hi]
      · have hF:T.get h.next h.aJ=some F:=hF
        rw [hfn] at hF;cases hF
    · cases e;exact hZ
 |row a=>
  rename_i b
  obtain ⟨ap,t,hob,hrow,hfam⟩:=a.ob
  have hn:=a.pos
  have hlen:=a.len
  have hbn:b<h.next:=w.t b (by rw [hob];simp)
  have hflt:f<h.next:=Nat.lt_of_le_of_lt a.fb hbn
  have hfx:f∉Go.Eng.aJ fs:=by
   obtain ⟨Z,s⟩:=s
   have:=s.nf
   rw [bU] at this
   exact (List.nodup_cons.1 this).1
  have hfo:f∉owns fs:=by
   obtain ⟨Z,s⟩:=s
   exact fun hm=>s.nd f hm (by rw [bU];exact List.mem_append_left _ (by simp [Fact.fam]))
  have hbn2:(rows++new).length=rows.length+new.length:=by simp
  have fin:∀l,St (.acc f r (.sl h.next 0 (rows.length+new.length) none) (rows++new)::fs) ((h.fm (T.set f ⟨ap+rows.length * r+new.length * r,l⟩ h.aJ)).add (.cells r f ap ((rows.length+new.length) * r) (aH r new.length rows.length new.flatten t))):=by
   intro l
   refine s.grow rfl (f:=f) (fun g hg=>by rw [T.aU (Nat.zero_le _) (Nat.zero_le _),if_neg hg]) (by omega) hfx hfo rfl rfl fun Z hZ=>⟨?_,fun b o n c e=>by cases e;exact hZ⟩
   have:=qc.row (f:=f) (r:=r) (h:=(h.fm (T.set f ⟨ap+rows.length * r+new.length * r,l⟩ h.aJ)).add (.cells r f ap ((rows.length+new.length) * r) (aH r new.length rows.length new.flatten t))) (b:=h.next) (rows:=rows++new)
    ⟨w.lim,by omega,by omega,⟨ap,aH r new.length rows.length new.flatten t,by rw [hbn2];exact dG (h.fm _) _,fun i row hi=> ?_,fun F hF=> ?_⟩,fun row hx=> ?_⟩
   · rw [hbn2] at this;exact this
   · rw [bW r _ _ _ t i (by omega) (by omega)]
     have hi1:=(List.getElem?_eq_some_iff.1 hi).1
     rw [hbn2] at hi1
     by_cases hlt:i<rows.length
     · rw [if_neg (by omega)]
       rw [List.getElem?_append_left hlt] at hi
       exact hrow i row hi
     · rw [if_pos ⟨by omega,by omega⟩]
       rw [List.getElem?_append_right (by omega)] at hi
       rw [eZ _ hl hi]
   · have hF:T.get f (T.set f (⟨ap+rows.length * r+new.length * r,l⟩:Fam) h.aJ)=some F:=hF
     rw [T.get_set_same] at hF;cases hF
     show ap+rows.length * r+new.length * r≤ap+(rows++new).length * r
     rw [hbn2,Nat.add_mul];omega
   · rcases List.mem_append.1 hx with hx|hx
     · exact hlen row hx
     · exact hl row hx
  have run:∃l,bq h r bytes (.sl b 0 rows.length none) new.flatten new.length= .ok (.sl h.next 0 (rows.length+new.length) none) ((h.fm (T.set f ⟨ap+rows.length * r+new.length * r,l⟩ h.aJ)).add (.cells r f ap ((rows.length+new.length) * r) (aH r new.length rows.length new.flatten t))):=by
   unfold bq Go.Eng.gM
   have h1:(Nat.mul (Nat.add rows.length new.length) bytes).ble 1099511627776=true:=by rw [dO];simpa using hfit
   have h2:Nat.ble 8 b=true:=Nat.ble_eq_true_of_le a.ge
   simp only [hb0,cond_false,force_eq,h1,h2,Bool.and_self,cond_true]
   show ∃l,(Obj.cells? .bad _ (h.obj b):OR)=_
   rw [show h.obj b=some (.cells r f ap (rows.length * r) t) from hob]
   have c1:(r.beq r&&(Nat.mod 0 r).beq 0)=true:=by
    have:Nat.mod 0 r=0:=Nat.zero_mod r
    rw [this,Nat.beq_refl];rfl
   have hmr:0<new.length * r:=Nat.mul_pos (by omega) hr
   have c2:(Nat.add 0 (Nat.mul (Nat.add rows.length new.length) r)).ble (rows.length * r)=false:=by
    rw [dO]
    have:¬(0+(rows.length+new.length) * r≤rows.length * r):=by rw [Nat.add_mul];omega
    simpa using this
   have c3:(Nat.add 0 (Nat.mul rows.length r)).ble (rows.length * r)=true:=by
    rw [dO]
    simp
   show ∃l,(bif (r.beq r&&(Nat.mod 0 r).beq 0) then _ else _)=_
   rw [c1,cond_true]
   show ∃l,(bif (Nat.add 0 (Nat.mul (Nat.add rows.length new.length) r)).ble (rows.length * r) then _ else _)=_
   rw [c2,cond_false]
   show ∃l,(bif (Nat.add 0 (Nat.mul rows.length r)).ble (rows.length * r) then _ else _)=_
   rw [c3,cond_true]
   have hs:bI (.cells r f ap (Nat.mul (Nat.add rows.length new.length) r) (aH r new.length rows.length new.flatten t))=true:=by show Nat.blt 0 r=true;rw [eH];simpa using hr
   have last:∀h3:Heap,(bif Nat.beq 0 0 then setRows r new.length rows.length new.flatten t fun t=>mk h3 (.cells r f ap (Nat.mul (Nat.add rows.length new.length) r) t) (.sl h.next 0 (Nat.add rows.length new.length) none)
     else Option.rec .bad (fun old=>force (Nat.add ap 0) fun ap=>setRows r (Nat.add rows.length new.length) 0 (bV old new.flatten) T.e fun t=>mk h3 (.cells r f ap (Nat.mul (Nat.add rows.length new.length) r) t) (.sl h.next 0 (Nat.add rows.length new.length) none)) (dV t rows.length (Nat.div 0 r)):OR)=
     .ok (.sl h.next 0 (rows.length+new.length) none) (h3.add (.cells r f ap ((rows.length+new.length) * r) (aH r new.length rows.length new.flatten t))):=by
    intro h3
    rw [show Nat.beq 0 0=true from rfl,cond_true,aX]
    show (Bool.rec .bad (h3.newC (.cells r f ap (Nat.mul (Nat.add rows.length new.length) r) (aH r new.length rows.length new.flatten t)) fun h2=> .ok (.sl h.next 0 (rows.length+new.length) none) h2) (bI (.cells r f ap (Nat.mul (Nat.add rows.length new.length) r) (aH r new.length rows.length new.flatten t))):OR)=_
    rw [hs,fE];rfl
   have htop:(Nat.add (Nat.add ap 0) (Nat.mul (Nat.add rows.length new.length) r))=ap+rows.length * r+new.length * r:=by
    show ap+0+(rows.length+new.length) * r=_
    rw [Nat.add_mul];omega
   unfold grown
   cases hF:T.get f h.aJ with
   |none=>
    have c4:(Nat.add (Nat.add ap 0) (Nat.mul rows.length r)).blt (Nat.add ap (rows.length * r))=false:=by
     rw [eH]
     simp
    refine ⟨[h.next,b], ?_⟩
    show (Bool.rec (eO h f _ [h.next,b] _) _ ((Nat.add (Nat.add ap 0) (Nat.mul rows.length r)).blt (Nat.add ap (rows.length * r))):OR)=_
    rw [c4]
    show eO h f _ [h.next,b] _=_
    rw [gP,htop]
    exact last _
   |some F=>
    have c5:(Fam.last F).ble (Nat.add (Nat.add ap 0) (Nat.mul rows.length r))=true:=by
     rw [dO]
     have:F.last≤ap+0+rows.length * r:=by have:=hfam F hF;omega
     simpa using this
    refine ⟨h.next::F.mem, ?_⟩
    show (Bool.rec _ (eO h f _ (h.next::Fam.mem F) _) ((Fam.last F).ble (Nat.add (Nat.add ap 0) (Nat.mul rows.length r))):OR)=_
    rw [c5]
    show eO h f _ (h.next::Fam.mem F) _=_
    rw [gP,htop]
    exact last _
  obtain ⟨l,hrun⟩:=run
  exact ⟨f,_,_,hrun,fin l⟩
theorem St.append {fs:List Fact} {h:Heap} {f r bytes:Nat} {v:V} {rows new:List (List V)} (s:St fs h) (k:Nat) (hk:fs[k]? =some (.acc f r v rows)) (hr:0<r) (hl:∀row∈new,row.length=r) (hfit:(rows.length+new.length) * bytes≤1099511627776):
  ∃f' v' h',bq h r bytes v new.flatten new.length= .ok v' h'∧St (fs.set k (.acc f' r v' (rows++new))) h':=by
 obtain ⟨f',v',h',e,s'⟩:=(s.pick k hk).FP hr hl hfit
 exact ⟨f',v',h',e,s'.perm (rJ fs k _ _ hk)⟩
theorem St.acc0 {fs:List Fact} {h:Heap} (s:St fs h) (r:Nat):St (.acc 0 r .slN []::fs) h:=by
 obtain ⟨Z,s⟩:=s
 refine ⟨Z,s.wf,s.z,s.oz,s.nb,s.nf,s.nd,fun x hx=> ?_⟩
 rcases List.mem_cons.1 hx with rfl|hx
 · exact ⟨.nil,fun b o n c e=>by cases e⟩
 · exact s.all x hx
theorem qc.rows {f r:Nat} {h:Heap} {v:V} {rows:List (List V)} (hr:0<r) (a:qc f r h v rows):Rows r h v rows:=by
 cases a with
 |nil=>exact .nil
 |row a=>
  obtain ⟨ap,t,hob,hrow,hfam⟩:=a.ob
  exact .row hr hob (Nat.zero_mod r) (fun i row hi=>by rw [Nat.zero_div,Nat.zero_add];exact hrow i row hi) (by omega) a.len
theorem St.shut {fs:List Fact} {h:Heap} {f r:Nat} {v:V} {rows:List (List V)} (s:St (.acc f r v rows::fs) h) (hr:0<r):St (.stb (fun h=>Rows r h v rows)::fs) h:=by
 obtain ⟨Z,s⟩:=s
 refine ⟨Z,s.wf,s.z,s.oz,s.nb, ?_,fun b hb hf=>s.nd b hb (by rw [bU];exact List.mem_append_right _ hf),fun x hx=> ?_⟩
 · have:=s.nf;rw [bU] at this
   exact (List.nodup_append.1 this).2.1
 · rcases List.mem_cons.1 hx with rfl|hx
   · intro h' hz
     obtain ⟨a,hzb⟩:=s.all (.acc f r v rows) (by simp)
     have ar:=a.rows hr
     cases a with
     |nil=>exact .nil
     |row a=>
      obtain ⟨ap,t,hob,hrow,hfam⟩:=a.ob
      refine .row (f:=f) (ap:=ap) hr ?_ (Nat.zero_mod r) (fun i row hi=>by rw [Nat.zero_div,Nat.zero_add];exact hrow i row hi) (Nat.le_of_eq (by rw [Nat.zero_add])) a.len
      rw [hz _ (hzb _ _ _ _ rfl)];exact hob
   · exact s.all x (by simp [hx])
theorem St.FQ {fs:List Fact} {h:Heap} (s:St fs h) (k:Nat) {f r:Nat} {v:V} {rows:List (List V)} (hk:fs[k]? =some (.acc f r v rows)) (hr:0<r):Rows r h v rows:=(s.dK k hk).rows hr
end
end Go.Eng
namespace Go.Eng
noncomputable section
theorem St.frozen {fs:List Fact} {h:Heap} (s:St fs h) (ob:Obj) {P:Heap→Prop} (hP:∀h',T.get h.next h'.t=some ob→P h'):St (.stb P::fs) (h.add ob):=by
 obtain ⟨Z,s⟩:=s
 have hz:∀b,b<h.next→T.get b (h.add ob).t=T.get b h.t:=fun b hb=>dZ hb
 refine ⟨fun b=>Z b∨b=h.next,(Fr.add h ob).wf s.wf,fun b hb=> ?_,fun b hb=> ?_,s.nb,s.nf,s.nd,fun w hw=> ?_⟩
 · rcases hb with hb|rfl
   · rw [hz b (BO s hb)];exact s.z b hb
   · rw [dG];simp
 · refine ⟨?_,(s.oz b hb).2⟩
   rintro (hzb|rfl)
   · exact (s.oz b hb).1 hzb
   · exact Nat.lt_irrefl _ (kr s hb)
 · rcases List.mem_cons.1 hw with rfl|hw
   · intro h' hh
     exact hP h' ((hh _ (Or.inr rfl)).trans (dG ..))
   · exact Fact.stay (s.all w hw) (fun b hb=>⟨Or.inl hb,hz b (BO s hb)⟩) (fun b hb=>hz b (kr s (iX hw hb))) (fun _ _=>rfl) fun _ _=>rfl
theorem wR {r:Nat} {t:T (List V)}:∀(rows:List (List V)) (i:Nat),(∀k row,rows[k]? =some row→T.get (i+k) t=some row)→dV t rows.length i=some rows.flatten
 |[],i,h=>rfl
 |a::l,i,h=>by
  show (Option.rec none (fun row=>Option.rec none (fun l=>some (bV row l)) (dV t l.length (Nat.succ i))) (T.get i t):Option (List V))=_
  have h0:=h 0 a rfl
  rw [Nat.add_zero] at h0
  rw [h0]
  have ih:=wR (r:=r) (t:=t) l (i+1) fun k row hk=>by
   have:=h (k+1) row (by simpa using hk)
   rw [←this];congr 1;omega
  show (Option.rec none (fun l=>some (bV a l)) (dV t l.length (Nat.succ i)):Option (List V))=_
  rw [show Nat.succ i=i+1 from rfl,ih]
  show some (bV a l.flatten)=_
  rw [gN];rfl
theorem Rows.vk {r b o n:Nat} {cap:Option Nat} {h:Heap} {rows:List (List V)} (a:Rows r h (.sl b o n cap) rows):h.load b o (Nat.mul n r)=some rows.flatten:=by
 cases a with
 |row hr hob ho hrow hsz hlen=>
  rename_i f ap sz t
  by_cases h0:rows.length=0
  · obtain rfl:rows=[]:=by simpa using h0
    unfold Heap.load
    have:(Nat.mul ([]:List (List V)).length r).beq 0=true:=by
     show (Nat.mul 0 r).beq 0=true
     rw [show Nat.mul 0 r=0 from Nat.zero_mul r];rfl
    rw [this];rfl
  · unfold Heap.load
    have hpos:0<rows.length * r:=Nat.mul_pos (by omega) hr
    have e0:(Nat.mul rows.length r).beq 0=false:=by
     cases hb:(Nat.mul rows.length r).beq 0 with
     |false=>rfl
     |true=>have:rows.length * r=0:=Nat.eq_of_beq_eq_true hb;omega
    rw [e0,cond_false,show h.obj b=_ from hob]
    show (bif (Nat.add o (Nat.mul rows.length r)).ble sz then cut r o (Nat.mul rows.length r) t else none)=_
    have e1:(Nat.add o (Nat.mul rows.length r)).ble sz=true:=by rw [dO];simpa using hsz
    rw [e1,cond_true]
    unfold cut
    have m0:(o.mod r).beq 0=true:=by rw [show o.mod r=0 from ho];rfl
    have d0:o.div r=o / r:=rfl
    by_cases h1:rows.length=1
    · have e2:((Nat.mul rows.length r).beq r&&(o.mod r).beq 0)=true:=by
       rw [m0,Bool.and_true,h1,show Nat.mul 1 r=r from Nat.one_mul r,Nat.beq_refl]
      rw [e2,cond_true]
      obtain ⟨x,rfl⟩:∃x,rows=[x]:=List.length_eq_one_iff.1 h1
      have:=hrow 0 x rfl
      rw [Nat.add_zero] at this
      rw [d0,this];simp
    · have hr2:r<rows.length * r:=by
       have:2 * r≤rows.length * r:=Nat.mul_le_mul_right r (by omega)
       omega
      have e2:((Nat.mul rows.length r).beq r&&(o.mod r).beq 0)=false:=by
       have:(Nat.mul rows.length r).beq r=false:=by
        cases hb:(Nat.mul rows.length r).beq r with
        |false=>rfl
        |true=>have:rows.length * r=r:=Nat.eq_of_beq_eq_true hb;omega
       rw [this];rfl
      rw [e2,cond_false]
      have e3:(Nat.add (o.mod r) (Nat.mul rows.length r)).ble r=false:=by
       rw [dO,show o.mod r=0 from ho]
       have:¬(0+rows.length * r≤r):=by omega
       simpa using this
      rw [e3,cond_false]
      have e4:((o.mod r).beq 0&&((Nat.mul rows.length r).mod r).beq 0)=true:=by
       rw [m0,show (Nat.mul rows.length r).mod r=0 from Nat.mul_mod_left _ _];rfl
      rw [e4,cond_true]
      have:(Nat.mul rows.length r).div r=rows.length:=Nat.mul_div_cancel _ hr
      rw [this,d0]
      exact wR (r:=r) rows _ hrow
section
variable {c:Ctx} {Q:QT} {env:Env} {h:Heap} {fs:List Fact} {l:List Opr} {vs:List V} {i j:D8}
theorem WO.boxF {o:OpL} {row:List V} (st:St fs h) (hl:light o (fun a=>a.ev vs env) h= .new (.box row) (.ptr h.next 0)) (K:∀b h1,St (.box b row::fs) h1→WO c l Q (.ptr b 0::vs) env h1):WO c (.p (.L o)::l) Q vs env h:=
 WO.new hl rfl (K _ _ (st.box row))
theorem WO.dz {o:OpL} {row:List V} (st:St fs h) (hl:light o (fun a=>a.ev vs env) h= .new (.box row) (.ptr h.next 0)) (K:∀b h1,St (.box b row::fs) h1→WO c l Q (.ptr b 0::vs) (Env.set i j (.ptr b 0) env) h1):WO c (.s i j (.L o)::l) Q vs env h:=
 WO.newS hl rfl (K _ _ (st.box row))
theorem L.jO {ev:Ev} {h:Heap}:light .jO ev h= .new (.map [] 0) (.map h.next):=by
 show force h.next (fun b=>LR.new (.map [] 0) (.map b))=_
 rw [force_eq]
theorem WO.mapF (st:St fs h) (K:∀b h1,St (.map b [] 0::fs) h1→WO c l Q (.map b::vs) env h1):WO c (.p (.L .jO)::l) Q vs env h:=
 WO.new L.jO rfl (K _ _ st.map)
theorem WO.mapFS (st:St fs h) (K:∀b h1,St (.map b [] 0::fs) h1→WO c l Q (.map b::vs) (Env.set i j (.map b) env) h1):WO c (.s i j (.L .jO)::l) Q vs env h:=
 WO.newS L.jO rfl (K _ _ st.map)
theorem L.bsl {ev:Ev} {h:Heap} {r n:Nat} {zero:List V} {ps:List (Nat×Nat×A)} {l:List V} (hf:fill ps ev (rep n zero)=some l):
  light (.bsl r n zero ps) ev h= .new (.cells r h.next 0 (Nat.mul n r) (aH r n 0 l T.e)) (.sl h.next 0 n (some n)):=by
 show force h.next (fun b=>(Option.rec .bad (fun l=>setRows r n 0 l T.e fun t=> .new (.cells r b 0 (Nat.mul n r) t) (.sl b 0 n (some n))) (fill ps ev (rep n zero)):LR))=_
 rw [force_eq,hf]
 show setRows r n 0 l T.e (fun t=>LR.new (.cells r h.next 0 (Nat.mul n r) t) (.sl h.next 0 n (some n)))=_
 rw [aX]
theorem o7 {r n b:Nat} {rows:List (List V)} {cap:Option Nat} {h':Heap} (hr:0<r) (hn:rows.length=n) (hl:∀row∈rows,row.length=r) (hg:T.get b h'.t=some (.cells r b 0 (Nat.mul n r) (aH r n 0 rows.flatten T.e))):Rows r h' (.sl b 0 n cap) rows:=by
 subst hn
 refine .row hr hg (Nat.zero_mod r) (fun i row hi=> ?_) (by rw [Nat.zero_add];exact Nat.le_refl _) hl
 rw [Nat.zero_div,Nat.zero_add,bW r _ 0 _ T.e i (by omega) (by omega),if_pos ⟨by omega,by have:=(List.getElem?_eq_some_iff.1 hi).1;omega⟩,Nat.sub_zero,eZ i hl hi]
theorem iK {r f a n:Nat} {t:T (List V)} (hr:0<r):bI (.cells r f a n t)=true:=by show Nat.blt 0 r=true;rw [eH];simpa using hr
theorem WO.gJ {r n:Nat} {zero:List V} {ps:List (Nat×Nat×A)} {rows:List (List V)} (st:St fs h) (hf:fill ps (fun a=>a.ev vs env) (rep n zero)=some rows.flatten) (hr:0<r) (hn:rows.length=n) (hl:∀row∈rows,row.length=r)
  (K:∀b h1,St (.stb (fun h=>Rows r h (.sl b 0 n (some n)) rows)::fs) h1→WO c l Q (.sl b 0 n (some n)::vs) env h1):WO c (.p (.L (.bsl r n zero ps))::l) Q vs env h:=
 WO.new (L.bsl hf) (iK hr) (K _ _ (st.frozen _ fun h' hg=>o7 hr hn hl hg))
theorem WO.bslFS {r n:Nat} {zero:List V} {ps:List (Nat×Nat×A)} {rows:List (List V)} (st:St fs h) (hf:fill ps (fun a=>a.ev vs env) (rep n zero)=some rows.flatten) (hr:0<r) (hn:rows.length=n) (hl:∀row∈rows,row.length=r)
  (K:∀b h1,St (.stb (fun h=>Rows r h (.sl b 0 n (some n)) rows)::fs) h1→WO c l Q (.sl b 0 n (some n)::vs) (Env.set i j (.sl b 0 n (some n)) env) h1):WO c (.s i j (.L (.bsl r n zero ps))::l) Q vs env h:=
 WO.newS (L.bsl hf) (iK hr) (K _ _ (st.frozen _ fun h' hg=>o7 hr hn hl hg))
theorem WO.aI {n b o:Nat} {x y:A} {cs row row':List V} (st:St fs h) (k:Nat) (hk:fs[k]? =some (.box b row)) (hx:x.ev vs env= .ptr b o) (hy:(y.ev vs env).aV=some cs) (hn:bO cs=n) (h0:n.beq 0=false) (ho:(Nat.add o n).ble (bO row)=true) (hr:fZ o cs row=row')
  (K:∀h1,St (fs.set k (.box b row')) h1→WO c l Q (un::vs) env h1):WO c (.p (.H (.store n x y))::l) Q vs env h:=
 WO.act (fun _=>L.JS hx hy hn h0 (st.JU k hk) (st.av k hk) ho hr) (K _ (st.Eh k row' hk))
theorem L.append {call:bM} {ev:Ev} {s x:A} {r bytes:Nat} {v xv:V} {new:List (List V)} {out:OR} (hs:ev s=v) (hx:ev x=xv) (hn:Rows r h xv new) (ho:bq h r bytes v new.flatten new.length=out):heavy (.append r bytes s x) call ev h=out:=by
 subst ho hs hx
 show (match ev x with
  | .slN=>bq h r bytes (ev s) [] 0
  | .sl b o m _=>(Option.rec .bad (fun new=>bq h r bytes (ev s) new m) (h.load b o (Nat.mul m r)):OR)
  | .str m a=>bif r.beq 1 then bq h r bytes (ev s) (strCells (bL m a)) m else .bad
  |_=> .bad)=_
 generalize hv:ev x=xv at hn
 cases hn with
 |nil=>rfl
 |row hr hob ho hrow hsz hlen=>
  have:=(Rows.row (cap:=none) hr hob ho hrow hsz hlen).vk
  simp only [this]
theorem WO.wS {r bytes f:Nat} {s x:A} {v xv:V} {rows new:List (List V)} (st:St fs h) (k:Nat) (hk:fs[k]? =some (.acc f r v rows)) (hs:s.ev vs env=v) (hx:x.ev vs env=xv) (hn:Rows r h xv new) (hr:0<r) (hfit:(rows.length+new.length) * bytes≤1099511627776)
  (K:∀f' v' h1,St (fs.set k (.acc f' r v' (rows++new))) h1→WO c l Q (v'::vs) env h1):WO c (.p (.H (.append r bytes s x))::l) Q vs env h:=by
 have hl:∀row∈new,row.length=r:=by
  cases hn with
  |nil=>intro row hm;simp at hm
  |row _ _ _ _ _ hlen=>exact hlen
 obtain ⟨f',v',h',e,s'⟩:=st.append k hk hr hl hfit
 exact WO.act (fun _=>L.append (ev:=fun a=>a.ev vs env) hs hx hn e) (K _ _ _ s')
theorem WO.gW {r bytes f:Nat} {s x:A} {v xv:V} {rows new:List (List V)} (st:St fs h) (k:Nat) (hk:fs[k]? =some (.acc f r v rows)) (hs:s.ev vs env=v) (hx:x.ev vs env=xv) (hn:Rows r h xv new) (hr:0<r) (hfit:(rows.length+new.length) * bytes≤1099511627776)
  (K:∀f' v' h1,St (fs.set k (.acc f' r v' (rows++new))) h1→WO c l Q (v'::vs) (Env.set i j v' env) h1):WO c (.s i j (.H (.append r bytes s x))::l) Q vs env h:=by
 have hl:∀row∈new,row.length=r:=by
  cases hn with
  |nil=>intro row hm;simp at hm
  |row _ _ _ _ _ hlen=>exact hlen
 obtain ⟨f',v',h',e,s'⟩:=st.append k hk hr hl hfit
 exact WO.JR (fun _=>L.append (ev:=fun a=>a.ev vs env) hs hx hn e) (K _ _ _ s')
theorem WO.aP {f:Nat} {as:List A} {as':List V} {P:V→Heap→Prop} (ha:evs as (fun a=>a.ev vs env)=as') (hr:∃v h1,Runs c f as' h (.ok v h1)∧P v h1) (K:∀v h1,P v h1→WO c l Q (v::vs) env h1):WO c (.p (.H (.call f as))::l) Q vs env h:=by
 obtain ⟨v,h1,hr,hp⟩:=hr
 exact WO.call (by rw [ha];exact hr) (K v h1 hp)
theorem WO.dB {f:Nat} {as:List A} {as':List V} {P:V→Heap→Prop} (ha:evs as (fun a=>a.ev vs env)=as') (hr:∃v h1,Runs c f as' h (.ok v h1)∧P v h1) (K:∀v h1,P v h1→WO c l Q (v::vs) (Env.set i j v env) h1):WO c (.s i j (.H (.call f as))::l) Q vs env h:=by
 obtain ⟨v,h1,hr,hp⟩:=hr
 exact WO.FM (by rw [ha];exact hr) (K v h1 hp)
theorem WO.dS {x:A} {as:List A} {f:Nat} {a b:List V} {v:V} {h2:Heap} (hx:x.ev vs env= .fn f a b) (hl:Runs c f (bV a (bV (evs as fun a=>a.ev vs env) b)) h (.ok v h2)) (w:WO c l Q (v::vs) env h2):WO c (.p (.H (.dS x as))::l) Q vs env h:=by
 obtain ⟨x1,e1,h1,⟨N,ev⟩,q⟩:=w
 obtain ⟨N2,hl⟩:=hl
 refine ⟨x1,e1,h1,⟨max N N2,fun m hm R hR=> ?_⟩,q⟩
 show ((Option.rec .bad (fun x=>ofC h (aL c R m x.1 (bV x.2.1 (bV (evs as fun a=>a.ev vs env) x.2.2)) .none h).1) (x.ev vs env).vD:OR).k env fun v h=>cB l (aL c R m) (v::vs) env h)=_
 rw [hx]
 show ((ofC h (aL c R m f (bV a (bV (evs as fun a=>a.ev vs env) b)) .none h).1).k env fun v h=>cB l (aL c R m) (v::vs) env h)=_
 rw [jm,hl m (by omega) R (by omega)]
 show v.force (fun v=>cB l (aL c R m) (v::vs) env h2)=_
 rw [V.force_eq];exact ev m (by omega) R (by omega)
theorem WO.JV {x:A} {as:List A} {f:Nat} {a b:List V} {v:V} {h2:Heap} (hx:x.ev vs env= .fn f a b) (hl:Runs c f (bV a (bV (evs as fun a=>a.ev vs env) b)) h (.ok v h2)) (w:WO c l Q (v::vs) (Env.set i j v env) h2):WO c (.s i j (.H (.dS x as))::l) Q vs env h:=by
 obtain ⟨x1,e1,h1,⟨N,ev⟩,q⟩:=w
 obtain ⟨N2,hl⟩:=hl
 refine ⟨x1,e1,h1,⟨max N N2,fun m hm R hR=> ?_⟩,q⟩
 show ((Option.rec .bad (fun x=>ofC h (aL c R m x.1 (bV x.2.1 (bV (evs as fun a=>a.ev vs env) x.2.2)) .none h).1) (x.ev vs env).vD:OR).k env fun v h=>Env.bJ i j v (fun env=>cB l (aL c R m) (v::vs) env h) env)=_
 rw [hx]
 show ((ofC h (aL c R m f (bV a (bV (evs as fun a=>a.ev vs env) b)) .none h).1).k env fun v h=>Env.bJ i j v (fun env=>cB l (aL c R m) (v::vs) env h) env)=_
 rw [jm,hl m (by omega) R (by omega)]
 show v.force (fun v=>Env.bJ i j v (fun env=>cB l (aL c R m) (v::vs) env h2) env)=_
 rw [V.force_eq,Env.bK];exact ev m (by omega) R (by omega)
theorem WO.kS {x:A} {as:List A} {f:Nat} {a b as':List V} {P:V→Heap→Prop} (hx:x.ev vs env= .fn f a b) (ha:bV a (bV (evs as (fun a=>a.ev vs env)) b)=as') (hr:∃v h1,Runs c f as' h (.ok v h1)∧P v h1) (K:∀v h1,P v h1→WO c l Q (v::vs) env h1):WO c (.p (.H (.dS x as))::l) Q vs env h:=by
 obtain ⟨v,h1,hr,hp⟩:=hr
 exact WO.dS hx (by rw [ha];exact hr) (K v h1 hp)
theorem WO.FR {x:A} {as:List A} {f:Nat} {a b as':List V} {P:V→Heap→Prop} (hx:x.ev vs env= .fn f a b) (ha:bV a (bV (evs as (fun a=>a.ev vs env)) b)=as') (hr:∃v h1,Runs c f as' h (.ok v h1)∧P v h1) (K:∀v h1,P v h1→WO c l Q (v::vs) (Env.set i j v env) h1):WO c (.s i j (.H (.dS x as))::l) Q vs env h:=by
 obtain ⟨v,h1,hr,hp⟩:=hr
 exact WO.JV hx (by rw [ha];exact hr) (K v h1 hp)
theorem WO.vo {f:Nat} {as:List A} {as':List V} {v:V} {h2:Heap} (ha:evs as (fun a=>a.ev vs env)=as') (hl:Runs c f as' h (.pan v h2)) (q:Q (.pan v) env h2):WO c (.p (.H (.call f as))::l) Q vs env h:=by
 obtain ⟨N2,hl⟩:=hl
 refine ⟨.pan v,env,h2,⟨N2,fun m hm R hR=> ?_⟩,q⟩
 show ((ofC h (aL c R m f (evs as fun a=>a.ev vs env) .none h).1).k env fun v h=>cB l (aL c R m) (v::vs) env h)=_
 rw [ha,jm,hl m hm R hR];rfl
theorem WO.BR {f:Nat} {as:List A} {as':List V} {v:V} {h2:Heap} (ha:evs as (fun a=>a.ev vs env)=as') (hl:Runs c f as' h (.pan v h2)) (q:Q (.pan v) env h2):WO c (.s i j (.H (.call f as))::l) Q vs env h:=by
 obtain ⟨N2,hl⟩:=hl
 refine ⟨.pan v,env,h2,⟨N2,fun m hm R hR=> ?_⟩,q⟩
 show ((ofC h (aL c R m f (evs as fun a=>a.ev vs env) .none h).1).k env fun v h=>Env.bJ i j v (fun env=>cB l (aL c R m) (v::vs) env h) env)=_
 rw [ha,jm,hl m hm R hR];rfl
theorem WO.JW {x:A} {f:Nat} {as:List A} {a b as':List V} {v:V} {h2:Heap} (hx:x.ev vs env= .fn f a b) (ha:bV a (bV (evs as (fun a=>a.ev vs env)) b)=as') (hl:Runs c f as' h (.pan v h2)) (q:Q (.pan v) env h2):WO c (.p (.H (.dS x as))::l) Q vs env h:=by
 obtain ⟨N2,hl⟩:=hl
 refine ⟨.pan v,env,h2,⟨N2,fun m hm R hR=> ?_⟩,q⟩
 show ((Option.rec .bad (fun x=>ofC h (aL c R m x.1 (bV x.2.1 (bV (evs as fun a=>a.ev vs env) x.2.2)) .none h).1) (x.ev vs env).vD:OR).k env fun v h=>cB l (aL c R m) (v::vs) env h)=_
 rw [hx]
 show ((ofC h (aL c R m f (bV a (bV (evs as fun a=>a.ev vs env) b)) .none h).1).k env fun v h=>cB l (aL c R m) (v::vs) env h)=_
 rw [ha,jm,hl m hm R hR];rfl
theorem WO.H8 {x:A} {f:Nat} {as:List A} {a b as':List V} {v:V} {h2:Heap} (hx:x.ev vs env= .fn f a b) (ha:bV a (bV (evs as (fun a=>a.ev vs env)) b)=as') (hl:Runs c f as' h (.pan v h2)) (q:Q (.pan v) env h2):WO c (.s i j (.H (.dS x as))::l) Q vs env h:=by
 obtain ⟨N2,hl⟩:=hl
 refine ⟨.pan v,env,h2,⟨N2,fun m hm R hR=> ?_⟩,q⟩
 show ((Option.rec .bad (fun x=>ofC h (aL c R m x.1 (bV x.2.1 (bV (evs as fun a=>a.ev vs env) x.2.2)) .none h).1) (x.ev vs env).vD:OR).k env fun v h=>Env.bJ i j v (fun env=>cB l (aL c R m) (v::vs) env h) env)=_
 rw [hx]
 show ((ofC h (aL c R m f (bV a (bV (evs as fun a=>a.ev vs env) b)) .none h).1).k env fun v h=>Env.bJ i j v (fun env=>cB l (aL c R m) (v::vs) env h) env)=_
 rw [ha,jm,hl m hm R hR];rfl
theorem WO.pan {x:A} {t:Nat} {v:V} (hx:x.ev vs env= .ifc t v) (q:Q (.pan (.ifc t v)) env h):WO c (.p (.H (.panic x))::l) Q vs env h:=by
 refine ⟨.pan (.ifc t v),env,h,⟨0,fun m hm R hR=> ?_⟩,q⟩
 show ((match x.ev vs env with| .ifc t v=>OR.pan (.ifc t v) h|_=> .bad).k env fun v h=>cB l (aL c R m) (v::vs) env h)=_
 rw [hx];rfl
theorem WO.ifV {o:OpL} {p:Prop} [Decidable p] (hl:light o (fun a=>a.ev vs env) h= .val (.bool (decide p))) (ht:p→WO c l Q (.bool true::vs) env h) (hf:¬p→WO c l Q (.bool false::vs) env h):WO c (.p (.L o)::l) Q vs env h:=by
 by_cases hp:p
 · exact WO.val (hl.trans (by rw [decide_eq_true hp])) (ht hp)
 · exact WO.val (hl.trans (by rw [decide_eq_false hp])) (hf hp)
theorem WO.ifS {o:OpL} {p:Prop} [Decidable p] (hl:light o (fun a=>a.ev vs env) h= .val (.bool (decide p))) (ht:p→WO c l Q (.bool true::vs) (Env.set i j (.bool true) env) h) (hf:¬p→WO c l Q (.bool false::vs) (Env.set i j (.bool false) env) h):WO c (.s i j (.L o)::l) Q vs env h:=by
 by_cases hp:p
 · exact WO.ak (hl.trans (by rw [decide_eq_true hp])) (ht hp)
 · exact WO.ak (hl.trans (by rw [decide_eq_false hp])) (hf hp)
theorem WP.Ae {a b:C} (R:Env→Heap→Prop) (w:WP c a (fun x e h=>match x with| .nrm=>R e h|x=>Q x e h) env h) (k:∀e h,R e h→WP c b Q e h):WP c (.seq a b) Q env h:=
 WP.seq (w.mono fun x e h q=>by cases x<;>first|exact k e h q|exact q)
theorem WP.bT {α:Type} {a:C} (I:α→Env→Heap→Prop) (μ:α→Nat) (g:α) (h0:I g env h) (step:∀g e1 h1,I g e1 h1→WP c a (fun x e2 h2=>match x with| .nrm=>∃g',μ g'<μ g∧I g' e2 h2|x=>Q x e2 h2) e1 h1):WP c (.loop a) Q env h:=by
 have key:∀k g e1 h1,μ g=k→I g e1 h1→∃x e2 h2,(∃N,∀m,N≤m→∀R,N≤R→∀n,N≤n→rounds (fun env h=>code a (aL c R m) R env h) n e1 h1= .ok x e2 h2)∧Q x e2 h2:=by
  intro k
  induction k using Nat.strongRecOn with
  |_ k ih=>
   intro g e1 h1 hk hI
   obtain ⟨x,e2,h2,⟨N,ev⟩,q⟩:=step g e1 h1 hI
   have one:∀m,N≤m→∀R,N≤R→∀n,rounds (fun env h=>code a (aL c R m) R env h) (n+1) e1 h1=(X.rec (rounds (fun env h=>code a (aL c R m) R env h) n e2 h2) (.ok .ret e2 h2) (fun i=> .ok (.exit i) e2 h2) (fun v=> .ok (.pan v) e2 h2) x:CR):=by
    intro m hm R hR n
    show (CR.rec (fun x env h=>X.rec (rounds (fun env h=>code a (aL c R m) R env h) n env h) (.ok .ret env h) (fun i=> .ok (.exit i) env h) (fun v=> .ok (.pan v) env h) x) .bad (code a (aL c R m) R e1 h1):CR)=_
    rw [ev m hm R hR]
   cases x with
   |nrm=>
    obtain ⟨g',hlt,hI2⟩:=q
    obtain ⟨x3,e3,h3,⟨N3,ev3⟩,q3⟩:=ih (μ g') (hk▸hlt) g' e2 h2 rfl hI2
    refine ⟨x3,e3,h3,⟨max N N3+1,fun m hm R hR n hn=> ?_⟩,q3⟩
    obtain ⟨n',rfl⟩:∃n',n=n'+1:=⟨n - 1,by omega⟩
    rw [one m (by omega) R (by omega)]
    exact ev3 m (by omega) R (by omega) n' (by omega)
   |ret=>
    refine ⟨.ret,e2,h2,⟨N+1,fun m hm R hR n hn=> ?_⟩,q⟩
    obtain ⟨n',rfl⟩:∃n',n=n'+1:=⟨n - 1,by omega⟩
    rw [one m (by omega) R (by omega)]
   |exit i=>
    refine ⟨.exit i,e2,h2,⟨N+1,fun m hm R hR n hn=> ?_⟩,q⟩
    obtain ⟨n',rfl⟩:∃n',n=n'+1:=⟨n - 1,by omega⟩
    rw [one m (by omega) R (by omega)]
   |pan v=>
    refine ⟨.pan v,e2,h2,⟨N+1,fun m hm R hR n hn=> ?_⟩,q⟩
    obtain ⟨n',rfl⟩:∃n',n=n'+1:=⟨n - 1,by omega⟩
    rw [one m (by omega) R (by omega)]
 obtain ⟨x,e2,h2,⟨N,ev⟩,q⟩:=key _ g env h rfl h0
 exact ⟨x,e2,h2,⟨N,fun m hm R hR=>ev m hm R hR R hR⟩,q⟩
end
end
end Go.Eng
namespace Go.Eng
noncomputable section
theorem Obj.JX (row:List V):Obj.same (.box row) (.box row)=true:=V.iE row
theorem aT {fs:List Fact} {h:Heap} (s:St fs h) (k:Nat) {b:Nat} {row:List V} (hk:fs[k]? =some (.box b row)):still h (.nw b (.box row))=true:=by
 obtain ⟨Z,s⟩:=s
 have:=s.all (.box b row) (List.mem_of_getElem? hk)
 show (match T.get b h.t,T.get b h.aJ with
  |some o,none=>Obj.same (.box row) o
  |_,_=>false)=true
 rw [this.1,this.2]
 exact Obj.JX row
theorem still_map {fs:List Fact} {h:Heap} (s:St fs h) (k:Nat) {b:Nat} {c:Nat} (hk:fs[k]? =some (.map b [] c)):still h (.nw b (.map [] c))=true:=by
 obtain ⟨Z,s⟩:=s
 have:=s.all (.map b [] c) (List.mem_of_getElem? hk)
 show (match T.get b h.t,T.get b h.aJ with
  |some o,none=>Obj.same (.map [] c) o
  |_,_=>false)=true
 rw [this.1,this.2]
 exact Nat.beq_refl c
section
variable {c:Ctx} {Q:QT} {env:Env} {h:Heap} {fs:List Fact} {l:List Opd} {vs:List V} {lg:List Log} {uo:List Nat} {i j:D8}
theorem WD.boxF {o:OpL} {row:List V} (st:St fs h) (hl:light o (fun a=>a.ev vs env) h= .new (.box row) (.ptr h.next 0)) (K:∀b h1,St (.box b row::fs) h1→WD c l Q (.ptr b 0::vs) (.nw b (.box row)::lg) env h1):WD c (⟨.p (.L o),uo⟩::l) Q vs lg env h:=
 WD.new hl rfl (K _ _ (st.box row))
theorem WD.dz {o:OpL} {row:List V} (st:St fs h) (hl:light o (fun a=>a.ev vs env) h= .new (.box row) (.ptr h.next 0)) (K:∀b h1,St (.box b row::fs) h1→WD c l Q (.ptr b 0::vs) (.nw b (.box row)::lg) (Env.set i j (.ptr b 0) env) h1):WD c (⟨.s i j (.L o),uo⟩::l) Q vs lg env h:=
 WD.newS hl rfl (K _ _ (st.box row))
theorem WD.mapF (st:St fs h) (K:∀b h1,St (.map b [] 0::fs) h1→WD c l Q (.map b::vs) (.nw b (.map [] 0)::lg) env h1):WD c (⟨.p (.L .jO),uo⟩::l) Q vs lg env h:=
 WD.new L.jO rfl (K _ _ st.map)
theorem WD.mapFS (st:St fs h) (K:∀b h1,St (.map b [] 0::fs) h1→WD c l Q (.map b::vs) (.nw b (.map [] 0)::lg) (Env.set i j (.map b) env) h1):WD c (⟨.s i j (.L .jO),uo⟩::l) Q vs lg env h:=
 WD.newS L.jO rfl (K _ _ st.map)
theorem WD.gJ {r n:Nat} {zero:List V} {ps:List (Nat×Nat×A)} {rows:List (List V)} (st:St fs h) (hf:fill ps (fun a=>a.ev vs env) (rep n zero)=some rows.flatten) (hr:0<r) (hn:rows.length=n) (hl:∀row∈rows,row.length=r)
  (K:∀b h1 lo,St (.stb (fun h=>Rows r h (.sl b 0 n (some n)) rows)::fs) h1→WD c l Q (.sl b 0 n (some n)::vs) (lo::lg) env h1):WD c (⟨.p (.L (.bsl r n zero ps)),uo⟩::l) Q vs lg env h:=
 WD.new (L.bsl hf) (iK hr) (K _ _ _ (st.frozen _ fun h' hg=>o7 hr hn hl hg))
theorem WD.aI {n b o:Nat} {x y:A} {cs row row':List V} (st:St fs h) (k:Nat) (hk:fs[k]? =some (.box b row)) (hx:x.ev vs env= .ptr b o) (hy:(y.ev vs env).aV=some cs) (hn:bO cs=n) (h0:n.beq 0=false) (ho:(Nat.add o n).ble (bO row)=true) (hr:fZ o cs row=row')
  (hs:∀h1,St (fs.set k (.box b row')) h1→bZ uo h1 lg=true) (K:∀h1,St (fs.set k (.box b row')) h1→WD c l Q (un::vs) (.no::lg) env h1):WD c (⟨.p (.H (.store n x y)),uo⟩::l) Q vs lg env h:=
 WD.act (fun _=>L.JS hx hy hn h0 (st.JU k hk) (st.av k hk) ho hr) (hs _ (st.Eh k row' hk)) (K _ (st.Eh k row' hk))
theorem WD.wS {r bytes f:Nat} {s x:A} {v xv:V} {rows new:List (List V)} (st:St fs h) (k:Nat) (hk:fs[k]? =some (.acc f r v rows)) (hs:s.ev vs env=v) (hx:x.ev vs env=xv) (hn:Rows r h xv new) (hr:0<r) (hfit:(rows.length+new.length) * bytes≤1099511627776)
  (hst:∀f' v' h1,St (fs.set k (.acc f' r v' (rows++new))) h1→bZ uo h1 lg=true) (K:∀f' v' h1,St (fs.set k (.acc f' r v' (rows++new))) h1→WD c l Q (v'::vs) (.no::lg) env h1):WD c (⟨.p (.H (.append r bytes s x)),uo⟩::l) Q vs lg env h:=by
 have hl:∀row∈new,row.length=r:=by
  cases hn with
  |nil=>intro row hm;simp at hm
  |row _ _ _ _ _ hlen=>exact hlen
 obtain ⟨f',v',h',e,s'⟩:=st.append k hk hr hl hfit
 exact WD.act (fun _=>L.append (ev:=fun a=>a.ev vs env) hs hx hn e) (hst _ _ _ s') (K _ _ _ s')
theorem WD.gW {r bytes f:Nat} {s x:A} {v xv:V} {rows new:List (List V)} (st:St fs h) (k:Nat) (hk:fs[k]? =some (.acc f r v rows)) (hs:s.ev vs env=v) (hx:x.ev vs env=xv) (hn:Rows r h xv new) (hr:0<r) (hfit:(rows.length+new.length) * bytes≤1099511627776)
  (hst:∀f' v' h1,St (fs.set k (.acc f' r v' (rows++new))) h1→bZ uo h1 lg=true) (K:∀f' v' h1,St (fs.set k (.acc f' r v' (rows++new))) h1→WD c l Q (v'::vs) (.no::lg) (Env.set i j v' env) h1):WD c (⟨.s i j (.H (.append r bytes s x)),uo⟩::l) Q vs lg env h:=by
 have hl:∀row∈new,row.length=r:=by
  cases hn with
  |nil=>intro row hm;simp at hm
  |row _ _ _ _ _ hlen=>exact hlen
 obtain ⟨f',v',h',e,s'⟩:=st.append k hk hr hl hfit
 exact WD.JR (fun _=>L.append (ev:=fun a=>a.ev vs env) hs hx hn e) (hst _ _ _ s') (K _ _ _ s')
theorem WD.aP {f:Nat} {as:List A} {as':List V} {P:V→Heap→Prop} (ha:evs as (fun a=>a.ev vs env)=as') (hr:∃v h1,Runs c f as' h (.ok v h1)∧P v h1) (hs:∀v h1,P v h1→bZ uo h1 lg=true) (K:∀v h1,P v h1→WD c l Q (v::vs) (.no::lg) env h1):WD c (⟨.p (.H (.call f as)),uo⟩::l) Q vs lg env h:=by
 obtain ⟨v,h1,hr,hp⟩:=hr
 exact WD.call (by rw [ha];exact hr) (hs v h1 hp) (K v h1 hp)
theorem WD.dB {f:Nat} {as:List A} {as':List V} {P:V→Heap→Prop} (ha:evs as (fun a=>a.ev vs env)=as') (hr:∃v h1,Runs c f as' h (.ok v h1)∧P v h1) (hs:∀v h1,P v h1→bZ uo h1 lg=true) (K:∀v h1,P v h1→WD c l Q (v::vs) (.no::lg) (Env.set i j v env) h1):WD c (⟨.s i j (.H (.call f as)),uo⟩::l) Q vs lg env h:=by
 obtain ⟨v,h1,hr,hp⟩:=hr
 exact WD.FM (by rw [ha];exact hr) (hs v h1 hp) (K v h1 hp)
theorem WD.vo {f:Nat} {as:List A} {as':List V} {v:V} {h2:Heap} (ha:evs as (fun a=>a.ev vs env)=as') (hl:Runs c f as' h (.pan v h2)) (q:Q (.pan v) env h2):WD c (⟨.p (.H (.call f as)),uo⟩::l) Q vs lg env h:=by
 obtain ⟨N2,hl⟩:=hl
 refine ⟨.pan v,env,h2,⟨N2,fun m hm R hR=> ?_⟩,q⟩
 show ((ofC h (aL c R m f (evs as fun a=>a.ev vs env) .none h).1).k env fun v h'=>Bool.rec .bad (dx l (aL c R m) (v::vs) (.no::lg) env h') (bZ uo h' lg))=_
 rw [ha,jm,hl m hm R hR];rfl
theorem WD.BR {f:Nat} {as:List A} {as':List V} {v:V} {h2:Heap} (ha:evs as (fun a=>a.ev vs env)=as') (hl:Runs c f as' h (.pan v h2)) (q:Q (.pan v) env h2):WD c (⟨.s i j (.H (.call f as)),uo⟩::l) Q vs lg env h:=by
 obtain ⟨N2,hl⟩:=hl
 refine ⟨.pan v,env,h2,⟨N2,fun m hm R hR=> ?_⟩,q⟩
 show ((ofC h (aL c R m f (evs as fun a=>a.ev vs env) .none h).1).k env fun v h'=>Bool.rec .bad (Env.bJ i j v (fun env=>dx l (aL c R m) (v::vs) (.no::lg) env h') env) (bZ uo h' lg))=_
 rw [ha,jm,hl m hm R hR];rfl
theorem WD.pan {x:A} {t:Nat} {v:V} (hx:x.ev vs env= .ifc t v) (q:Q (.pan (.ifc t v)) env h):WD c (⟨.p (.H (.panic x)),uo⟩::l) Q vs lg env h:=by
 refine ⟨.pan (.ifc t v),env,h,⟨0,fun m hm R hR=> ?_⟩,q⟩
 show ((match x.ev vs env with| .ifc t v=>OR.pan (.ifc t v) h|_=> .bad).k env fun v h'=>Bool.rec .bad (dx l (aL c R m) (v::vs) (.no::lg) env h') (bZ uo h' lg))=_
 rw [hx];rfl
theorem WD.ifV {o:OpL} {p:Prop} [Decidable p] (hl:light o (fun a=>a.ev vs env) h= .val (.bool (decide p))) (ht:∀lo,p→WD c l Q (.bool true::vs) (lo::lg) env h) (hf:∀lo,¬p→WD c l Q (.bool false::vs) (lo::lg) env h):WD c (⟨.p (.L o),uo⟩::l) Q vs lg env h:=by
 by_cases hp:p
 · exact WD.val (hl.trans (by rw [decide_eq_true hp])) (ht _ hp)
 · exact WD.val (hl.trans (by rw [decide_eq_false hp])) (hf _ hp)
theorem WD.ifS {o:OpL} {p:Prop} [Decidable p] (hl:light o (fun a=>a.ev vs env) h= .val (.bool (decide p))) (ht:∀lo,p→WD c l Q (.bool true::vs) (lo::lg) (Env.set i j (.bool true) env) h) (hf:∀lo,¬p→WD c l Q (.bool false::vs) (lo::lg) (Env.set i j (.bool false) env) h):WD c (⟨.s i j (.L o),uo⟩::l) Q vs lg env h:=by
 by_cases hp:p
 · exact WD.ak (hl.trans (by rw [decide_eq_true hp])) (ht _ hp)
 · exact WD.ak (hl.trans (by rw [decide_eq_false hp])) (hf _ hp)
theorem WD.dS {x:A} {as:List A} {f:Nat} {a b:List V} {v:V} {h2:Heap} (hx:x.ev vs env= .fn f a b) (hl:Runs c f (bV a (bV (evs as fun a=>a.ev vs env) b)) h (.ok v h2)) (hs:bZ uo h2 lg=true) (w:WD c l Q (v::vs) (.no::lg) env h2):WD c (⟨.p (.H (.dS x as)),uo⟩::l) Q vs lg env h:=by
 obtain ⟨x1,e1,h1,⟨N,ev⟩,q⟩:=w
 obtain ⟨N2,hl⟩:=hl
 refine ⟨x1,e1,h1,⟨max N N2,fun m hm R hR=> ?_⟩,q⟩
 show ((Option.rec .bad (fun x=>ofC h (aL c R m x.1 (bV x.2.1 (bV (evs as fun a=>a.ev vs env) x.2.2)) .none h).1) (x.ev vs env).vD:OR).k env fun v h'=>Bool.rec .bad (dx l (aL c R m) (v::vs) (.no::lg) env h') (bZ uo h' lg))=_
 rw [hx]
 show ((ofC h (aL c R m f (bV a (bV (evs as fun a=>a.ev vs env) b)) .none h).1).k env fun v h'=>Bool.rec .bad (dx l (aL c R m) (v::vs) (.no::lg) env h') (bZ uo h' lg))=_
 rw [jm,hl m (by omega) R (by omega)]
 show v.force (fun v=>(Bool.rec .bad (dx l (aL c R m) (v::vs) (.no::lg) env h2) (bZ uo h2 lg):CR))=_
 rw [V.force_eq,hs];exact ev m (by omega) R (by omega)
end
def aM (c:Ctx) (f:Nat) (as:List V) (h:Heap) (P:V→Heap→Prop):Prop:=∃v h1,Runs c f as h (.ok v h1)∧P v h1
def qL (c:Ctx) (f:Nat) (as:List V) (h:Heap) (P:OR→Prop):Prop:=∃r,Runs c f as h r∧P r
def QF (rs:List Res) (P:V→Heap→Prop):QT:=fun x e h=>match x with
 | .nrm=>∃vs,results e h rs=some vs∧P (one vs) h
 | .ret=>∃vs,results e h rs=some vs∧P (one vs) h
 | .pan _=>False
 | .exit _=>False
def QR (rs:List Res) (P:OR→Prop):QT:=fun x e h=>match x with
 | .nrm=>∃vs,results e h rs=some vs∧P (.ok (one vs) h)
 | .ret=>∃vs,results e h rs=some vs∧P (.ok (one vs) h)
 | .pan v=>P (.pan v h)
 | .exit _=>False
section
variable {c:Ctx} {h:Heap}
theorem aM.bX {f:Nat} {F:Fun} {as:List V} {P:V→Heap→Prop} (hF:T.get f c.aR=some F) (hn:as.length=F.np) (w:WP c F.body (QF F.results P) (aO as 0 Env.nil) h):aM c f as h P:=by
 obtain ⟨x,e1,h1,ev,q⟩:=w
 cases x with
 |nrm=>
  obtain ⟨vs,hv,hp⟩:=q
  exact ⟨_,_,Runs.bX hF hn ⟨_,_,_,ev,⟨vs,hv,rfl⟩⟩,hp⟩
 |ret=>
  obtain ⟨vs,hv,hp⟩:=q
  exact ⟨_,_,Runs.bX hF hn ⟨_,_,_,ev,⟨vs,hv,rfl⟩⟩,hp⟩
 |pan v=>exact q.elim
 |exit i=>exact q.elim
theorem qL.bX {f:Nat} {F:Fun} {as:List V} {P:OR→Prop} (hF:T.get f c.aR=some F) (hn:as.length=F.np) (w:WP c F.body (QR F.results P) (aO as 0 Env.nil) h):qL c f as h P:=by
 obtain ⟨x,e1,h1,ev,q⟩:=w
 cases x with
 |nrm=>
  obtain ⟨vs,hv,hp⟩:=q
  exact ⟨_,Runs.bX hF hn ⟨_,_,_,ev,⟨vs,hv,rfl⟩⟩,hp⟩
 |ret=>
  obtain ⟨vs,hv,hp⟩:=q
  exact ⟨_,Runs.bX hF hn ⟨_,_,_,ev,⟨vs,hv,rfl⟩⟩,hp⟩
 |pan v=>exact ⟨_,Runs.bX hF hn ⟨_,_,_,ev,rfl⟩,q⟩
 |exit i=>exact q.elim
theorem aM.mono {f:Nat} {as:List V} {P P':V→Heap→Prop} (r:aM c f as h P) (hp:∀v h,P v h→P' v h):aM c f as h P':=let ⟨v,h1,r,q⟩:=r;⟨v,h1,r,hp _ _ q⟩
end
end
end Go.Eng
namespace Go.Eng
noncomputable section
theorem ay (e:Env) (h:Heap):results e h []=some []:=rfl
theorem aj {e:Env} {h:Heap} {r:Res} {rs:List Res} {v:V} {vs:List V} (h1:res1 h e r=some v) (h2:results e h rs=some vs):results e h (r::rs)=some (v::vs):=by
 show (Option.rec none (fun v=>Option.rec none (fun vs=>some (v::vs)) (results e h rs)) (res1 h e r):Option (List V))=_
 rw [h1,h2]
theorem au {e:Env} {h:Heap} {i j:D8} {v:V} (hv:Env.get i j e=v):res1 h e (.tmp i j)=some v:=by rw [←hv];rfl
theorem aY {e:Env} {h:Heap} {i j:D8} {b o n:Nat} {l:List V} (hx:Env.get i j e= .ptr b o) (hl:h.load b o n=some l):res1 h e (.cell i j (some n))=some (.agg l):=by
 show (match (Env.get i j e).jf with
  |some (b,o)=>(match h.load b o n with|some cs=>some (V.agg cs)|none=>none)
  |none=>none)=_
 rw [hx]
 show (match h.load b o n with|some cs=>some (V.agg cs)|none=>none)=_
 rw [hl]
theorem kG {e:Env} {h:Heap} {i j:D8} {b o:Nat} {v:V} (hx:Env.get i j e= .ptr b o) (hl:h.bE b o=some v):res1 h e (.cell i j none)=some v:=by
 show (match (Env.get i j e).jf with
  |some (b,o)=>h.bE b o
  |none=>none)=_
 rw [hx];exact hl
end
end Go.Eng
namespace Go.Eng
noncomputable section
theorem qc.ne {f r:Nat} {h:Heap} {v:V} {rows:List (List V)} (a:qc f r h v rows) (hn:rows≠[]):∃b,v= .sl b 0 rows.length none:=by
 cases a with
 |nil=>exact absurd rfl hn
 |row a=>exact ⟨_,rfl⟩
theorem qc.len {f r:Nat} {h:Heap} {v:V} {rows:List (List V)} (a:qc f r h v rows):(v= .slN∧rows=[])∨∃b,v= .sl b 0 rows.length none:=by
 cases a with
 |nil=>exact .inl ⟨rfl,rfl⟩
 |row a=>exact .inr ⟨_,rfl⟩
theorem Rows.cells {r:Nat} {h:Heap} {v:V} {rows:List (List V)} (a:Rows r h v rows):v.aV=some [v]:=by cases a<;>rfl
theorem qc.cells {f r:Nat} {h:Heap} {v:V} {rows:List (List V)} (a:qc f r h v rows):v.aV=some [v]:=by cases a<;>rfl
theorem L.llenA {f r:Nat} {ev:Ev} {h:Heap} {x:A} {v:V} {rows:List (List V)} (hx:ev x=v) (a:qc f r h v rows):light (.len false x) ev h= .val (.int .i64 (rows.length:Int)):=by
 subst hx
 generalize hv:ev x=v at a
 cases a with
 |nil=>exact L.BN hv
 |row a=>exact L.llen hv
theorem L.llenR {r:Nat} {ev:Ev} {h:Heap} {x:A} {v:V} {rows:List (List V)} (hx:ev x=v) (a:Rows r h v rows):light (.len false x) ev h= .val (.int .i64 (rows.length:Int)):=by
 subst hx
 generalize hv:ev x=v at a
 cases a with
 |nil=>exact L.BN hv
 |row=>exact L.llen hv
theorem map_snoc {α β:Type} (f:α→β) (l:List α) (x:α):l.map f++[f x]=(l++[x]).map f:=by simp
end
end Go.Eng
namespace Go.Eng
noncomputable section
theorem strCells_eq:∀l:List UInt8,strCells (l.map (·.toNat))=l.map fun c=>V.int .u8 (c.toNat:Int)
 |[]=>rfl
 |a::l=>by
  show gY .u8 a.toNat::strCells (l.map (·.toNat))=_
  rw [gu,strCells_eq l];rfl
theorem uH {α β:Type} (g:α→β):∀l:List α,(l.map fun c=>[g c]).flatten=l.map g
 |[]=>rfl
 |a::l=>by simp [uH g l]
def gD (l:List UInt8):List (List V):=l.map fun c=>[V.int .u8 (c.toNat:Int)]
theorem L.jq {ev:Ev} {h:Heap} {x:A} {l:List UInt8} (hx:ev x=L.str l):
  light (.jq x) ev h= .new (.cells 1 h.next 0 l.length (aH 1 l.length 0 (gD l).flatten T.e)) (.sl h.next 0 l.length none):=by
 show force h.next (fun b=>(Option.rec .bad (fun x=>setRows 1 x.1 0 (strCells (bL x.1 x.2)) T.e fun t=> .new (.cells 1 b 0 x.1 t) (.sl b 0 x.1 none)) (ev x).qd:LR))=_
 rw [force_eq,hx]
 show setRows 1 l.length 0 (strCells (bL l.length (enc l))) T.e (fun t=>LR.new (.cells 1 h.next 0 l.length t) (.sl h.next 0 l.length none))=_
 rw [aX,dM,strCells_eq]
 unfold gD
 rw [uH]
theorem wT {b:Nat} {l:List UInt8} {h':Heap} (hg:T.get b h'.t=some (.cells 1 b 0 l.length (aH 1 l.length 0 (gD l).flatten T.e))):Rows 1 h' (.sl b 0 l.length none) (gD l):=by
 have hlen:(gD l).length=l.length:=by unfold gD;simp
 have hr:∀row∈gD l,row.length=1:=by intro row hm;unfold gD at hm;simp at hm;obtain ⟨c,_,rfl⟩:=hm;rfl
 have:=Rows.row (r:=1) (h:=h') (b:=b) (o:=0) (f:=b) (ap:=0) (sz:=l.length) (cap:=none) (t:=aH 1 l.length 0 (gD l).flatten T.e) (rows:=gD l) (by omega) hg rfl (fun i row hi=> ?_) (by rw [hlen];omega) hr
 · rw [hlen] at this;exact this
 · rw [bW 1 _ 0 _ T.e (0 / 1+i) (by omega) (by omega),if_pos ⟨by omega,by have:=(List.getElem?_eq_some_iff.1 hi).1;omega⟩]
   have e:0 / 1+i - 0=i:=by omega
   rw [e,eZ i hr hi]
section
variable {c:Ctx} {Q:QT} {env:Env} {h:Heap} {fs:List Fact} {l:List Opr} {vs:List V} {i j:D8}
theorem WO.sbytesFS {x:A} {s:List UInt8} (st:St fs h) (hx:x.ev vs env=L.str s) (K:∀b h1,St (.stb (fun h=>Rows 1 h (.sl b 0 s.length none) (gD s))::fs) h1→WO c l Q (.sl b 0 s.length none::vs) (Env.set i j (.sl b 0 s.length none) env) h1):WO c (.s i j (.L (.jq x))::l) Q vs env h:=
 WO.newS (L.jq hx) rfl (K _ _ (st.frozen _ fun h' hg=>wT hg))
theorem WO.sbytesF {x:A} {s:List UInt8} (st:St fs h) (hx:x.ev vs env=L.str s) (K:∀b h1,St (.stb (fun h=>Rows 1 h (.sl b 0 s.length none) (gD s))::fs) h1→WO c l Q (.sl b 0 s.length none::vs) env h1):WO c (.p (.L (.jq x))::l) Q vs env h:=
 WO.new (L.jq hx) rfl (K _ _ (st.frozen _ fun h' hg=>wT hg))
end
namespace L
variable {ev:Ev} {h:Heap} {x y:A}
theorem Ei {n:Nat} (hn:n<256):IntKind.wrap .u8 (n:Int)=(n:Int):=by
 have e:IntKind.wrap .u8 (n:Int)=(n:Int) % 256:=by unfold IntKind.wrap;simp [IntKind.bits,IntKind.signed]
 rw [e];omega
theorem subU8 {a b n:Nat} (hx:ev x= .int .u8 (a:Int)) (hy:ev y= .int .u8 (b:Int)) (hc:a - b=n) (hb:b≤a) (hn:a<256):light (.bin .sub x y) ev h= .val (.int .u8 (n:Int)):=by
 show (ev x).dI (fun k a=>(ev y).dI fun j b=>qw .sub k a j b)=_
 rw [hx,hy]
 show LR.of (some (fC .u8 (IW (a:Int) (b:Int))))=_
 rw [eu,Fb,show (a:Int) - (b:Int)=(n:Int) by omega,Ei (by omega)];rfl
theorem addU8 {a b n:Nat} (hx:ev x= .int .u8 (a:Int)) (hy:ev y= .int .u8 (b:Int)) (hc:a+b=n) (hn:n<256):light (.bin .add x y) ev h= .val (.int .u8 (n:Int)):=by
 show (ev x).dI (fun k a=>(ev y).dI fun j b=>qw .add k a j b)=_
 rw [hx,hy]
 show LR.of (some (fC .u8 (GA (a:Int) (b:Int))))=_
 rw [eu,zI,show (a:Int)+(b:Int)=(n:Int) by omega,Ei hn];rfl
theorem conv64 {k:IntKind} {a:Int} (hx:ev x= .int k a) (hn:In64 a):light (.conv .i64 x) ev h= .val (.int .i64 a):=by
 show (ev x).dI (fun _ a=> .val (fC .i64 a))=_
 rw [hx]
 show LR.val (fC .i64 a)=_
 rw [eu,wrap64 hn]
theorem convU8 {k:IntKind} {a:Nat} (hx:ev x= .int k (a:Int)) (hn:a<256):light (.conv .u8 x) ev h= .val (.int .u8 (a:Int)):=by
 show (ev x).dI (fun _ a=> .val (fC .u8 a))=_
 rw [hx]
 show LR.val (fC .u8 (a:Int))=_
 rw [eu,Ei hn]
theorem neg64 {a n:Int} (hx:ev x= .int .i64 a) (hc: -a=n) (hn:In64 n):light (.neg x) ev h= .val (.int .i64 n):=by
 show (ev x).dI (fun k a=> .val (fC k (Int.neg a)))=_
 rw [hx]
 show LR.val (fC .i64 (-a))=_
 rw [eu,hc,wrap64 hn]
end L
end
end Go.Eng
namespace Go.Eng
noncomputable section
def nC:C→Bool
 | .seq a b=>nC a&&nC b
 | .cond _ a b=>nC a&&nC b
 | .block _ a=>nC a
 | .loop _=>false
 |_=>true
theorem gK (call:bM):∀(e:C),nC e=true→∀(n n':Nat) (env:Env) (h:Heap),code e call n env h=code e call n' env h
 | .skip,_,_,_,_,_=>rfl
 | .ret,_,_,_,_,_=>rfl
 | .exit _,_,_,_,_,_=>rfl
 | .stuck,_,_,_,_,_=>rfl
 | .reg _ _,_,_,_,_,_=>rfl
 | .draw _ _,_,_,_,_,_=>rfl
 | .seq a b,hl,n,n',env,h=>by
   have hl:=Bool.aF hl
   show (CR.rec (fun x env h=>X.rec (code b call n env h) (.ok .ret env h) (fun i=> .ok (.exit i) env h) (fun v=> .ok (.pan v) env h) x) .bad (code a call n env h):CR)=
    CR.rec (fun x env h=>X.rec (code b call n' env h) (.ok .ret env h) (fun i=> .ok (.exit i) env h) (fun v=> .ok (.pan v) env h) x) .bad (code a call n' env h)
   rw [gK call a hl.1 n n' env h]
   cases code a call n' env h with
   |bad=>rfl
   |ok x env1 h1=>cases x<;>first|exact gK call b hl.2 n n' env1 h1|rfl
 | .cond x a b,hl,n,n',env,h=>by
   have hl:=Bool.aF hl
   show (Option.rec .bad (fun t=>Bool.rec (code b call n env h) (code a call n env h) t) (x.ev [] env).asBool:CR)=Option.rec .bad (fun t=>Bool.rec (code b call n' env h) (code a call n' env h) t) (x.ev [] env).asBool
   rw [gK call a hl.1 n n',gK call b hl.2 n n']
 | .block id a,hl,n,n',env,h=>by
   have hl:nC a=true:=hl
   show (CR.rec (fun x env h=>X.rec (.ok .nrm env h) (.ok .ret env h) (fun i=> .ok (Bool.rec (.exit i) .nrm (i.beq id)) env h) (fun v=> .ok (.pan v) env h) x) .bad (code a call n env h):CR)=CR.rec _ .bad (code a call n' env h)
   rw [gK call a hl n n']
 | .loop _,hl,_,_,_,_=>by cases hl
def Ej (c:Ctx) (F:iR) (P:V→Heap→Prop) (cv:List V) (envr:Env) (v:V) (h:Heap):Prop:=
 WP c F.gbody (fun x _ h3=>(x= .nrm∨x= .ret)∧∃vs,results envr h3 F.results=some vs∧P (one vs) h3) (Env.set (aS F.gk).1 (aS F.gk).2 v (aO cv 0 Env.nil)) h
def QD (c:Ctx) (F:iR) (P:V→Heap→Prop) (env1:Env):QT:=fun x env2 h2=>match x with
 | .nrm=>Ej c F P (evs F.caps fun a=>a.ev [] env1) env2 .ifcN h2
 | .pan v=>Ej c F P (evs F.caps fun a=>a.ev [] env1) (clr F.ws env1) v h2
 |_=>False
def QD0 (c:Ctx) (F:iR) (P:V→Heap→Prop):QT:=fun x env1 h1=>match x with
 | .nrm=>WO c F.ops (QD c F P env1) [] env1 h1
 |_=>False
def QG (F:iR) (P:V→Heap→Prop) (envr:Env):QT:=fun x _ h3=>(x= .nrm∨x= .ret)∧∃vs,results envr h3 F.results=some vs∧P (one vs) h3
theorem QD.nrm_ {c:Ctx} {F:iR} {P:V→Heap→Prop} {env1 env2:Env} {h2:Heap} {i j:D8} (cv:List V) (hcv:evs F.caps (fun a=>a.ev [] env1)=cv) (hg:aS F.gk=(i,j)) (w:WP c F.gbody (QG F P env2) (Env.set i j .ifcN (aO cv 0 Env.nil)) h2):QD c F P env1 .nrm env2 h2:=by
 show Ej c F P (evs F.caps fun a=>a.ev [] env1) env2 .ifcN h2
 unfold Ej
 rw [hcv,hg];exact w
theorem QD.pan_ {c:Ctx} {F:iR} {P:V→Heap→Prop} {env1 env2:Env} {v:V} {h2:Heap} {i j:D8} (cv:List V) (hcv:evs F.caps (fun a=>a.ev [] env1)=cv) (hg:aS F.gk=(i,j)) (hw:F.ws=[]) (w:WP c F.gbody (QG F P env1) (Env.set i j v (aO cv 0 Env.nil)) h2):QD c F P env1 (.pan v) env2 h2:=by
 show Ej c F P (evs F.caps fun a=>a.ev [] env1) (clr F.ws env1) v h2
 unfold Ej
 rw [hcv,hg,hw];exact w
theorem aM.funD {c:Ctx} {aR:T Fun} {dF:T iR} {more:Nat→List V→Heap→OR} (hc:c=Ctx.of aR dF more) {f:Nat} {F:iR} (h0:T.get f aR=none) (hF:T.get f dF=some F) {as:List V} {P:V→Heap→Prop} {h:Heap} (hn:as.length=F.np) (hl1:nC F.pre=true) (hl2:nC F.gbody=true)
  (w:WP c F.pre (QD0 c F P) (aO as 0 Env.nil) h):aM c f as h P:=by
 obtain ⟨x,env1,h1,⟨N1,ev1⟩,q⟩:=w
 cases x with
 |ret=>exact q.elim
 |exit i=>exact q.elim
 |pan v=>exact q.elim
 |nrm=>
  obtain ⟨x2,env2,h2,⟨N2,ev2⟩,q2⟩:=q
  have fin:∀{envr:Env} {v:V},Ej c F P (evs F.caps fun a=>a.ev [] env1) envr v h2→∃N3 w h3,P w h3∧∀m,N3≤m→∀R,N3≤R→F.fin (aL c R m) (evs F.caps fun a=>a.ev [] env1) envr h2 v= .ok w h3:=by
   intro envr v hw
   obtain ⟨x3,env3,h3,⟨N3,ev3⟩,hx,vs,hv,hp⟩:=hw
   refine ⟨N3,one vs,h3,hp,fun m hm R hR=> ?_⟩
   show (CR.rec (fun x _ h3=>X.rec (finish F.results envr h3) (finish F.results envr h3) (fun _=> .bad) (fun _=> .bad) x) .bad
    (args (evs F.caps fun a=>a.ev [] env1) 0 Env.nil fun env=>Env.bJ (aS F.gk).1 (aS F.gk).2 v (fun env=>code F.gbody (aL c R m) bB env h2) env):OR)=_
   rw [iW,Env.bK,gK _ F.gbody hl2 bB R,ev3 m hm R hR]
   have hfin:finish F.results envr h3= .ok (one vs) h3:=by unfold finish;rw [hv]
   rcases hx with rfl|rfl
   · exact hfin
   · exact hfin
  have main:∀{w:V} {h3:Heap} {N3:Nat},(∀m,N3≤m→∀R,N3≤R→F.go (aL c R m) env1 h1= .ok w h3)→P w h3→aM c f as h P:=by
   intro w h3 N3 hgo hp
   refine ⟨w,h3,⟨max N1 N3+1,fun m hm R hR=> ?_⟩,hp⟩
   obtain ⟨m',rfl⟩:∃m',m=m'+1:=⟨m - 1,by omega⟩
   show (Option.rec (c.sums (aL c R m') f as h) (fun fn=>gq fn R (aL c R m') as h) (T.get f c.aR):OR)=_
   have e1:c.aR=aR:=by rw [hc];rfl
   have e2:c.sums (aL c R m') f as h=rG F (aL c R m') as h:=by
    rw [show c.sums=(Ctx.of aR dF more).sums by rw [hc]]
    show (Option.rec (more f as h) (fun F=>rG F (aL c R m') as h) (T.get f dF):OR)=_
    rw [hF]
   rw [e1,h0]
   show c.sums (aL c R m') f as h=_
   rw [e2]
   show (Bool.rec .bad (CR.rec (fun x env1 h1=>X.rec (F.go (aL c R m') env1 h1) .bad (fun _=> .bad) (fun _=> .bad) x) .bad (args as 0 Env.nil fun env=>code F.pre (aL c R m') bB env h)) ((bO as).beq F.np):OR)=_
   have hl:(bO as).beq F.np=true:=by rw [eG,hn];exact Nat.beq_refl _
   rw [hl,iW]
   show (CR.rec (fun x env1 h1=>X.rec (F.go (aL c R m') env1 h1) .bad (fun _=> .bad) (fun _=> .bad) x) .bad (code F.pre (aL c R m') bB (aO as 0 Env.nil) h):OR)=_
   rw [gK _ F.pre hl1 bB R,ev1 m' (by omega) R (by omega)]
   exact hgo m' (by omega) R (by omega)
  cases x2 with
  |ret=>exact q2.elim
  |exit i=>exact q2.elim
  |nrm=>
   obtain ⟨N3,w,h3,hp,hf⟩:=fin q2
   refine main (N3:=max N2 N3) (fun m hm R hR=> ?_) hp
   show (CR.rec (fun x env2 h2=>X.rec (F.fin (aL c R m) (evs F.caps fun a=>a.ev [] env1) env2 h2 .ifcN) .bad (fun _=> .bad) (fun v=>F.fin (aL c R m) (evs F.caps fun a=>a.ev [] env1) (clr F.ws env1) h2 v) x) .bad (cB F.ops (aL c R m) [] env1 h1):OR)=_
   rw [ev2 m (by omega) R (by omega)]
   exact hf m (by omega) R (by omega)
  |pan v=>
   obtain ⟨N3,w,h3,hp,hf⟩:=fin q2
   refine main (N3:=max N2 N3) (fun m hm R hR=> ?_) hp
   show (CR.rec (fun x env2 h2=>X.rec (F.fin (aL c R m) (evs F.caps fun a=>a.ev [] env1) env2 h2 .ifcN) .bad (fun _=> .bad) (fun v=>F.fin (aL c R m) (evs F.caps fun a=>a.ev [] env1) (clr F.ws env1) h2 v) x) .bad (cB F.ops (aL c R m) [] env1 h1):OR)=_
   rw [ev2 m (by omega) R (by omega)]
   exact hf m (by omega) R (by omega)
end
end Go.Eng
namespace Go.Eng
noncomputable section
theorem H9 {row:List V} {z:List V} {n:Nat} (hr:row.length=n) (hz:z.length=n:=by rfl):fZ 0 row z=row:=by
 show bV row (fH (bO row) z)=row
 rw [gN,fM,eG,hr,←hz,List.drop_length,List.append_nil]
theorem takeV_all {row:List V} {n:Nat} (hr:row.length=n):jg n (fH 0 row)=row:=by
 show jg n row=row
 rw [lX,←hr,List.take_length]
end
end Go.Eng
namespace Go.Eng
noncomputable section
theorem JY (k:IntKind) (n:Nat):AO k (n:Int)= .int k (n:Int):=by
 show gY k n=_
 rw [gu];rfl
theorem L.rem {ev:Ev} {h:Heap} {x y:A} {k:IntKind} {a b n:Nat} (hx:ev x= .int k (a:Int)) (hy:ev y= .int k (b:Int)) (hc:a % b=n) (hb:b≠0):light (.bin .rem x y) ev h= .val (.int k (n:Int)):=by
 show (ev x).dI (fun k a=>(ev y).dI fun j b=>qw .rem k a j b)=_
 rw [hx,hy]
 show (Bool.rec .bad (.of (Bool.rec (some (AO k ((a:Int).tmod (b:Int)))) none (ieq (b:Int) 0))) (kEq k k):LR)=_
 have h1:kEq k k=true:=by cases k<;>rfl
 have h2:ieq (b:Int) 0=false:=by
  show b.beq 0=false
  cases b with
  |zero=>exact absurd rfl hb
  |succ n=>rfl
 rw [h1,h2]
 show LR.of (some (AO k ((a:Int).tmod (b:Int))))=_
 rw [show (a:Int).tmod (b:Int)=((a % b:Nat):Int) from rfl,hc,JY];rfl
theorem L.scatE {ev:Ev} {h:Heap} {x y:A} {l m n:List UInt8} (hx:ev x=L.str l) (hy:ev y=L.str m) (hc:l++m=n) (hn:l.length+m.length<4294967296):light (.bins .add x y) ev h= .val (L.str n):=by
 subst hc;exact L.scat hx hy hn
theorem L.iaddrK {ev:Ev} {h:Heap} {x y:A} {k:IntKind} {r b o n i:Nat} {cap:Option Nat} (hx:ev x= .sl b o n cap) (hy:ev y= .int k (i:Int)) (hi:i<n):light (.aC r x y) ev h= .val (.ptr b (o+i * r)):=by
 show (ev x).onSl (fun b o n=>(ev y).vE fun j=>zB r b o n j)=_
 rw [hx,hy]
 show (Bool.rec .bad (force (Nat.add o (Nat.mul i r)) fun o=> .val (.ptr b o)) (i.blt n):LR)=_
 rw [eH,decide_eq_true hi]
 show force (Nat.add o (Nat.mul i r)) (fun o=>LR.val (.ptr b o))=_
 rw [force_eq];rfl
theorem Rows.wV {r b o n i j:Nat} {cap:Option Nat} {h:Heap} {rows:List (List V)} {row:List V} {v:V} (a:Rows r h (.sl b o n cap) rows) (hi:rows[i]? =some row) (hj:row[j]? =some v):h.bE b (o+i * r+j)=some v:=by
 cases a with
 |row hr hob ho hrow hsz hlen=>
  rename_i f ap sz t
  have hlt:i<rows.length:=(List.getElem?_eq_some_iff.1 hi).1
  have hl:=hlen row (List.mem_of_getElem? hi)
  have hjl:j<row.length:=(List.getElem?_eq_some_iff.1 hj).1
  have hle:(i+1) * r≤rows.length * r:=Nat.mul_le_mul_right r hlt
  rw [Nat.add_mul] at hle
  unfold Heap.bE
  rw [show h.obj b=_ from hob]
  show (Bool.rec none (lM r (o+i * r+j) t) ((o+i * r+j).blt sz):Option V)=_
  have h1:(o+i * r+j).blt sz=true:=by rw [eH];simp;omega
  rw [h1]
  show lM r (o+i * r+j) t=_
  unfold lM
  obtain ⟨m,hm⟩:∃m,o=m * r:=⟨o / r,by have:=Nat.div_add_mod o r;rw [ho,Nat.mul_comm] at this;omega⟩
  have he:o+i * r+j=r * (m+i)+j:=by rw [hm,Nat.mul_comm r (m+i),Nat.add_mul]
  have h2:(o+i * r+j).div r=o / r+i:=by
   show (o+i * r+j) / r=_
   rw [he,Nat.mul_add_div hr,Nat.div_eq_of_lt (by omega),hm,Nat.mul_div_cancel _ hr];omega
  have h3:(o+i * r+j).mod r=j:=by
   show (o+i * r+j) % r=j
   rw [he,Nat.mul_add_mod,Nat.mod_eq_of_lt (by omega)]
  rw [h2,h3,hrow i row hi]
  show hd (fH j row)=some v
  rw [vI,fM,List.head?_drop,hj]
theorem Runs.more {c:Ctx} {aR:T Fun} {dF:T iR} {more:Nat→List V→Heap→OR} (hc:c=Ctx.of aR dF more) {f:Nat} (h0:T.get f aR=none) (h1:T.get f dF=none) {as:List V} {h:Heap} {r:OR} (e:more f as h=r):Runs c f as h r:=by
 subst hc
 refine ⟨1,fun m hm R _=> ?_⟩
 obtain ⟨m',rfl⟩:∃m',m=m'+1:=⟨m - 1,by omega⟩
 show (Option.rec (Option.rec (more f as h) (fun F=>rG F (aL _ R m') as h) (T.get f dF)) (fun fn=>gq fn R (aL _ R m') as h) (T.get f aR):OR)=r
 rw [h0,h1];exact e
theorem Ia:∀l:List UInt8,bL l.length (enc l)=l.map (·.toNat):=by
 intro l
 exact dM l
theorem wW {f0:Nat} (l:List UInt8) (b:UInt8) (h:Heap):pV f0 f0 [L.str l, .int .u8 (b.toNat:Int)] h= .ok (.int .i64 (Lib.indexByte l b)) h:=by
 unfold pV
 have hb:f0.beq f0=true:=Nat.beq_refl f0
 show (match f0.beq f0,[V.str l.length (enc l),V.int .u8 (Int.ofNat b.toNat)] with
  |true,[.str n x, .int .u8 (.ofNat c)]=>(Bool.rec .bad ((Eb c (bL n x) 0).force fun v=> .ok v h) (c.blt 256):OR)
  |_,_=> .bad)=_
 rw [hb]
 show (Bool.rec .bad ((Eb b.toNat (bL l.length (enc l)) 0).force fun v=> .ok v h) (b.toNat.blt 256):OR)=_
 have hlt:b.toNat.blt 256=true:=by rw [eH];simpa using b.toNat_lt
 rw [hlt,Ia]
 show (Eb b.toNat (l.map (·.toNat)) 0).force (fun v=>OR.ok v h)=_
 rw [V.force_eq,Aa _ b.toNat_lt]
 have hbb:b.toNat.toUInt8=b:=by simp
 rw [hbb]
 by_cases e:Lib.indexByte l b= -1
 · rw [if_pos e,e]
 · rw [if_neg e];simp
theorem idx_runs {c:Ctx} {aR:T Fun} {dF:T iR} {f0:Nat} (hc:c=Ctx.of aR dF (pV f0)) (h0:T.get f0 aR=none) (h1:T.get f0 dF=none) {fs:List Fact} {h:Heap} {l:List UInt8} {b:UInt8} (st:St fs h):
  aM c f0 [L.str l, .int .u8 (b.toNat:Int)] h fun v h1=>v= .int .i64 (Lib.indexByte l b)∧St fs h1:=⟨_,h,Runs.more hc h0 h1 (wW l b h),rfl,st⟩
theorem Wf.empty:Wf Heap.empty:=⟨fun b hb=>absurd (T.oh b) hb,fun b hb=>absurd (T.oh b) hb,Nat.le_refl _⟩
theorem St.empty:St [] Heap.empty:=St.nil Wf.empty
theorem JZ {P:Program} (hmx:P.follows .mixedOrders=true) {aR:T Fun} {dF:T iR} {more:Nat→List V→Heap→OR} (hf:allT (sO P) aR=true) (hd:allT (uF P) dF=true) (hm:gZ P more)
  {f:Nat} {as:List V} (he:aM (Ctx.of aR dF more) f as Heap.empty fun v _=>v= .bool true) {args:Array Value} (hr:aN Inj.none as args.toList) (w:World):
  Calls P f args w fun e w'=>e= .returned (.bool true)∧Kept w w':=by
 obtain ⟨v,h1,⟨N,e⟩,rfl⟩:=he
 exact uE hmx (c:=Ctx.of aR dF more) hf (vg hmx hd hm) (e N (Nat.le_refl _) N (Nat.le_refl _)) hr w
end
end Go.Eng
namespace Go.Eng
noncomputable section
def slB:V→Nat
 | .sl b _ _ _=>b
 |_=>0
def slO:V→Nat
 | .sl _ o _ _=>o
 |_=>0
def slC:V→Option Nat
 | .sl _ _ _ c=>c
 |_=>none
theorem Rows.sl {r i:Nat} {h:Heap} {v:V} {rows:List (List V)} (a:Rows r h v rows) (hi:i<rows.length):v= .sl (slB v) (slO v) rows.length (slC v):=by
 cases a with
 |nil=>exact absurd hi (Nat.not_lt_zero _)
 |row=>rfl
theorem Rows.loadnR {r i:Nat} {h:Heap} {v:V} {rows:List (List V)} {row:List V} (a:Rows r h v rows) (hi:rows[i]? =some row):h.load (slB v) (slO v+i * r) r=some row:=by
 have e:=a.sl (List.getElem?_eq_some_iff.1 hi).1
 rw [e] at a
 exact a.cO hi
theorem Rows.lM {r i j:Nat} {h:Heap} {v x:V} {rows:List (List V)} {row:List V} (a:Rows r h v rows) (hi:rows[i]? =some row) (hj:row[j]? =some x):h.bE (slB v) (slO v+i * r+j)=some x:=by
 have e:=a.sl (List.getElem?_eq_some_iff.1 hi).1
 rw [e] at a
 exact a.wV hi hj
theorem Rows.iF {i:Nat} {h:Heap} {v x:V} {rows:List (List V)} (a:Rows 1 h v rows) (hi:rows[i]? =some [x]):h.bE (slB v) (slO v+i * 1)=some x:=by
 have:=a.lM (j:=0) hi rfl
 rwa [Nat.add_zero] at this
theorem J2 (n x:Nat):sEq n x n x=true:=by
 unfold sEq;simp
theorem L.BU {ev:Ev} {h:Heap} {x y:A} {b:Bool} (hx:ev x= .bool b) (hy:ev y= .bool b):light (.eq true .bool x y) ev h= .val (.bool false):=by
 show (Option.rec .bad (fun b=> .val (.bool (b !=true))) (Eq1.eq .bool (ev x) (ev y)):LR)=_
 rw [hx,hy]
 cases b<;>rfl
theorem L.neSt_same {ev:Ev} {h:Heap} {x y:A} {l:List (Nat×Eq1)} {row:List V} (hx:ev x= .agg row) (hy:ev y= .agg row) (he:Eq1.eqs l row row=some true):light (.eq true (.st l) x y) ev h= .val (.bool false):=by
 show (Option.rec .bad (fun b=> .val (.bool (b !=true))) (Eq1.eq (.st l) (ev x) (ev y)):LR)=_
 rw [hx,hy]
 show (Option.rec .bad (fun b=> .val (.bool (b !=true))) (Eq1.eq (.st l) (.agg row) (.agg row)):LR)=_
 have e:Eq1.eq (.st l) (.agg row) (.agg row)=Eq1.eqs l row row:=by simp [Eq1.eq]
 rw [e,he];rfl
theorem Eq1.cons_same {off:Nat} {q:Eq1} {l:List (Nat×Eq1)} {row:List V} {v:V} (hv:hd (fH off row)=some v) (hq:Eq1.eq q v v=some true) (hl:Eq1.eqs l row row=some true):Eq1.eqs ((off,q)::l) row row=some true:=by
 simp only [Eq1.eqs,hv,hq,hl]
theorem Eq1.int_same (a:Int):Eq1.eq .int (.int .i64 a) (.int .i64 a)=some true:=by
 simp only [Eq1.eq,sD];simp [kEq]
theorem Eq1.str_same (l:List UInt8):Eq1.eq .str (L.str l) (L.str l)=some true:=by
 unfold L.str;simp only [Eq1.eq,J2]
theorem L.dU {r n:Nat} {ev:Ev} {h:Heap} {x:A} {v:V} {rows:List (List V)} (hx:ev x=v) (a:Rows r h v rows) (hn:rows.length=n):light (.len false x) ev h= .val (.int .i64 (n:Int)):=by
 subst hn;exact L.llenR hx a
theorem Rows.det {r:Nat} {h h':Heap} {v:V} {rows rows':List (List V)} (a:Rows r h v rows) (a':Rows r h' v rows') (hb:T.get (slB v) h'.t=T.get (slB v) h.t):rows'=rows:=by
 cases a with
 |nil=>
  generalize hv:V.slN=v at a'
  cases a' with
  |nil=>rfl
  |row=>cases hv
 | @row b o f ap sz cap t rows hr hob ho hrow hsz hlen=>
   generalize hv:V.sl b o rows.length cap=v at a'
   cases a' with
   |nil=>cases hv
   | @row b' o' f' ap' sz' cap' t' rows' hr' hob' ho' hrow' hsz' hlen'=>
     injection hv with e1 e2 e3 e4
     subst e1;subst e2;subst e4
     have hb:T.get b h'.t=T.get b h.t:=hb
     rw [hob,hob'] at hb
     injection hb with hb
     injection hb with e5 e6 e7 e8 e9
     subst e9
     refine List.ext_getElem? fun i=> ?_
     by_cases hi:i<rows.length
     · have h1:=List.getElem?_eq_getElem hi
       have h2:=List.getElem?_eq_getElem (l:=rows') (i:=i) (by omega)
       have h3:=hrow i _ h1
       have h4:=hrow' i _ h2
       rw [h3] at h4
       rw [h1,h2,Option.some.inj h4]
     · rw [List.getElem?_eq_none (by omega),List.getElem?_eq_none (by omega)]
theorem Rows.dep {r:Nat} {h:Heap} {v:V} {rows:List (List V)} (a:Rows r h v rows) {h':Heap} (hb:T.get (slB v) h'.t=T.get (slB v) h.t):Rows r h' v rows:=by
 cases a with
 |nil=>exact .nil
 |row hr hob ho hrow hsz hlen=>exact .row hr (hb.trans hob) ho hrow hsz hlen
theorem St.exRows {r:Nat} {v:V} {Q:Heap→List (List V)→Prop} {fs:List Fact} {h:Heap} (s:St (.stb (fun h=>∃rows,Rows r h v rows∧Q h rows)::fs) h):∃rows,St (.stb (fun h=>Rows r h v rows):: .stb (fun h=>Q h rows)::fs) h:=by
 obtain ⟨Z,s⟩:=s
 have hall:=s.all _ (List.mem_cons_self ..)
 obtain ⟨rows,h1,h2⟩:=hall h fun _ _=>rfl
 have hz:v= .slN∨Z (slB v):=by
  apply Classical.byContradiction
  intro hn
  have hn1:v≠.slN:=fun e=>hn (Or.inl e)
  have hn2:¬Z (slB v):=fun e=>hn (Or.inr e)
  obtain ⟨rows',h3,_⟩:=hall {h with t:=T.set (slB v) (.box []) h.t} fun b hb=>by
   show T.get b (T.set (slB v) (.box []) h.t)=_
   rw [T.aU (Nat.zero_le _) (Nat.zero_le _),if_neg (by intro e;subst e;exact hn2 hb)]
  generalize hv:v=w at h3
  cases h3 with
  |nil=>exact hn1 hv
  | @row b o f ap sz cap t rows hr hob ho hrow hsz hlen=>
    subst hv
    have e:T.get b (T.set b (.box []) h.t)=some (.cells r f ap sz t):=hob
    rw [T.get_set_same] at e;cases e
 have dep:∀h',(∀b,Z b→T.get b h'.t=T.get b h.t)→Rows r h' v rows∧Q h' rows:=by
  intro h' hh
  obtain ⟨rows',h3,h4⟩:=hall h' hh
  rcases hz with rfl|hz
  · have e1:rows=[]:=by cases h1;rfl
    have e2:rows'=[]:=by cases h3;rfl
    subst e1;subst e2;exact ⟨h3,h4⟩
  · have e:=h1.det h3 (hh _ hz)
    subst e;exact ⟨h3,h4⟩
 refine ⟨rows,Z,s.wf,s.z,s.oz,s.nb,s.nf,s.nd,fun x hx=> ?_⟩
 rcases List.mem_cons.1 hx with rfl|hx
 · exact fun h' hh=>(dep h' hh).1
 · rcases List.mem_cons.1 hx with rfl|hx
   · exact fun h' hh=>(dep h' hh).2
   · exact s.all x (List.mem_cons_of_mem _ hx)
theorem St.twice {P Q:Heap→Prop} {fs:List Fact} {h:Heap} (s:St (.stb P:: .stb Q::fs) h):St (.stb P:: .stb Q:: .stb P:: .stb Q::fs) h:=by
 obtain ⟨Z,s⟩:=s
 refine ⟨Z,s.wf,s.z,s.oz,s.nb,s.nf,s.nd,fun x hx=>s.all x ?_⟩
 simp at hx ⊢
 rcases hx with rfl|rfl|rfl|rfl|hx
 · exact Or.inl rfl
 · exact Or.inr (Or.inl rfl)
 · exact Or.inl rfl
 · exact Or.inr (Or.inl rfl)
 · exact Or.inr (Or.inr hx)
section
variable {c:Ctx} {Q:QT} {env:Env} {h:Heap}
theorem WD.yes {g:A} {b:Bool} {op:Op} {uo:List Nat} {l:List Opd} {vs:List V} {lg:List Log} (hg:(g.ev vs env).gd b=some true) (w:WD c (⟨.p op,uo⟩::l) Q vs lg env h):WD c (⟨.g g b op,uo⟩::l) Q vs lg env h:=by
 obtain ⟨x,e1,h1,⟨N,ev⟩,q⟩:=w
 refine ⟨x,e1,h1,⟨N,fun m hm R hR=> ?_⟩,q⟩
 show (Option.rec .bad (fun c1=>Bool.rec (dx l (aL c R m) (un::vs) (.no::lg) env h) (dOp op uo (aL c R m) (fun a=>a.ev vs env) lg env h fun l' v h=>dx l (aL c R m) (v::vs) (l'::lg) env h) c1) ((g.ev vs env).gd b):CR)=_
 rw [hg];exact ev m hm R hR
theorem WD.no {g:A} {b:Bool} {op:Op} {uo:List Nat} {l:List Opd} {vs:List V} {lg:List Log} (hg:(g.ev vs env).gd b=some false) (w:WD c l Q (un::vs) (.no::lg) env h):WD c (⟨.g g b op,uo⟩::l) Q vs lg env h:=by
 obtain ⟨x,e1,h1,⟨N,ev⟩,q⟩:=w
 refine ⟨x,e1,h1,⟨N,fun m hm R hR=> ?_⟩,q⟩
 show (Option.rec .bad (fun c1=>Bool.rec (dx l (aL c R m) (un::vs) (.no::lg) env h) (dOp op uo (aL c R m) (fun a=>a.ev vs env) lg env h fun l' v h=>dx l (aL c R m) (v::vs) (l'::lg) env h) c1) ((g.ev vs env).gd b):CR)=_
 rw [hg];exact ev m hm R hR
theorem WD.yesS {g:A} {b:Bool} {i j:D8} {op:Op} {uo:List Nat} {l:List Opd} {vs:List V} {lg:List Log} (hg:(g.ev vs env).gd b=some true) (w:WD c (⟨.s i j op,uo⟩::l) Q vs lg env h):WD c (⟨.gs g b i j op,uo⟩::l) Q vs lg env h:=by
 obtain ⟨x,e1,h1,⟨N,ev⟩,q⟩:=w
 refine ⟨x,e1,h1,⟨N,fun m hm R hR=> ?_⟩,q⟩
 show (Option.rec .bad (fun c1=>Bool.rec (Env.bJ i j un (fun env=>dx l (aL c R m) (un::vs) (.no::lg) env h) env) (dOp op uo (aL c R m) (fun a=>a.ev vs env) lg env h fun l' v h=>Env.bJ i j v (fun env=>dx l (aL c R m) (v::vs) (l'::lg) env h) env) c1) ((g.ev vs env).gd b):CR)=_
 rw [hg];exact ev m hm R hR
end
end
end Go.Eng
namespace Go.Eng
noncomputable section
abbrev Fact.cel (b r:Nat) (rows:List (List V)):Fact:= .obj b fun o=>∃t,o= .cells r b 0 (rows.length * r) t∧0<r∧∀i row,rows[i]? =some row→T.get i t=some row∧row.length=r
theorem St.obj_at {fs:List Fact} {h:Heap} (s:St fs h) (k:Nat) {b:Nat} {P:Obj→Prop} (hk:fs[k]? =some (.obj b P)):∃o,T.get b h.t=some o∧P o:=by
 obtain ⟨Z,s⟩:=s
 exact (s.all (.obj b P) (List.mem_of_getElem? hk)).1
theorem BX {h:Heap} {b r:Nat} {rows:List (List V)} {o:Obj} {cap:Option Nat} (ho:T.get b h.t=some o) (hp:∃t,o= .cells r b 0 (rows.length * r) t∧0<r∧∀i row,rows[i]? =some row→T.get i t=some row∧row.length=r):Rows r h (.sl b 0 rows.length cap) rows:=by
 obtain ⟨t,rfl,hr,hrow⟩:=hp
 exact .row hr ho (Nat.zero_mod r) (fun i row hi=>by rw [Nat.zero_div,Nat.zero_add];exact (hrow i row hi).1) (by omega) (fun row hm=>by
  obtain ⟨i,hi⟩:=List.mem_iff_getElem?.1 hm
  exact (hrow i row hi).2)
theorem St.FT {fs:List Fact} {h:Heap} (s:St fs h) (k:Nat) {b r:Nat} {rows:List (List V)} {cap:Option Nat} (hk:fs[k]? =some (.cel b r rows)):Rows r h (.sl b 0 rows.length cap) rows:=by
 obtain ⟨o,ho,hp⟩:=s.obj_at k hk
 exact BX ho hp
theorem St.cel {fs:List Fact} {h:Heap} (s:St fs h) {r:Nat} {rows:List (List V)} {t:T (List V)} (hr:0<r) (ht:∀i row,rows[i]? =some row→T.get i t=some row∧row.length=r):St (.cel h.next r rows::fs) (h.add (.cells r h.next 0 (rows.length * r) t)):=
 s.new _ rfl rfl fun hn _=>⟨⟨_,dG ..,t,rfl,hr,ht⟩,hn⟩
theorem St.still {fs:List Fact} {h:Heap} {b:Nat} {P:Obj→Prop} {Q:Heap→Prop} (s:St (.obj b P::fs) h) (hq:∀h' o,T.get b h'.t=some o→P o→Q h'):St (.stb Q::fs) h:=by
 obtain ⟨Z,s⟩:=s
 have hx:=s.all (.obj b P) (by simp)
 obtain ⟨⟨o,ho,hp⟩,_⟩:=hx
 have hbo:b∉owns fs:=by
  have:=s.nb;rw [aQ] at this
  exact (List.nodup_cons.1 this).1
 refine ⟨fun k=>Z k∨k=b,s.wf,fun k hk=> ?_,fun k hk=>⟨fun hz=> ?_,(s.oz k (by rw [aQ];exact List.mem_append_right _ hk)).2⟩, ?_,s.nf,fun k hk hf=>s.nd k (by rw [aQ];exact List.mem_append_right _ hk) hf,fun x hx=> ?_⟩
 · rcases hk with hk|rfl
   · exact s.z k hk
   · rw [ho];simp
 · have hk:k∈owns fs:=hk
   rcases hz with hz|rfl
   · exact (s.oz k (by rw [aQ];exact List.mem_append_right _ hk)).1 hz
   · exact hbo hk
 · have:=s.nb;rw [aQ] at this
   exact (List.nodup_cons.1 this).2
 · rcases List.mem_cons.1 hx with rfl|hx
   · exact fun h' hz=>hq h' o ((hz b (.inr rfl)).trans ho) hp
   · exact Fact.stay (s.all x (by simp [hx])) (fun k hk=>⟨.inl hk,rfl⟩) (fun _ _=>rfl) (fun _ _=>rfl) fun _ _=>rfl
theorem St.BZ {fs:List Fact} {h:Heap} {b r:Nat} {rows:List (List V)} (s:St (.cel b r rows::fs) h) (cap:Option Nat):St (.stb (fun h=>Rows r h (.sl b 0 rows.length cap) rows)::fs) h:=
 St.still s fun h' o ho hp=>BX ho hp
theorem St.at_ {l fs:List Fact} {h:Heap} (s:St (l++fs) h) {i:Nat} {x:Fact} (hi:l[i]? =some x):St (x::(l.eraseIdx i++fs)) h:=
 s.perm (((sU l i x hi).append_right fs))
theorem St.back {l fs:List Fact} {h:Heap} {i:Nat} {x y:Fact} (s:St (y::(l.eraseIdx i++fs)) h) (hi:l[i]? =some x):St (l.set i y++fs) h:=
 s.perm ((rJ l i x y hi).append_right fs)
theorem St.out {x:Fact} {l fs:List Fact} {h:Heap} (s:St (l++x::fs) h):St (x::(l++fs)) h:=s.perm List.perm_middle
theorem St.in_ {x:Fact} {l fs:List Fact} {h:Heap} (s:St (x::(l++fs)) h):St (l++x::fs) h:=s.perm List.perm_middle.symm
theorem St.snoc {x:Fact} {l fs:List Fact} {h:Heap} (s:St (x::(l++fs)) h):St ((l++[x])++fs) h:=by
 rw [List.append_assoc];exact s.in_
theorem El {R:Type} {h:Heap} {b n i:Nat} {t:T (List V)} {v:V} {d:R} {k:Heap→R} (h8:8≤b) (hb:T.get b h.t=some (.cells 1 b 0 (n * 1) t)) (hf:T.get b h.aJ=none) (hi:i<n):
  h.bA b (0+i * 1) 1 [v] d k=k (h.put b (.cells 1 b 0 (n * 1) (T.set i [v] t))):=by
 unfold Heap.bA
 rw [show b.blt 8=false by rw [eH];simpa using h8,show h.obj b=_ from hb]
 show (bif (Nat.add (0+i * 1) 1).ble (n * 1) then over d 1 (0+i * 1) 1 [v] t (fun rows=>h.q8 b _ _ b fun h=>h.kI b (.cells 1 b 0 (n * 1) rows) k) else d)=_
 have e1:(Nat.add (0+i * 1) 1).ble (n * 1)=true:=by rw [dO];simp;omega
 rw [e1,cond_true]
 unfold over
 have e2:((1:Nat).beq 1&&((0+i * 1).mod 1).beq 0)=true:=by
  have:(0+i * 1).mod 1=0:=Nat.mod_one _
  rw [this];rfl
 rw [e2,cond_true,dw]
 have e3:(0+i * 1).div 1=i:=by show (0+i * 1) / 1=i;omega
 rw [e3,T.bK]
 unfold Heap.q8
 rw [hf]
 show h.kI b (.cells 1 b 0 (n * 1) (T.set i [v] t)) k=_
 rw [BM]
theorem L.sW {call:bM} {ev:Ev} {h:Heap} {x y:A} {b n i:Nat} {t:T (List V)} {v:V} (hx:ev x= .ptr b (0+i * 1)) (hy:(ev y).aV=some [v]) (h8:8≤b) (hb:T.get b h.t=some (.cells 1 b 0 (n * 1) t)) (hf:T.get b h.aJ=none) (hi:i<n):
  heavy (.store 1 x y) call ev h= .ok un (h.put b (.cells 1 b 0 (n * 1) (T.set i [v] t))):=by
 show (Option.rec .bad (fun p=>Option.rec .bad (fun l=>Bool.rec .bad (h.bA p.1 p.2 1 l .bad fun h=> .ok un h) ((bO l).beq 1)) (ev y).aV) (ev x).jf:OR)=_
 rw [hx,hy]
 show h.bA b (0+i * 1) 1 [v] .bad (fun h=>OR.ok un h)=_
 rw [El h8 hb hf hi]
theorem St.J3 {fs:List Fact} {h:Heap} {b i:Nat} {rows:List (List V)} {v:V} (s:St (.cel b 1 rows::fs) h) (hi:i<rows.length):
  ∃t,8≤b∧T.get b h.t=some (.cells 1 b 0 (rows.length * 1) t)∧T.get b h.aJ=none∧St (.cel b 1 (rows.set i [v])::fs) (h.put b (.cells 1 b 0 (rows.length * 1) (T.set i [v] t))):=by
 have s0:=s
 obtain ⟨Z,s⟩:=s
 obtain ⟨⟨o,ho,t,rfl,hr,ht⟩,hn⟩:=s.all (.cel b 1 rows) (by simp)
 refine ⟨t,s0.obj_ge 0 rfl,ho,hn,s0.put1 rfl rfl rfl rfl fun Z hx=>⟨⟨_,ny ..,T.set i [v] t,by rw [List.length_set],hr,fun j row hj=> ?_⟩,hx.2⟩⟩
 rw [List.getElem?_set] at hj
 rw [T.aU (Nat.zero_le _) (Nat.zero_le _)]
 by_cases e:i=j
 · subst e
   rw [if_pos rfl,if_pos hi] at hj
   cases hj
   rw [if_pos rfl];exact ⟨rfl,rfl⟩
 · rw [if_neg e] at hj
   rw [if_neg (fun h=>e h.symm)]
   exact ht j row hj
end
end Go.Eng
namespace Go.Eng
noncomputable section
def yA (b:Nat) (row:List Bool):Fact:= .cel b 1 (row.map fun x=>[.bool x])
def dN (bs:List Nat) (M:List (List Bool)):List Fact:=List.zipWith yA bs M
def gL (ob oo n:Nat) (bs:List Nat) (h:Heap):Prop:=∀a b,bs[a]? =some b→∃cap,h.bE ob (oo+a * 1)=some (.sl b 0 n cap)
structure Sq (n:Nat) (M:List (List Bool)):Prop where
 len:M.length=n
 row:∀r∈M,r.length=n
theorem Sq.at {n:Nat} {M:List (List Bool)} (s:Sq n M) {a:Nat} (ha:a<n):∃r,M[a]? =some r∧r.length=n:=
 ⟨M[a]'(by rw [s.len];exact ha),List.getElem?_eq_getElem (by rw [s.len];exact ha),s.row _ (List.getElem_mem _)⟩
theorem Af {bs:List Nat} {M:List (List Bool)} {a b:Nat} {r:List Bool} (hb:bs[a]? =some b) (hr:M[a]? =some r):(dN bs M)[a]? =some (yA b r):=by
 unfold dN;rw [List.getElem?_zipWith,hb,hr]
theorem J4 {bs:List Nat} {M:List (List Bool)} {a b:Nat} (r:List Bool) (hb:bs[a]? =some b):(dN bs M).set a (yA b r)=dN bs (M.set a r):=by
 unfold dN
 apply List.ext_getElem?
 intro i
 rw [List.getElem?_zipWith]
 by_cases e:a=i
 · subst e
   rw [List.getElem?_set,if_pos rfl,hb]
   by_cases hl:a<M.length
   · rw [if_pos (by rw [List.length_zipWith];have:=(List.getElem?_eq_some_iff.1 hb).1;omega),List.getElem?_set,if_pos rfl,if_pos hl]
   · rw [if_neg (by simp [List.length_zipWith];omega),List.getElem?_set,if_pos rfl,if_neg hl]
 · rw [List.getElem?_set,if_neg e,List.getElem?_zipWith,List.getElem?_set,if_neg e]
theorem J5 {h:Heap} {b:Nat} {row:List Bool} (a:Rows 1 h (.sl b 0 (row.map fun x=>[V.bool x]).length none) (row.map fun x=>[V.bool x])) {j:Nat} {x:Bool} (hj:row[j]? =some x):h.bE b (0+j * 1)=some (.bool x):=
 a.bE (by rw [List.getElem?_map,hj];rfl)
theorem wX {fs:List Fact} {h:Heap} {ob oo n:Nat} {bs:List Nat} {M:List (List Bool)} (st:St (.stb (gL ob oo n bs)::(dN bs M++fs)) h) {a b:Nat} {r:List Bool} (hb:bs[a]? =some b) (hr:M[a]? =some r):
  (∃cap,h.bE ob (oo+a * 1)=some (.sl b 0 n cap))∧∀j x,r[j]? =some x→h.bE b (0+j * 1)=some (.bool x):=by
 refine ⟨st.aB 0 rfl a b hb,fun j x hj=> ?_⟩
 have s2:=st.tail.at_ (Af hb hr)
 exact J5 (s2.FT 0 rfl) hj
theorem FU {fs:List Fact} {h:Heap} {ob oo n:Nat} {bs:List Nat} {M:List (List Bool)} (st:St (.stb (gL ob oo n bs)::(dN bs M++fs)) h) {a b j:Nat} {r:List Bool} (hb:bs[a]? =some b) (hr:M[a]? =some r) (hj:j<r.length) (x:Bool):
  ∃t,8≤b∧T.get b h.t=some (.cells 1 b 0 (r.length * 1) t)∧T.get b h.aJ=none∧St (.stb (gL ob oo n bs)::(dN bs (M.set a (r.set j x))++fs)) (h.put b (.cells 1 b 0 (r.length * 1) (T.set j [.bool x] t))):=by
 have s1:St (dN bs M++ .stb (gL ob oo n bs)::fs) h:=st.in_
 have s2:=s1.at_ (Af hb hr)
 obtain ⟨t,h8,h1,h2,s3⟩:=St.J3 (v:= .bool x) s2 (i:=j) (by simpa using hj)
 have hl:(r.map fun x=>[V.bool x]).length=r.length:=List.length_map ..
 rw [hl] at h1 s3
 refine ⟨t,h8,h1,h2, ?_⟩
 have e:(r.map fun x=>[V.bool x]).set j [.bool x]=(r.set j x).map fun x=>[V.bool x]:=by rw [List.map_set]
 rw [e] at s3
 have s4:St ((dN bs M).set a (yA b (r.set j x))++ .stb (gL ob oo n bs)::fs) _:=St.back (y:=yA b (r.set j x)) s3 (Af hb hr)
 rw [J4 _ hb] at s4
 exact s4.out
namespace Lab
def at2 (M:List (List Bool)) (a b:Nat):Bool:=((M[a]?.getD [])[b]?).getD false
def lJ (r s:List Bool):List Bool:=List.zipWith (·||·) r s
def jW (k:Nat) (M:List (List Bool)) (row:List Bool):List Bool:=if (row[k]?).getD false then lJ row (M[k]?.getD []) else row
def kT (M:List (List Bool)) (k:Nat):List (List Bool):=M.map (jW k M)
def closed (n:Nat) (M:List (List Bool)):List (List Bool):=(List.range n).foldl kT M
def bS (k a:Nat) (M:List (List Bool)):List (List Bool):=(M.take a).map (jW k M)++M.drop a
def dL (b:Nat) (r s:List Bool):List Bool:=(lJ r s).take b++r.drop b
theorem wY (r:List Bool):lJ r r=r:=by
 unfold lJ
 induction r with
 |nil=>rfl
 |cons a r ih=>rw [List.zipWith_cons_cons,ih];cases a<;>rfl
theorem jr {r s:List Bool} {n:Nat} (hr:r.length=n) (hs:s.length=n):(lJ r s).length=n:=by unfold lJ;rw [List.length_zipWith,hr,hs,Nat.min_self]
theorem Ib {k n:Nat} {M:List (List Bool)} {row:List Bool} (s:Sq n M) (hk:k<n) (hr:row.length=n):(jW k M row).length=n:=by
 obtain ⟨r,h1,h2⟩:=s.at hk
 unfold jW
 rw [h1]
 split
 · exact jr hr h2
 · exact hr
theorem Ic {k n:Nat} {M:List (List Bool)} (s:Sq n M) (hk:k<n):Sq n (kT M k):=by
 refine ⟨by unfold kT;rw [List.length_map,s.len],fun r hr=> ?_⟩
 obtain ⟨r0,h0,rfl⟩:=List.mem_map.1 hr
 exact Ib s hk (s.row r0 h0)
theorem iL (n:Nat) (M:List (List Bool)):closed (n+1) M=kT (closed n M) n:=by
 unfold closed;rw [List.range_succ,List.foldl_append];rfl
theorem eU {n:Nat} {M:List (List Bool)} (s:Sq n M):∀k,k≤n→Sq n (closed k M)
 |0,_=>s
 |k+1,h=>by rw [iL];exact Ic (eU s k (by omega)) (by omega)
theorem uI (k:Nat) (M:List (List Bool)):bS k 0 M=M:=by unfold bS;simp
theorem wZ {k n:Nat} {M:List (List Bool)} (s:Sq n M):bS k n M=kT M k:=by
 unfold bS kT
 rw [List.take_of_length_le (by rw [s.len];exact Nat.le_refl _),List.drop_of_length_le (by rw [s.len];exact Nat.le_refl _),List.append_nil]
theorem jv {k a i n:Nat} {M:List (List Bool)} (s:Sq n M) (ha:a≤n):(bS k a M)[i]? =(M[i]?).map fun r=>if i<a then jW k M r else r:=by
 unfold bS
 by_cases h:i<a
 · rw [List.getElem?_append_left (by rw [List.length_map,List.length_take,s.len];omega),List.getElem?_map,List.getElem?_take_of_lt h]
   cases M[i]? with
   |none=>rfl
   |some r=>simp [h]
 · rw [List.getElem?_append_right (by rw [List.length_map,List.length_take,s.len];omega),List.length_map,List.length_take,s.len,List.getElem?_drop]
   have:a+(i - min a n)=i:=by omega
   rw [this]
   cases M[i]? with
   |none=>rfl
   |some r=>simp [h]
theorem o8 {k a n:Nat} {M:List (List Bool)} {r:List Bool} (s:Sq n M) (ha:a<n) (hr:M[a]? =some r):(bS k a M).set a (jW k M r)=bS k (a+1) M:=by
 apply List.ext_getElem?
 intro i
 rw [List.getElem?_set,jv s (by omega)]
 have hlen:(bS k a M).length=n:=by unfold bS;rw [List.length_append,List.length_map,List.length_take,List.length_drop,s.len];omega
 by_cases e:a=i
 · subst e
   rw [if_pos rfl,hlen,if_pos ha,jv s (by omega),hr];simp
 · rw [if_neg e,jv s (by omega)]
   cases M[i]? with
   |none=>rfl
   |some q=>simp;congr 1;simp;omega
theorem w9 {k:Nat} {M:List (List Bool)} {r:List Bool} (hr:M[k]? =some r):jW k M r=r:=by
 unfold jW;rw [hr];split
 · exact wY r
 · rfl
theorem rM (r s:List Bool):dL 0 r s=r:=by unfold dL;simp
theorem uJ {n:Nat} {r s:List Bool} (hr:r.length=n) (hs:s.length=n):dL n r s=lJ r s:=by
 unfold dL;rw [List.take_of_length_le (by rw [jr hr hs];exact Nat.le_refl _),List.drop_of_length_le (by rw [hr];exact Nat.le_refl _),List.append_nil]
theorem o9 {b n:Nat} {r s:List Bool} (hr:r.length=n) (hs:s.length=n) (hb:b≤n):(dL b r s).length=n:=by
 unfold dL;rw [List.length_append,List.length_take,List.length_drop,jr hr hs,hr];omega
theorem kU {b n i:Nat} {r s:List Bool} (hr:r.length=n) (hs:s.length=n) (hb:b≤n):(dL b r s)[i]? =if i<b then (lJ r s)[i]? else r[i]? :=by
 unfold dL
 by_cases h:i<b
 · rw [if_pos h,List.getElem?_append_left (by rw [List.length_take,jr hr hs];omega),List.getElem?_take_of_lt h]
 · rw [if_neg h,List.getElem?_append_right (by rw [List.length_take,jr hr hs];omega),List.length_take,jr hr hs,List.getElem?_drop]
   congr 1;omega
theorem rO {b n:Nat} {r s:List Bool} {x y:Bool} (hr:r.length=n) (hs:s.length=n) (hb:b<n) (hx:r[b]? =some x) (hy:s[b]? =some y):(dL b r s).set b (x||y)=dL (b+1) r s:=by
 apply List.ext_getElem?
 intro i
 rw [List.getElem?_set,o9 hr hs (by omega),kU hr hs (by omega),kU hr hs (by omega)]
 by_cases e:b=i
 · subst e
   rw [if_pos rfl,if_pos hb,if_pos (by omega)]
   unfold lJ;rw [List.getElem?_zipWith,hx,hy]
 · rw [if_neg e]
   by_cases h:i<b
   · rw [if_pos h,if_pos (by omega)]
   · rw [if_neg h,if_neg (by omega)]
theorem rP (b:Nat) (r:List Bool):dL b r r=r:=by unfold dL;rw [wY,List.take_append_drop]
end Lab
end
end Go.Eng
