/- Part of a proof of a law: rules of an evaluator, contracts, plain laws. No condition of its own. -/
import Derived.Test.YtjobofnpmmjeoaaDoorEngB
import Derived.Below
import Derived.Recover
import Derived.KernelRfl
import Derived.Lib.Bytealg
set_option linter.unusedVariables false
set_option linter.unusedSimpArgs false
namespace Go.Eng
noncomputable section
def LY:List Nat→Nat→Nat→Bool
 |_,_,0=>true
 |t::l,k,n+1=>t==k&&LY l (k+1) n
 |[],_,_+1=>false
def chkR (P:Program) (temps:List Nat):ResultVar→Res→Bool
 | .tmp t, .tmp i j=>nX (Fct.start temps) (.tmp t) (.t i j)
 | .cell a t, .cell i j none=>pW P t false&&nX (Fct.start temps) (.tmp a) (.t i j)
 | .cell a t, .cell i j (some n)=>pW P t true&&(jd P t n&&nX (Fct.start temps) (.tmp a) (.t i j))
 |_,_=>false
def Ki (P:Program) (temps:List Nat):List ResultVar→List Res→Bool
 |[],[]=>true
 |a::l,b::m=>chkR P temps a b&&Ki P temps l m
 |_,_=>false
def CG (P:Program) (f:Nat) (F:Fun):Bool:=match P.funcs[f]? with
 |some fn=>fn.name != "runtime.NumGoroutine" &&(match fn.body with
  |some c=>(decide (F.temps.length≤64)&&(decide (F.np≤F.temps.length)&&LY F.temps 0 F.np))&&(decide (F.np≤fn.ntmps)&&(yA P F.temps fn.ntmps c F.body&&Ki P F.temps fn.results.toList F.results))
  |none=>false)
 |none=>false
def dx:List V→Nat→Env→Env
 |[],_,env=>env
 |v::l,i,env=>dx l (i+1) (Env.set (bA i).1 (bA i).2 v env)
theorem lD:∀(l:List V) (i:Nat) (env:Env) (k:Env→CR),args l i env k=k (dx l i env)
 |[],_,_,_=>rfl
 |v::l,i,env,k=>by
  show v.force (fun v=>Env.dD (bA i).1 (bA i).2 v (fun env=>args l (i+1) env k) env)=_
  rw [V.force_eq,Env.dM,lD l];rfl
theorem vV {j k:Nat} (hj:j<64) (hk:k<64) (h:bA j=bA k):j=k:=by
 have h1:D8.of (j / 8)=D8.of (k / 8):=congrArg (·.1) h
 have h2:D8.of (j % 8)=D8.of (k % 8):=congrArg (·.2) h
 have e1:=D8.Ei (by omega) (by omega) h1
 have e2:=D8.Ei (Nat.mod_lt _ (by decide)) (Nat.mod_lt _ (by decide)) h2
 omega
theorem yB:∀(l:List V) (i:Nat) (env:Env) (k:Nat),k<64→i+l.length≤64→
  Env.get (bA k).1 (bA k).2 (dx l i env)=if i≤k∧k<i+l.length then (l[k - i]?).getD .bot else Env.get (bA k).1 (bA k).2 env
 |[],i,env,k,hk,hl=>by rw [if_neg (by simp)];rfl
 |v::l,i,env,k,hk,hl=>by
  have hl:i+(l.length+1)≤64:=hl
  show Env.get (bA k).1 (bA k).2 (dx l (i+1) (Env.set (bA i).1 (bA i).2 v env))=_
  rw [yB l (i+1) _ k hk (by omega),Env.bQ]
  by_cases h:i=k
  · subst h
    rw [if_neg (by omega),if_pos ⟨rfl,rfl⟩,if_pos ⟨Nat.le_refl _,by simp⟩];simp
  · have hne:¬((bA k).1=(bA i).1∧(bA k).2=(bA i).2):=fun e=>h (vV (by omega) hk (Prod.ext e.1.symm e.2.symm))
    rw [if_neg hne]
    by_cases h1:i+1≤k∧k<i+1+l.length
    · rw [if_pos h1,if_pos ⟨by omega,by simp;omega⟩,show k - i=(k - (i+1))+1 by omega];rfl
    · rw [if_neg h1,if_neg (by simp;omega)]
theorem EJ:∀(l:List Nat) (k n:Nat),LY l k n=true→∀j,j<n→l[j]? =some (k+j)
 |_,_,0,_,j,hj=>by omega
 |[],_,_+1,h,_,_=>by cases h
 |t::l,k,n+1,h,j,hj=>by
  have h:=Bool.aL h
  have ht:t=k:=by simpa using h.1
  subst ht
  cases j with
  |zero=>rfl
  |succ j=>
   have:=EJ l (t+1) n h.2 j (by omega)
   rw [List.getElem?_cons_succ,this];congr 1;omega
section
variable {P:Program} {call:dN} {temps:List Nat} {N:Nat}
theorem Oi {ι:Inj} {h:Heap} {w:World} {env:Env} {a:Act} (g:Good ι h w) (r:oI [] ι temps N env a) {x:ResultVar} {y:Res} (hc:chkR P temps x y=true) {v:V} (hv:res1 h env y=some v):
  ∃v',((match x with| .tmp t=>pure (a.tmps.getD t undef)| .cell c t=>do loadVar t (←asAddr (a.tmps.getD c undef)):Sem Value)).run P w= .ok v' w∧aM ι v v':=by
 have cell:∀{c:Nat} {t:TypeId} {i j:D8} {b o:Nat},nX (Fct.start temps) (.tmp c) (.t i j)=true→(Env.get i j env).nG=some (b,o)→∃B,ι b=some B∧a.tmps.getD c undef= .pointer (some ⟨B.c,B.off+o,none⟩):=by
  intro c t i j b o hc hp
  have h1:aM ι (Env.get i j env) (a.tmps.getD c undef):=jM r.start _ _ hc
  generalize Env.get i j env=u at hp h1
  cases u<;>first|(cases hp;done)|skip
  cases hp
  obtain ⟨B,hB,h1⟩:=h1
  exact ⟨B,hB,h1⟩
 cases x with
 |tmp t=>
  cases y with
  |tmp i j=>
   have hv:some (Env.get i j env)=some v:=hv
   cases hv
   exact ⟨_,rfl,jM r.start (.tmp t) (.t i j) hc⟩
  |cell i j n=>cases hc
 |cell c t=>
  cases y with
  |tmp i j=>cases hc
  |cell i j n=>
   cases n with
   |none=>
    have hc:=Bool.aL hc
    simp only [res1] at hv
    cases hp:(Env.get i j env).nG with
    |none=>rw [hp] at hv;cases hv
    |some bo=>
     obtain ⟨b,o⟩:=bo
     rw [hp] at hv
     have hv:h.jG b o=some v:=hv
     obtain ⟨B,hB,hx⟩:=cell (t:=t) hc.2 hp
     obtain ⟨y,hy,_,hcell⟩:=C8 g hB hv
     exact ⟨y,by simp [hx,asAddr,Result.andThen,Sem.run_bind,zk w hc.1 hcell],hy⟩
   |some n=>
    have hc:=Bool.aL hc
    have hc2:=Bool.aL hc.2
    simp only [res1] at hv
    cases hp:(Env.get i j env).nG with
    |none=>rw [hp] at hv;cases hv
    |some bo=>
     obtain ⟨b,o⟩:=bo
     rw [hp] at hv
     simp only at hv
     cases hl:h.load b o n with
     |none=>rw [hl] at hv;cases hv
     |some l=>
      rw [hl] at hv;cases hv
      obtain ⟨B,hB,hx⟩:=cell (t:=t) hc2.2 hp
      obtain ⟨xs,hlen,hvr,h1c,hcell⟩:=sF g hB hl
      refine ⟨.agg xs.toArray,by simp [hx,asAddr,Result.andThen,Sem.run_bind,zl w hc.1 hc2.1 hlen hcell], ?_⟩
      exact ⟨xs.toArray,rfl,by simpa using hvr,by simpa using h1c⟩
theorem tC {ι:Inj} {h:Heap} {w:World} {env:Env} {a:Act} (g:Good ι h w) (r:oI [] ι temps N env a):∀(l:List ResultVar) (rs:List Res),Ki P temps l rs=true→∀vs,results env h rs=some vs→
  ∃vs',(l.mapM fun x=>(match x with| .tmp t=>pure (a.tmps.getD t undef)| .cell c t=>do loadVar t (←asAddr (a.tmps.getD c undef)):Sem Value)).run P w= .ok vs' w∧aW ι vs vs'
 |[],[],_,vs,hv=>by
  have hv:some []=some vs:=hv
  cases hv;exact ⟨[],rfl,rfl⟩
 |x::l,y::rs,hc,vs,hv=>by
  have hc:=Bool.aL hc
  have hv:(Option.rec none (fun v=>Option.rec none (fun vs=>some (v::vs)) (results env h rs)) (res1 h env y):Option (List V))=some vs:=hv
  cases h1:res1 h env y with
  |none=>rw [h1] at hv;cases hv
  |some v=>
   rw [h1] at hv
   have hv:(Option.rec none (fun vs=>some (v::vs)) (results env h rs):Option (List V))=some vs:=hv
   cases h2:results env h rs with
   |none=>rw [h2] at hv;cases hv
   |some vs1=>
    rw [h2] at hv
    cases hv
    obtain ⟨v',e1,r1⟩:=Oi g r hc.1 h1
    obtain ⟨vs',e2,r2⟩:=tC g r l rs hc.2 vs1 h2
    refine ⟨v'::vs', ?_,⟨v',vs',rfl,r1,r2⟩⟩
    rw [List.mapM_cons,Sem.run_bind,e1]
    simp only [Result.andThen]
    rw [Sem.run_bind,e2]
    rfl
 |[],_::_,hc,_,_=>by cases hc
 |_::_,[],hc,_,_=>by cases hc
theorem aW.one_ {ι:Inj}:∀{vs:List V} {xs:Array Value},aW ι vs xs.toList→aM ι (one vs) (if h:xs.size=1 then xs[0] else .tuple xs)
 |[v],xs,h=>by
  have hl:=h.length
  have hl:xs.size=1:=by simpa using hl
  rw [dif_pos hl]
  obtain ⟨x,hx,hv⟩:=h.get (j:=0) (v:=v) rfl
  have:xs[0]=x:=by
   have h0:xs[0]? =some x:=by simpa using hx
   rw [Array.getElem?_eq_getElem (by omega)] at h0
   exact Option.some.inj h0
  rw [this];exact hv
 |[],xs,h=>by
  have hl:=h.length
  have hl:¬xs.size=1:=by simp at hl;simp [hl]
  rw [dif_neg hl];exact ⟨xs,rfl,h⟩
 |a::b::l,xs,h=>by
  have hl:=h.length
  have hl:¬xs.size=1:=by simp at hl;omega
  rw [dif_neg hl];exact ⟨xs,rfl,h⟩
theorem LZ (hmx:P.follows .mixedOrders=true) (hcs:o5 P call) (hcm:eF call) {f R:Nat} {F:Fun} (hc:CG P f F=true) {as:List V} {h:Heap} (hne:jv F R call as h≠.bad):
  j5 P f∧∀ι w (args:Array Value),Good ι h w→OR.free ι h (jv F R call as h)→aW ι as args.toList→Calls P f args w (rU ι h w (jv F R call as h)):=by
 unfold CG at hc
 cases hf:P.funcs[f]? with
 |none=>rw [hf] at hc;cases hc
 |some fn=>
  rw [hf] at hc
  have hc:=Bool.aL hc
  cases hb:fn.body with
  |none=>rw [hb] at hc;exact absurd hc.2 (by simp)
  |some c=>
   rw [hb] at hc
   have hc2:=Bool.aL hc.2
   have hc3:=Bool.aL hc2.1
   have hc4:=Bool.aL hc3.2
   have hc5:=Bool.aL hc2.2
   have hc6:=Bool.aL hc5.2
   have hname:fn.name≠ "runtime.NumGoroutine" :=by simpa using hc.1
   have h64:F.temps.length≤64:=by simpa using hc3.1
   have hnp:F.np≤F.temps.length:=by simpa using hc4.1
   have hnt:F.np≤fn.ntmps:=by simpa using hc5.1
   refine ⟨⟨fn,hf,by simpa using hname,by rw [hb];rfl⟩,fun ι w args g hfree hr=> ?_⟩
   have hrun:∃r,r=jv F R call as h:=⟨_,rfl⟩
   obtain ⟨r,hrun⟩:=hrun
   rw [←hrun] at hne hfree ⊢
   have hrun2:r=(Bool.rec .bad (qA F.results (Go.Eng.args as 0 Env.nil fun env=>code F.body call R env h)) ((eO as).beq F.np):OR):=hrun
   cases hlen:(eO as).beq F.np with
   |false=>rw [hlen] at hrun2;exact absurd hrun2 hne
   |true=>
    have hl:as.length=F.np:=by rw [fF] at hlen;exact Nat.eq_of_beq_eq_true hlen
    rw [hlen] at hrun2
    have hrun2:r=qA F.results (code F.body call R (dx as 0 Env.nil) h):=by rw [hrun2,lD]
    have hal:args.size=as.length:=by have:=hr.length;simpa using this
    have hact:oI [] ι F.temps fn.ntmps (dx as 0 Env.nil) {tmps:=args++Array.replicate (fn.ntmps - args.size) undef,defers:=[]}:=by
     refine ⟨by simp;omega,rfl,fun k t hk=> ?_⟩
     have hk64:k<64:=by have:=(List.getElem?_eq_some_iff.1 hk).1;omega
     rw [yB as 0 Env.nil k hk64 (by omega)]
     by_cases hlt:k<as.length
     · rw [if_pos ⟨Nat.zero_le _,by omega⟩]
       have:=EJ _ _ _ hc4.2 k (by omega)
       rw [hk] at this
       have ht:t=0+k:=Option.some.inj this
       rw [Nat.zero_add] at ht
       subst ht
       obtain ⟨v,hv⟩:∃v,as[t]? =some v:=⟨as[t],List.getElem?_eq_getElem hlt⟩
       obtain ⟨y,hy,hvy⟩:=hr.get hv
       have hget:(args++Array.replicate (fn.ntmps - args.size) undef).getD t undef=y:=by
        have:(args++Array.replicate (fn.ntmps - args.size) undef)[t]? =some y:=by
         rw [Array.getElem?_append_left (by omega)];simpa using hy
        simp [Array.getD_eq_getD_getElem?,this]
       rw [show t - 0=t from rfl,hv]
       show aM ι v ((args++Array.replicate (fn.ntmps - args.size) undef).getD t undef)
       rw [hget];exact hvy
     · rw [if_neg (by omega),Env.get_nil];trivial
    refine calls_of_wp hf hb ?_
    cases hcode:code F.body call R (dx as 0 Env.nil) h with
    |bad=>rw [hcode] at hrun2;exact absurd hrun2 hne
    |ok x env' h'=>
     rw [hcode] at hrun2
     have fin:∀r,r=finish F.results env' h'→r≠.bad→∃vs,results env' h' F.results=some vs∧r= .ok (one vs) h':=by
      intro r hr hne
      have hr:r=(Option.rec .bad (fun vs=> .ok (one vs) h') (results env' h' F.results):OR):=hr
      cases hrs:results env' h' F.results with
      |none=>rw [hrs] at hr;exact absurd hr hne
      |some vs=>rw [hrs] at hr;exact ⟨vs,rfl,hr⟩
     have endR:∀vs,results env' h' F.results=some vs→∀ι' a' w',Chg ι h w ι' h' w'→oI [] ι' F.temps fn.ntmps env' a'→a'.defers=[]∧∃v,(Go.results fn a'.tmps).run P w'= .ok v w'∧rU ι h w (.ok (one vs) h') (.returned v) w':=by
      intro vs hvs ι' a' w' c' r'
      obtain ⟨vs',e1,e2⟩:=tC (P:=P) c'.good r' fn.results.toList F.results hc6.2 vs hvs
      refine ⟨r'.defers,(if h:vs'.toArray.size=1 then vs'.toArray[0] else .tuple vs'.toArray), ?_,ι',c', ?_⟩
      · unfold Go.results
        rw [Array.mapM_eq_mapM_toList]
        simp only [Sem.run_bind,Sem.run_map]
        erw [e1]
        rfl
      · have:=aW.one_ (ι:=ι') (vs:=vs) (xs:=vs'.toArray) (by simpa using e2)
        exact this
     cases x with
     |nrm=>
      have hr2:r=finish F.results env' h':=hrun2
      obtain ⟨vs,hvs,hr3⟩:=fin r hr2 hne
      subst hr3
      exact fT hmx hcs hcm c F.body hc6.1 R hcode hact g hfree fun ι' a' w' c' r'=>endR vs hvs ι' a' w' c' r'
     |ret=>
      have hr2:r=finish F.results env' h':=hrun2
      obtain ⟨vs,hvs,hr3⟩:=fin r hr2 hne
      subst hr3
      exact fT hmx hcs hcm c F.body hc6.1 R hcode hact g hfree fun ι' a' w' c' r'=>endR vs hvs ι' a' w' c' r'
     |exit i=>exact absurd hrun2 hne
     |pan v=>
      have hr2:r= .pan v h':=hrun2
      subst hr2
      exact fT hmx hcs hcm c F.body hc6.1 R hcode hact g hfree fun ι' a' w' c' v' hv hd=>⟨hd,v',ι',rfl,c',hv⟩
end
end
end Go.Eng
namespace Go.Eng
noncomputable section
def allO {α:Type} (p:α→Bool):Option α→Bool
 |none=>true
 |some x=>p x
def all8 {α:Type} (p:D8→α→Bool) (r:R8 α):Bool:=p .d0 r.a&&(p .d1 r.b&&(p .d2 r.c&&(p .d3 r.d&&(p .d4 r.e&&(p .d5 r.f&&(p .d6 r.g&&p .d7 r.h))))))
theorem Bf {α:Type} {p:D8→α→Bool} {r:R8 α} (h:all8 p r=true) (i:D8):p i (R8.get i r)=true:=by
 have h1:=Bool.aL h;have h2:=Bool.aL h1.2;have h3:=Bool.aL h2.2;have h4:=Bool.aL h3.2
 have h5:=Bool.aL h4.2;have h6:=Bool.aL h5.2;have h7:=Bool.aL h6.2
 cases i
 · exact h1.1
 · exact h2.1
 · exact h3.1
 · exact h4.1
 · exact h5.1
 · exact h6.1
 · exact h7.1
 · exact h7.2
def D8.num:D8→Nat
 | .d0=>0| .d1=>1| .d2=>2| .d3=>3| .d4=>4| .d5=>5| .d6=>6| .d7=>7
theorem D8.Jc {n:Nat} (h:n<8):(D8.of n).num=n:=by
 have:n=0∨n=1∨n=2∨n=3∨n=4∨n=5∨n=6∨n=7:=by omega
 rcases this with rfl|rfl|rfl|rfl|rfl|rfl|rfl|rfl<;>rfl
def allT {α:Type} (p:Nat→α→Bool) (t:T α):Bool:=
 all8 (fun k=>all8 fun j=>all8 fun i=>allO (p (64 * k.num+8 * j.num+i.num))) t.x&&(t.y.isNone&&t.z.empty)
theorem Gf {α:Type} {p:Nat→α→Bool} {F:α} {k:Nat} {t:T α} (h:allT p t=true) (hg:T.get k t=some F):p k F=true:=by
 have h1:=Bool.aL h;have h2:=Bool.aL h1.2
 rw [T.get_eq] at hg
 by_cases c:k<512
 · rw [if_pos c] at hg
   have:=Bf (Bf (Bf h1.1 (D8.of (k.div 64))) (D8.of ((k.div 8).mod 8))) (D8.of (k.mod 8))
   have hg:R8.get (D8.of (k.mod 8)) (R8.get (D8.of ((k.div 8).mod 8)) (R8.get (D8.of (k.div 64)) t.x))=some F:=hg
   rw [hg] at this
   have e2:(D8.of (k.div 64)).num=k / 64:=D8.Jc (by show k / 64<8;omega)
   have e1:(D8.of ((k.div 8).mod 8)).num=k / 8 % 8:=D8.Jc (Nat.mod_lt _ (by decide))
   have e0:(D8.of (k.mod 8)).num=k % 8:=D8.Jc (Nat.mod_lt _ (by decide))
   have e:64 * (D8.of (k.div 64)).num+8 * (D8.of ((k.div 8).mod 8)).num+(D8.of (k.mod 8)).num=k:=by rw [e2,e1,e0];omega
   rw [e] at this;exact this
 · rw [if_neg c] at hg
   by_cases c2:k<32768
   · rw [if_pos c2] at hg
     have:t.y=none:=by have:=h2.1;simpa using this
     simp [T.ty,this,T.at5,T.e5,R8.Em] at hg
   · rw [if_neg c2] at hg
     have:t.z= .mt:=B.empty_eq h2.2
     rw [this] at hg;cases hg
def yC (P:Program) (c:Ctx):Prop:=∀call,o5 P call→eF call→∀f as h,T.get f c.bJ=none→
 OR.next h (c.sums call f as h)∧(c.sums call f as h≠.bad→j5 P f∧∀ι w (args:Array Value),Good ι h w→OR.free ι h (c.sums call f as h)→aW ι as args.toList→Calls P f args w (rU ι h w (c.sums call f as h)))
def noSums:dN→Nat→List V→Heap→OR:=fun _ _ _ _=> .bad
section
variable {P:Program} {call:dN}
theorem Gg (hcm:eF call) (F:Fun) (R:Nat) (as:List V) (h:Heap):OR.next h (jv F R call as h):=by
 unfold jv
 cases (eO as).beq F.np with
 |false=>trivial
 |true=>
  show OR.next h (qA F.results (args as 0 Env.nil fun env=>code F.body call R env h))
  rw [lD]
  have:=iL hcm F.body R (dx as 0 Env.nil) h
  cases hr:code F.body call R (dx as 0 Env.nil) h with
  |bad=>trivial
  |ok x env' h'=>
   rw [hr] at this
   have fin:OR.next h (finish F.results env' h'):=by
    show OR.next h (Option.rec .bad (fun vs=> .ok (one vs) h') (results env' h' F.results):OR)
    cases results env' h' F.results with
    |none=>trivial
    |some vs=>exact this
   cases x with
   |nrm=>exact fin
   |ret=>exact fin
   |exit i=>trivial
   |pan v=>exact this
theorem Dm (hmx:P.follows .mixedOrders=true) (c:Ctx) (hf:allT (CG P) c.bJ=true) (hs:yC P c) (R:Nat):∀n,o5 P (aR c R n)∧eF (aR c R n)
 |0=>⟨fun f as h hne=>absurd rfl hne,fun f as pc h=>trivial⟩
 |n+1=>by
  obtain ⟨ih1,ih2⟩:=Dm hmx c hf hs R n
  have step:∀f as pc h,(aR c R (n+1) f as pc h).1=(Option.rec (c.sums (aR c R n) f as h) (fun fn=>jv fn R (aR c R n) as h) (T.get f c.bJ):OR):=fun _ _ _ _=>rfl
  refine ⟨fun f as h hne=> ?_,fun f as pc h=> ?_⟩
  · rw [step] at hne ⊢
    cases hg:T.get f c.bJ with
    |none=>
     rw [hg] at hne
     exact (hs _ ih1 ih2 f as h hg).2 hne
    |some F=>
     rw [hg] at hne
     have hc:=Gf hf hg
     exact LZ hmx ih1 ih2 hc hne
  · rw [step]
    cases hg:T.get f c.bJ with
    |none=>exact (hs _ ih1 ih2 f as h hg).1
    |some F=>exact Gg ih2 F R as h
theorem noSums_ok {c:Ctx} (h:c.sums=noSums):yC P c:=fun call _ _ f as hp _=>by
 rw [h];exact ⟨trivial,fun hne=>absurd rfl hne⟩
def Inj.none:Inj:=fun _=>Option.none
theorem Good.empty (w:World):Good Inj.none Heap.empty w:=
 ⟨fun b B o h=>(by cases h),fun b B h=>(by cases h),fun b B b' B' h=>(by cases h),fun b B h=>(by cases h),fun b B F o h=>(by cases h),fun b B o h=>(by cases h),
   fun f F b h=>(by rw [show T.get f Heap.empty.aO=none from T.ze f] at h;cases h),Nat.le_refl _,fun b _ h=>absurd (T.ze b) h,fun b h=>absurd rfl h,fun f _ h=>absurd (T.ze f) h,fun b B h=>(by cases h)⟩
structure Kept (w w':World):Prop where
 old:∀c,c<w.heap.size→w'.heap[c]? =w.heap[c]?
 size:w.heap.size≤w'.heap.size
 tape:w'.tape=w.tape
 os:w'.os=w.os
 out:w'.output=w.output
theorem OR.L6 {ι:Inj} {h:Heap} {r:OR} (hι:∀b,h.next≤b→ι b=Option.none) (hne:r≠.bad):OR.free ι h r:=by
 cases r with
 |ok v h'=>exact fun b hb _=>hι b hb
 |pan v h'=>exact fun b hb _=>hι b hb
 |bad=>exact absurd rfl hne
theorem zC (hmx:P.follows .mixedOrders=true) {c:Ctx} (hf:allT (CG P) c.bJ=true) (hs:yC P c) {R n f:Nat} {as:List V} {b:Bool} {h':Heap} (he:(aR c R n f as .none Heap.empty).1= .ok (.bool b) h')
  {args:Array Value} (hr:aW Inj.none as args.toList) (w:World):Calls P f args w fun e w'=>e= .returned (.bool b)∧Kept w w':=by
 have h1:=((Dm hmx c hf hs R n).1 f as Heap.empty (by rw [he];simp)).2 Inj.none w args (Good.empty w) (OR.L6 (fun b _=>rfl) (by rw [he];simp)) hr
 rw [he] at h1
 refine h1.mono fun e w' ho=> ?_
 cases e with
 |returned v'=>
  obtain ⟨ι',cg,hv⟩:=ho
  have hv:v'= .bool b:=hv
  subst hv
  exact ⟨rfl,fun k hk=>cg.frame.keep k hk fun b B hb=>(by cases hb),cg.frame.size,cg.frame.tape,cg.frame.os,cg.frame.out⟩
 |panicked ch=>exact ho.elim
 |outgrown=>exact ho.elim
theorem Bg (hmx:P.follows .mixedOrders=true) {c:Ctx} (hf:allT (CG P) c.bJ=true) (hs:yC P c) {n f:Nat} {as:List V} {b:Bool} {h':Heap} (he:(lev c n f as .none Heap.empty).1= .ok (.bool b) h')
  {args:Array Value} (hr:aW Inj.none as args.toList) (w:World):Calls P f args w fun e w'=>e= .returned (.bool b)∧Kept w w':=zC hmx hf hs (R:=bV) he hr w
end
end
end Go.Eng
namespace Go.Eng
noncomputable section
structure lF where
 np:Nat
 temps:List Nat
 pre:C
 clo:Nat
 caps:List A
 acts:Nat
 ops:List Opr
 ws:List Nat
 results:List Res
 gtemps:List Nat
 gk:Nat
 gbody:C
def clr:List Nat→Env→Env
 |[],env=>env
 |k::l,env=>clr l (Env.set (bA k).1 (bA k).2 .bot env)
def lF.fin (F:lF) (call:dN) (cv:List V) (envr:Env) (h:Heap) (v:V):OR:=
 CR.rec (fun x _ h3=>X.rec (finish F.results envr h3) (finish F.results envr h3) (fun _=> .bad) (fun _=> .bad) x) .bad
   (args cv 0 Env.nil fun env=>Env.dD (bA F.gk).1 (bA F.gk).2 v (fun env=>code F.gbody call bV env h) env)
def lF.go (F:lF) (call:dN) (env1:Env) (h1:Heap):OR:=
 CR.rec (fun x env2 h2=>X.rec (F.fin call (evs F.caps fun a=>a.ev [] env1) env2 h2 .ifcN) .bad (fun _=> .bad) (fun v=>F.fin call (evs F.caps fun a=>a.ev [] env1) (clr F.ws env1) h2 v) x) .bad (eu F.ops call [] env1 h1)
def xg (F:lF) (call:dN) (as:List V) (h:Heap):OR:=
 Bool.rec .bad (CR.rec (fun x env1 h1=>X.rec (F.go call env1 h1) .bad (fun _=> .bad) (fun _=> .bad) x) .bad (args as 0 Env.nil fun env=>code F.pre call bV env h)) ((eO as).beq F.np)
def Jd (temps:List Nat) (ws:List Nat):List Oper→Bool
 |[]=>true
 |o::l=>(match o.dst with
  |none=>true
  |some d=>temps.zipIdx.all fun p=>p.1 !=d||ws.contains p.2)&&Jd temps ws l
def Je (P:Program) (F:lF):Bool:=match P.funcs[F.clo]? with
 |some gn=>gn.name != "runtime.NumGoroutine" &&(match gn.body with
  |some (.seq (.region _ ops0 false) c3)=>(match ops0.toList with
   |[rc]=>(match rc.op,rc.dst,rc.guard with
    | .call {callee:= .builtin .recover, ..},some tr,none=>
      (decide (F.gtemps[F.gk]? =some tr)&&(decide (tr<gn.ntmps)&&F.gtemps.zipIdx.all (fun p=>p.2==F.gk||p.1 !=tr)))&&
      ((decide (F.gtemps.length≤64)&&(decide (F.caps.length≤F.gk)&&(decide (F.gk<F.gtemps.length)&&LY F.gtemps 0 F.caps.length)))&&
      (decide (F.caps.length≤gn.ntmps)&&(yA P F.gtemps gn.ntmps c3 F.gbody&&gn.results.toList.isEmpty)))
    |_,_,_=>false)
   |_=>false)
  |_=>false)
 |none=>false
def chkDf (temps:List Nat) (N clo:Nat) (caps:List A) (l:List Oper):Bool:=match l with
 |[mf,df]=>(match mf.op,mf.dst,mf.guard with
  | .makeFunc (.func g) first cs,some t,none=>(g==clo&&(first.toList.isEmpty&&(zU (nX (Fct.start temps)) cs.toList caps&&(decide (t<N)&& !temps.contains t))))&&
    (match df.op,df.dst,df.guard with
    | .defer c,none,none=>c.args.toList.isEmpty&&(match c.callee with
      | .value (.tmp t')=>t'==t
      |_=>false)
    |_,_,_=>false)
  |_,_,_=>false)
 |_=>false
def Dn (P:Program) (f:Nat) (F:lF):Bool:=match P.funcs[f]? with
 |some fn=>fn.name != "runtime.NumGoroutine" &&(match fn.body with
  |some (.seq c1 (.seq (.region _ ops1 false) (.seq (.region _ ops2 false) .ret)))=>
   (decide (F.temps.length≤64)&&(decide (F.np≤F.temps.length)&&(LY F.temps 0 F.np&&nodupB F.temps)))&&((decide (F.np≤fn.ntmps)&&(yA P F.temps fn.ntmps c1 F.pre&&Ki P F.temps fn.results.toList F.results))&&
   (chkDf F.temps fn.ntmps F.clo F.caps ops1.toList&&(yx F.temps (vQ P fn.ntmps F.acts ops2 ops2.toList 0 F.ops (Fct.start F.temps))&&((Jd F.temps F.ws ops2.toList&&F.ws.all (fun k=>decide (k<64)))&&Je P F))))
  |_=>false)
 |none=>false
theorem Kr:∀(ws:List Nat) (env:Env) (k:Nat),k<64→(∀j∈ws,j<64)→Env.get (bA k).1 (bA k).2 (clr ws env)=if k∈ws then .bot else Env.get (bA k).1 (bA k).2 env
 |[],env,k,hk,_=>by rw [if_neg (by simp)];rfl
 |j::l,env,k,hk,hl=>by
  show Env.get (bA k).1 (bA k).2 (clr l (Env.set (bA j).1 (bA j).2 .bot env))=_
  rw [Kr l _ k hk (fun x hx=>hl x (List.mem_cons_of_mem _ hx)),Env.bQ]
  by_cases h1:k∈l
  · rw [if_pos h1,if_pos (List.mem_cons_of_mem _ h1)]
  · rw [if_neg h1]
    by_cases h2:k=j
    · subst h2;rw [if_pos ⟨rfl,rfl⟩,if_pos (List.mem_cons_self ..)]
    · rw [if_neg (fun e=>h2 (vV hk (hl j (List.mem_cons_self ..)) (Prod.ext e.1 e.2))),if_neg (by simp [h1,h2])]
theorem oI.mono {ι ι':Inj} {temps:List Nat} {N:Nat} {env:Env} {a:Act} (h:ι.le ι') (r:oI [] ι temps N env a):oI [] ι' temps N env a:=
 ⟨r.size,r.defers,fun k t hk=>(r.tmps k t hk).mono h⟩
theorem Bp {t:Nat}:∀(l:List Nat) (k j:Nat),l.Nodup→l[j]? =some t→look t (slots l k)=some (some (.slot (bA (k+j)).1 (bA (k+j)).2))
 |[],k,j,_,h=>by simp at h
 |x::l,k,j,hn,h=>by
  unfold slots
  rw [jN]
  cases j with
  |zero=>simp at h;subst h;rw [if_pos rfl];rfl
  |succ j=>
   have hm:t∈l:=List.mem_of_getElem? (by simpa using h)
   have hne:t≠x:=fun e=>by subst e;exact (List.nodup_cons.1 hn).1 hm
   rw [if_neg hne,Bp l (k+1) j (List.nodup_cons.1 hn).2 (by simpa using h),show k+1+j=k+(j+1) by omega]
theorem L8 {temps:List Nat} (hn:temps.Nodup) {k t:Nat} (h:temps[k]? =some t):(Fct.start temps).tmp t=some (.slot (bA k).1 (bA k).2):=by
 show (match look t (slots temps 0) with|some s=>s|none=>none)=_
 rw [Bp temps 0 k hn h,Nat.zero_add]
theorem Dp {temps ws:List Nat}:∀(l:List Oper),Jd temps ws l=true→∀k t,temps[k]? =some t→k∉ws→∀o∈l,o.dst≠some t
 |[],_,_,_,_,_,o,ho=>by simp at ho
 |x::l,h,k,t,hk,hw,o,ho=>by
  have h:=Bool.aL h
  rcases List.mem_cons.1 ho with rfl|ho
  · intro hd
    have h1:=h.1
    rw [hd] at h1
    have h1:=List.all_eq_true.1 h1 (t,k) (List.mem_zipIdx_iff_getElem?.2 hk)
    simp at h1;exact hw h1
  · exact Dp l h.2 k t hk hw o ho
end
end Go.Eng
namespace Go.Eng
noncomputable section
section
variable {P:Program} {call:dN} {F:lF}
theorem tF (hcm:eF call) (cv:List V) (envr:Env) (h:Heap) (v:V):OR.next h (F.fin call cv envr h v):=by
 unfold lF.fin
 rw [lD,Env.dM]
 generalize Env.set (bA F.gk).1 (bA F.gk).2 v (dx cv 0 Env.nil)=e0
 have:=iL hcm F.gbody bV e0 h
 cases hr:code F.gbody call bV e0 h with
 |bad=>trivial
 |ok x env3 h3=>
  rw [hr] at this
  have fin:OR.next h (finish F.results envr h3):=by
   show OR.next h (Option.rec .bad (fun vs=> .ok (one vs) h3) (results envr h3 F.results):OR)
   cases results envr h3 F.results with
   |none=>trivial
   |some vs=>exact this
  cases x with
  |nrm=>exact fin
  |ret=>exact fin
  |exit i=>trivial
  |pan v=>trivial
theorem OR.lC {h h1:Heap} {r:OR} (hn:h.next≤h1.next) (hr:OR.next h1 r):OR.next h r:=by
 cases r with
 |ok v h'=>exact Nat.le_trans hn hr
 |pan v h'=>exact Nat.le_trans hn hr
 |bad=>trivial
theorem Kt (hcm:eF call) (env1:Env) (h1:Heap):OR.next h1 (F.go call env1 h1):=by
 unfold lF.go
 have:=p8 hcm F.ops [] env1 h1
 cases hr:eu F.ops call [] env1 h1 with
 |bad=>trivial
 |ok x env2 h2=>
  rw [hr] at this
  cases x with
  |nrm=>exact OR.lC this (tF hcm _ _ _ _)
  |ret=>trivial
  |exit i=>trivial
  |pan v=>exact OR.lC this (tF hcm _ _ _ _)
theorem L9 (hcm:eF call) (as:List V) (h:Heap):OR.next h (xg F call as h):=by
 unfold xg
 cases (eO as).beq F.np with
 |false=>trivial
 |true=>
  show OR.next h (CR.rec (fun x env1 h1=>X.rec (F.go call env1 h1) .bad (fun _=> .bad) (fun _=> .bad) x) .bad (args as 0 Env.nil fun env=>code F.pre call bV env h):OR)
  rw [lD]
  have:=iL hcm F.pre bV (dx as 0 Env.nil) h
  cases hr:code F.pre call bV (dx as 0 Env.nil) h with
  |bad=>trivial
  |ok x env1 h1=>
   rw [hr] at this
   cases x with
   |nrm=>exact OR.lC this (Kt hcm env1 h1)
   |ret=>trivial
   |exit i=>trivial
   |pan v=>trivial
theorem Dq {ι:Inj} {temps:List Nat} {np N:Nat} {as:List V} {args:Array Value} (h64:temps.length≤64) (hnp:np≤temps.length) (hnt:np≤N) (hid:LY temps 0 np=true) (hl:as.length=np) (hr:aW ι as args.toList):
  oI [] ι temps N (dx as 0 Env.nil) {tmps:=args++Array.replicate (N - args.size) undef,defers:=[]}:=by
 have hal:args.size=as.length:=by have:=hr.length;simpa using this
 refine ⟨by simp;omega,rfl,fun k t hk=> ?_⟩
 have hk64:k<64:=by have:=(List.getElem?_eq_some_iff.1 hk).1;omega
 rw [yB as 0 Env.nil k hk64 (by omega)]
 by_cases hlt:k<as.length
 · rw [if_pos ⟨Nat.zero_le _,by omega⟩]
   have:=EJ _ _ _ hid k (by omega)
   rw [hk] at this
   have ht:t=0+k:=Option.some.inj this
   rw [Nat.zero_add] at ht
   subst ht
   obtain ⟨v,hv⟩:∃v,as[t]? =some v:=⟨as[t],List.getElem?_eq_getElem hlt⟩
   obtain ⟨y,hy,hvy⟩:=hr.get hv
   have hget:(args++Array.replicate (N - args.size) undef).getD t undef=y:=by
    have:(args++Array.replicate (N - args.size) undef)[t]? =some y:=by
     rw [Array.getElem?_append_left (by omega)];simpa using hy
    simp [Array.getD_eq_getD_getElem?,this]
   rw [show t - 0=t from rfl,hv]
   show aM ι v ((args++Array.replicate (N - args.size) undef).getD t undef)
   rw [hget];exact hvy
 · rw [if_neg (by omega),Env.get_nil];trivial
theorem Ma (hmx:P.follows .mixedOrders=true) (hcs:o5 P call) (hcm:eF call) (hc:Je P F=true) {cv:List V} (hlen:cv.length=F.caps.length) {envr:Env} {h:Heap} {v:V} (hne:F.fin call cv envr h v≠.bad)
  {ι:Inj} {w:World} (g:Good ι h w) (hfree:OR.free ι h (F.fin call cv envr h v)) {caps:Array Value} (hr:aW ι cv caps.toList) {v':Value} (hv:aM ι v v') {u u':FrameMode}
  (hrec:∀(c₀:Frame) (cs:List Frame),c₀.mode=u→(recoverD (c₀::cs)=some (v',{c₀ with mode:=u'}::cs))∨(recoverD (c₀::cs)=none∧v'= .nilIface∧u'=u))
  {R:Ending→FrameMode→World→Prop}
  (hR:∀vs h3 ι' w',F.fin call cv envr h v= .ok (one vs) h3→results envr h3 F.results=some vs→Chg ι h w ι' h3 w'→R (.returned (.tuple #[])) u' w'):
  (∃gn,P.funcs[F.clo]? =some gn∧gn.body.isSome=true∧(gn.name== "runtime.NumGoroutine")=false)∧CallsD P F.clo caps u w R:=by
 unfold Je at hc
 cases hf:P.funcs[F.clo]? with
 |none=>rw [hf] at hc;cases hc
 |some gn=>
  rw [hf] at hc
  have hc:=Bool.aL hc
  have hname:(gn.name== "runtime.NumGoroutine")=false:=by simpa using hc.1
  have hc:=hc.2
  split at hc
  · rename_i i0 ops0 c3 hbody
    split at hc
    · rename_i rc hops
      split at hc
      · rename_i cargs ctys tr hop hdst hgd
        have b0:=Bool.aL hc;have b1:=Bool.aL b0.1;have b2:=Bool.aL b1.2;have b3:=Bool.aL b0.2;have b4:=Bool.aL b3.1;have b5:=Bool.aL b4.2;have b6:=Bool.aL b5.2
        have b7:=Bool.aL b3.2;have b8:=Bool.aL b7.2
        have htr:F.gtemps[F.gk]? =some tr:=by simpa using b1.1
        have htrN:tr<gn.ntmps:=by simpa using b2.1
        have h64:F.gtemps.length≤64:=by simpa using b4.1
        have hcg:F.caps.length≤F.gk:=by simpa using b5.1
        have hgk:F.gk<F.gtemps.length:=by simpa using b6.1
        have hcN:F.caps.length≤gn.ntmps:=by simpa using b7.1
        refine ⟨⟨gn,rfl,by rw [hbody];rfl,hname⟩,callsD_of_wpS hf hbody fun c₀ cs hu=> ?_⟩
        have hact:=Dq (np:=F.caps.length) (N:=gn.ntmps) h64 (by omega) hcN b6.2 hlen hr
        generalize hA:({tmps:=caps++Array.replicate (gn.ntmps - caps.size) undef,defers:=[]}:Act)=A0 at hact ⊢
        have htrlt:tr<A0.tmps.size:=by rw [hact.size];exact htrN
        have hact2:oI [] ι F.gtemps gn.ntmps (Env.set (bA F.gk).1 (bA F.gk).2 v (dx cv 0 Env.nil)) (A0.put (some tr) v'):=by
         refine ⟨mU.trans hact.size,put_defers.trans hact.defers,fun k t hk=> ?_⟩
         have hk64:k<64:=by have:=(List.getElem?_eq_some_iff.1 hk).1;omega
         show aM ι _ ((A0.tmps.setIfInBounds tr v').getD t undef)
         rw [mP htrlt,Env.bQ]
         by_cases hkg:k=F.gk
         · subst hkg
           rw [htr] at hk;cases hk
           rw [if_pos ⟨rfl,rfl⟩,if_pos rfl];exact hv
         · rw [if_neg (fun e=>hkg (vV hk64 (by omega) (Prod.ext e.1 e.2)))]
           have hne:t≠tr:=by
            intro e;subst e
            have:=List.all_eq_true.1 b2.2 (t,k) (List.mem_zipIdx_iff_getElem?.2 hk)
            simp at this;exact hkg this
           rw [if_neg hne];exact hact.tmps k t hk
        have hfin:F.fin call cv envr h v=(CR.rec (fun x _ h3=>X.rec (finish F.results envr h3) (finish F.results envr h3) (fun _=> .bad) (fun _=> .bad) x) .bad (code F.gbody call bV (Env.set (bA F.gk).1 (bA F.gk).2 v (dx cv 0 Env.nil)) h):OR):=by
         unfold lF.fin;rw [lD,Env.dM]
        have rest:∀cs',c3.wp P (fun e a' w'=>cs'={c₀ with mode:=u'}::cs→bodyPostS P gn c₀ cs R e a' cs' w') (A0.put (some tr) v') w:=by
         intro cs'
         cases hcode:code F.gbody call bV (Env.set (bA F.gk).1 (bA F.gk).2 v (dx cv 0 Env.nil)) h with
         |bad=>rw [hfin,hcode] at hne;exact absurd rfl hne
         |ok x env3 h3=>
          have fin:F.fin call cv envr h v=finish F.results envr h3→∃vs,results envr h3 F.results=some vs∧F.fin call cv envr h v= .ok (one vs) h3:=by
           intro e
           have e2:F.fin call cv envr h v=(Option.rec .bad (fun vs=> .ok (one vs) h3) (results envr h3 F.results):OR):=e
           cases hrs:results envr h3 F.results with
           |none=>rw [hrs] at e2;exact absurd e2 hne
           |some vs=>rw [hrs] at e2;exact ⟨vs,rfl,e2⟩
          have done:F.fin call cv envr h v=finish F.results envr h3→d9 ι h h3∧∀ι' (a':Act) w',Chg ι h w ι' h3 w'→a'.defers=[]→cs'={c₀ with mode:=u'}::cs→a'.defers=[]∧∃u',cs'={c₀ with mode:=u'}::cs∧∃v,(Go.results gn a'.tmps).run P w'= .ok v w'∧R (.returned v) u' w':=by
           intro e
           obtain ⟨vs,h1,h2⟩:=fin e
           refine ⟨by rw [h2] at hfree;exact hfree,fun ι' a' w' c' hd hcs'=>⟨hd,u',hcs', .tuple #[], ?_,hR vs h3 ι' w' h2 h1 c'⟩⟩
           have hnil:gn.results= #[]:=by
            have:=b8.2
            have h0:gn.results.toList=[]:=by simpa using this
            exact Array.toList_eq_nil_iff.1 h0
           unfold Go.results
           rw [hnil]
           simp
          cases x with
          |nrm=>
           obtain ⟨hf3,k⟩:=done (by rw [hfin,hcode])
           exact fT hmx hcs hcm c3 F.gbody b8.1 bV hcode hact2 g hf3 fun ι' a' w' c' r'=>k ι' a' w' c' r'.defers
          |ret=>
           obtain ⟨hf3,k⟩:=done (by rw [hfin,hcode])
           exact fT hmx hcs hcm c3 F.gbody b8.1 bV hcode hact2 g hf3 fun ι' a' w' c' r'=>k ι' a' w' c' r'.defers
          |exit i=>rw [hfin,hcode] at hne;exact absurd rfl hne
          |pan v=>rw [hfin,hcode] at hne;exact absurd rfl hne
        refine wpS_seq (wpS_region ?_)
        have hsz:ops0= #[rc]:=by rw [←Array.toArray_toList (xs:=ops0),hops]
        have hrun:(execOp A0.eval rc).run P w= .ok .recover w:=by
         simp [execOp,hop,resolve,invoke,builtin]
        have hw:Region.wanted rc (yielded ops0 A0.tmps)=true:=by simp [Region.wanted,hgd]
        rw [hsz] at hw ⊢
        show wpOpsS P #[rc] _ [0] A0 (c₀::cs) w
        simp only [wpOpsS,List.getElem?_toArray,List.getElem?_cons_zero,hw,if_true,hrun,hdst]
        rcases hrec c₀ cs hu with h1|⟨h1,h2,h3⟩
        · rw [h1]
          exact wp_mono (rest ({c₀ with mode:=u'}::cs)) (fun e a w h=>h rfl) |> wpS_of_wp
        · rw [h1]
          subst h2 h3
          exact wp_mono (rest (c₀::cs)) (fun e a w h=>h (by rw [←hu])) |> wpS_of_wp
      · cases hc
    · cases hc
  · cases hc
end
end
end Go.Eng
namespace Go.Eng
noncomputable section
section
variable {P:Program} {call:dN} {F:lF}
theorem Jf (hmx:P.follows .mixedOrders=true) (hcs:o5 P call) (hcm:eF call) {f:Nat} (hc:Dn P f F=true) {as:List V} {h:Heap} (hne:xg F call as h≠.bad):
  j5 P f∧∀ι w (args:Array Value),Good ι h w→OR.free ι h (xg F call as h)→aW ι as args.toList→Calls P f args w (rU ι h w (xg F call as h)):=by
 unfold Dn at hc
 cases hf:P.funcs[f]? with
 |none=>rw [hf] at hc;cases hc
 |some fn=>
  rw [hf] at hc
  have hc:=Bool.aL hc
  have hname:fn.name≠ "runtime.NumGoroutine" :=by simpa using hc.1
  have hc:=hc.2
  split at hc
  · rename_i c1 i1 ops1 i2 ops2 hbody
    have b1:=Bool.aL hc;have b2:=Bool.aL b1.1;have b3:=Bool.aL b2.2;have b3b:=Bool.aL b3.2;have b4:=Bool.aL b1.2;have b5:=Bool.aL b4.1;have b6:=Bool.aL b5.2;have b7:=Bool.aL b4.2;have b8:=Bool.aL b7.2;have b9:=Bool.aL b8.2;have b10:=Bool.aL b9.1
    have h64:F.temps.length≤64:=by simpa using b2.1
    have hnp:F.np≤F.temps.length:=by simpa using b3.1
    have hnd:=yu _ b3b.2
    have hnt:F.np≤fn.ntmps:=by simpa using b5.1
    refine ⟨⟨fn,hf,by simpa using hname,by rw [hbody];rfl⟩,fun ι w args g hfree hr=> ?_⟩
    obtain ⟨r,hrun⟩:∃r,r=xg F call as h:=⟨_,rfl⟩
    rw [←hrun] at hne hfree ⊢
    have hrun2:r=(Bool.rec .bad (CR.rec (fun x env1 h1=>X.rec (F.go call env1 h1) .bad (fun _=> .bad) (fun _=> .bad) x) .bad (Go.Eng.args as 0 Env.nil fun env=>code F.pre call bV env h)) ((eO as).beq F.np):OR):=hrun
    cases hlen:(eO as).beq F.np with
    |false=>rw [hlen] at hrun2;exact absurd hrun2 hne
    |true=>
     have hl:as.length=F.np:=by rw [fF] at hlen;exact Nat.eq_of_beq_eq_true hlen
     rw [hlen] at hrun2
     have hrun2:r=(CR.rec (fun x env1 h1=>X.rec (F.go call env1 h1) .bad (fun _=> .bad) (fun _=> .bad) x) .bad (code F.pre call bV (dx as 0 Env.nil) h):OR):=by rw [hrun2,lD]
     have hact:=Dq (N:=fn.ntmps) h64 hnp hnt b3b.1 hl hr
     refine calls_of_wp_defers hf hbody ?_
     cases hcode:code F.pre call bV (dx as 0 Env.nil) h with
     |bad=>rw [hcode] at hrun2;exact absurd hrun2 hne
     |ok x env1 h1=>
      rw [hcode] at hrun2
      cases x with
      |ret=>exact absurd hrun2 hne
      |exit i=>exact absurd hrun2 hne
      |pan v=>exact absurd hrun2 hne
      |nrm=>
       have hgo:r=F.go call env1 h1:=hrun2
       have hnx:=Kt (F:=F) hcm env1 h1
       rw [←hgo] at hnx
       have hfree1:d9 ι h h1:=by
        cases r with
        |ok v h'=>exact d9.left (h2:=h') hfree hnx
        |pan v h'=>exact d9.left (h2:=h') hfree hnx
        |bad=>exact absurd rfl hne
       refine wp_seq (fT hmx hcs hcm c1 F.pre b6.1 bV hcode hact g hfree1 fun ι1 a1 w1 ch1 r1=> ?_)
       show (Code.seq _ _).wp P _ a1 w1
       have hdf:=b7.1
       unfold chkDf at hdf
       split at hdf
       · rename_i mf df hops1
         have hsz1:ops1= #[mf,df]:=by rw [←Array.toArray_toList (xs:=ops1),hops1]
         split at hdf
         · rename_i gg first cs t hop hdst hgd
           have hdf:=Bool.aL hdf
           have d1:=Bool.aL hdf.1;have d2:=Bool.aL d1.2;have d3:=Bool.aL d2.2;have d4:=Bool.aL d3.2
           have hgg:gg=F.clo:=by simpa using d1.1
           have hfirst:first= #[]:=Array.toList_eq_nil_iff.1 (by simpa using d2.1)
           have htN:t<fn.ntmps:=by simpa using d4.1
           have htt:t∉F.temps:=by
            have:=d4.2
            simpa using this
           have hdf2:=hdf.2
           split at hdf2
           · rename_i cc hop2 hdst2 hgd2
             have e1:=Bool.aL hdf2
             have hcargs:cc.args= #[]:=Array.toList_eq_nil_iff.1 (by simpa using e1.1)
             have e2:=e1.2
             split at e2
             · rename_i t' hcal
               have htt':t'=t:=by simpa using e2
               subst htt'
               subst hgg hfirst
               have hcaps:aW ι1 (evs F.caps fun a=>a.ev [] env1) (cs.map a1.eval).toList:=by
                have:=sM (ev:=fun a=>A.ev a [] env1) (jM r1.start) cs.toList F.caps d3.1
                simpa using this
               have htlt:t'<a1.tmps.size:=by rw [r1.size];exact htN
               let D:Deferred:={target:= .fn (.func F.clo) (cs.map a1.eval),args:= #[]}
               let a2:Act:={a1.put (some t') (.func (.func F.clo) #[] (cs.map a1.eval)) with defers:=[D]}
               have hput:(a1.put (some t') (.func (.func F.clo) #[] (cs.map a1.eval))).tmps.getD t' undef= .func (.func F.clo) #[] (cs.map a1.eval):=by
                show (a1.tmps.setIfInBounds t' _).getD t' undef=_
                rw [mP htlt,if_pos rfl]
               have hstr:StR ι1 (Fct.start F.temps) [] env1 env1 a2.tmps:=by
                have r2:oI [] ι1 F.temps fn.ntmps env1 {a2 with defers:=[]}:=by
                 refine ⟨mU.trans r1.size,rfl,fun k u hk=> ?_⟩
                 show aM ι1 _ ((a1.tmps.setIfInBounds t' _).getD u undef)
                 rw [mP htlt,if_neg (by intro e;subst e;exact htt (List.mem_of_getElem? hk))]
                 exact r1.tmps k u hk
                exact r2.start
               refine wp_seq (wp_region ?_)
               have hl1:=wpOps_eq_wpList (P:=P) (ops:=ops1) (Q:=Exit.then ((Code.seq (.region i2 ops2 false) .ret).wp P (bodyPostD P fn (rU ι h w r))) (bodyPostD P fn (rU ι h w r))) ops1.toList 0 (fun j=>by simp)
               rw [List.range_eq_range',show ops1.size=ops1.toList.length by simp,hl1,hops1]
               refine nY (by simp [Region.wanted,hgd]) ?_
               have hrun1:(execOp a1.eval mf).run P w1= .ok (.value (.func (.func F.clo) #[] (cs.map a1.eval))) w1:=by
                simp [execOp,hop,Instr.makeFunc,Result.andThen]
               unfold Oper.wp
               rw [hrun1,Oper.upon_value,hdst]
               refine nY (by simp [Region.wanted,hgd2]) ?_
               have hrun2':(execOp (a1.put (some t') (.func (.func F.clo) #[] (cs.map a1.eval))).eval df).run P w1= .ok (.defer D) w1:=by
                have he:(a1.put (some t') (.func (.func F.clo) #[] (cs.map a1.eval))).eval (.tmp t')= .func (.func F.clo) #[] (cs.map a1.eval):=hput
                simp only [execOp,hop2,resolve,hcal,hcargs,he,Deferred.ofValue]
                simp [D,Result.andThen]
               unfold Oper.wp
               rw [hrun2',Oper.upon_defer,hdst2]
               have hd1:(a1.put (some t') (.func (.func F.clo) #[] (cs.map a1.eval))).defers=[]:=put_defers.trans r1.defers
               rw [hd1]
               show (Code.seq (.region i2 ops2 false) .ret).wp P (bodyPostD P fn (rU ι h w r)) a2 w1
               have last:∀(u u':FrameMode) (v:V) (v':Value) (envr:Env) (ι2:Inj) (h2:Heap) (a':Act) (w2:World),u≠.run→settle u'= .returning→
                 (∀(c₀:Frame) (cs:List Frame),c₀.mode=u→(recoverD (c₀::cs)=some (v',{c₀ with mode:=u'}::cs))∨(recoverD (c₀::cs)=none∧v'= .nilIface∧u'=u))→
                 r=F.fin call (evs F.caps fun a=>a.ev [] env1) envr h2 v→Chg ι1 h1 w1 ι2 h2 w2→aM ι2 v v'→a'.defers=[D]→oI [] ι2 F.temps fn.ntmps envr {a' with defers:=[]}→Leaves P fn a'.tmps (rU ι h w r) a'.defers u w2:=by
                intro u u' v v' envr ι2 h2 a' w2 hu hset hrec hrf c2 hv hd ra
                have hnx2:=tF (F:=F) hcm (evs F.caps fun a=>a.ev [] env1) envr h2 v
                rw [←hrf] at hnx2
                have hn12:=c2.ext.2.1
                have hf2:OR.free ι2 h2 r:=by
                 cases r with
                 |ok v h'=>exact (d9.right (h2:=h') hfree ch1.ext).right c2.ext
                 |pan v h'=>exact (d9.right (h2:=h') hfree ch1.ext).right c2.ext
                 |bad=>exact absurd rfl hne
                have hfr1:d9 ι1 h1 h2:=by
                 cases r with
                 |ok v h'=>exact (d9.right (h2:=h') hfree ch1.ext).left hnx2
                 |pan v h'=>exact (d9.right (h2:=h') hfree ch1.ext).left hnx2
                 |bad=>exact absurd rfl hne
                rw [hd]
                obtain ⟨⟨gn,k1,k2,k3⟩,k4⟩:=Ma (u:=u) (u':=u') (R:=fun e u' w'=>match e with
                 | .returned _=>Leaves P fn a'.tmps (rU ι h w r) [] (settle u') w'
                 | .panicked chain=>Leaves P fn a'.tmps (rU ι h w r) [] (raised u' chain) w'
                 | .outgrown=>rU ι h w r .outgrown w') hmx hcs hcm b9.2 (by simp) (by rw [←hrf];exact hne) c2.good (by rw [←hrf];exact hf2) (hcaps.mono c2.ext.1) hv hrec (fun vs h3 ι3 w3 e1 e2 c3=>by
                   show Leaves P fn a'.tmps (rU ι h w r) [] (settle u') w3
                   rw [hset]
                   obtain ⟨vs',m1,m2⟩:=tC (P:=P) c3.good (ra.mono c3.ext.1) fn.results.toList F.results b6.2 vs e2
                   refine ⟨(if h:vs'.toArray.size=1 then vs'.toArray[0] else .tuple vs'.toArray), ?_, ?_⟩
                   · unfold Go.results
                     rw [Array.mapM_eq_mapM_toList]
                     simp only [Sem.run_bind,Sem.run_map]
                     erw [m1]
                     rfl
                   · rw [hrf,e1]
                     have hn23:=c3.ext.2.1
                     exact ⟨ι3,ch1.trans (c2.trans c3 hfr1) hfree1,aW.one_ (by simpa using m2)⟩)
                refine ⟨hu, .func F.clo,cs.map a1.eval,F.clo,cs.map a1.eval,rfl, ?_,fun c cs hm=> ?_⟩
                · have hb:j5 P F.clo:=⟨gn,k1,k3,k2⟩
                  have:=wX (P:=P) (w:=w2) hb (cs.map a1.eval)
                  show (callFunc F.clo (#[]++cs.map a1.eval)).run P w2=_
                  rw [Array.empty_append];exact this
                · obtain ⟨e,u2,w3,fr,n1,n2,n3,n4⟩:=k4 c cs hm
                  exact ⟨e,u2,w3,fr,by cases e<;>exact n1,n2,n3,n4⟩
               have hgo2:r=(CR.rec (fun x env2 h2=>X.rec (F.fin call (evs F.caps fun a=>a.ev [] env1) env2 h2 .ifcN) .bad (fun _=> .bad) (fun v=>F.fin call (evs F.caps fun a=>a.ev [] env1) (clr F.ws env1) h2 v) x) .bad (eu F.ops call [] env1 h1):OR):=hgo
               cases hops:eu F.ops call [] env1 h1 with
               |bad=>rw [hops] at hgo2;exact absurd hgo2 hne
               |ok x2 env2 h2=>
                rw [hops] at hgo2
                have hn2:=p8 hcm F.ops [] env1 h1
                rw [hops] at hn2
                cases hF:vQ P fn.ntmps F.acts ops2 ops2.toList 0 F.ops (Fct.start F.temps) with
                |none=>rw [hF] at b8;exact absurd b8.1 (by simp [yx])
                |some F'=>
                 have hend:zB F' F.temps 0=true:=by have:=b8.1;rw [hF] at this;exact this
                 have hne2:h2.next≤(match r with| .ok _ h'=>h'.next| .pan _ h'=>h'.next| .bad=>h2.next):=by
                  cases x2 with
                  |nrm=>
                   have e:r=F.fin call (evs F.caps fun a=>a.ev [] env1) env2 h2 .ifcN:=hgo2
                   have:=tF (F:=F) hcm (evs F.caps fun a=>a.ev [] env1) env2 h2 .ifcN
                   rw [←e] at this
                   cases r<;>first|exact this|exact Nat.le_refl _
                  |ret=>exact absurd hgo2 hne
                  |exit i=>exact absurd hgo2 hne
                  |pan v=>
                   have e:r=F.fin call (evs F.caps fun a=>a.ev [] env1) (clr F.ws env1) h2 v:=hgo2
                   have:=tF (F:=F) hcm (evs F.caps fun a=>a.ev [] env1) (clr F.ws env1) h2 v
                   rw [←e] at this
                   cases r<;>first|exact this|exact Nat.le_refl _
                 have hf12:d9 ι1 h1 h2:=by
                  cases r with
                  |ok v h'=>exact (d9.right (h2:=h') hfree ch1.ext).left hne2
                  |pan v h'=>exact (d9.right (h2:=h') hfree ch1.ext).left hne2
                  |bad=>exact absurd rfl hne
                 refine wp_seq (wp_region ?_)
                 have hl2:=wpOps_eq_wpList (P:=P) (ops:=ops2) (Q:=Exit.then (Code.ret.wp P (bodyPostD P fn (rU ι h w r))) (bodyPostD P fn (rU ι h w r))) ops2.toList 0 (fun j=>by simp)
                 rw [List.range_eq_range',show ops2.size=ops2.toList.length by simp,hl2]
                 refine qM (D:=[D]) (F':=F') hcs hcm ops2.toList 0 F.ops (Fct.start F.temps) [] env1 a2 w1 ι1 h1 hF hops hstr (mU.trans r1.size) rfl ch1.good hf12 (fun hx ι2 vs2 a' w2 c2 s2 hs2 hd2=> ?_) (fun v hx v' ι2 a' w2 c2 hv hd2 hs2 hk2=> ?_)
                 · subst hx
                   have e:r=F.fin call (evs F.caps fun a=>a.ev [] env1) env2 h2 .ifcN:=hgo2
                   have ra:oI [] ι2 F.temps fn.ntmps env2 {a' with defers:=[]}:=StR.end (a:={a' with defers:=[]}) s2 hend hs2 rfl
                   exact wp_ret (last .returning .returning .ifcN .nilIface env2 ι2 h2 a' w2 (by simp) rfl (fun c₀ cs hm=> .inr ⟨by simp [recoverD,hm],rfl,rfl⟩) e c2 rfl hd2 ra)
                 · subst hx
                   have e:r=F.fin call (evs F.caps fun a=>a.ev [] env1) (clr F.ws env1) h2 v:=hgo2
                   have hws:∀j∈F.ws,j<64:=fun j hj=>by have:=List.all_eq_true.1 b10.2 j hj;simpa using this
                   have ra:oI [] ι2 F.temps fn.ntmps (clr F.ws env1) {a' with defers:=[]}:=by
                    refine ⟨hs2,rfl,fun k t hk=> ?_⟩
                    · have hk64:k<64:=by have:=(List.getElem?_eq_some_iff.1 hk).1;omega
                      rw [Kr _ _ k hk64 hws]
                      by_cases hkw:k∈F.ws
                      · rw [if_pos hkw];trivial
                      · rw [if_neg hkw]
                        exact hk2 t _ _ (Dp _ b10.1 k t hk hkw) (L8 hnd hk)
                   exact last (.panicking [{v:=v',recovered:=false}]) (.panicking [{v:=v',recovered:=true}]) v v' (clr F.ws env1) ι2 h2 a' w2 (by simp) rfl (fun c₀ cs hm=> .inl (by simp [recoverD,hm])) e c2 hv hd2 ra
             · cases e2
           · cases hdf2
         · cases hdf
       · cases hdf
  · cases hc
end
end
end Go.Eng
namespace Go.Eng
noncomputable section
def Ctx.of (bJ:T Fun) (gY:T lF) (more:Nat→List V→Heap→OR):Ctx:=
 ⟨bJ,fun call f as h=>Option.rec (more f as h) (fun F=>xg F call as h) (T.get f gY)⟩
def lS (P:Program) (more:Nat→List V→Heap→OR):Prop:=∀f as h,
 OR.next h (more f as h)∧(more f as h≠.bad→j5 P f∧∀ι w (args:Array Value),Good ι h w→aW ι as args.toList→Calls P f args w (rU ι h w (more f as h)))
theorem EK {P:Program} (hmx:P.follows .mixedOrders=true) {bJ:T Fun} {gY:T lF} {more:Nat→List V→Heap→OR} (hd:allT (Dn P) gY=true) (hm:lS P more):yC P (Ctx.of bJ gY more):=by
 intro call hcs hcm f as h hn
 show OR.next h (Option.rec (more f as h) (fun F=>xg F call as h) (T.get f gY):OR)∧((Option.rec (more f as h) (fun F=>xg F call as h) (T.get f gY):OR)≠.bad→j5 P f∧∀ι w (args:Array Value),Good ι h w→OR.free ι h (Option.rec (more f as h) (fun F=>xg F call as h) (T.get f gY):OR)→aW ι as args.toList→Calls P f args w (rU ι h w (Option.rec (more f as h) (fun F=>xg F call as h) (T.get f gY):OR)))
 cases hg:T.get f gY with
 |none=>exact ⟨(hm f as h).1,fun hne=>⟨((hm f as h).2 hne).1,fun ι w args g _ hr=>((hm f as h).2 hne).2 ι w args g hr⟩⟩
 |some F=>
  have hc:=Gf hd hg
  exact ⟨L9 hcm as h,fun hne=>Jf hmx hcs hcm hc hne⟩
def noMore:Nat→List V→Heap→OR:=fun _ _ _=> .bad
theorem noMore_ok (P:Program):lS P noMore:=fun _ _ _=>⟨trivial,fun h=>absurd rfl h⟩
def isTrue (r:OR):Bool:=OR.rec (fun v _=>V.same v (.bool true)) (fun _ _=>false) false r
theorem Dr {r:OR} (h:isTrue r=true):∃h',r= .ok (.bool true) h':=by
 cases r with
 |ok v h'=>have:=V.same_eq v (.bool true) h;subst this;exact ⟨h',rfl⟩
 |pan v h'=>cases h
 |bad=>cases h
theorem law_run {P:Program} (hmx:P.follows .mixedOrders=true) {bJ:T Fun} {gY:T lF} {more:Nat→List V→Heap→OR} (hf:allT (CG P) bJ=true) (hd:allT (Dn P) gY=true) (hm:lS P more)
  {n f:Nat} {as:List V} (he:isTrue (lev (Ctx.of bJ gY more) n f as .none Heap.empty).1=true) {args:Array Value} (hr:aW Inj.none as args.toList) (w:World):
  Calls P f args w fun e w'=>e= .returned (.bool true)∧Kept w w':=by
 obtain ⟨h',e⟩:=Dr he
 exact Bg hmx (c:=Ctx.of bJ gY more) hf (EK hmx hd hm) e hr w
end
end Go.Eng
namespace Go.Eng
noncomputable section
def Jg (c:Nat) (l:List Nat):Nat→V:= @List.rec Nat (fun _=>Nat→V) (fun _=> .int .i64 (-1)) (fun b _ ih i=>Bool.rec (ih (Nat.succ i)) (kG .i64 i) (b.beq c)) l
def uU (f0:Nat):Nat→List V→Heap→OR:=fun f as h=>match f.beq f0,as with
 |true,[.str n x, .int .u8 (.ofNat c)]=>Bool.rec .bad ((Jg c (dU n x) 0).force fun v=> .ok v h) (c.blt 256)
 |_,_=> .bad
theorem EL (c:Nat) (hc:c<256):∀(l:List UInt8) (i:Nat),Jg c (l.map (·.toNat)) i=if Lib.indexByte l c.toUInt8= -1 then .int .i64 (-1) else .int .i64 (i+Lib.indexByte l c.toUInt8)
 |[],i=>rfl
 |b::l,i=>by
  show (Bool.rec (Jg c (l.map (·.toNat)) (Nat.succ i)) (kG .i64 i) (b.toNat.beq c):V)=_
  have hb:(b==c.toUInt8)=(b.toNat.beq c):=by
   have h1:c.toUInt8.toNat=c:=by simp;omega
   rw [nA]
   by_cases h:b=c.toUInt8
   · have:b.toNat=c:=by rw [h,h1]
     simp [h];omega
   · have:b.toNat≠c:=fun e=>h (UInt8.toNat_inj.1 (by rw [h1,e]))
     simp [h,this]
  unfold Lib.indexByte
  rw [hb]
  cases b.toNat.beq c with
  |true=>simp [jy]
  |false=>
   show Jg c (l.map (·.toNat)) (i+1)=_
   rw [EL c hc l (i+1)]
   have hge:=Lib.indexByte_ge l c.toUInt8
   by_cases h:Lib.indexByte l c.toUInt8= -1
   · simp [h]
   · have h2:¬(Lib.indexByte l c.toUInt8+1= -1):=by omega
     simp [h,h2];omega
theorem Jh {P:Program} {f0:Nat} (hb:j5 P f0) (hc:∀(s:ByteArray) (c:Int) (w:World),Calls P f0 #[.string s, .int .u8 c] w fun e w'=>e= .returned (.int .i64 (Lib.indexByte s.data.toList c.toNat.toUInt8))∧w'=w):lS P (uU f0):=by
 intro f as h
 unfold uU
 split
 · rename_i n x c hf
   have hf:f=f0:=Nat.eq_of_beq_eq_true hf
   subst hf
   cases hlt:c.blt 256 with
   |false=>exact ⟨trivial,fun h=>absurd rfl h⟩
   |true=>
    have hlt:c<256:=by rw [jJ] at hlt;simpa using hlt
    rw [V.force_eq]
    refine ⟨Nat.le_refl _,fun _=>⟨hb,fun ι w args g hr=> ?_⟩⟩
    obtain ⟨y1,l1,e1,r1,r2⟩:=hr
    obtain ⟨y2,l2,e2,r3,r4⟩:=r2
    have r4:l2=[]:=r4
    subst r4 e2
    obtain ⟨s,rfl,hs⟩:=r1
    have r3:y2= .int .u8 (Int.ofNat c):=r3
    subst r3
    have ha:args= #[.string s, .int .u8 (Int.ofNat c)]:=by rw [←Array.toArray_toList (xs:=args),e1]
    rw [ha]
    refine (hc s (Int.ofNat c) w).mono fun e w' he=> ?_
    obtain ⟨rfl,rfl⟩:=he
    refine ⟨ι,Chg.refl g, ?_⟩
    obtain ⟨h1,h2⟩:=hs
    have hsb:dU n x=s.data.toList.map (·.toNat):=by rw [←h1,←h2];exact iK _
    rw [hsb,EL c hlt]
    have hcn:(Int.ofNat c).toNat.toUInt8=c.toUInt8:=rfl
    rw [hcn]
    by_cases hm:Lib.indexByte s.data.toList c.toUInt8= -1
    · rw [if_pos hm,hm];rfl
    · rw [if_neg hm]
      show (Value.int .i64 _=Value.int .i64 _)
      congr 1;simp
 · exact ⟨trivial,fun h=>absurd rfl h⟩
end
end Go.Eng
namespace Go.Eng
noncomputable section
def xq:List C→C→C
 |[],r=>r
 |c::l,r=> .seq c (xq l r)
def Ku (r:CR):Env:=CR.rec (fun _ e _=>e) Env.nil r
def EM (r:CR):Heap:=CR.rec (fun _ _ h=>h) Heap.empty r
def Kv (r:CR):Bool:=CR.rec (fun x _ _=>X.rec true false (fun _=>false) (fun _=>false) x) false r
theorem isNrm_ok {r:CR} (h:Kv r=true):r= .ok .nrm (Ku r) (EM r):=by
 cases r with
 |bad=>cases h
 |ok x e hp=>cases x<;>first|rfl|cases h
theorem Dt (call:dN) (n:Nat) (r:C):∀(p:List C) (env:Env) (h:Heap),Kv (code (xq p .skip) call n env h)=true→
  code (xq p r) call n env h=code r call n (Ku (code (xq p .skip) call n env h)) (EM (code (xq p .skip) call n env h))
 |[],env,h,_=>rfl
 |c::l,env,h,hn=>by
  have e1:∀b,code (.seq c b) call n env h=(CR.rec (fun x env h=>X.rec (code b call n env h) (.ok .ret env h) (fun i=> .ok (.exit i) env h) (fun v=> .ok (.pan v) env h) x) .bad (code c call n env h):CR):=fun b=>rfl
  have hn:Kv (code (.seq c (xq l .skip)) call n env h)=true:=hn
  show code (.seq c (xq l r)) call n env h=code r call n (Ku (code (.seq c (xq l .skip)) call n env h)) (EM (code (.seq c (xq l .skip)) call n env h))
  rw [e1] at hn
  rw [e1,e1]
  cases hc:code c call n env h with
  |bad=>rw [hc] at hn;cases hn
  |ok x env1 h1=>
   rw [hc] at hn
   cases x with
   |nrm=>exact Dt call n r l env1 h1 hn
   |ret=>cases hn
   |exit i=>cases hn
   |pan v=>cases hn
theorem runFun_split {fn:Fun} {call:dN} {p:List C} {r:C} {as:List V} {h:Heap} (hb:fn.body=xq p r) (hl:(eO as).beq fn.np=true) (hn:Kv (code (xq p .skip) call bV (dx as 0 Env.nil) h)=true):
  Ni fn call as h=qA fn.results (code r call bV (Ku (code (xq p .skip) call bV (dx as 0 Env.nil) h)) (EM (code (xq p .skip) call bV (dx as 0 Env.nil) h))):=by
 unfold Ni jv
 rw [hl,lD,hb]
 show qA fn.results (code (xq p r) call bV (dx as 0 Env.nil) h)=_
 rw [Dt call bV r p _ _ hn]
def Row.same (s t:Row):Bool:=V.same s.a t.a&&(V.same s.b t.b&&(V.same s.c t.c&&(V.same s.d t.d&&(V.same s.e t.e&&(V.same s.f t.f&&(V.same s.g t.g&&V.same s.h t.h))))))
def Env.same (s t:Env):Bool:=Row.same s.a t.a&&(Row.same s.b t.b&&(Row.same s.c t.c&&(Row.same s.d t.d&&(Row.same s.e t.e&&(Row.same s.f t.f&&(Row.same s.g t.g&&Row.same s.h t.h))))))
def EZ {α:Type} (p:α→α→Bool):Option α→Option α→Bool
 |none,none=>true
 |some a,some b=>p a b
 |_,_=>false
def T.Ji {α:Type} (p:α→α→Bool) (s t:T α):Bool:=
 R8.same (R8.same (R8.same (EZ p))) s.x t.x&&(s.y.isNone&&(t.y.isNone&&(s.z.empty&&t.z.empty)))
def Bq:List Nat→List Nat→Bool
 |[],[]=>true
 |a::l,b::m=>a.beq b&&Bq l m
 |_,_=>false
def Fam.same (a b:Fam):Bool:=a.last.beq b.last&&Bq a.mem b.mem
def Heap.same (a b:Heap):Bool:=T.Ji Obj.same a.t b.t&&(a.next.beq b.next&&(T.Ji Fam.same a.aO b.aO&&(a.ds.isEmpty&&(b.ds.isEmpty&&((match a.pc with| .none=>true|_=>false)&&(match b.pc with| .none=>true|_=>false))))))
theorem Row.same_eq {s t:Row} (h:Row.same s t=true):s=t:=by
 have h1:=Bool.aL h;have h2:=Bool.aL h1.2;have h3:=Bool.aL h2.2;have h4:=Bool.aL h3.2
 have h5:=Bool.aL h4.2;have h6:=Bool.aL h5.2;have h7:=Bool.aL h6.2
 cases s;cases t
 simp only [Row.mk.injEq]
 exact ⟨V.same_eq _ _ h1.1,V.same_eq _ _ h2.1,V.same_eq _ _ h3.1,V.same_eq _ _ h4.1,V.same_eq _ _ h5.1,V.same_eq _ _ h6.1,V.same_eq _ _ h7.1,V.same_eq _ _ h7.2⟩
theorem Env.same_eq {s t:Env} (h:Env.same s t=true):s=t:=by
 have h1:=Bool.aL h;have h2:=Bool.aL h1.2;have h3:=Bool.aL h2.2;have h4:=Bool.aL h3.2
 have h5:=Bool.aL h4.2;have h6:=Bool.aL h5.2;have h7:=Bool.aL h6.2
 cases s;cases t
 simp only [Env.mk.injEq]
 exact ⟨Row.same_eq h1.1,Row.same_eq h2.1,Row.same_eq h3.1,Row.same_eq h4.1,Row.same_eq h5.1,Row.same_eq h6.1,Row.same_eq h7.1,Row.same_eq h7.2⟩
theorem Jj {α:Type} {p:α→α→Bool} (hp:∀a b,p a b=true→a=b) (a b:Option α) (h:EZ p a b=true):a=b:=by
 cases a<;>cases b<;>simp [EZ] at h
 · rfl
 · rw [hp _ _ h]
theorem T.Du {α:Type} {p:α→α→Bool} (hp:∀a b,p a b=true→a=b) (s t:T α) (h:T.Ji p s t=true):s=t:=by
 have h1:=Bool.aL h;have h2:=Bool.aL h1.2;have h3:=Bool.aL h2.2;have h4:=Bool.aL h3.2
 have e1:=R8.same_eq (R8.same_eq (R8.same_eq (Jj hp))) _ _ h1.1
 have e3:=B.empty_eq h4.1;have e4:=B.empty_eq h4.2
 have e5:s.y=none:=by simpa using h2.1
 have e6:t.y=none:=by simpa using h3.1
 cases s;cases t
 simp only [T.mk.injEq]
 exact ⟨e1,e5.trans e6.symm,e3.trans e4.symm⟩
theorem zD:∀(a b:List Nat),Bq a b=true→a=b
 |[],[],_=>rfl
 |a::l,b::m,h=>by have h:=Bool.aL h;rw [Nat.eq_of_beq_eq_true h.1,zD l m h.2]
theorem Fam.same_eq (a b:Fam) (h:Fam.same a b=true):a=b:=by
 have h:=Bool.aL h
 cases a;cases b
 simp only [Fam.mk.injEq]
 exact ⟨Nat.eq_of_beq_eq_true h.1,zD _ _ h.2⟩
theorem Heap.same_eq {a b:Heap} (h:Heap.same a b=true):a=b:=by
 have h1:=Bool.aL h;have h2:=Bool.aL h1.2;have h3:=Bool.aL h2.2;have h4:=Bool.aL h3.2;have h5:=Bool.aL h4.2;have h6:=Bool.aL h5.2
 obtain ⟨at1,an,af,ad,ap⟩:=a
 obtain ⟨bt,bn,bf,bd,bp⟩:=b
 have e1:at1=bt:=T.Du Obj.same_eq _ _ h1.1
 have e2:an=bn:=Nat.eq_of_beq_eq_true h2.1
 have e3:af=bf:=T.Du Fam.same_eq _ _ h3.1
 have e4:ad=[]:=by have:=h4.1;simpa using this
 have e5:bd=[]:=by have:=h5.1;simpa using this
 have e6:ap= .none:=by have:=h6.1;revert this;cases ap<;>simp
 have e7:bp= .none:=by have:=h6.2;revert this;cases bp<;>simp
 rw [e1,e2,e3,e4,e5,e6,e7]
def Gh (p:Nat→Bool) (n:Nat):Bool:=Nat.rec true (fun k ih=>Bool.rec false ih (p k)) n
theorem Gi {p:Nat→Bool}:∀{n:Nat},Gh p n=true→∀k,k<n→p k=true
 |0,_,k,hk=>by omega
 |n+1,h,k,hk=>by
  have h:(Bool.rec false (Gh p n) (p n):Bool)=true:=h
  cases hp:p n with
  |false=>rw [hp] at h;cases h
  |true=>
   rw [hp] at h
   by_cases e:k=n
   · rw [e];exact hp
   · exact Gi h k (by omega)
end
end Go.Eng
