/- Part of a proof of a law: rules of an evaluator, contracts, plain laws. No condition of its own. -/
import Derived.Test.YtmcjcbldmoijiaaGreatDoorEngA
import Derived.Laws.AppendOwn
import Derived.Laws.CopyRow
import Derived.Tactics
import Derived.LoopN
import Derived.Orders
import Derived.Scope
import Derived.Below
import Derived.Recover
import Derived.KernelRfl
import Derived.Lib.Bytealg
set_option linter.unusedVariables false
set_option linter.unusedSimpArgs false
namespace Go.Eng
noncomputable section
section
variable {P:Program} {ι:aY} {h:ae} {w:World} {bn:jl} {ev:dr} {bC:Operand→Value} {o:Oper} {aG:Obj} {v:V}
def IH:hh→Bool
 | .alloc .. | .box .. | .eS .. | .uZ .. | .wH| .n2 .. =>true
 |_=>false
theorem ep {o:Obj} {v:V}:bE.new o v≠.bad:=by simp
theorem WG {b o n:Nat} {c:Option Nat} (h:tE b o n c= .new aG v):False:=by simp [tE] at h
theorem EF {b o i j m r:Nat} (h:nx b o i j m r= .new aG v):False:=by rw [Nb] at h;cases h
theorem WH {r b o n:Nat} {cap:Option Nat} {i j:Nat} {mx:Option (Option Nat)} (he:ny r b o n cap i j mx h= .new aG v):False:=by
 unfold ny at he
 split at he
 · exact EF (o9 ep he).2
 · exact EF (o9 ep he).2
 · exact EF (o9 ep he).2
 · split at he
   · exact WG (o9 ep he).2
   · cases he
 · cases he
theorem Nt {e:hh} (he:light e ev h= .new aG v):IH e=true:=by
 cases e<;>first|rfl|exfalso
 case cV=>cases he
 case pick=>obtain ⟨t,_,he⟩:=Eo ep he;cases t<;>cases he
 case build=>obtain ⟨_,_,he⟩:=j0 ep he;rw [l4] at he;cases he
 case load=>obtain ⟨_,_,_,he⟩:=vj ep he;obtain ⟨_,_,he⟩:=o7 ep he;cases he
 case da=>obtain ⟨_,_,_,he⟩:=vj ep he;obtain ⟨_,_,he⟩:=j0 ep he;rw [l4] at he;cases he
 case oY=>obtain ⟨_,_,he⟩:=o7 ep he;cases he
 case bin=>obtain ⟨_,_,_,he⟩:=qf ep he;obtain ⟨_,_,_,he⟩:=qf ep he;obtain ⟨_,he⟩:=o8 ep he;obtain ⟨_,_,he⟩:=o7 ep he;cases he
 case e8=>obtain ⟨_,_,_,he⟩:=sz ep he;obtain ⟨_,_,_,he⟩:=sz ep he;obtain ⟨_,_,he⟩:=o7 ep he;cases he
 case lp=>obtain ⟨_,_,_,he⟩:=qf ep he;obtain ⟨_,_,_,he⟩:=qf ep he;obtain ⟨_,_,he⟩:=o7 ep he;cases he
 case eq=>obtain ⟨_,_,he⟩:=j0 ep he;cases he
 case neg=>obtain ⟨_,_,_,he⟩:=qf ep he;rw [su] at he;cases he
 case not=>obtain ⟨_,_,he⟩:=Eo ep he;cases he
 case conv=>obtain ⟨_,_,_,he⟩:=qf ep he;cases he
 case q5 a=>
  have he:(match ev a with
        | .U=> .val (.str 0 0)
        | .au b o n _=>Option.rec .bad (fun l=>Option.rec .bad (fun x=> .val (q8 x.1 x.2)) (bytesOf l)) (h.load b o n)
        |_=> .bad)=bE.new aG v:=he
  split at he
  · cases he
  · obtain ⟨_,_,he⟩:=j0 ep he;obtain ⟨_,_,he⟩:=j0 ep he;cases he
  · cases he
 case ez=>cases he
 case fn=>cases he
 case n3=>obtain ⟨_,_,_,he⟩:=sz ep he;obtain ⟨_,_,he⟩:=j0 ep he;obtain ⟨_,_,he⟩:=j0 ep he;obtain ⟨_,he⟩:=o8 ep he;cases he
 case jU r a br ag mx=>
  have he:(match ev a with
    | .U=>match dM ag ev 0,dM br ev 0,dM mx ev 0 with
      |some 0,some 0,some 0=> .val .U
      |_,_,_=> .bad
    | .au b o n cap=>match dM ag ev n,dM br ev 0 with
      |some j,some i=>ny r b o n cap i j (Option.rec none (fun x=>some (ev x).asNat) mx) h
      |_,_=> .bad
    |_=> .bad)=bE.new aG v:=he
  split at he
  · split at he<;>cases he
  · split at he
    · exact WH he
    · cases he
  · cases he
 case u0 n r a br ag mx=>
  have he:(match (ev a).lo with
  |some (b,o)=>match dM ag ev n,dM br ev 0,dM mx ev n with
   |some j,some i,some m=>bif i.ble j&&(j.ble m&&m.ble n) then nx b o i j m r else .bad
   |_,_,_=> .bad
  |none=> .bad)=bE.new aG v:=he
  split at he
  · split at he
    · exact EF (o9 ep he).2
    · cases he
  · cases he
 case bK=>obtain ⟨_,_,_,he⟩:=vj ep he;rw [force_eq] at he;cases he
 case field off n sg a=>
  obtain ⟨_,_,he⟩:=Ve ep he
  cases sg with
  |false=>obtain ⟨_,_,he⟩:=o7 ep he;cases he
  |true=>obtain ⟨_,he⟩:=o8 ep he;rw [l4] at he;cases he
 case bY=>obtain ⟨_,_,_,_,_,he⟩:=MR ep he;obtain ⟨_,_,_,he⟩:=y7 ep he;obtain ⟨_,he⟩:=o8 ep he;rw [force_eq] at he;cases he
 case si=>obtain ⟨_,_,_,he⟩:=vj ep he;obtain ⟨_,_,_,he⟩:=y7 ep he;obtain ⟨_,he⟩:=o8 ep he;rw [force_eq] at he;cases he
 case kT=>obtain ⟨_,_,_,he⟩:=sz ep he;obtain ⟨_,_,_,he⟩:=y7 ep he;obtain ⟨_,he⟩:=o8 ep he;cases he
 case lookup q zero ok m k=>
  have he:(match ev m with
    | .kp=> .val (yN ok zero false)
    | .map b=>Obj.map? .bad (fun es _=>Mt q zero ok (ev k) es) (h.obj b)
    |_=> .bad)=bE.new aG v:=he
  split at he
  · cases he
  · obtain ⟨_,_,_,he⟩:=M9 ep he
    obtain ⟨r,_,he⟩:=j0 ep he
    cases r<;>cases he
  · cases he
 case AX t zero ok a=>
  have he:(match ev a with
    | .ez u v=>bif u.beq t then .val (yN ok v true) else bif ok then .val (.dh [zero, .bool false]) else .bad
    | .jG=>bif ok then .val (.dh [zero, .bool false]) else .bad
    |_=> .bad)=bE.new aG v:=he
  split at he
  · rename_i u y _
    cases hb:Nat.beq u t<;>simp [hb] at he
    cases ok<;>simp at he
  · cases ok<;>simp at he
  · cases he
 case ext=>obtain ⟨_,_,he⟩:=MS ep he;obtain ⟨_,_,he⟩:=o7 ep he;cases he
 case len str a=>
  cases str with
  |true=>obtain ⟨_,_,_,he⟩:=sz ep he;cases he
  |false=>rcases MT ep he with ⟨_,he⟩|⟨_,_,_,_,_,he⟩<;>cases he
 case wI a=>
  have he:(match ev a with
        | .kp=> .val (.int .i64 (.ofNat 0))
        | .map b=>Obj.map? .bad (fun es _=> .val (ir .i64 es.length)) (h.obj b)
        |_=> .bad)=bE.new aG v:=he
  split at he
  · cases he
  · obtain ⟨_,_,_,he⟩:=M9 ep he;cases he
  · cases he
 case cap a=>
  have he:(match ev a with
   | .U=> .val (.int .i64 (.ofNat 0))
   | .au _ _ _ (some c)=> .val (ir .i64 c)
   |_=> .bad)=bE.new aG v:=he
  split at he<;>cases he
 case AY mx a b=>
  have he:(match (ev a).asInt,(ev b).asInt with
   |some (kd,a),some (yO,b)=>bif nw kd yO then .val (.int kd (bif mx then (bif l0 a b then b else a) else (bif l0 b a then b else a))) else .bad
   |_,_=> .bad)=bE.new aG v:=he
  split at he
  · have:=(o9 ep he).2;cases this
  · cases he
theorem Nu (g:Good ι h w) (bq:∀x a,bn x a=true→bD ι (ev a) (bC x)) {e:hh} (hok:dn P bn o.op e=true) (he:light e ev h= .val v):gX P ι w bC o v:=by
 cases e with
 |cV=>exact Vn bq hok he
 |pick=>exact Vo bq hok he
 |alloc cs=>exfalso;have he:force h.next (fun b=>bE.new (.box cs) (.ptr b 0))= .val v:=he;rw [force_eq] at he;cases he
 |box n a=>
  exfalso
  have he:force h.next (fun b=>(Option.rec .bad (fun l=>Bool.rec .bad (gK l fun l=> .new (.box l) (.ptr b 0)) ((cI l).beq n)) (ev a).dA:bE))= .val v:=he
  rw [force_eq] at he
  obtain ⟨l,av,he⟩:=j0 (by simp) he
  obtain ⟨_,he⟩:=o8 (by simp) he
  rw [l4] at he
  cases he
 |build=>exact Wk bq hok he
 |eS r n zero aO=>
  exfalso
  have he:force h.next (fun b=>(Option.rec .bad (fun l=>gl r n 0 l T.e fun t=> .new (.cells r b 0 (Nat.mul n r) t) (.au b 0 n (some n))) (fill aO ev (rep n zero)):bE))= .val v:=he
  rw [force_eq] at he
  obtain ⟨l,k2,he⟩:=j0 (by simp) he
  rw [h6] at he
  cases he
 |load=>exact Vp g bq hok he
 |da=>exact Vq g bq hok he
 |oY=>exact Vr bq hok he
 |bin=>exact VG bq hok he
 |e8=>exact VQ bq hok he
 |lp=>exact VH bq hok he
 |eq=>exact V2 bq hok he
 |neg=>exact Vw bq hok he
 |not=>exact Vv bq hok he
 |conv=>exact Vx bq hok he
 |uZ a=>
  exfalso
  have he:force h.next (fun b=>(Option.rec .bad (fun x=>gl 1 x.1 0 (mE (gy x.1 x.2)) T.e fun t=> .new (.cells 1 b 0 x.1 t) (.au b 0 x.1 none)) (ev a).q4:bE))= .val v:=he
  rw [force_eq] at he
  obtain ⟨p,hp,he⟩:=j0 (by simp) he
  rw [h6] at he
  cases he
 |q5=>exact Wd g bq hok he
 |ez=>exact Vt bq hok he
 |fn=>exact Vu bq hok he
 |wH=>exfalso;have he:force h.next (fun b=>bE.new (.map [] 0) (.map b))= .val v:=he;rw [force_eq] at he;cases he
 |n2 r zero bytes l c=>
  exfalso
  have he:(match (ev l).asNat,(ev c).asNat with
  |some n,some m=>force h.next fun b=>bif n.ble m&&(Nat.mul m bytes).ble 1099511627776 then gl r m 0 (rep m zero) T.e fun t=> .new (.cells r b 0 (Nat.mul m r) t) (.au b 0 n (some m)) else .bad
  |_,_=> .bad)=bE.val v:=he
  split at he
  · rw [force_eq] at he
    have:=(o9 (by simp) he).2
    rw [h6] at this
    cases this
  · cases he
 |n3=>exact V8 bq hok he
 |jU=>exact Wa g bq hok he
 |u0=>exact V9 bq hok he
 |bK=>exact VI bq hok he
 |field=>exact VL bq hok he
 |bY=>exact VJ bq hok he
 |si=>exact VK bq hok he
 |kT=>exact VM bq hok he
 |lookup=>exact V3 g bq hok he
 |AX=>exact V4 bq hok he
 |ext=>exact Vy bq hok he
 |len=>exact VO bq hok he
 |wI=>exact V5 g bq hok he
 |cap=>simp [dn] at hok
 |AY=>exact V6 bq hok he
theorem Nv (bq:∀x a,bn x a=true→bD ι (ev a) (bC x)) {e:hh} (hok:dn P bn o.op e=true) (he:light e ev h= .new aG v) (dC:eT aG=true):wY P ι h.next w bC o aG v:=by
 have hn:=Nt he
 cases e<;>first|(simp [IH] at hn;done)|skip
 · exact Wp hok he
 · exact Wq bq hok he
 · exact Wz bq hok he dC
 · exact WB bq hok he dC
 · exact Wr hok he
 · exact Ws bq hok he dC
end
end
end Go.Eng
namespace Go.Eng
noncomputable section
def jm (ι:aY) (h ax:ae):Prop:=∀b,h.next≤b→b<ax.next→ι b=none
def Sep (ι:aY) (h:ae) (w:World) (bc:aY):Prop:=
 ∀b aZ,ι b=none→bc b=some aZ→w.heap.size≤aZ.c∨∃pf tQ,8≤pf∧pf<h.next∧ι pf=some tQ∧tQ.c=aZ.c
structure dp (ι:aY) (h:ae) (w:World) (bc:aY) (ax:ae) (w':World):Prop where
 fJ:Good bc ax w'
 frame:ri ι h w w'
 ext:Ext h ax ι bc
 sep:Sep ι h w bc
theorem Sep.refl (ι:aY) (h:ae) (w:World):Sep ι h w ι:=fun b B a c=>by rw [a] at c;cases c
theorem dp.same {ι:aY} {h ax:ae} {w w':World} (g:Good ι ax w') (f:ri ι h w w') (hn:ax.next=h.next):dp ι h w ι ax w':=
 ⟨g,f,⟨aY.le.refl _,by omega,fun _ a b=>absurd a b⟩,Sep.refl _ _ _⟩
theorem dp.refl {ι:aY} {h:ae} {w:World} (g:Good ι h w):dp ι h w ι h w:=dp.same g (ri.refl _ _ _) rfl
theorem jm.left {ι:aY} {h h1 h2:ae} (f:jm ι h h2) (hn:h1.next≤h2.next):jm ι h h1:=fun b a c=>f b a (Nat.lt_of_lt_of_le c hn)
theorem jm.right {ι l5:aY} {h h1 h2:ae} (f:jm ι h h2) (e:Ext h h1 ι l5):jm l5 h1 h2:=fun b a c=>by
 have h0:=f b (Nat.le_trans e.2.1 a) c
 cases WI:l5 b with
 |none=>rfl
 |some B=>have:=e.2.2 b h0 (by simp [WI]);omega
theorem dp.trans {ι l5 nA:aY} {h h1 h2:ae} {w w1 iw:World} (a:dp ι h w l5 h1 w1) (b:dp l5 h1 w1 nA h2 iw) (hf:jm ι h h1):dp ι h w nA h2 iw:=by
 refine ⟨b.fJ,⟨fun c av hn=> ?_,Nat.le_trans a.frame.size b.frame.size,b.frame.tape.trans a.frame.tape,b.frame.os.trans a.frame.os,b.frame.out.trans a.frame.out⟩,a.ext.trans b.ext,fun x aZ hx ky=> ?_⟩
 · rw [b.frame.va c (Nat.lt_of_lt_of_le av a.frame.size) fun x B bN fB WJ e=> ?_,a.frame.va c av hn]
   cases hx:ι x with
   |some tQ=>
    have:=a.ext.1 x tQ hx
    rw [bN] at this;cases this
    by_cases hlt:x<h.next
    · exact hn x B hx fB hlt e
    · have:=hf x (by omega) WJ;rw [hx] at this;cases this
   |none=>
    rcases a.sep x B hx bN with h1|⟨pf,tQ,vr,cu,cB,gg⟩
    · omega
    · exact hn pf tQ cB vr cu (gg.trans e)
 · cases mK:l5 x with
   |some jZ=>
    have:=b.ext.1 x jZ mK
    rw [ky] at this;cases this
    exact a.sep x aZ hx mK
   |none=>
    rcases b.sep x aZ mK ky with h1|⟨pf,tQ,vr,cu,cB,gg⟩
    · left;exact Nat.le_trans a.frame.size h1
    · cases jy:ι pf with
      |some WK=>
       have:=a.ext.1 pf WK jy
       rw [cB] at this;cases this
       right
       refine ⟨pf,tQ,vr, ?_,jy,gg⟩
       by_cases hlt:pf<h.next
       · exact hlt
       · have:=hf pf (by omega) cu;rw [jy] at this;cases this
      |none=>
       rcases a.sep pf tQ jy cB with h1|⟨ed,tR,m8,m1,m2,m3⟩
       · left;omega
       · right;exact ⟨ed,tR,m8,m1,m2,m3.trans gg⟩
theorem rn.lz {ι:aY} {h:ae} {w w':World} {B:fk} {aG:Obj} (n:rn ι h.next w w' B aG) (g:Good ι h w) (hf:ι h.next=none) (ar:0≤h.next):dp ι h w (ι.put h.next B) (h.add aG) w':=by
 refine ⟨n.fJ g hf ar,n.frame h,Ext.put hf rfl,fun b aZ hb ec=> ?_⟩
 by_cases e:b=h.next
 · subst e;rw [aY.gB] at ec;cases ec;left;rw [n.c];exact Nat.le_refl _
 · rw [aY.qe e,hb] at ec;cases ec
def qi (P:Program) (bn:jl) (o:Go.Op) (e:nu):Bool:=
 match e with
 | .store n a x=>(match o with| .store t bf fe=>l9 P t n&&(bn bf a&&bn fe x)|_=>false)
 | .yK .. =>false
 | .call f as_=>(match o with
   | .call {callee:= .value (.func c5),args, ..}=>decide (c5=f)&&((match P.funcs[f]? with|some fn=>fn.name != "runtime.NumGoroutine" &&fn.body.isSome|none=>false)&&sy bn args.toList as_)
   |_=>false)
 | .q6 x as_=>(match o with
   | .call {callee:= .value y,args, ..}=>bn y x&&sy bn args.toList as_
   |_=>false)
 | .append r bytes s x=>(match o with
   | .call {callee:= .builtin .append,args,argTypes, ..}=>(match args.toList,argTypes[0]?,argTypes[1]? with
     |[dE,fe],some t,some u=>(match P.underlying t with
      |some (.slice el)=>(match P.underlying u with|some .string=>true|some (.slice _)=>true|_=>false)&&(l9 P el r&&(Ek P el bytes&&(decide (0<r)&&(decide (0<bytes)&&((match P.info? el with|some i=>(match i.zero with|some z=>z.cells.size==r|none=>false)|none=>false)&&(bn dE s&&bn fe x))))))
      |_=>false)
     |_,_,_=>false)
   |_=>false)
 | .copy .. =>false
 | .clear zero x=>(match o with
   | .call {callee:= .builtin .clear,args,argTypes, ..}=>(match args.toList,argTypes[0]? with
     |[fe],some t=>(match P.underlying t with|some (.slice el)=>wU P el zero&&bn fe x|_=>false)
     |_,_=>false)
   |_=>false)
 | .recover=>false
 | .defer .. =>false
 | .panic x=>(match o with| .panic fe=>bn fe x|_=>false)
section
variable {P:Program} {ι:aY} {h ax:ae} {w:World} {bn:jl} {ev:dr} {bC:Operand→Value} {o:Oper} {v:V} {call:et}
def w3 (P:Program) (ι:aY) (h:ae) (w:World) (bC:Operand→Value) (o:Oper) (v:V) (ax:ae):Prop:=
 ∃n v' bc w',(execOp bC o).run P w= .ok n w'∧(n= .value v'∨(n= .skip∧v'=undef))∧dp ι h w bc ax w'∧bD bc v v'
theorem BA {α:Type} {x:Option α} {f:α→a7} {r:a7} (hr:r≠.bad) (h:(Option.rec .bad f x:a7)=r):∃y,x=some y∧f y=r:=by
 cases x with
 |none=>exact absurd h.symm hr
 |some y=>exact ⟨y,rfl,h⟩
theorem Nw {x:Bool} {y r:a7} (hr:r≠.bad) (h:(Bool.rec .bad y x:a7)=r):x=true∧y=r:=by
 cases x with
 |false=>exact absurd h.symm hr
 |true=>exact ⟨rfl,h⟩
theorem BB {x:Bool} {y r:a7} (hr:r≠.bad) (h:(bif x then y else .bad)=r):x=true∧y=r:=by
 cases x with
 |false=>exact absurd h.symm hr
 |true=>exact ⟨rfl,h⟩
theorem pg {v:V} {h:ae}:a7.ok v h≠.bad:=by simp
theorem w4:bD ι un undef:=⟨#[],rfl,rfl⟩
theorem Good.nG {ι:aY} {h:ae} {w:World} (g:Good ι h w) {b:Nat} {B:fk} (bN:ι b=some B):0≤b:=g.small b (by simp [bN])
theorem WL (g:Good ι h w) (bq:∀x a,bn x a=true→bD ι (ev a) (bC x)) {n:Nat} {a x:A} (hok:qi P bn o.op (.store n a x)=true) (he:gM (.store n a x) call ev h= .ok v ax):w3 P ι h w bC o v ax:=by
 have he:(Option.rec .bad (fun p=>Option.rec .bad (fun l=>Bool.rec .bad (h.dB p.1 p.2 n l .bad fun h=> .ok un h) ((cI l).beq n)) (ev x).dA) (ev a).lo:a7)= .ok v ax:=he
 obtain ⟨⟨b,q⟩,hp,he⟩:=BA pg he
 obtain ⟨l,ar,he⟩:=BA pg he
 obtain ⟨hlen,he⟩:=Nw pg he
 rw [h5,decide_eq_true_eq,kX] at hlen
 have av:ev a= .ptr b q:=by
  generalize ev a=cR at hp
  cases cR<;>first|(cases hp;done)|skip
  cases hp;rfl
 simp only [qi] at hok
 split at hok
 · rename_i t bf fe hx
   simp only [Bool.and_eq_true] at hok
   obtain ⟨ay,h1,h2⟩:=hok
   obtain ⟨B,bN,h1⟩:=Es bq h1 av
   obtain ⟨hr,vk⟩:=Ik ar (bq _ _ h2)
   have he:h.dB b q n l .bad (fun h=> .ok un h)=a7.ok v ax:=he
   rw [y2 _ _ _ _ _ _ _ g.rk (g.nG bN)] at he
   cases eD:nC h b q n l with
   |none=>rw [eD] at he;cases he
   |some ji=>
    rw [eD] at he
    cases he
    obtain ⟨w',cu,cB,gg,mf,_⟩:=Bi (P:=P) g bN eD hlen hr vk
    have dC:(bC fe).cells.size=n:=by have:=hr.length;simp at this;omega
    refine ⟨.skip,undef,ι,w', ?_, .inr ⟨rfl,rfl⟩,dp.same cB gg mf,w4⟩
    have eD:(storeVar t ⟨B.c,B.off+q,none⟩ (bC fe)).run P w= .ok () w':=by
     simp only [storeVar,Sem.run_bind,y8 w ay,Result.andThen,dC,ne_eq,not_true,if_false,Sem.run_pure]
     simpa using cu
    simp [execOp,hx,Instr.storeAt,Instr.sureAddr,h1,eD,Result.andThen]
 · cases hok
end
end
end Go.Eng
namespace Go.Eng
noncomputable section
section
variable {P:Program} {ι:aY} {h ax:ae} {w:World} {bn:jl} {ev:dr} {bC:Operand→Value} {o:Oper} {v:V} {call:et}
theorem WM (g:Good ι h w) (bq:∀x a,bn x a=true→bD ι (ev a) (bC x)) {q:cK} {m k u:A} (hok:qi P bn o.op (.yK q m k u)=true) (he:gM (.yK q m k u) call ev h= .ok v ax):w3 P ι h w bC o v ax:=(Bool.false_ne_true hok).elim
end
end
end Go.Eng
namespace Go.Eng
noncomputable section
section
variable {P:Program} {ι:aY} {h ax:ae} {w:World} {bn:jl} {ev:dr} {bC:Operand→Value} {o:Oper} {v:V} {call:et}
structure vt (P:Program) (w:World) (r m:Nat) (x:Value) (news:List Value):Prop where
 len:∀w1,(Builtin.lenOf x).run P w1= .ok m w1
 cells:∀w1,w1.heap=w.heap→(Builtin.firstCells r m x).run P w1= .ok news.toArray w1
theorem Nx {w w1:World} (h:w1.heap=w.heap) (a:Addr):w1.cell? a=w.cell? a:=by simp [World.cell?,h]
section
variable {t u ty el:TypeId} {i:TypeInfo} {z:Value} {jI:TypeDesc} {args argTypes:Array TypeId}
theorem II {argTypes:Array TypeId} (ht:P.underlying t=some (.slice el)) (hu:P.underlying u=some jI) (kA:jI= .string∨∃e,jI= .slice e) (ag:P.info? el=some i) (h0:argTypes[0]? =some t) (h1:argTypes[1]? =some u)
  {y:Addr} {n c m:Nat} {x:Value} {news:List Value} (hx:vt P w i.size m x news) (av:n+m≤c) {w':World} (eD:(storeCells (y.add (n * i.size)) news).run P w= .ok () w'):
  (Builtin.append_ argTypes ty #[.slice (some y) n c,x]).run P w= .ok (.slice (some y) (n+m) c) w':=by
 have hf:=hx.cells w rfl
 have ar:=hx.len w
 rcases kA with rfl|⟨e,rfl⟩<;>simp [Builtin.append_,h0,h1,run_underlying ht,run_underlying hu,sizeOf,typeInfo,ag,ar,av,hf,eD,Result.andThen]
theorem WN {argTypes:Array TypeId} (ht:P.underlying t=some (.slice el)) (hu:P.underlying u=some jI) (kA:jI= .string∨∃e,jI= .slice e) (ag:P.info? el=some i) (h0:argTypes[0]? =some t) (h1:argTypes[1]? =some u)
  {x:Value} (hx:vt P w i.size 0 x []):
  (Builtin.append_ argTypes ty #[.slice none 0 0,x]).run P w= .ok (.slice none 0 0) w:=by
 have hf:=hx.cells w rfl
 have ar:=hx.len w
 rcases kA with rfl|⟨e,rfl⟩<;>simp [Builtin.append_,h0,h1,run_underlying ht,run_underlying hu,sizeOf,typeInfo,ag,ar,hf,Result.andThen]
theorem Ny {argTypes:Array TypeId} (ht:P.underlying t=some (.slice el)) (hu:P.underlying u=some jI) (kA:jI= .string∨∃e,jI= .slice e) (ag:P.info? el=some i) (hz:i.zero=some z) (h0:argTypes[0]? =some t) (h1:argTypes[1]? =some u)
  {base:Option Addr} {n c m:Nat} {x:Value} {olds news:List Value} (bd:∀w1,w1.heap=w.heap→(Builtin.firstCells i.size n (.slice base n c)).run P w1= .ok olds.toArray w1) (hx:vt P w i.size m x news)
  (av:c<n+m) (hb:0<i.bytes) (eI:(n+m) * i.bytes≤1099511627776):
  (Builtin.append_ argTypes ty #[.slice base n c,x]).run P w=
    .ok (.slice (some ⟨w.heap.size,0,none⟩) (n+m) (grownCap w (n+m) c el)) (w.drew.alloc (.cells (olds++(news++(Builtin.zeroCells z.cells (grownCap w (n+m) c el - (n+m))).toList)).toArray el)):=by
 have hn:¬(n+m≤c):=by omega
 have agD:=growslice_fits (need:=n+m) (old:=c) (bytes:=i.bytes) av (by omega)
 have WO:¬(281474976710656<Builtin.nextslicecap (n+m) c * i.bytes):=by omega
 have hle:n+m≤1099511627776:=Nat.le_trans (Nat.le_mul_of_pos_right _ hb) eI
 have WQ:¬(9223372036854775807<((n:Int)+(m:Int))):=by omega
 have hf:=hx.cells w.drew rfl
 have oh:=bd w.drew rfl
 have ar:=hx.len w
 rcases kA with rfl|⟨e,rfl⟩
 all_goals
   (simp [Builtin.append_,h0,h1,run_underlying ht,run_underlying hu,sizeOf,typeInfo,zeroValue,ag,hz,ar,hn,WQ,WO,Question.forced,hf,oh,newRow,grownCap,Result.andThen]
    try (congr 2;apply Array.ext';simp))
end
theorem Nz (g:Good ι h w) {b q n r:Nat} {B:fk} {cap:Option Nat} {y:Addr} {c:Nat} (bN:ι b=some B) (gD:yW B q n cap y c) {l:List V} (ar:h.load b q (n * r)=some l) {m:Nat} (hm:m=n):
  ∃xs:List Value,ch ι l xs∧(∀x∈xs,x.oneCell'=true)∧xs.length=n * r∧∀w1:World,w1.heap=w.heap→(Builtin.firstCells r m (.slice (some y) n c)).run P w1= .ok xs.toArray w1:=by
 subst hm
 obtain ⟨xs,hlen,Bv,vk,hcell⟩:=yZ g bN ar
 refine ⟨xs,Bv,vk,hlen,fun w1 mg=> ?_⟩
 refine run_firstCells_some w1 r m y m c xs hlen fun j v aD=> ?_
 rw [Nx mg]
 have Bl:0<m:=by
  rcases Nat.eq_zero_or_pos m with h0|h0
  · subst h0
    rw [Nat.zero_mul] at hlen
    have:xs=[]:=List.eq_nil_of_length_eq_zero hlen
    rw [this] at aD;simp at aD
  · exact h0
 rw [vl gD Bl,sC]
 exact hcell j v aD
theorem WR (s:ByteArray) (m r:Nat) (hm:m=s.size):vt P w r m (.string s) (s.data.toList.map fun b=>Value.int .u8 b.toNat):=by
 subst hm
 refine ⟨fun w1=>rfl,fun w1 _=> ?_⟩
 have hx:(s.extract 0 s.size).data=s.data:=by
  apply Array.ext'
  rw [Go.Lib.extract_data,Go.Lib.size_eq,List.drop_zero,Nat.sub_zero,List.take_length]
 simp only [Builtin.firstCells,Sem.run_pure,hx]
 congr 1
 apply Array.ext';simp
end
end
end Go.Eng
namespace Go.Eng
noncomputable section
section
variable {P:Program} {ι:aY} {h ax:ae} {w:World} {bn:jl} {ev:dr} {bC:Operand→Value} {o:Oper} {v:V} {call:et}
theorem EG {o:Obj} {x v:V} (he:mk h o x= .ok v ax):0≤h.next∧eT o=true∧v=x∧ax=h.add o:=by
 have he:(Bool.rec .bad (h.kq o fun h=> .ok x h) (eT o):a7)= .ok v ax:=he
 obtain ⟨h1,h2⟩:=Nw pg he
 rw [nD] at h2
 cases h2
 exact ⟨Nat.zero_le _,h1,rfl,rfl⟩
theorem NA (w:World) (o:Go.Obj):∀c,c<w.heap.size→(w.drew.alloc o).heap[c]? =w.heap[c]? :=Ex w.drew o
theorem NB (g:Good ι h w) (hf:ι h.next=none) (ar:0≤h.next) {r k cap:Nat} {vs:List V} {cs more:List Value} {el:TypeId} (dC:eT (.cells r h.next 0 (k * r) (eC r k 0 vs T.e))=true)
  (aD:vs.length=k * r) (hr:ch ι vs cs) (h1:∀x∈cs,x.oneCell'=true) (nF:k≤cap) (w5:cs.length+more.length=cap * r):
  ∃bc,dp ι h w bc (h.add (.cells r h.next 0 (k * r) (eC r k 0 vs T.e))) (w.drew.alloc (.cells (cs++more).toArray el))∧
   bD bc (.au h.next 0 k none) (.slice (some ⟨w.heap.size,0,none⟩) k cap):=by
 obtain ⟨fK,hk⟩:=zb dC
 have cF:=Ey h.next (w:=w) (w':=w.drew.alloc (.cells (cs++more).toArray el)) fK hk nF (el:=el) (fr:=(0,0)) aD hr h1 w5 (zc w.drew _) (.inl (Nat.le_refl _))
 have Ec:rn ι h.next w (w.drew.alloc (.cells (cs++more).toArray el)) ⟨w.heap.size,0,k * r,r,cap,h.next,0⟩ (.cells r h.next 0 (k * r) (eC r k 0 vs T.e)):=
  ⟨rfl,rfl,NA w _,by show (w.heap.push _).size=_;simp,rfl,rfl,rfl,cF⟩
 exact ⟨_,Ec.lz g hf ar,⟨_,_,_,aY.gB ..,rfl,by simp,by simp,fK,nF, .inl rfl⟩⟩
structure Child (r f ap q n m bk:Nat) (rows t:T (List V)) (new:List V):Prop where
 wf:p9 r ((n+m) * r) t
 at_:∀j v,cellOf (.cells r f (ap+q) ((n+m) * r) t) j=some v→(j<n * r∧cellOf (.cells r f ap bk rows) (q+j)=some v)∨(n * r≤j∧new[j - n * r]? =some v)
theorem WS (g:Good ι h w) (hf:ι h.next=none) (ar:0≤h.next) {b:Nat} (fB:8≤b) {B:fk} (bN:ι b=some B) {r f ap bk:Nat} {rows t:T (List V)} (dj:T.get b h.t=some (.cells r f ap bk rows))
  {q n m:Nat} {new:List V} {xs:List Value} (hm:0<m) (bB:q % r=0) (hn:q+n * r≤bk) (qj:Child r f ap q n m bk rows t new) (hr:ch ι new xs) (h1:∀x∈xs,x.oneCell'=true) (hlen:xs.length=m * r)
  (w6:n+m≤B.cap - q / r):
  ∃w',(storeCells ⟨B.c,B.off+q+n * r,none⟩ xs).run P w= .ok () w'∧
   dp ι h w (ι.put h.next ⟨B.c,B.off+q,(n+m) * r,r,B.cap - q / r,f,ap+q⟩) ((iH h b f ap bk (ap+q+n * r) (ap+q+(n+m) * r)).add (.cells r f (ap+q) ((n+m) * r) t)) w':=by
 have hb:=g.nG bN
 have de:=g.kY b hb (by simp [dj])
 have IJ:=(g.obj b B _ bN dj de).cells rfl
 obtain ⟨cs,el,fr,aS,bl,df,fZ,gx,jY⟩:=IJ
 replace bl:qa cs.size fr:=bl.ok rfl
 obtain ⟨s1,s2,fw,iG,jS⟩:=gx
 have df:B.n=bk:=df
 have fZ:B.off+bk≤cs.size:=fZ
 have fK:0<r:=jS.1
 obtain ⟨d,aQ⟩:∃d,q=d * r:=⟨q / r,by have:=Nat.div_add_mod q r;rw [bB,Nat.mul_comm] at this;omega⟩
 have tS:q / r=d:=by rw [aQ,Nat.mul_div_cancel _ fK]
 rw [tS] at w6 ⊢
 have H5:B.off+q+(n+m) * r≤cs.size:=by
  rw [iG]
  have:(d+(n+m)) * r≤B.cap * r:=Nat.mul_le_mul_right r (by omega)
  rw [Nat.add_mul] at this;omega
 have BD:(n+m) * r=n * r+m * r:=Nat.add_mul ..
 have IK:0<m * r:=Nat.mul_pos hm fK
 have hk:=Ia g bN de dj ar (e:=ap+q+n * r) (top:=ap+q+(n+m) * r) (by omega)
 obtain ⟨l7,c1,c2,cG⟩:=Bh xs (B.off+q+n * r) w cs aS (by omega)
 have Bj:=Bf (g:=B.c) xs (B.off+q+n * r) w
 have kZ:=Bg B.c xs (B.off+q+n * r) w
 have NC:∀bL aZ,ι bL=some aZ→bL<h.next→aZ.c=B.c→aZ.cO=f∧aZ.off+B.jT=B.off+aZ.jT:=by
  intro bL aZ dJ fg av
  by_cases e:bL=b
  · subst e;rw [bN] at dJ;cases dJ;exact ⟨s2,rfl⟩
  · have:=g.same bL aZ b B dJ bN fg de fB av e
    exact ⟨this.1.trans s2,by have:=this.2;omega⟩
 refine ⟨w.setCells B.c (B.off+q+n * r) xs, ?_,⟨?_,⟨fun c av sB=>Bj c fun e=>sB b B bN fB de e.symm,by rw [kZ.2.2.2];exact Nat.le_refl _,kZ.2.1,kZ.1,kZ.2.2.1⟩, ?_, ?_⟩⟩
 · have:=run_storeCells_cells (P:=P) B.c (B.off+q+n * r) xs 0 w (fun j aR=> ?_) (fun j aR=> ?_) h1
   · simpa using this
   · simp only [World.cell?,aS,Option.isSome_none,Bool.false_eq_true,if_false]
     rw [Array.getElem?_eq_getElem (by omega)];rfl
   · simp only [World.frozen?,aS]
     rcases bl with bl|bl
     · simp;omega
     · simp;omega
 · refine MP g hk hf ar (by have:=g.od b B bN de;omega) rfl rfl rfl (by omega) ?_ ?_ ?_ (by rw [kZ.2.2.2];exact g.kr b B bN) (by rw [kZ.2.2.2];exact Nat.le_refl _)
   · intro bL aZ eP dJ cJ fg
     have ec:=g.nG dJ
     rcases hk.at_ bL ec with eL|⟨eL,_⟩
     · have tN:T.get bL h.t=some eP:=by rw [←eL];exact cJ
       have o4:=g.obj bL aZ eP dJ tN fg
       by_cases av:aZ.c=B.c
       · obtain ⟨x1,bR⟩:=NC bL aZ dJ fg av
         have hj:=hk.MO bL aZ eP dJ fg x1 tN
         cases eP with
         |box row=>simp [Obj.hT] at hj
         |map es cl=>simp [Obj.hT] at hj
         |dead=>trivial
         |cells dt c5 bf fy gW=>
          have agE:=hk.upto bL aZ _ dJ fg x1 cJ rfl
          obtain ⟨U7,U8,U9,d1,d2,d3,d4,d5,d6⟩:=o4.cells rfl
          rw [av,aS] at d1
          cases d1
          have d3:aZ.n=fy:=d3
          refine ⟨l7,el,fr,by rw [av];exact c1,by rw [c2];exact d2,d3,by rw [c2];exact d4,by rw [c2];exact d5,fun j v aR=> ?_⟩
          obtain ⟨x,cu,cB,gg⟩:=d6 j v aR
          have l6:j<fy:=by
           rw [vf] at aR
           by_cases l6:j<fy
           · exact l6
           · rw [if_neg l6] at aR;cases aR
          refine ⟨x, ?_,cB,gg⟩
          rw [cG,if_neg (by omega)];exact cu
       · exact o4.world (Bj aZ.c av)
     · rw [eL] at cJ;cases cJ;trivial
   · refine ⟨l7,el,fr,c1,qa.cells (by rw [c2];exact bl),rfl, ?_,⟨rfl,rfl,rfl, ?_,qj.wf⟩,fun j v aR=> ?_⟩
     · show B.off+q+(n+m) * r≤l7.size;rw [c2];exact H5
     · show l7.size=B.off+q+(B.cap - d) * r
       rw [c2,iG,Nat.sub_mul,←aQ]
       have:d * r≤B.cap * r:=Nat.mul_le_mul_right r (by omega)
       omega
     · show ∃x,l7[B.off+q+j]? =some x∧_
       rcases qj.at_ j v aR with ⟨a1,a2⟩|⟨a1,a2⟩
       · obtain ⟨x,cu,cB,gg⟩:=jY (q+j) v a2
         refine ⟨x, ?_,cB,gg⟩
         rw [cG,if_neg (by omega),Nat.add_assoc];exact cu
       · obtain ⟨x,cu,cB⟩:=hr.get a2
         have mH:j - n * r<xs.length:=(List.getElem?_eq_some_iff.1 cu).1
         refine ⟨x, ?_,h1 x (List.mem_of_getElem? cu),cB⟩
         rw [cG,if_pos (by omega),show B.off+q+j - (B.off+q+n * r)=j - n * r by omega];exact cu
   · intro bL aZ dJ fg av
     obtain ⟨x1,bR⟩:=NC bL aZ dJ fg av
     refine ⟨x1, ?_⟩
     show aZ.off+(ap+q)=B.off+q+aZ.jT
     omega
 · refine Ext.put hf ?_
   show (iH h b f ap bk (ap+q+n * r) (ap+q+(n+m) * r)).next+1=_
   rw [hk.next]
 · intro x aZ hx h7
   by_cases e:x=h.next
   · subst e;rw [aY.gB] at h7;cases h7;right;exact ⟨b,B,fB,de,bN,rfl⟩
   · rw [aY.qe e,hx] at h7;cases h7
theorem WT (g:Good ι h w) (hf:ι h.next=none) (ar:0≤h.next) {b:Nat} {B:fk} (bN:ι b=some B) {r f ap bk:Nat} {rows t:T (List V)} (dj:T.get b h.t=some (.cells r f ap bk rows))
  {q n m cap:Nat} {new:List V} {olds xs more:List Value} {el:TypeId} (hm:0<m) (hn:q+n * r≤bk) (qj:Child r f ap q n m bk rows t new) (hr:ch ι new xs) (h1:∀x∈xs,x.oneCell'=true) (hlen:xs.length=m * r)
  (bd:∀j,j<n * r→olds[j]? =w.cell? ⟨B.c,B.off+q+j,none⟩) (tT:olds.length=n * r) (nF:n+m≤cap) (w5:(olds++(xs++more)).length=cap * r):
  dp ι h w (ι.put h.next ⟨w.heap.size,0,(n+m) * r,r,cap,f,ap+q⟩) ((iH h b f ap bk (ap+q+n * r) (ap+q+(n+m) * r)).add (.cells r f (ap+q) ((n+m) * r) t)) (w.drew.alloc (.cells (olds++(xs++more)).toArray el)):=by
 have hb:=g.nG bN
 have de:=g.kY b hb (by simp [dj])
 have IJ:=(g.obj b B _ bN dj de).cells rfl
 obtain ⟨cs,Bn,fr,aS,bl,df,fZ,gx,jY⟩:=IJ
 obtain ⟨s1,s2,fw,iG,jS⟩:=gx
 have fK:0<r:=jS.1
 have BD:(n+m) * r=n * r+m * r:=Nat.add_mul ..
 have IK:0<m * r:=Nat.mul_pos hm fK
 have hk:=Ia g bN de dj ar (e:=ap+q+n * r) (top:=ap+q+(n+m) * r) (by omega)
 have hold:=NA w (.cells (olds++(xs++more)).toArray el)
 have IG:(w.drew.alloc (.cells (olds++(xs++more)).toArray el)).heap.size=w.heap.size+1:=by show (w.heap.push _).size=_;simp
 refine ⟨?_,⟨fun c av _=>hold c av,by omega,rfl,rfl,rfl⟩, ?_, ?_⟩
 · refine MP g hk hf ar (by have:=g.od b B bN de;omega) rfl rfl rfl (by omega) ?_ ?_ ?_ (by rw [IG];show w.heap.size<_;omega) (by omega)
   · intro bL aZ eP dJ cJ fg
     have ec:=g.nG dJ
     rcases hk.at_ bL ec with eL|⟨eL,_⟩
     · have tN:T.get bL h.t=some eP:=by rw [←eL];exact cJ
       exact (g.obj bL aZ eP dJ tN fg).world (hold _ (g.kr bL aZ dJ))
     · rw [eL] at cJ;cases cJ;trivial
   · have agF:(n+m) * r≤cap * r:=Nat.mul_le_mul_right r nF
     refine ⟨(olds++(xs++more)).toArray,el,(0,0),zc w.drew _,qa.cells (.inl (Nat.le_refl _)),rfl, ?_,⟨rfl,rfl,rfl, ?_,qj.wf⟩,fun j v aR=> ?_⟩
     · show 0+(n+m) * r≤(olds++(xs++more)).toArray.size
       rw [List.size_toArray,w5];omega
     · show (olds++(xs++more)).toArray.size=0+cap * r
       rw [List.size_toArray,w5];omega
     · show ∃x,(olds++(xs++more)).toArray[0+j]? =some x∧_
       rw [Nat.zero_add,List.getElem?_toArray]
       rcases qj.at_ j v aR with ⟨a1,a2⟩|⟨a1,a2⟩
       · obtain ⟨x,cu,cB,gg⟩:=jY (q+j) v a2
         refine ⟨x, ?_,cB,gg⟩
         rw [List.getElem?_append_left (by omega),bd j a1]
         simp only [World.cell?,aS,Option.isSome_none,Bool.false_eq_true,if_false]
         rw [Nat.add_assoc];exact cu
       · obtain ⟨x,cu,cB⟩:=hr.get a2
         have mH:j - n * r<xs.length:=(List.getElem?_eq_some_iff.1 cu).1
         refine ⟨x, ?_,h1 x (List.mem_of_getElem? cu),cB⟩
         rw [List.getElem?_append_right (by omega),tT,List.getElem?_append_left mH];exact cu
   · intro bL aZ dJ fg av
     have:=g.kr bL aZ dJ
     have av:aZ.c=w.heap.size:=av
     omega
 · refine Ext.put hf ?_
   show (iH h b f ap bk (ap+q+n * r) (ap+q+(n+m) * r)).next+1=_
   rw [hk.next]
 · intro x aZ hx h7
   by_cases e:x=h.next
   · subst e;rw [aY.gB] at h7;cases h7;left;exact Nat.le_refl _
   · rw [aY.qe e,hx] at h7;cases h7
end
end
end Go.Eng
namespace Go.Eng
noncomputable section
section
variable {P:Program} {ι:aY} {h ax:ae} {w:World} {bn:jl} {ev:dr} {bC:Operand→Value} {o:Oper} {v:V} {call:et}
structure BF (P:Program) (argTypes:Array TypeId) (r bytes:Nat):Prop where
 ex:∃t u el jI i z,argTypes[0]? =some t∧argTypes[1]? =some u∧P.underlying t=some (.slice el)∧P.underlying u=some jI∧(jI= .string∨∃e,jI= .slice e)∧
  P.info? el=some i∧i.zero=some z∧i.size=r∧i.bytes=bytes∧z.cells.size=r
 r0:0<r
 pf:0<bytes
def EH (P:Program) (ι:aY) (h:ae) (w:World) (argTypes:Array TypeId) (ty:TypeId) (s x:Value) (v:V) (ax:ae):Prop:=
 ∃v' bc w',(Builtin.append_ argTypes ty #[s,x]).run P w= .ok v' w'∧dp ι h w bc ax w'∧bD bc v v'
theorem ND (z:Array Value) (n r:Nat) (hz:z.size=r):(Builtin.zeroCells z n).toList.length=n * r:=by
 rw [Array.length_toList,size_zeroCells,hz]
theorem NF {argTypes:Array TypeId} {ty:TypeId} {r bytes:Nat} (ht:BF P argTypes r bytes) (g:Good ι h w) (hf:ι h.next=none) (ar:0≤h.next) {base:Option Addr} {n c m:Nat} {x:Value} {old new:List V} {olds xs:List Value}
  (hx:vt P w r m x xs) (bd:∀w1:World,w1.heap=w.heap→(Builtin.firstCells r n (.slice base n c)).run P w1= .ok olds.toArray w1) (Bk:ch ι old olds) (WU:∀x∈olds,x.oneCell'=true) (tT:olds.length=n * r)
  (hr:ch ι new xs) (h1:∀x∈xs,x.oneCell'=true) (hlen:xs.length=m * r) (av:c<n+m) (eI:(n+m) * bytes≤1099511627776)
  (dC:eT (.cells r h.next 0 ((n+m) * r) (eC r (n+m) 0 (old++new) T.e))=true):
  EH P ι h w argTypes ty (.slice base n c) x (.au h.next 0 (n+m) none) (h.add (.cells r h.next 0 ((n+m) * r) (eC r (n+m) 0 (old++new) T.e))):=by
 obtain ⟨⟨t,u,el,jI,i,z,a0,a1,iJ,gm,kA,ag,hz,rfl,rfl,w7⟩,fK,jy⟩:=ht
 have iI:=Ny (ty:=ty) iJ gm kA ag hz a0 a1 bd hx av jy eI
 have sH:=grownCap_ge w (n+m) c el
 obtain ⟨bc,cu,cB⟩:=NB g hf ar (vs:=old++new) (cs:=olds++xs) (more:=(Builtin.zeroCells z.cells (grownCap w (n+m) c el - (n+m))).toList) (el:=el) dC
  (by rw [List.length_append,←Bk.length,←hr.length,tT,hlen,Nat.add_mul]) (Bk.append hr) (fun y hy=>by
    rcases List.mem_append.1 hy with h|h
    · exact WU y h
    · exact h1 y h) sH
  (by rw [ND _ _ _ w7,List.length_append,tT,hlen,←Nat.add_mul,←Nat.add_mul];congr 1;omega)
 rw [List.append_assoc] at cu
 exact ⟨_,bc,_,iI,cu,cB⟩
theorem NG {argTypes:Array TypeId} {ty:TypeId} {r bytes:Nat} (ht:BF P argTypes r bytes) (g:Good ι h w) {b:Nat} {B:fk} (bN:ι b=some B) {q n c m:Nat} {x:Value} {new:List V} {xs:List Value}
  (hx:vt P w r m x xs) (hr:ch ι new xs) (h1:∀x∈xs,x.oneCell'=true) (hlen:xs.length=m * r) (av:n+m≤c)
  (ay:h.dB b (q+n * r) (m * r) new .bad (fun h=>a7.ok v h)= .ok v ax):
  ∃w',(Builtin.append_ argTypes ty #[.slice (some ⟨B.c,B.off+q,none⟩) n c,x]).run P w= .ok (.slice (some ⟨B.c,B.off+q,none⟩) (n+m) c) w'∧dp ι h w ι ax w':=by
 obtain ⟨⟨t,u,el,jI,i,z,a0,a1,iJ,gm,kA,ag,hz,rfl,rfl,w7⟩,fK,jy⟩:=ht
 rw [y2 _ _ _ _ _ _ _ g.rk (g.nG bN)] at ay
 cases eD:nC h b (q+n * i.size) (m * i.size) new with
 |none=>rw [eD] at ay;cases ay
 |some ji=>
  rw [eD] at ay
  cases ay
  obtain ⟨w',cu,cB,gg,mf,_⟩:=Bi (P:=P) g bN eD (by rw [←hr.length];exact hlen) hr h1
  refine ⟨w',II iJ gm kA ag a0 a1 hx av ?_,dp.same cB gg mf⟩
  rw [sC,Nat.add_assoc];exact cu
theorem NH {x y:V} {b q n:Nat} {l:List V} (g:Good ι h w) {B:fk} (bN:ι b=some B) (ay:h.dB b q n l .bad (fun h=>a7.ok x h)= .ok y ax):y=x:=by
 rw [y2 _ _ _ _ _ _ _ g.rk (g.nG bN)] at ay
 cases eD:nC h b q n l with
 |none=>rw [eD] at ay;cases ay
 |some ji=>rw [eD] at ay;cases ay;rfl
theorem WV {f:Nat→Nat→Nat→Nat→T (List V)→a7} {b:Nat} {r:a7} (hr:r≠.bad) (he:Obj.cells? .bad f (h.obj b)=r):∃a1 a2 a3 a4 a5,T.get b h.t=some (.cells a1 a2 a3 a4 a5)∧f a1 a2 a3 a4 a5=r:=by
 unfold ae.obj at he
 cases hg:T.get b h.t with
 |none=>rw [hg] at he;exact absurd he.symm hr
 |some aG=>
  rw [hg] at he
  cases aG with
  |cells=>exact ⟨_,_,_,_,_,rfl,he⟩
  |_=>exact absurd he.symm hr
theorem WW {r f ap n m bk:Nat} {rows:T (List V)} {new:List V} (hw:p9 r bk rows) (hn:n * r≤bk) (hg:bk<(n+m) * r) (tU:0≤n+m) (me:new.length=m * r):
  Child r f ap 0 n m bk rows (eC r m n new rows) new:=by
 obtain ⟨fK,dC,w8⟩:=hw
 have BD:(n+m) * r=n * r+m * r:=Nat.add_mul ..
 have hle:0≤(n+m) * r:=Nat.zero_le _
 refine ⟨⟨fK,hle,fun i row ag BG=> ?_⟩,fun j v aR=> ?_⟩
 · rw [qb r m n new rows i tU ag] at BG
   by_cases av:n≤i∧i<n+m
   · rw [if_pos av] at BG
     cases BG
     have h2:(i+1) * r≤(n+m) * r:=Nat.mul_le_mul_right r (by omega)
     have a6:(i - n+1) * r≤m * r:=Nat.mul_le_mul_right r (by omega)
     refine ⟨?_,h2⟩
     simp only [List.length_take,List.length_drop,me]
     rw [Nat.add_mul] at a6;omega
   · rw [if_neg av] at BG
     obtain ⟨cu,cB⟩:=w8 i row ag BG
     exact ⟨cu,by omega⟩
 · rw [vf] at aR
   by_cases l6:j<(n+m) * r
   · rw [if_pos l6,H0 fK new me rows tU j (by omega)] at aR
     by_cases av:n * r≤j∧j<(n+m) * r
     · rw [if_pos av] at aR;exact .inr ⟨av.1,aR⟩
     · rw [if_neg av] at aR
       refine .inl ⟨by omega, ?_⟩
       rw [vf,if_pos (by omega),Nat.zero_add];exact aR
   · rw [if_neg l6] at aR;cases aR
theorem WX {r f ap q n m bk:Nat} {rows:T (List V)} {old new:List V} (hw:p9 r bk rows) (bB:q % r=0) (hn:q+n * r≤bk) (tU:0≤n+m) (hold:kU rows n (q / r)=some old) (me:new.length=m * r):
  Child r f ap q n m bk rows (eC r (n+m) 0 (old++new) T.e) new:=by
 have fK:=hw.1
 obtain ⟨d,aQ⟩:∃d,q=d * r:=⟨q / r,by have:=Nat.div_add_mod q r;rw [bB,Nat.mul_comm] at this;omega⟩
 have tS:q / r=d:=by rw [aQ,Nat.mul_div_cancel _ fK]
 rw [tS] at hold
 have hle:0≤d+n:=Nat.zero_le _
 obtain ⟨g1,g2⟩:=HZ hw n d old hle hold
 have BD:(n+m) * r=n * r+m * r:=Nat.add_mul ..
 have hlen:(old++new).length=(n+m) * r:=by rw [List.length_append,g1,me,BD]
 refine ⟨Ni fK _ hlen tU,fun j v aR=> ?_⟩
 rw [Nj fK _ hlen tU] at aR
 by_cases l6:j<n * r
 · refine .inl ⟨l6, ?_⟩
   rw [List.getElem?_append_left (by omega)] at aR
   have Ea:=Nat.div_add_mod j r
   have rj:=Nat.mod_lt j fK
   have WY:j / r<n:=Nat.div_lt_of_lt_mul (by rw [Nat.mul_comm];exact l6)
   have:=g2 (j / r) (j % r) WY rj
   rw [Nat.mul_comm (j / r) r,Ea,aR] at this
   rw [vf,if_pos (by omega)]
   unfold sv
   obtain ⟨x1,bR⟩:=D9 (r:=r) (q:=d+j / r) (c:=j % r) (x:=q+j) rj (by rw [Nat.mul_add,aQ,Nat.mul_comm d r];omega)
   rw [x1,bR];exact this.symm
 · refine .inr ⟨by omega, ?_⟩
   rw [List.getElem?_append_right (by omega),g1] at aR
   exact aR
end
end
end Go.Eng
namespace Go.Eng
noncomputable section
section
variable {P:Program} {ι:aY} {h ax:ae} {w:World} {bn:jl} {ev:dr} {bC:Operand→Value} {o:Oper} {v:V} {call:et}
theorem WZ {argTypes:Array TypeId} {ty:TypeId} {r bytes:Nat} (ht:BF P argTypes r bytes) (g:Good ι h w) (fR:jm ι h ax) {b:Nat} {B:fk} (bN:ι b=some B) {q n c m:Nat} {cap:Option Nat} {y:Addr} (gD:yW B q n cap y c) {x:Value} {new:List V} {xs:List Value}
  (hx:vt P w r m x xs) (hr:ch ι new xs) (h1:∀x∈xs,x.oneCell'=true) (hlen:xs.length=m * r) (hm:0<m) (he:p5 h r bytes b q n cap new m= .ok v ax):
  EH P ι h w argTypes ty (.slice (some y) n c) x v ax:=by
 have fK:=ht.r0
 have IL:new.length=m * r:=by rw [←hr.length];exact hlen
 unfold p5 at he
 simp only [force_eq] at he
 obtain ⟨pe,he⟩:=BB pg he
 rw [Bool.and_eq_true] at pe
 have fB:8≤b:=Nat.le_of_ble_eq_true pe.2
 replace pe:=pe.1
 rw [ew,decide_eq_true_eq] at pe
 have ar:0≤h.next:=Nat.zero_le _
 have eI:(n+m) * bytes≤1099511627776:=pe
 cases cap with
 |some k=>
  obtain ⟨rfl,rfl,Eu⟩:=gD
  have he:(bif (Nat.add n m).ble c then h.dB b (Nat.add q (Nat.mul n r)) (Nat.mul m r) new .bad fun h=> .ok (.au b q (Nat.add n m) (some c)) h
    else Option.rec .bad (fun old=>gl r (Nat.add n m) 0 (fx old new) T.e fun t=>mk h (.cells r h.next 0 (Nat.mul (Nat.add n m) r) t) (.au h.next 0 (Nat.add n m) none)) (h.load b q (Nat.mul n r)))=a7.ok v ax:=he
  rw [ew] at he
  by_cases av:n+m≤c
  · have aQ:decide (Nat.add n m≤c)=true:=by simpa using av
    rw [aQ,cond_true] at he
    have aD:=NH g bN he
    subst aD
    obtain ⟨w',cu,cB⟩:=NG (ty:=ty) ht g bN hx hr h1 hlen av he
    exact ⟨_,ι,w',cu,cB,⟨B,_,_,bN,rfl,rfl,rfl,av⟩⟩
  · have aQ:decide (Nat.add n m≤c)=false:=by simpa using av
    rw [aQ,cond_false] at he
    obtain ⟨old,hold,he⟩:=BA pg he
    rw [h6,o0] at he
    obtain ⟨_,dC,rfl,rfl⟩:=EG he
    obtain ⟨olds,Iu,Iv,W0,W1⟩:=Nz (P:=P) g bN (y:=⟨B.c,B.off+q,none⟩) (c:=c) (cap:=some c) ⟨rfl,rfl,Eu⟩ hold rfl
    exact NF ht g (fR _ (Nat.le_refl _) (Nat.lt_succ_self _)) ar hx W1 Iu Iv W0 hr h1 hlen (by omega) eI dC
 |none=>
  obtain ⟨dt,f,ap,bk,rows,dj,he⟩:=WV pg he
  obtain ⟨NI,he⟩:=BB pg he
  rw [Bool.and_eq_true,h5,h5,decide_eq_true_eq,decide_eq_true_eq] at NI
  obtain ⟨rfl,bB⟩:=NI
  have bB:q % dt=0:=bB
  have hb:=g.nG bN
  have de:=g.kY b hb (by simp [dj])
  obtain ⟨cs,Bn,fr,aS,bl,df,fZ,gx,jY⟩:=(g.obj b B _ bN dj de).cells rfl
  obtain ⟨s1,s2,fw,iG,jS⟩:=gx
  subst s1
  have fZ:B.off+bk≤cs.size:=fZ
  obtain ⟨d,aQ⟩:∃d,q=d * B.r:=⟨q / B.r,by have:=Nat.div_add_mod q B.r;rw [bB,Nat.mul_comm] at this;omega⟩
  have tS:q / B.r=d:=by rw [aQ,Nat.mul_div_cancel _ fK]
  have BD:(n+m) * B.r=n * B.r+m * B.r:=Nat.add_mul ..
  have IK:0<m * B.r:=Nat.mul_pos hm fK
  obtain ⟨pd,_,_,Bt,vn⟩:=gD
  rw [tS] at pd
  have IA:yW B q n none y c:=⟨by rw [tS];exact pd,bB,fK,Bt,vn⟩
  rw [ew] at he
  by_cases hin:q+(n+m) * B.r≤bk
  · have tV:decide (Nat.add q (Nat.mul (Nat.add n m) B.r)≤bk)=true:=by simpa using hin
    rw [tV,cond_true] at he
    have aD:=NH g bN he
    subst aD
    have w6:n+m≤c:=by
     have:(d+(n+m)) * B.r≤B.cap * B.r:=by rw [Nat.add_mul,←aQ];omega
     have:=Nat.le_of_mul_le_mul_right this fK
     omega
    have hy:y=⟨B.c,B.off+q,none⟩:=by
     rcases vn with h|h
     · exact h
     · omega
    subst hy
    obtain ⟨w',cu,cB⟩:=NG (ty:=ty) ht g bN hx hr h1 hlen w6 he
    exact ⟨_,ι,w',cu,cB,⟨B,_,_,bN,rfl,by rw [tS];exact pd,bB,fK,w6, .inl rfl⟩⟩
  · have tV:decide (Nat.add q (Nat.mul (Nat.add n m) B.r)≤bk)=false:=by simpa using hin
    rw [tV,cond_false] at he
    obtain ⟨hn,he⟩:=BB pg he
    rw [ew,decide_eq_true_eq] at hn
    have hn:q+n * B.r≤bk:=hn
    rw [MM h b f ap bk _ _ _ (fun F m a c=>g.rk f F m a c) ar] at he
    have agG:(iH h b f ap bk (ap+q+n * B.r) (ap+q+(n+m) * B.r)).next=h.next:=(Ia g bN de dj ar (by omega)).next
    have Ie:∃t,Child B.r f ap q n m bk rows t new∧v= .au h.next 0 (n+m) none∧ax=(iH h b f ap bk (ap+q+n * B.r) (ap+q+(n+m) * B.r)).add (.cells B.r f (ap+q) ((n+m) * B.r) t):=by
     have he:(bif q.beq 0 then gl B.r m n new rows fun t=>mk (iH h b f ap bk (ap+q+n * B.r) (ap+q+(n+m) * B.r)) (.cells B.r f ap (Nat.mul (Nat.add n m) B.r) t) (.au h.next 0 (Nat.add n m) none)
           else Option.rec .bad (fun old=>gl B.r (Nat.add n m) 0 (fx old new) T.e fun t=>mk (iH h b f ap bk (ap+q+n * B.r) (ap+q+(n+m) * B.r)) (.cells B.r f (ap+q) (Nat.mul (Nat.add n m) B.r) t) (.au h.next 0 (Nat.add n m) none)) (kU rows n (q.div B.r)))=a7.ok v ax:=he
     rw [h5] at he
     by_cases IM:q=0
     · simp only [IM,decide_true,cond_true,h6] at he
       obtain ⟨_,dC,rfl,rfl⟩:=EG he
       obtain ⟨_,tU⟩:=zb (k:=n+m) dC
       subst IM
       exact ⟨_,WW jS (by omega) (by omega) tU IL,rfl,rfl⟩
     · simp only [IM,decide_false,cond_false] at he
       obtain ⟨old,hold,he⟩:=BA pg he
       rw [h6,o0] at he
       obtain ⟨_,dC,rfl,rfl⟩:=EG he
       obtain ⟨_,tU⟩:=zb (k:=n+m) dC
       exact ⟨_,WX jS bB hn tU hold IL,rfl,rfl⟩
    obtain ⟨t,qj,rfl,rfl⟩:=Ie
    have hf:ι h.next=none:=fR _ (Nat.le_refl _) (by show h.next<(iH h b f ap bk (ap+q+n * B.r) (ap+q+(n+m) * B.r)).next+1;omega)
    by_cases w6:n+m≤c
    · have hy:y=⟨B.c,B.off+q,none⟩:=by
       rcases vn with h|h
       · exact h
       · omega
      subst hy
      obtain ⟨w',cu,cB⟩:=WS (P:=P) g hf ar fB bN dj hm bB hn qj hr h1 hlen (by rw [tS];omega)
      obtain ⟨⟨gW,u,el,jI,i,z,a0,a1,iJ,gm,kA,ag,hz,BH,sw,w7⟩,_,_⟩:=ht
      refine ⟨_,_,w',II iJ gm kA ag a0 a1 (by rw [BH];exact hx) w6 (by rw [sC,BH];exact cu),cB, ?_⟩
      exact ⟨_,_,_,aY.gB ..,rfl,by simp [tS,pd],by simp,fK,w6, .inl rfl⟩
    · obtain ⟨⟨gW,u,el,jI,i,z,a0,a1,iJ,gm,kA,ag,hz,BH,sw,w7⟩,_,jy⟩:=ht
      have sH:=grownCap_ge w (n+m) c el
      have NJ:∀j,j<n * B.r→(cs.extract (B.off+q) (B.off+q+n * B.r)).toList[j]? =w.cell? ⟨B.c,B.off+q+j,none⟩:=by
       intro j aR
       rw [Array.getElem?_toList,Array.getElem?_extract,if_pos (by omega)]
       simp only [World.cell?,aS,Option.isSome_none,Bool.false_eq_true,if_false]
      have tT:(cs.extract (B.off+q) (B.off+q+n * B.r)).toList.length=n * B.r:=by
       rw [Array.length_toList,Array.size_extract];omega
      have bd:∀w1:World,w1.heap=w.heap→(Builtin.firstCells i.size n (.slice (some y) n c)).run P w1= .ok (cs.extract (B.off+q) (B.off+q+n * B.r)).toList.toArray w1:=by
       intro w1 mg
       rw [BH]
       refine run_firstCells_some w1 B.r n y n c _ tT fun j v aD=> ?_
       have aR:j<n * B.r:=by rw [←tT];exact (List.getElem?_eq_some_iff.1 aD).1
       have Bl:0<n:=by
        rcases Nat.eq_zero_or_pos n with h0|h0
        · subst h0;simp at aR
        · exact h0
       rw [Nx mg,vl IA Bl,sC,←NJ j aR]
       exact aD
      have iI:=Ny (ty:=ty) iJ gm kA ag hz a0 a1 bd (by rw [BH];exact hx) (by omega) (by rw [sw];exact jy) (by rw [sw];exact eI)
      have EI:=WT g hf ar bN dj hm hn qj hr h1 hlen NJ tT sH (el:=el) (more:=(Builtin.zeroCells z.cells (grownCap w (n+m) c el - (n+m))).toList)
       (by rw [List.length_append,List.length_append,ND _ _ _ w7,tT,hlen,←Nat.add_mul,←Nat.add_mul];congr 1;omega)
      exact ⟨_,_,_,iI,EI,⟨_,_,_,aY.gB ..,rfl,by simp,by simp,fK,sH, .inl rfl⟩⟩
theorem IP {argTypes:Array TypeId} {ty:TypeId} {r bytes:Nat} (ht:BF P argTypes r bytes) (g:Good ι h w) (fR:jm ι h ax) {s:V} {dE:Value} (ay:bD ι s dE) {m:Nat} {x:Value} {new:List V} {xs:List Value}
  (hx:vt P w r m x xs) (hr:ch ι new xs) (h1:∀x∈xs,x.oneCell'=true) (hlen:xs.length=m * r) (he:fH h r bytes s new m= .ok v ax):
  EH P ι h w argTypes ty dE x v ax:=by
 have fK:=ht.r0
 have IL:new.length=m * r:=by rw [←hr.length];exact hlen
 unfold fH at he
 split at he
 · have ay:dE= .slice none 0 0:=ay
   subst ay
   rw [h5] at he
   by_cases hm:m=0
   · subst hm
     simp only [decide_true,cond_true,a7.ok.injEq] at he
     obtain ⟨rfl,rfl⟩:=he
     have:xs=[]:=List.eq_nil_of_length_eq_zero (by simpa using hlen)
     subst this
     obtain ⟨⟨gW,u,el,jI,i,z,a0,a1,iJ,gm,kA,ag,hz,rfl,sw,w7⟩,_,_⟩:=ht
     exact ⟨_,ι,w,WN iJ gm kA ag a0 a1 hx,dp.refl g,rfl⟩
   · simp only [hm,decide_false,cond_false] at he
     obtain ⟨eI,he⟩:=BB pg he
     rw [ew,decide_eq_true_eq] at eI
     rw [force_eq,h6] at he
     obtain ⟨ar,dC,rfl,rfl⟩:=EG he
     have:=NF (P:=P) (ty:=ty) ht g (fR _ (Nat.le_refl _) (Nat.lt_succ_self _)) ar (base:=none) (n:=0) (c:=0) (old:=[]) (new:=new) (olds:=[]) hx (fun w1 _=>run_firstCells_none w1 r 0 0 0) rfl (by simp) (by simp) hr h1 hlen (by omega) (by simpa using eI) (by simpa using dC)
     simpa using this
 · rename_i b q n cap
   obtain ⟨B,y,c,bN,rfl,gD⟩:=ay
   rw [h5] at he
   by_cases hm:m=0
   · subst hm
     simp only [decide_true,cond_true,a7.ok.injEq] at he
     obtain ⟨rfl,rfl⟩:=he
     have:xs=[]:=List.eq_nil_of_length_eq_zero (by simpa using hlen)
     subst this
     obtain ⟨⟨gW,u,el,jI,i,z,a0,a1,iJ,gm,kA,ag,hz,rfl,sw,w7⟩,_,_⟩:=ht
     have W2:n+0≤c:=by
      cases cap with
      |some k=>obtain ⟨rfl,_,a6⟩:=gD;exact a6
      |none=>exact gD.2.2.2.1
     exact ⟨_,ι,w,II iJ gm kA ag a0 a1 hx W2 rfl,dp.refl g,⟨B,y,c,bN,rfl,gD⟩⟩
   · simp only [hm,decide_false,cond_false] at he
     exact WZ ht g fR bN gD hx hr h1 hlen (by omega) he
 · cases he
end
end
end Go.Eng
namespace Go.Eng
noncomputable section
section
variable {P:Program} {ι:aY} {h ax:ae} {w:World} {bn:jl} {ev:dr} {bC:Operand→Value} {o:Oper} {v:V} {call:et}
theorem W3 (g:Good ι h w) (fR:jm ι h ax) (bq:∀x a,bn x a=true→bD ι (ev a) (bC x)) {r bytes:Nat} {s x:A} (hok:qi P bn o.op (.append r bytes s x)=true) (he:gM (.append r bytes s x) call ev h= .ok v ax):w3 P ι h w bC o v ax:=by
 have he:(match ev x with
  | .U=>fH h r bytes (ev s) [] 0
  | .au b o m _=>Option.rec .bad (fun new=>fH h r bytes (ev s) new m) (h.load b o (Nat.mul m r))
  | .str m a=>bif r.beq 1 then fH h r bytes (ev s) (mE (gy m a)) m else .bad
  |_=> .bad)=a7.ok v ax:=he
 simp only [qi] at hok
 split at hok
 · rename_i args argTypes hx
   split at hok
   · rename_i dE fe t u hargs BI BJ
     have aS:args= #[dE,fe]:=by cases args;simp at hargs;simp [hargs]
     subst aS
     split at hok
     · rename_i el iJ
       simp only [Bool.and_eq_true,decide_eq_true_eq] at hok
       obtain ⟨kA,ay,IE,fK,jy,hz,c1,c2⟩:=hok
       have sI:BF P argTypes r bytes:=by
        cases tV:P.underlying u with
        |none=>simp [tV] at kA
        |some jI=>
         cases ag:P.info? el with
         |none=>simp [ag] at hz
         |some i=>
          cases w2:i.zero with
          |none=>simp [ag,w2] at hz
          |some z=>
           refine ⟨⟨t,u,el,jI,i,z,BI,BJ,iJ,tV, ?_,ag,w2,by simpa [l9,ag] using ay,by simpa [Ek,ag] using IE,by simpa [ag,w2] using hz⟩,fK,jy⟩
           cases jI<;>simp [tV] at kA ⊢
       have fin:EH P ι h w argTypes o.type (bC dE) (bC fe) v ax→w3 P ι h w bC o v ax:=by
        rintro ⟨v',bc,w',cu,cB,gg⟩
        exact ⟨.value v',v',bc,w',by simp [execOp,hx,resolve,invoke,builtin,cu,Result.andThen], .inl rfl,cB,gg⟩
       apply fin
       have IQ:=bq _ _ c1
       have iU:=bq _ _ c2
       generalize ev x=IU at he iU
       cases IU<;>first|(cases he;done)|skip
       · rename_i m a
         obtain ⟨str,sJ,rfl,rfl⟩:=iU
         obtain ⟨qk,he⟩:=BB pg he
         rw [h5,decide_eq_true_eq] at qk
         subst qk
         rw [sJ,qg] at *
         exact IP sI g fR IQ (WR str _ 1 (Go.Lib.size_eq str).symm) (Nr _) (fun y hy=>by obtain ⟨b,_,rfl⟩:=List.mem_map.1 hy;rfl) (by simp) he
       · have iU:bC fe= .slice none 0 0:=iU
         rw [iU]
         exact IP sI g fR IQ ⟨fun w1=>rfl,fun w1 _=>run_firstCells_none w1 r 0 0 0⟩ (new:=[]) (xs:=[]) rfl (by simp) (by simp) he
       · rename_i b q m cap
         obtain ⟨B,y,c,bN,sJ,gD⟩:=iU
         obtain ⟨new,me,he⟩:=BA pg he
         obtain ⟨xs,x1,bR,bW,eM⟩:=Nz (P:=P) g bN gD me rfl
         rw [sJ]
         exact IP sI g fR IQ ⟨fun w1=>rfl,eM⟩ x1 bR bW he
     · cases hok
   · cases hok
 · cases hok
theorem W4 (g:Good ι h w) (bq:∀x a,bn x a=true→bD ι (ev a) (bC x)) {zero:List V} {x:A} (hok:qi P bn o.op (.clear zero x)=true) (he:gM (.clear zero x) call ev h= .ok v ax):w3 P ι h w bC o v ax:=by
 have he:(match ev x with
  | .U=> .ok un h
  | .au b o n _=>h.dB b o (Nat.mul n (cI zero)) (rep n zero) .bad fun h=> .ok un h
  |_=> .bad)=a7.ok v ax:=he
 simp only [qi] at hok
 split at hok
 · rename_i args argTypes hx
   split at hok
   · rename_i fe t hargs BI
     have aS:args= #[fe]:=by cases args;simp at hargs;simp [hargs]
     subst aS
     split at hok
     · rename_i el hu
       simp only [Bool.and_eq_true] at hok
       have iU:=bq _ _ hok.2
       obtain ⟨z,Ew,ly,sG,i,ag,EA⟩:=Bw (P:=P) (w:=w) (ι:=ι) hok.1
       generalize ev x=IU at he iU
       cases IU<;>first|(cases he;done)|skip
       · cases he
         have iU:bC fe= .slice none 0 0:=iU
         exact ⟨.value (.tuple #[]), .tuple #[],ι,w,by simp [execOp,hx,resolve,invoke,builtin,Builtin.clear_,BI,run_underlying hu,iU,Result.andThen], .inl rfl,dp.refl g,w4⟩
       · rename_i b q n cap
         obtain ⟨B,y,c,bN,sJ,gD⟩:=iU
         have he:h.dB b q (n * cI zero) (rep n zero) .bad (fun h=> .ok un h)=a7.ok v ax:=he
         rw [kX,y2 _ _ _ _ _ _ _ g.rk (g.nG bN)] at he
         cases eD:nC h b q (n * zero.length) (rep n zero) with
         |none=>rw [eD] at he;cases he
         |some ji=>
          rw [eD] at he
          cases he
          have oi:z.cells.size=zero.length:=by have:=ly.length;simpa using this
          by_cases hn:n=0
          · subst hn
            rw [Nat.zero_mul] at eD
            cases Ef eD
            exact ⟨.value (.tuple #[]), .tuple #[],ι,w,by simp [execOp,hx,resolve,invoke,builtin,Builtin.clear_,BI,run_underlying hu,sJ,Result.andThen], .inl rfl,dp.refl g,w4⟩
          · have hy:=vl gD (by omega)
            subst hy
            have W5:Builtin.zeroCells z.cells n=madeCells z.cells (n * zero.length):=by simp [Builtin.zeroCells,madeCells,oi]
            have o4:ch ι (rep n zero) (Builtin.zeroCells z.cells n).toList∧∀x∈(Builtin.zeroCells z.cells n).toList,x.oneCell'=true:=by
             rw [W5]
             by_cases h0:zero.length=0
             · rw [h0,Nat.mul_zero]
               have:rep n zero=[]:=List.eq_nil_of_length_eq_zero (by rw [Bx,h0,Nat.mul_zero])
               rw [this];exact ⟨by simp [madeCells];rfl,by simp [madeCells]⟩
             · exact Nq (m:=n) (by omega) rfl ly sG
            obtain ⟨w',cu,cB,gg,mf,_⟩:=Bi (P:=P) g bN eD (by rw [Bx]) o4.1 o4.2
            refine ⟨.value (.tuple #[]), .tuple #[],ι,w', ?_, .inl rfl,dp.same cB gg mf,w4⟩
            cases n with
            |zero=>exact absurd rfl hn
            |succ n=>simp [execOp,hx,resolve,invoke,builtin,Builtin.clear_,BI,run_underlying hu,sJ,Ew,cu,Result.andThen]
     · cases hok
   · cases hok
 · cases hok
end
end
end Go.Eng
namespace Go.Eng
noncomputable section
section
variable {P:Program} {ι:aY} {h ax:ae} {w:World} {bn:jl} {ev:dr} {bC:Operand→Value} {o:Oper} {v:V} {call:et}
theorem W6 (g:Good ι h w) (bq:∀x a,bn x a=true→bD ι (ev a) (bC x)) {r:Nat} {d s:A} (hok:qi P bn o.op (.copy r d s)=true) (he:gM (.copy r d s) call ev h= .ok v ax):w3 P ι h w bC o v ax:=(Bool.false_ne_true hok).elim
end
end
end Go.Eng
namespace Go.Eng
noncomputable section
inductive Src where
 |val (p:Nat)
 |slot (i j:bp)
 |vu (c:Value)
structure cv where
 n:Nat
 f:List (Nat×Option Src)
 s:List ((bp×bp)×Nat)
def look {α β:Type} [DecidableEq α] (a:α):List (α×β)→Option β
 |[]=>none
 |(x,y)::l=>if a=x then some y else look a l
def cv.tmp (F:cv) (t:Nat):Option Src:=match look t F.f with|some s=>s|none=>none
def cv.at_ (F:cv) (i j:bp):Option Nat:=look (i,j) F.s
def oj (F:cv):jl:=fun x a=>
 match x with
 | .tmp t=>(match F.tmp t with
   |none=>false
   |some (.vu c)=>(match a with| .c v=>iu v c|_=>false)
   |some (.val p)=>(match a with
    | .l d=>p+d+1==F.n
    | .t i j=>F.at_ i j==some p
    | .c _=>false)
   |some (.slot cy gA)=>(match a with| .t i j=>decide (i=cy)&&(decide (j=gA)&&F.at_ i j==none)|_=>false))
 | .const c=>(match a with| .c v=>iu v c|_=>false)
 | .func f=>(match a with| .c (.fn g [] [])=>f==g|_=>false)
 | .global _=>(match a with| .c .bot=>true|_=>false)
def Holds (ι:aY) (vs:List V) (bg:Env) (x:Value):Src→Prop
 | .val p=>p<vs.length∧bD ι (lZ vs (vs.length - 1 - p)) x
 | .slot i j=>bD ι (Env.get i j bg) x
 | .vu c=>x=c
structure hl (ι:aY) (F:cv) (vs:List V) (env bg:Env) (tmps:Array Value):Prop where
 len:vs.length=F.n
 jn:∀i j,Env.get i j env=match F.at_ i j with|some p=>lZ vs (vs.length - 1 - p)|none=>Env.get i j bg
 lt:∀i j p,F.at_ i j=some p→p<vs.length
 tmps:∀t s,F.tmp t=some s→Holds ι vs bg (tmps.getD t undef) s
theorem EJ (v:V) (l:List V) (d:Nat):lZ (v::l) (d+1)=lZ l d:=rfl
theorem IV (v:V) (l:List V):lZ (v::l) 0=v:=rfl
theorem tX {ι:aY} {F:cv} {vs:List V} {env bg:Env} {a:Act} (h:hl ι F vs env bg a.tmps):∀x b,oj F x b=true→bD ι (A.ev b vs env) (a.eval x):=by
 intro x b av
 cases x with
 |tmp t=>
  show bD ι _ (a.tmps.getD t undef)
  simp only [oj] at av
  cases ht:F.tmp t with
  |none=>simp [ht] at av
  |some s=>
   have ay:=h.tmps t s ht
   cases s with
   |vu c=>
    simp only [ht] at av
    cases b with
    |c v=>have ay:a.tmps.getD t undef=c:=ay;rw [ay];exact El v c av
    |l d=>cases av
    |t i j=>cases av
   |val p=>
    simp only [ht] at av
    obtain ⟨h1,h2⟩:=ay
    cases b with
    |c v=>cases av
    |l d=>
     have av:p+d+1=F.n:=by simpa using av
     have:vs.length - 1 - p=d:=by have:=h.len;omega
     rw [this] at h2;exact h2
    |t i j=>
     have av:F.at_ i j=some p:=by simpa using av
     have:=h.jn i j
     rw [av] at this
     show bD ι (Env.get i j env) _
     rw [this];exact h2
   |slot cy gA=>
    simp only [ht] at av
    cases b with
    |c v=>cases av
    |l d=>cases av
    |t i j=>
     simp only [Bool.and_eq_true,decide_eq_true_eq,beq_iff_eq] at av
     obtain ⟨rfl,rfl,hn⟩:=av
     have:=h.jn i j
     rw [hn] at this
     show bD ι (Env.get i j env) _
     rw [this];exact ay
 |const c=>
  simp only [oj] at av
  cases b with
  |c v=>exact El v c av
  |l d=>cases av
  |t i j=>cases av
 |func f=>
  simp only [oj] at av
  cases b with
  |c v=>
   cases v<;>first|(cases av;done)|skip
   rename_i g l m
   cases l<;>cases m<;>first|(cases av;done)|skip
   have av:f=g:=by simpa using av
   subst av
   exact ⟨#[], #[],rfl,rfl,rfl⟩
  |l d=>cases av
  |t i j=>cases av
 |global g=>
  cases b with
  |c v=>cases v<;>first|(cases av;done)|exact True.intro
  |l d=>cases av
  |t i j=>cases av
theorem Holds.mono {ι bc:aY} (h:ι.le bc) {vs:List V} {bg:Env} {x:Value} {s:Src} (bQ:Holds ι vs bg x s):Holds bc vs bg x s:=by
 cases s with
 |val p=>exact ⟨bQ.1,bQ.2.mono h⟩
 |slot i j=>exact bD.mono h _ _ bQ
 |vu c=>exact bQ
theorem hl.mono {ι bc:aY} (h:ι.le bc) {F:cv} {vs:List V} {env bg:Env} {tmps:Array Value} (s:hl ι F vs env bg tmps):hl bc F vs env bg tmps:=
 ⟨s.len,s.jn,s.lt,fun t x ht=>(s.tmps t x ht).mono h⟩
theorem Holds.push {ι:aY} {vs:List V} {v:V} {bg:Env} {x:Value} {s:Src} (bQ:Holds ι vs bg x s):Holds ι (v::vs) bg x s:=by
 cases s with
 |val p=>
  obtain ⟨h1,h2⟩:=bQ
  refine ⟨by simp;omega, ?_⟩
  have:(v::vs).length - 1 - p=(vs.length - 1 - p)+1:=by simp;omega
  rw [this,EJ];exact h2
 |slot i j=>exact bQ
 |vu c=>exact bQ
end
end Go.Eng
namespace Go.Eng
noncomputable section
def cv.push (F:cv) (dst:Option Nat) (slot:Option (bp×bp)):cv:=
 ⟨F.n+1,match dst with|some d=>(d,some (.val F.n))::F.f|none=>F.f,match slot with|some IW=>(IW,F.n)::F.s|none=>F.s⟩
def cv.NK (F:cv) (x:Operand):Option Src:=match x with
 | .tmp t=>F.tmp t
 | .const c=>some (.vu c)
 |_=>none
def cv.move (F:cv) (d:Nat) (x:Operand):cv:=⟨F.n,(d,F.NK x)::F.f,F.s⟩
theorem tY {α β:Type} [DecidableEq α] (a x:α) (y:β) (l:List (α×β)):look a ((x,y)::l)=if a=x then some y else look a l:=rfl
theorem BK {tmps:Array Value} {d t:Nat} {x:Value} (aQ:d<tmps.size):(tmps.setIfInBounds d x).getD t undef=if t=d then x else tmps.getD t undef:=by
 by_cases h:t=d
 · subst h;simp [Array.getD,aQ]
 · rw [if_neg h]
   simp only [Array.getD_eq_getD_getElem?]
   rw [Array.getElem?_setIfInBounds_ne (Ne.symm h)]
theorem hl.push {ι:aY} {F:cv} {vs:List V} {env bg:Env} {a:Act} (s:hl ι F vs env bg a.tmps) {v:V} {x:Value} (aD:bD ι v x) {dst:Option Nat} (aQ:∀d,dst=some d→d<a.tmps.size):
  hl ι (F.push dst none) (v::vs) env bg (a.put dst x).tmps:=by
 have hlen:=s.len
 have me:Holds ι (v::vs) bg x (.val F.n):=by
  refine ⟨by simp;omega, ?_⟩
  have:(v::vs).length - 1 - F.n=0:=by simp;omega
  rw [this,IV];exact aD
 refine ⟨by simp [cv.push,hlen],fun i j=> ?_,fun i j p hp=>by have:F.at_ i j=some p:=hp;have:=s.lt i j p this;simp;omega,fun t src ht=> ?_⟩
 · have h1:(F.push dst none).at_ i j=F.at_ i j:=rfl
   rw [h1,s.jn i j]
   cases hp:F.at_ i j with
   |none=>rfl
   |some p=>
    have:=s.lt i j p hp
    show lZ vs _=lZ (v::vs) _
    rw [show (v::vs).length - 1 - p=(vs.length - 1 - p)+1 by simp;omega,EJ]
 · cases dst with
   |none=>
    have ht:F.tmp t=some src:=ht
    exact (s.tmps t src ht).push
   |some d=>
    have tV:=aQ d rfl
    show Holds ι (v::vs) bg ((a.tmps.setIfInBounds d x).getD t undef) src
    rw [BK tV]
    have ht:(match look t ((d,some (.val F.n))::F.f) with|some s=>s|none=>none)=some src:=ht
    rw [tY] at ht
    by_cases e:t=d
    · rw [if_pos e] at ht ⊢;cases ht;exact me
    · rw [if_neg e] at ht ⊢;exact (s.tmps t src ht).push
theorem hl.IX {ι:aY} {F:cv} {vs:List V} {env bg:Env} {a:Act} (s:hl ι F vs env bg a.tmps) {v:V} {x:Value} (aD:bD ι v x) {dst:Option Nat} (aQ:∀d,dst=some d→d<a.tmps.size) (i j:bp):
  hl ι (F.push dst (some (i,j))) (v::vs) (Env.set i j v env) bg (a.put dst x).tmps:=by
 have dE:=s.push aD aQ
 have hlen:=s.len
 have eL:∀cy gA,(F.push dst (some (i,j))).at_ cy gA=if (cy,gA)=(i,j) then some F.n else F.at_ cy gA:=fun cy gA=>rfl
 refine ⟨dE.len,fun cy gA=> ?_,fun cy gA p hp=> ?_,dE.tmps⟩
 · rw [eL,Env.eU]
   by_cases e:cy=i∧gA=j
   · rw [if_pos e,if_pos (by rw [e.1,e.2])]
     show v=lZ (v::vs) ((v::vs).length - 1 - F.n)
     rw [show (v::vs).length - 1 - F.n=0 by simp;omega,IV]
   · rw [if_neg e,if_neg (by intro h;cases h;exact e ⟨rfl,rfl⟩)]
     exact dE.jn cy gA
 · rw [eL] at hp
   by_cases e:(cy,gA)=(i,j)
   · rw [if_pos e] at hp;cases hp;simp;omega
   · rw [if_neg e] at hp;exact dE.lt cy gA p hp
theorem hl.move {ι:aY} {F:cv} {vs:List V} {env bg:Env} {a:Act} (s:hl ι F vs env bg a.tmps) {d:Nat} (aQ:d<a.tmps.size) (x:Operand):hl ι (F.move d x) vs env bg (a.put (some d) (a.eval x)).tmps:=by
 refine ⟨s.len,s.jn,s.lt,fun t src ht=> ?_⟩
 show Holds ι vs bg ((a.tmps.setIfInBounds d (a.eval x)).getD t undef) src
 rw [BK aQ]
 have ht:(match look t ((d,F.NK x)::F.f) with|some s=>s|none=>none)=some src:=ht
 rw [tY] at ht
 by_cases e:t=d
 · rw [if_pos e] at ht ⊢
   cases x with
   |tmp gW=>exact s.tmps gW src ht
   |const c=>cases ht;rfl
   |global g=>cases ht
   |func f=>cases ht
 · rw [if_neg e] at ht ⊢;exact s.tmps t src ht
end
end Go.Eng
namespace Go.Eng
noncomputable section
section
variable {R:Type}
theorem W7 (br ag m:Nat) (h:ae) (k:ae→R):∃h1,h1.next=h.next∧sj br ag m h k=k h1:=by
 unfold sj
 cases h.obj m with
 |none=>exact ⟨h,rfl,rfl⟩
 |some aG=>
  cases aG with
  |cells r f ap n t=>
   show ∃h1,h1.next=h.next∧(Bool.rec (k h) (h.jw m .dead k) (ap.blt ag&&br.blt (Nat.add ap n)):R)=k h1
   cases (ap.blt ag&&br.blt (Nat.add ap n)) with
   |false=>exact ⟨h,rfl,rfl⟩
   |true=>simp only [qc];exact ⟨_,by rfl,rfl⟩
  |_=>exact ⟨h,rfl,rfl⟩
theorem EK (br ag but:Nat):∀(l:List Nat) (h:ae) (k:ae→R),∃h1,h1.next=h.next∧sk br ag but l h k=k h1
 |[],h,k=>⟨h,rfl,rfl⟩
 |m::l,h,k=>by
  rw [MG]
  cases hb:m.beq but with
  |true=>
   obtain ⟨h1,a,b⟩:=EK br ag but l h k
   exact ⟨h1,a,by simpa [hb] using b⟩
  |false=>
   obtain ⟨h2,a2,eQ⟩:=W7 br ag m h fun h=>sk br ag but l h k
   obtain ⟨h1,a,b⟩:=EK br ag but l h2 k
   exact ⟨h1,a.trans a2,by simpa [hb] using eQ.trans b⟩
theorem W8 (h:ae) (f br ag but:Nat) (k:ae→R):∃h1,h1.next=h.next∧h.q7 f br ag but k=k h1:=by
 unfold ae.q7
 cases T.get f h.bA with
 |none=>exact ⟨h,rfl,rfl⟩
 |some F=>exact EK br ag but F.mem h k
theorem NL (h:ae) (b o n:Nat) (vs:List V) (d:R) (k:ae→R):h.dB b o n vs d k=d∨∃h1,h1.next=h.next∧h.dB b o n vs d k=k h1:=by
 unfold ae.dB
 cases n.beq 0 with
 |true=>exact .inr ⟨h,rfl,rfl⟩
 |false=>
  cases b.blt 8 with
  |true=>exact .inl rfl
  |false=>
  simp only [cond_false]
  cases h.obj b with
  |none=>exact .inl rfl
  |some aG=>
   cases aG with
   |dead=>exact .inl rfl
   |map es c=>exact .inl rfl
   |box row=>
    show (bif _ then _ else d)=d∨∃h1,h1.next=h.next∧(bif _ then _ else d)=k h1
    cases (Nat.add o n).ble (cI row) with
    |false=>exact .inl rfl
    |true=>simp only [cond_true,l4,qc];exact .inr ⟨_,by rfl,rfl⟩
   |cells r f ap bk rows=>
    show (bif _ then _ else d)=d∨∃h1,h1.next=h.next∧(bif _ then _ else d)=k h1
    cases (Nat.add o n).ble bk with
    |false=>exact .inl rfl
    |true=>
     simp only [cond_true,MD]
     cases ve r o n vs rows with
     |none=>exact .inl rfl
     |some t=>
      simp only [qc]
      obtain ⟨h1,a,bL⟩:=W8 h f (Nat.add ap o) (Nat.add (Nat.add ap o) n) b (fun h1=>k ⟨T.set b (.cells r f ap bk t) h1.t,h1.next,h1.bA,h1.ds,h1.bO⟩)
      exact .inr ⟨⟨T.set b (.cells r f ap bk t) h1.t,h1.next,h1.bA,h1.ds,h1.bO⟩,a,bL⟩
theorem NM (h:ae) (b f ap bk e top:Nat) (k:ae→R):∃h1,h1.next=h.next∧grown h b f ap bk e top k=k h1:=by
 unfold grown
 cases T.get f h.bA with
 |none=>
  show ∃h1,h1.next=h.next∧(Bool.rec (lq h f top [h.next,b] k) (h.jw b .dead fun h=>lq h f top [h.next,b] k) (e.blt (Nat.add ap bk)):R)=k h1
  cases e.blt (Nat.add ap bk) with
  |false=>simp only [wS];exact ⟨_,by rfl,rfl⟩
  |true=>simp only [wS,qc];exact ⟨_,by rfl,rfl⟩
 |some F=>
  show ∃h1,h1.next=h.next∧(Bool.rec (sk e (Nat.add (gV.last F) top) h.next (gV.mem F) h fun h=>lq h f top (h.next::gV.mem F) k) (lq h f top (h.next::gV.mem F) k) ((gV.last F).ble e):R)=k h1
  cases (gV.last F).ble e with
  |true=>simp only [wS];exact ⟨_,by rfl,rfl⟩
  |false=>
   simp only [wS]
   obtain ⟨h1,a,bL⟩:=EK e (Nat.add (gV.last F) top) h.next (gV.mem F) h (fun h1=>k ⟨h1.t,h1.next,T.set f ⟨top,h1.next::gV.mem F⟩ h1.bA,h1.ds,h1.bO⟩)
   refine ⟨⟨h1.t,h1.next,T.set f ⟨top,h1.next::gV.mem F⟩ h1.bA,h1.ds,h1.bO⟩,a, ?_⟩
   exact bL
end
end
end Go.Eng
namespace Go.Eng
noncomputable section
section
variable {ev:dr} {h ax:ae} {v:V} {call:et}
def a7.next (h:ae):a7→Prop
 | .ok _ ax=>h.next≤ax.next
 | .c8 _ ax=>h.next≤ax.next
 | .bad=>True
def lA (call:et):Prop:=∀f as_ bO h,a7.next h (call f as_ bO h).1
theorem w9 {b o n:Nat} {vs:List V} {x:V} {h0:ae} (hn:h0.next≤h.next):a7.next h0 (h.dB b o n vs .bad fun h=> .ok x h):=by
 rcases NL h b o n vs a7.bad (fun h=> .ok x h) with e|⟨h1,a,e⟩
 · rw [e];trivial
 · rw [e];show h0.next≤h1.next;omega
theorem EL {o:Obj} {x:V} {h0:ae} (hn:h0.next≤h.next):a7.next h0 (mk h o x):=by
 show a7.next h0 (Bool.rec .bad (h.kq o fun h=> .ok x h) (eT o))
 cases (eT o) with
 |false=>trivial
 |true=>rw [nD];show h0.next≤h.next+1;omega
theorem W9 {r bytes b q n m:Nat} {cap:Option Nat} {new:List V}:a7.next h (p5 h r bytes b q n cap new m):=by
 unfold p5
 simp only [force_eq]
 cases ((Nat.mul (Nat.add n m) bytes).ble 1099511627776&&Nat.ble 8 b) with
 |false=>trivial
 |true=>
  rw [cond_true]
  cases cap with
  |some c=>
   show a7.next h (bif (Nat.add n m).ble c then _ else _)
   cases (Nat.add n m).ble c with
   |true=>exact w9 (Nat.le_refl _)
   |false=>
    show a7.next h (Option.rec .bad _ (h.load b q (Nat.mul n r)))
    cases h.load b q (Nat.mul n r) with
    |none=>trivial
    |some old=>simp only [h6];exact EL (Nat.le_refl _)
  |none=>
   show a7.next h (Obj.cells? .bad _ (h.obj b))
   cases h.obj b with
   |none=>trivial
   |some aG=>
    cases aG with
    |cells dt f ap bk rows=>
     show a7.next h (bif dt.beq r&&(q.mod r).beq 0 then _ else .bad)
     cases (dt.beq r&&(q.mod r).beq 0) with
     |false=>trivial
     |true=>
      rw [cond_true]
      cases (Nat.add q (Nat.mul (Nat.add n m) r)).ble bk with
      |true=>exact w9 (Nat.le_refl _)
      |false=>
       rw [cond_false]
       cases (Nat.add q (Nat.mul n r)).ble bk with
       |false=>trivial
       |true=>
        rw [cond_true]
        obtain ⟨h1,a,e⟩:=NM h b f ap bk (Nat.add (Nat.add ap q) (Nat.mul n r)) (Nat.add (Nat.add ap q) (Nat.mul (Nat.add n m) r)) (fun h1=>
         bif q.beq 0 then gl r m n new rows fun t=>mk h1 (.cells r f ap (Nat.mul (Nat.add n m) r) t) (.au h.next 0 (Nat.add n m) none)
         else Option.rec .bad (fun old=>gl r (Nat.add n m) 0 (fx old new) T.e fun t=>mk h1 (.cells r f (Nat.add ap q) (Nat.mul (Nat.add n m) r) t) (.au h.next 0 (Nat.add n m) none)) (kU rows n (q.div r)))
        show a7.next h (grown h b f ap bk _ _ _)
        rw [e]
        have hle:h.next≤h1.next:=by omega
        cases q.beq 0 with
        |true=>simp only [cond_true,h6];exact EL hle
        |false=>
         rw [cond_false]
         cases kU rows n (q.div r) with
         |none=>trivial
         |some old=>simp only [h6];exact EL hle
    |_=>trivial
theorem IY {r bytes m:Nat} {s:V} {new:List V}:a7.next h (fH h r bytes s new m):=by
 unfold fH
 split
 · cases m.beq 0 with
   |true=>exact Nat.le_refl _
   |false=>
    rw [cond_false]
    cases (Nat.mul m bytes).ble 1099511627776 with
    |false=>trivial
    |true=>simp only [cond_true,force_eq,h6];exact EL (Nat.le_refl _)
 · cases m.beq 0 with
   |true=>exact Nat.le_refl _
   |false=>exact W9
 · trivial
theorem NN {b o m r:Nat} {l:Option (List V)}:a7.next h (u4 h b o m r l):=by
 cases l with
 |none=>trivial
 |some l=>exact w9 (Nat.le_refl _)
theorem NP {r:a7} (hr:a7.next h r):a7.next h (rb h r):=by
 cases r with
 |ok v ax=>exact hr
 |c8 v ax=>exact hr
 |bad=>trivial
theorem IZ (av:lA call) (e:nu):a7.next h (gM e call ev h):=by
 have xa:∀f as_,a7.next h (call f as_ .none h).1:=fun f as_=>av f as_ .none h
 cases e with
 |store n a x=>
  show a7.next h (Option.rec .bad (fun p=>Option.rec .bad (fun l=>Bool.rec .bad (h.dB p.1 p.2 n l .bad fun h=> .ok un h) ((cI l).beq n)) (ev x).dA) (ev a).lo:a7)
  cases (ev a).lo with
  |none=>trivial
  |some p=>
   show a7.next h (Option.rec .bad (fun l=>Bool.rec .bad (h.dB p.1 p.2 n l .bad fun h=> .ok un h) ((cI l).beq n)) (ev x).dA:a7)
   cases (ev x).dA with
   |none=>trivial
   |some l=>
    show a7.next h (Bool.rec .bad (h.dB p.1 p.2 n l .bad fun h=> .ok un h) ((cI l).beq n):a7)
    cases (cI l).beq n with
    |false=>trivial
    |true=>exact w9 (Nat.le_refl _)
 |yK q m k v=>
  show a7.next h (match ev m with
   | .map b=>bif b.blt 8 then .bad else Obj.map? .bad (fun es c=>Option.rec .bad (fun y=>gK y.1 fun l=>force y.2 fun c=>h.jw b (.map l c) fun h=> .ok un h) ((ev k).force fun x=>(ev v).force fun v=>wJ (u3 q) x v c es)) (h.obj b)
   |_=> .bad)
  split
  · rename_i b _
    cases b.blt 8 with
    |true=>trivial
    |false=>
    simp only [cond_false]
    cases h.obj b with
    |none=>trivial
    |some aG=>
     cases aG with
     |map es c=>
      show a7.next h (Option.rec .bad (fun y=>gK y.1 fun l=>force y.2 fun c=>h.jw b (.map l c) fun h=> .ok un h) ((ev k).force fun x=>(ev v).force fun v=>wJ (u3 q) x v c es):a7)
      cases ((ev k).force fun x=>(ev v).force fun v=>wJ (u3 q) x v c es) with
      |none=>trivial
      |some y=>simp only [l4,force_eq,qc];exact Nat.le_refl _
     |_=>trivial
  · trivial
 |call f as_=>exact NP (xa f _)
 |q6 x as_=>
  show a7.next h (Option.rec .bad (fun x=>rb h (call x.1 (fx x.2.1 (fx (hi as_ ev) x.2.2)) .none h).1) (ev x).yI:a7)
  cases (ev x).yI with
  |none=>trivial
  |some y=>exact NP (xa _ _)
 |append r bytes s x=>
  show a7.next h (match ev x with
   | .U=>fH h r bytes (ev s) [] 0
   | .au b o m _=>Option.rec .bad (fun new=>fH h r bytes (ev s) new m) (h.load b o (Nat.mul m r))
   | .str m a=>bif r.beq 1 then fH h r bytes (ev s) (mE (gy m a)) m else .bad
   |_=> .bad)
  split
  · exact IY
  · rename_i b o m _ _
    cases h.load b o (Nat.mul m r) with
    |none=>trivial
    |some l=>exact IY
  · cases r.beq 1 with
    |false=>trivial
    |true=>exact IY
  · trivial
 |copy r d s=>
  show a7.next h (match ev d with
   | .U=>(match ev s with
     | .U| .au .. | .str .. =>a7.ok (.int .i64 (.ofNat 0)) h
     |_=> .bad)
   | .au b o n _=>(match ev s with
     | .U=> .ok (.int .i64 (.ofNat 0)) h
     | .au c q m _=>u4 h b o (n9 m n) r (h.load c q (Nat.mul (n9 m n) r))
     | .str m a=>u4 h b o (n9 m n) 1 (some (mD (n9 m n) (mE (gy m a))))
     |_=> .bad)
   |_=> .bad)
  split
  · split<;>first|exact Nat.le_refl _|trivial
  · split
    · exact Nat.le_refl _
    · exact NN
    · exact NN
    · trivial
  · trivial
 |clear zero x=>
  show a7.next h (match ev x with
   | .U=> .ok un h
   | .au b o n _=>h.dB b o (Nat.mul n (cI zero)) (rep n zero) .bad fun h=> .ok un h
   |_=> .bad)
  split
  · exact Nat.le_refl _
  · exact w9 (Nat.le_refl _)
  · trivial
 |recover=>
  show a7.next h (match h.bO with
   | .some v=> .ok v ⟨h.t,h.next,h.bA,h.ds, .recovered⟩
   |_=> .ok .jG h)
  split<;>exact Nat.le_refl _
 |defer x as_=>
  show a7.next h (match ev x with
   | .fn f first cap=> .ok un ⟨h.t,h.next,h.bA,(.fn f first cap,hi as_ ev)::h.ds,h.bO⟩
   |_=> .bad)
  split
  · exact Nat.le_refl _
  · trivial
 |panic x=>
  show a7.next h (match ev x with
   | .ez t v=> .c8 (.ez t v) h
   |_=> .bad)
  split
  · exact Nat.le_refl _
  · trivial
end
end
end Go.Eng
namespace Go.Eng
noncomputable section
section
variable {ev:dr} {h ax:ae} {v:V} {call:et} {env env':Env} {k:tF} {x:X}
inductive Xa (op:Op) (call:et) (ev:dr) (env:Env) (h:ae) (k:tF) (r:bj):Prop where
 |val (e:hh) (v:V) (bq:op= .L e) (he:light e ev h= .val v) (hk:k v h=r)
 |new (e:hh) (aG:Obj) (v:V) (bq:op= .L e) (he:light e ev h= .new aG v) (ar:0≤h.next) (ay:eT aG=true) (hk:k v (h.add aG)=r)
 |aD (e:nu) (v:V) (h1:ae) (bq:op= .H e) (he:gM e call ev h= .ok v h1) (hk:k v h1=r)
 |c8 (e:nu) (v:V) (h1:ae) (bq:op= .H e) (he:gM e call ev h= .c8 v h1) (hr:r= .ok (.c8 v) env h1)
theorem NQ {op:Op} {r:bj} (hr:r≠.bad) (he:sq op call ev env h k=r):Xa op call ev env h k r:=by
 cases op with
 |L e=>
  have he:(light e ev h).k h k=r:=he
  generalize ar:light e ev h=I0 at he
  cases I0 with
  |val v=>
   have he:v.force (fun v=>k v h)=r:=he
   rw [V.force_eq] at he
   exact .val e v rfl ar he
  |new o v=>
   have he:(Bool.rec .bad (h.kq o fun h=>k v h) (eT o):bj)=r:=he
   cases av:(eT o) with
   |false=>rw [av] at he;exact absurd he.symm hr
   |true=>
    rw [av,nD] at he
    exact .new e o v rfl ar (Nat.zero_le _) av he
  |bad=>exact absurd (show bj.bad=r from he).symm hr
 |H e=>
  have he:(gM e call ev h).k env k=r:=he
  generalize bQ:gM e call ev h=I0 at he
  cases I0 with
  |ok v h1=>
   have he:v.force (fun v=>k v h1)=r:=he
   rw [V.force_eq] at he
   exact .aD e v h1 rfl bQ he
  |c8 v h1=>exact .c8 e v h1 rfl bQ (show bj.ok (.c8 v) env h1=r from he).symm
  |bad=>exact absurd (show bj.bad=r from he).symm hr
def bj.next (h:ae):bj→Prop
 | .ok _ _ ax=>h.next≤ax.next
 | .bad=>True
theorem I1 (av:lA call) {op:Op} (hk:∀v h1,h.next≤h1.next→bj.next h (k v h1)):bj.next h (sq op call ev env h k):=by
 generalize hr:sq op call ev env h k=r
 cases r with
 |bad=>trivial
 |ok x env' ax=>
  rcases NQ (by simp) hr with ⟨e,v,bq,he,bl⟩|⟨e,aG,v,bq,he,ar,ay,bl⟩|⟨e,v,h1,bq,he,bl⟩|⟨e,v,h1,bq,he,bl⟩
  · rw [←bl];exact hk v h (Nat.le_refl _)
  · rw [←bl];exact hk v _ (Nat.le_succ _)
  · rw [←bl];refine hk v h1 ?_
    have:=IZ (ev:=ev) (h:=h) av e;rw [he] at this;exact this
  · cases bl
    have:=IZ (ev:=ev) (h:=h) av e;rw [he] at this;exact this
theorem bj.xb {h h1:ae} {r:bj} (Xb:h.next≤h1.next) (hr:bj.next h1 r):bj.next h r:=by
 cases r with
 |bad=>trivial
 |ok x env ax=>exact Nat.le_trans Xb hr
theorem I2 (av:lA call):∀(l:List eA) (vs:List V) (env:Env) (h:ae),bj.next h (eH l call vs env h)
 |[],vs,env,h=>Nat.le_refl _
 |o::l,vs,env,h=>by
  have bm:=I2 av l
  have plain:∀op,bj.next h (tG op (eH l) call vs env h):=fun op=>I1 av fun v h1 hn=>bj.xb hn (bm _ _ _)
  have slot:∀i j op,bj.next h (wL i j op (eH l) call vs env h):=fun i j op=>I1 av fun v h1 hn=>by rw [Env.h4];exact bj.xb hn (bm _ _ _)
  cases o with
  |p op=>exact plain op
  |s i j op=>exact slot i j op
  |g g b op=>
   show bj.next h (Option.rec .bad (fun c=>Bool.rec (eH l call (un::vs) env h) (tG op (eH l) call vs env h) c) ((g.ev vs env).dq b):bj)
   cases (g.ev vs env).dq b with
   |none=>trivial
   |some c=>
    show bj.next h (Bool.rec (eH l call (un::vs) env h) (tG op (eH l) call vs env h) c:bj)
    cases c with
    |false=>exact bm _ _ _
    |true=>exact plain op
  |gs g b i j op=>
   show bj.next h (Option.rec .bad (fun c=>Bool.rec (Env.dg i j un (fun env=>eH l call (un::vs) env h) env) (wL i j op (eH l) call vs env h) c) ((g.ev vs env).dq b):bj)
   cases (g.ev vs env).dq b with
   |none=>trivial
   |some c=>
    show bj.next h (Bool.rec (Env.dg i j un (fun env=>eH l call (un::vs) env h) env) (wL i j op (eH l) call vs env h) c:bj)
    cases c with
    |false=>rw [Env.h4];exact bm _ _ _
    |true=>exact slot i j op
end
end
end Go.Eng
namespace Go.Eng
noncomputable section
def Xc:nu→Bool
 | .recover=>false
 | .defer .. =>false
 |_=>true
def mM (P:Program) (F:cv) (o:Go.Op):Op→Bool
 | .L e=>dn P (oj F) o e
 | .H e=>Xc e&&qi P (oj F) o e
def rp (ι:aY) (h:ae) (w:World) (r:a7) (e:Ending) (w':World):Prop:=
 match r,e with
 | .ok v ax, .returned v'=>∃bc,dp ι h w bc ax w'∧bD bc v v'
 | .c8 v ax, .panicked EM=>∃v' bc,EM=[{v:=v',recovered:=false}]∧dp ι h w bc ax w'∧bD bc v v'
 |_,_=>False
def a7.free (ι:aY) (h:ae):a7→Prop
 | .ok _ ax=>jm ι h ax
 | .c8 _ ax=>jm ι h ax
 | .bad=>False
def om (P:Program) (f:Nat):Prop:=∃fn,P.funcs[f]? =some fn∧(fn.name== "runtime.NumGoroutine")=false∧fn.body.isSome=true
def ql (P:Program) (call:et):Prop:=
 ∀f as_ h,(call f as_ .none h).1≠.bad→om P f∧∀ι w (args:Array Value),Good ι h w→a7.free ι h (call f as_ .none h).1→ch ι as_ args.toList→Calls P f args w (rp ι h w (call f as_ .none h).1)
section
variable {P:Program} {ι:aY} {h ax:ae} {w:World} {F:cv} {vs:List V} {env bg:Env} {a:Act} {o:Oper} {v:V} {call:et}
theorem Xd {f:Nat} (hb:om P f) (args:Array Value):(callFunc f args).run P w= .ok (.enter f args) w:=by
 obtain ⟨fn,h1,h2,a6⟩:=hb
 cases j1:fn.body with
 |none=>rw [j1] at a6;cases a6
 |some c=>
  have y0:¬fn.name= "runtime.NumGoroutine" :=by simpa using h2
  simp [callFunc,h1,y0,j1,Result.andThen]
theorem Good.back {ι:aY} {h h1:ae} {w:World} (g:Good ι h1 w):Good ι (back h h1) w:=⟨g.obj,g.kr,g.same,g.cO,g.last,g.hT,g.mem,g.lim,g.kY,g.small,g.tJ,g.od⟩
theorem dp.back {ι bc:aY} {h h0 h1:ae} {w w':World} (c:dp ι h w bc h1 w'):dp ι h w bc (back h0 h1) w':=⟨c.fJ.back,c.frame,c.ext,c.sep⟩
theorem Xe {f:Nat} {args:Array Value} {as_:List V} {next:Act→World→Prop} {Q:Exit→Act→World→Prop} (dQ:ql P call) (g:Good ι h w) (iI:(execOp a.eval o).run P w= .ok (.enter f args) w)
  (bG:(call f as_ .none h).1≠.bad) (fR:a7.free ι h (call f as_ .none h).1) (hr:ch ι as_ args.toList)
  (hok:∀h1 v v' bc w',(call f as_ .none h).1= .ok v h1→dp ι h w bc h1 w'→bD bc v v'→next (a.put o.dst v') w')
  (sK:∀h1 v v' bc w',(call f as_ .none h).1= .c8 v h1→dp ι h w bc h1 w'→bD bc v v'→Q (.panic [{v:=v',recovered:=false}]) a w'):o.wp P a w next Q:=by
 unfold Oper.wp
 rw [iI,Oper.upon_enter]
 refine Calls.mono (((dQ f as_ h bG).2 ι w args g fR hr)) fun e w' he=> ?_
 generalize hres:(call f as_ .none h).1=r at he hok sK
 cases r with
 |bad=>exact absurd hres bG
 |ok v1 h1=>
  cases e with
  |returned v'=>obtain ⟨bc,c,aD⟩:=he;exact hok h1 v1 v' bc w' rfl c aD
  |panicked EM=>exact he.elim
  |outgrown=>exact he.elim
 |c8 v1 h1=>
  cases e with
  |returned v'=>exact he.elim
  |panicked EM=>obtain ⟨v',bc,rfl,c,aD⟩:=he;exact sK h1 v1 v' bc w' rfl c aD
  |outgrown=>exact he.elim
end
end
end Go.Eng
namespace Go.Eng
noncomputable section
section
variable {ev:dr} {h ax:ae} {v:V} {call:et}
def jo (r:a7):Prop:=∀v h,r≠.c8 v h
theorem h8:jo .bad:=fun _ _ e=>by cases e
theorem sL {v:V} {h:ae}:jo (.ok v h):=fun _ _ e=>by cases e
theorem BL {b o n:Nat} {vs:List V} {x:V}:jo (h.dB b o n vs .bad fun h=> .ok x h):=by
 rcases NL h b o n vs a7.bad (fun h=> .ok x h) with e|⟨h1,a,e⟩
 · rw [e];exact h8
 · rw [e];exact sL
theorem EN {o:Obj} {x:V}:jo (mk h o x):=by
 show jo (Bool.rec .bad (h.kq o fun h=> .ok x h) (eT o))
 cases (eT o) with
 |false=>exact h8
 |true=>rw [nD];exact sL
theorem Xf {r bytes b q n m:Nat} {cap:Option Nat} {new:List V}:jo (p5 h r bytes b q n cap new m):=by
 unfold p5
 simp only [force_eq]
 cases ((Nat.mul (Nat.add n m) bytes).ble 1099511627776&&Nat.ble 8 b) with
 |false=>exact h8
 |true=>
  rw [cond_true]
  cases cap with
  |some c=>
   show jo (bif (Nat.add n m).ble c then _ else _)
   cases (Nat.add n m).ble c with
   |true=>exact BL
   |false=>
    show jo (Option.rec .bad _ (h.load b q (Nat.mul n r)))
    cases h.load b q (Nat.mul n r) with
    |none=>exact h8
    |some old=>simp only [h6];exact EN
  |none=>
   show jo (Obj.cells? .bad _ (h.obj b))
   cases h.obj b with
   |none=>exact h8
   |some aG=>
    cases aG with
    |cells dt f ap bk rows=>
     show jo (bif dt.beq r&&(q.mod r).beq 0 then _ else .bad)
     cases (dt.beq r&&(q.mod r).beq 0) with
     |false=>exact h8
     |true=>
      rw [cond_true]
      cases (Nat.add q (Nat.mul (Nat.add n m) r)).ble bk with
      |true=>exact BL
      |false=>
       rw [cond_false]
       cases (Nat.add q (Nat.mul n r)).ble bk with
       |false=>exact h8
       |true=>
        rw [cond_true]
        obtain ⟨h1,a,e⟩:=NM h b f ap bk (Nat.add (Nat.add ap q) (Nat.mul n r)) (Nat.add (Nat.add ap q) (Nat.mul (Nat.add n m) r)) (fun h1=>
         bif q.beq 0 then gl r m n new rows fun t=>mk h1 (.cells r f ap (Nat.mul (Nat.add n m) r) t) (.au h.next 0 (Nat.add n m) none)
         else Option.rec .bad (fun old=>gl r (Nat.add n m) 0 (fx old new) T.e fun t=>mk h1 (.cells r f (Nat.add ap q) (Nat.mul (Nat.add n m) r) t) (.au h.next 0 (Nat.add n m) none)) (kU rows n (q.div r)))
        show jo (grown h b f ap bk _ _ _)
        rw [e]
        cases q.beq 0 with
        |true=>simp only [cond_true,h6];exact EN
        |false=>
         rw [cond_false]
         cases kU rows n (q.div r) with
         |none=>exact h8
         |some old=>simp only [h6];exact EN
    |_=>exact h8
theorem I3 {r bytes m:Nat} {s:V} {new:List V}:jo (fH h r bytes s new m):=by
 unfold fH
 split
 · cases m.beq 0 with
   |true=>exact sL
   |false=>
    rw [cond_false]
    cases (Nat.mul m bytes).ble 1099511627776 with
    |false=>exact h8
    |true=>simp only [cond_true,force_eq,h6];exact EN
 · cases m.beq 0 with
   |true=>exact sL
   |false=>exact Xf
 · exact h8
theorem NR {b o m r:Nat} {l:Option (List V)}:jo (u4 h b o m r l):=by
 cases l with
 |none=>exact h8
 |some l=>exact BL
def Xg:nu→Bool
 | .call .. | .q6 .. | .panic .. =>true
 |_=>false
theorem Xh (e:nu) (hp:Xg e=false):jo (gM e call ev h):=by
 cases e with
 |store n a x=>
  show jo (Option.rec .bad (fun p=>Option.rec .bad (fun l=>Bool.rec .bad (h.dB p.1 p.2 n l .bad fun h=> .ok un h) ((cI l).beq n)) (ev x).dA) (ev a).lo:a7)
  cases (ev a).lo with
  |none=>exact h8
  |some p=>
   show jo (Option.rec .bad (fun l=>Bool.rec .bad (h.dB p.1 p.2 n l .bad fun h=> .ok un h) ((cI l).beq n)) (ev x).dA:a7)
   cases (ev x).dA with
   |none=>exact h8
   |some l=>
    show jo (Bool.rec .bad (h.dB p.1 p.2 n l .bad fun h=> .ok un h) ((cI l).beq n):a7)
    cases (cI l).beq n with
    |false=>exact h8
    |true=>exact BL
 |yK q m k v=>
  show jo (match ev m with
   | .map b=>bif b.blt 8 then .bad else Obj.map? .bad (fun es c=>Option.rec .bad (fun y=>gK y.1 fun l=>force y.2 fun c=>h.jw b (.map l c) fun h=> .ok un h) ((ev k).force fun x=>(ev v).force fun v=>wJ (u3 q) x v c es)) (h.obj b)
   |_=> .bad)
  split
  · rename_i b _
    cases b.blt 8 with
    |true=>exact h8
    |false=>
    simp only [cond_false]
    cases h.obj b with
    |none=>exact h8
    |some aG=>
     cases aG with
     |map es c=>
      show jo (Option.rec .bad (fun y=>gK y.1 fun l=>force y.2 fun c=>h.jw b (.map l c) fun h=> .ok un h) ((ev k).force fun x=>(ev v).force fun v=>wJ (u3 q) x v c es):a7)
      cases ((ev k).force fun x=>(ev v).force fun v=>wJ (u3 q) x v c es) with
      |none=>exact h8
      |some y=>simp only [l4,force_eq,qc];exact sL
     |_=>exact h8
  · exact h8
 |call f as_=>cases hp
 |q6 x as_=>cases hp
 |append r bytes s x=>
  show jo (match ev x with
   | .U=>fH h r bytes (ev s) [] 0
   | .au b o m _=>Option.rec .bad (fun new=>fH h r bytes (ev s) new m) (h.load b o (Nat.mul m r))
   | .str m a=>bif r.beq 1 then fH h r bytes (ev s) (mE (gy m a)) m else .bad
   |_=> .bad)
  split
  · exact I3
  · rename_i b o m _ _
    cases h.load b o (Nat.mul m r) with
    |none=>exact h8
    |some l=>exact I3
  · cases r.beq 1 with
    |false=>exact h8
    |true=>exact I3
  · exact h8
 |copy r d s=>
  show jo (match ev d with
   | .U=>(match ev s with
     | .U| .au .. | .str .. =>a7.ok (.int .i64 (.ofNat 0)) h
     |_=> .bad)
   | .au b o n _=>(match ev s with
     | .U=> .ok (.int .i64 (.ofNat 0)) h
     | .au c q m _=>u4 h b o (n9 m n) r (h.load c q (Nat.mul (n9 m n) r))
     | .str m a=>u4 h b o (n9 m n) 1 (some (mD (n9 m n) (mE (gy m a))))
     |_=> .bad)
   |_=> .bad)
  split
  · split<;>first|exact sL|exact h8
  · split
    · exact sL
    · exact NR
    · exact NR
    · exact h8
  · exact h8
 |clear zero x=>
  show jo (match ev x with
   | .U=> .ok un h
   | .au b o n _=>h.dB b o (Nat.mul n (cI zero)) (rep n zero) .bad fun h=> .ok un h
   |_=> .bad)
  split
  · exact sL
  · exact BL
  · exact h8
 |recover=>
  show jo (match h.bO with
   | .some v=> .ok v ⟨h.t,h.next,h.bA,h.ds, .recovered⟩
   |_=> .ok .jG h)
  split<;>exact sL
 |defer x as_=>
  show jo (match ev x with
   | .fn f first cap=> .ok un ⟨h.t,h.next,h.bA,(.fn f first cap,hi as_ ev)::h.ds,h.bO⟩
   |_=> .bad)
  split
  · exact sL
  · exact h8
 |panic x=>cases hp
end
end
end Go.Eng
namespace Go.Eng
noncomputable section
section
variable {P:Program} {ι:aY} {h ax:ae} {w:World} {F:cv} {vs:List V} {env bg:Env} {a:Act} {o:Oper} {v:V} {call:et}
theorem Xi {y:Operand} {o:Oper} {c:Call} (hx:o.op= .call c) (av:c.callee= .value y) {f:Nat} {xs ys:Array Value} (hy:a.eval y= .func (.func f) xs ys) (hb:om P f):
  (execOp a.eval o).run P w= .ok (.enter f (xs++(c.args.map a.eval++ys))) w:=by
 have:=Xd (P:=P) (w:=w) hb (xs++(c.args.map a.eval++ys))
 simp [execOp,hx,resolve,av,hy,Deferred.ofValue,invoke,this,Result.andThen]
theorem Xj {x:V} {p:Nat×List V×List V} (h:x.yI=some p):x= .fn p.1 p.2.1 p.2.2:=by
 cases x<;>first|(cases h;done)|skip
 cases h;rfl
theorem Xk (as_:List A) (ev:dr):hi as_ ev=as_.map ev:=by
 induction as_ with
 |nil=>rfl
 |cons b as_ bm=>show ev b::hi as_ ev=_;rw [bm];rfl
theorem NS (dQ:ql P call) (g:Good ι h w) {f:Nat} {l m:List V} {as_:List A} {xs ys:Array Value} {c:Call} {y:Operand} (bq:∀x b,oj F x b=true→bD ι (A.ev b vs env) (a.eval x)) (hx:o.op= .call c) (av:c.callee= .value y) (hy:a.eval y= .func (.func f) xs ys)
  (ar:ch ι l xs.toList) (hm:ch ι m ys.toList) (has:sy (oj F) c.args.toList as_=true)
  {next:Act→World→Prop} {Q:Exit→Act→World→Prop} {r:a7} (hr:rb h (call f (fx l (fx (hi as_ fun x=>x.ev vs env) m)) .none h).1=r) (bG:r≠.bad) (fR:a7.free ι h r)
  (sM:∀h1 v v' bc w',r= .ok v h1→dp ι h w bc h1 w'→bD bc v v'→next (a.put o.dst v') w')
  (sK:∀h1 v v' bc w',r= .c8 v h1→dp ι h w bc h1 w'→bD bc v v'→Q (.panic [{v:=v',recovered:=false}]) a w'):o.wp P a w next Q:=by
 generalize hres:(call f (fx l (fx (hi as_ fun x=>x.ev vs env) m)) .none h).1=q at hr
 have bB:q≠.bad:=by intro e;subst e;exact bG hr.symm
 have hb:=(dQ f (fx l (fx (hi as_ fun x=>x.ev vs env) m)) h (by rw [hres];exact bB)).1
 have iI:=Xi (P:=P) (w:=w) hx av hy hb
 refine Xe dQ g iI (by rw [hres];exact bB) ?_ ?_ ?_ ?_
 · rw [hres]
   cases q with
   |ok v1 h1=>subst hr;exact fR
   |c8 v1 h1=>subst hr;exact fR
   |bad=>exact absurd rfl bB
 · rw [o0,o0,Xk]
   rw [Array.toList_append,Array.toList_append,Array.toList_map]
   exact ar.append ((Er bq _ _ has).append hm)
 · intro h1 v v' bc w' bQ qj aD
   rw [hres] at bQ;subst bQ;subst hr
   exact sM _ v v' bc w' rfl qj.back aD
 · intro h1 v v' bc w' bQ qj aD
   rw [hres] at bQ;subst bQ;subst hr
   exact sK _ v v' bc w' rfl qj.back aD
theorem NT (dQ:ql P call) (dk:lA call) (g:Good ι h w) (s:hl ι F vs env bg a.tmps) {e:nu} (hok:mM P F o.op (.H e)=true)
  {next:Act→World→Prop} {Q:Exit→Act→World→Prop}
  (hres:gM e call (fun x=>x.ev vs env) h≠.bad) (fR:a7.free ι h (gM e call (fun x=>x.ev vs env) h))
  (sM:∀h1 v v' bc w',gM e call (fun x=>x.ev vs env) h= .ok v h1→dp ι h w bc h1 w'→bD bc v v'→next (a.put o.dst v') w')
  (sK:∀h1 v v' bc w',gM e call (fun x=>x.ev vs env) h= .c8 v h1→dp ι h w bc h1 w'→bD bc v v'→Q (.panic [{v:=v',recovered:=false}]) a w'):o.wp P a w next Q:=by
 have bq:=tX s
 simp only [mM,Bool.and_eq_true] at hok
 obtain ⟨oo,hok⟩:=hok
 have fin:∀v h1,gM e call (fun x=>x.ev vs env) h= .ok v h1→w3 P ι h w a.eval o v h1→o.wp P a w next Q:=by
  rintro v h1 bQ ⟨n,v',bc,w',cu,cB,gg,mf⟩
  unfold Oper.wp
  rw [cu]
  rcases cB with rfl|⟨rfl,rfl⟩
  · exact sM h1 v v' bc w' bQ gg mf
  · exact sM h1 v undef bc w' bQ gg mf
 have calls:(∃f as_,e= .call f as_)∨(∃x as_,e= .q6 x as_)→o.wp P a w next Q:=by
  rintro (⟨f,as_,rfl⟩|⟨x,as_,rfl⟩)
  · simp only [qi] at hok
    split at hok
    · rename_i c5 args argTypes hx
      simp only [Bool.and_eq_true,decide_eq_true_eq] at hok
      obtain ⟨rfl,_,has⟩:=hok
      exact NS dQ g (l:=[]) (m:=[]) (as_:=as_) (xs:= #[]) (ys:= #[]) bq hx rfl rfl rfl rfl has (by
       show rb h (call c5 (fx [] (fx (hi as_ fun x=>x.ev vs env) [])) .none h).1=gM (.call c5 as_) call (fun x=>x.ev vs env) h
       rw [o0,o0,List.append_nil,List.nil_append];rfl) hres fR sM sK
    · cases hok
  · simp only [qi] at hok
    split at hok
    · rename_i y args argTypes hx
      simp only [Bool.and_eq_true] at hok
      obtain ⟨hy,has⟩:=hok
      have NU:=bq _ _ hy
      have bQ:gM (.q6 x as_) call (fun x=>x.ev vs env) h=(Option.rec .bad (fun x=>rb h (call x.1 (fx x.2.1 (fx (hi as_ fun x=>x.ev vs env) x.2.2)) .none h).1) (A.ev x vs env).yI:a7):=rfl
      cases hf:(A.ev x vs env).yI with
      |none=>rw [hf] at bQ;exact absurd bQ hres
      |some p=>
       rw [Xj hf] at NU
       obtain ⟨xs,ys,aS,bl,df⟩:=NU
       rw [hf] at bQ
       exact NS dQ g bq hx rfl aS bl df has bQ.symm hres fR sM sK
    · cases hok
 cases bQ:gM e call (fun x=>x.ev vs env) h with
 |bad=>exact absurd bQ hres
 |ok v h1=>
  have Xl:jm ι h h1:=by rw [bQ] at fR;exact fR
  cases e with
  |store n x y=>exact fin v h1 bQ (WL g bq hok bQ)
  |yK q m k u=>exact fin v h1 bQ (WM g bq hok bQ)
  |append r b x y=>exact fin v h1 bQ (W3 g Xl bq hok bQ)
  |copy r x y=>exact fin v h1 bQ (W6 g bq hok bQ)
  |clear z x=>exact fin v h1 bQ (W4 g bq hok bQ)
  |recover=>cases oo
  |defer x as_=>cases oo
  |panic x=>
   have bQ:(match A.ev x vs env with
    | .ez t v=>a7.c8 (.ez t v) h
    |_=> .bad)=a7.ok v h1:=bQ
   split at bQ<;>cases bQ
  |call f as_=>exact calls (.inl ⟨_,_,rfl⟩)
  |q6 x as_=>exact calls (.inr ⟨_,_,rfl⟩)
 |c8 v h1=>
  cases e with
  |call f as_=>exact calls (.inl ⟨_,_,rfl⟩)
  |q6 x as_=>exact calls (.inr ⟨_,_,rfl⟩)
  |panic x=>
   have I4:(match A.ev x vs env with
    | .ez t v=>a7.c8 (.ez t v) h
    |_=> .bad)=a7.c8 v h1:=bQ
   split at I4
   · rename_i t u hx
     cases I4
     simp only [qi] at hok
     split at hok
     · rename_i fe zd
       have hr:=bq _ _ hok
       rw [hx] at hr
       obtain ⟨y,hy,aD⟩:=hr
       unfold Oper.wp
       have:(execOp a.eval o).run P w= .halt (.panic (.iface t y)) w:=by simp [execOp,zd,hy,Instr.panic,Result.andThen]
       rw [this]
       exact sK h _ (.iface t y) ι w bQ (dp.refl g) ⟨y,rfl,aD⟩
     · cases hok
   · cases I4
  |_=>exact absurd bQ (Xh _ rfl _ _)
end
end
end Go.Eng
namespace Go.Eng
noncomputable section
section
variable {P:Program} {ι:aY} {h ax:ae} {w:World} {F:cv} {vs:List V} {env bg env':Env} {a:Act} {o:Oper} {v:V} {call:et} {x:X}
theorem NV (dQ:ql P call) (dk:lA call) (g:Good ι h w) (s:hl ι F vs env bg a.tmps) {op:Op} (hok:mM P F o.op op=true) {k:tF} {next:Act→World→Prop} {Q:Exit→Act→World→Prop}
  (he:sq op call (fun x=>x.ev vs env) env h k= .ok x env' ax) (fR:jm ι h ax) (hk:∀v h1,bj.next h1 (k v h1))
  (sM:∀h1 v v' bc w',k v h1= .ok x env' ax→dp ι h w bc h1 w'→jm bc h1 ax→h1.next≤ax.next→bD bc v v'→next (a.put o.dst v') w')
  (sK:∀v v' bc w',x= .c8 v→env'=env→dp ι h w bc ax w'→bD bc v v'→Q (.panic [{v:=v',recovered:=false}]) a w'):o.wp P a w next Q:=by
 have hle:∀v h1,k v h1= .ok x env' ax→h1.next≤ax.next:=fun v h1 e=>by have:=hk v h1;rw [e] at this;exact this
 rcases NQ (by simp) he with ⟨e,v,rfl,ar,bl⟩|⟨e,aG,v,rfl,ar,hlt,ay,bl⟩|⟨e,v,h1,rfl,bQ,bl⟩|⟨e,v,h1,rfl,bQ,bl⟩
 · obtain ⟨v',r1,fI⟩:=Nu (P:=P) (w:=w) g (tX s) hok ar
   unfold Oper.wp;rw [r1]
   exact sM h v v' ι w bl (dp.refl g) fR (hle _ _ bl) fI
 · have hlen:=hle _ _ bl
   have hf:ι h.next=none:=fR _ (Nat.le_refl _) (Nat.lt_of_lt_of_le (Nat.lt_succ_self _) hlen)
   obtain ⟨v',w',B,r1,fI,kz⟩:=Nv (P:=P) (w:=w) (tX s) hok ar ay
   unfold Oper.wp;rw [r1]
   have c:=fI.lz g hf hlt
   exact sM _ v v' _ w' bl c (fR.right c.ext) hlen kz
 · have hn:=IZ (ev:=fun x=>A.ev x vs env) (h:=h) dk e
   rw [bQ] at hn
   have hlen:=hle _ _ bl
   refine NT dQ dk g s hok (by rw [bQ];simp) (by rw [bQ];exact fR.left hlen) (fun h2 u ph bc w' rq c aD=> ?_) (fun h2 u ph bc w' rq _ _=>by rw [bQ] at rq;cases rq)
   rw [bQ] at rq;cases rq
   exact sM _ _ ph bc w' bl c (fR.right c.ext) hlen aD
 · cases bl
   refine NT dQ dk g s hok (by rw [bQ];simp) (by rw [bQ];exact fR) (fun h2 u ph bc w' rq _ _=>by rw [bQ] at rq;cases rq) (fun h2 u ph bc w' rq c aD=> ?_)
   rw [bQ] at rq;cases rq
   exact sK _ ph bc w' rfl rfl c aD
end
end
end Go.Eng
namespace Go.Eng
noncomputable section
def oq (N:Nat):Option Nat→Bool
 |some d=>decide (d<N)
 |none=>true
def mN (F:cv) (N:Nat) (ops:Array Oper) (o:Oper):Option (A×Bool)→Bool
 |none=>o.guard==none
 |some (a,b)=>(match o.guard with
  |some (i,bL)=>bL==b&&(match (ops[i]?).bind (·.dst) with|some t=>decide (t<N)&&oj F (.tmp t) a|none=>false)
  |none=>false)
def pj (P:Program) (N h3:Nat) (ops:Array Oper):List Oper→Nat→List eA→cv→Option cv
 |[],_,[],F=>some F
 |[],_,_::_,_=>none
 |o::os,i,l,F=>
  if h3.testBit i then
   match l with
   |[]=>none
   | .p op::l=>if oq N o.dst&&(mN F N ops o none&&mM P F o.op op) then pj P N h3 ops os (i+1) l (F.push o.dst none) else none
   | .s x y op::l=>if oq N o.dst&&(mN F N ops o none&&mM P F o.op op) then pj P N h3 ops os (i+1) l (F.push o.dst (some (x,y))) else none
   | .g g b op::l=>if oq N o.dst&&(mN F N ops o (some (g,b))&&mM P F o.op op) then pj P N h3 ops os (i+1) l (F.push o.dst none) else none
   | .gs g b x y op::l=>if oq N o.dst&&(mN F N ops o (some (g,b))&&mM P F o.op op) then pj P N h3 ops os (i+1) l (F.push o.dst (some (x,y))) else none
  else match o.guard,o.dst,o.op with
   |none,some d, .move x=>if d<N then pj P N h3 ops os (i+1) l (F.move d x) else none
   |none,some d, .assign x=>if d<N then pj P N h3 ops os (i+1) l (F.move d x) else none
   |_,_,_=>none
end
end Go.Eng
namespace Go.Eng
noncomputable section
section
variable {P:Program} {ι:aY} {h ax:ae} {w:World} {F F':cv} {vs:List V} {env bg env':Env} {a:Act} {o:Oper} {v:V} {call:et} {x:X} {N h3:Nat} {ops:Array Oper}
theorem BM {dst:Option Nat} {y:Value}:(a.put dst y).tmps.size=a.tmps.size:=by cases dst<;>simp [Act.put]
theorem put_defers {dst:Option Nat} {y:Value}:(a.put dst y).defers=a.defers:=by cases dst<;>rfl
theorem xc {dst:Option Nat} (h:oq N dst=true) (ay:a.tmps.size=N):∀d,dst=some d→d<a.tmps.size:=by
 intro d e;subst e;rw [ay];simpa [oq] using h
theorem I5 (h:mN F N ops o none=true) (y:Nat→Option Bool):Region.wanted o y=true:=by
 have h:(o.guard==none)=true:=h
 have h:o.guard=none:=by simpa using h
 simp [Region.wanted,h]
theorem V.Xm {u:V} {b c:Bool} (h:u.dq b=some c):(∃d,u= .bool d∧c=(b==d))∨(∃l,u= .dh l∧c=false):=by
 cases u<;>first|(cases h;done)|skip
 · cases h;exact .inl ⟨_,rfl,rfl⟩
 · cases h;exact .inr ⟨_,rfl,rfl⟩
theorem I6 (s:hl ι F vs env bg a.tmps) (ay:a.tmps.size=N) {g:A} {b c:Bool} (h:mN F N ops o (some (g,b))=true) (hg:(A.ev g vs env).dq b=some c):Region.wanted o (yielded ops a.tmps)=c:=by
 simp only [mN] at h
 cases pk:o.guard with
 |none=>simp [pk] at h
 |some p=>
  obtain ⟨i,bL⟩:=p
  simp only [pk,Bool.and_eq_true,beq_iff_eq] at h
  obtain ⟨rfl,h⟩:=h
  cases ht:(ops[i]?).bind (·.dst) with
  |none=>simp [ht] at h
  |some t=>
   simp only [ht,Bool.and_eq_true,decide_eq_true_eq] at h
   obtain ⟨hlt,av⟩:=h
   have hr:=tX s _ _ av
   have ar:t<a.tmps.size:=Nat.lt_of_lt_of_eq hlt ay.symm
   rcases V.Xm hg with ⟨d,he,rfl⟩|⟨l,he,rfl⟩
   · rw [he] at hr
     have hr:a.tmps.getD t undef= .bool d:=hr
     have hy:yielded ops a.tmps i=some d:=by
      have:a.tmps[t]? =some (.bool d):=by
       rw [Array.getElem?_eq_getElem ar]
       simpa [Array.getD,ar] using hr
      unfold yielded
      rw [ht]
      simp [this]
     simp only [Region.wanted,pk,hy]
     cases bL<;>cases d<;>rfl
   · rw [he] at hr
     obtain ⟨cs,hr,_⟩:=hr
     have hr:a.tmps.getD t undef= .tuple cs:=hr
     have hy:yielded ops a.tmps i=none:=by
      have:a.tmps[t]? =some (.tuple cs):=by
       rw [Array.getElem?_eq_getElem ar]
       simpa [Array.getD,ar] using hr
      unfold yielded
      rw [ht]
      simp [this]
     simp only [Region.wanted,pk,hy]
     cases bL<;>rfl
end
end
end Go.Eng
namespace Go.Eng
noncomputable section
section
variable {P:Program} {ax:ae} {bg env':Env} {call:et} {x:X} {N h3:Nat} {ops:Array Oper} {Q:Exit→Act→World→Prop} {F':cv} {D:List Deferred}
theorem I7 {rest:List Oper} {o:Oper} {a:Act} {w:World} (hw:Region.wanted o (yielded ops a.tmps)=true) (h:o.wp P a w (wpList P ops Q rest) Q):wpList P ops Q (o::rest) a w:=by
 unfold wpList;rw [if_pos hw];exact .inl h
theorem Xn {rest:List Oper} {o:Oper} {a:Act} {w:World} (hw:Region.wanted o (yielded ops a.tmps)=false) (h:wpList P ops Q rest (a.put o.dst undef) w):wpList P ops Q (o::rest) a w:=by
 unfold wpList;rw [if_neg (by rw [hw];simp)];exact h
theorem ze {F:cv} {dst:Option Nat} {au:Option (bp×bp)} (t:Nat) (h:dst≠some t):(F.push dst au).tmp t=F.tmp t:=by
 unfold cv.push cv.tmp
 cases dst with
 |none=>rfl
 |some d=>simp only [tY];rw [if_neg (by intro e;subst e;exact h rfl)]
theorem NW {F:cv} {d t:Nat} {x:Operand} (h:d≠t):(F.move d x).tmp t=F.tmp t:=by
 unfold cv.move cv.tmp
 simp only [tY];rw [if_neg (Ne.symm h)]
theorem NX (dQ:ql P call) (dk:lA call):∀(os:List Oper) (i:Nat) (l:List eA) (F:cv) (vs:List V) (env:Env) (a:Act) (w:World) (ι:aY) (h:ae),
  pj P N h3 ops os i l F=some F'→eH l call vs env h= .ok x env' ax→hl ι F vs env bg a.tmps→a.tmps.size=N→a.defers=D→Good ι h w→jm ι h ax→
  (x= .e1→∀bc mO bf w',dp ι h w bc ax w'→hl bc F' mO env' bg bf.tmps→bf.tmps.size=N→bf.defers=D→Q .normal bf w')→
  (∀v,x= .c8 v→∀v' bc bf w',dp ι h w bc ax w'→bD bc v v'→bf.defers=D→bf.tmps.size=N→(∀t i j,(∀o∈os,o.dst≠some t)→F.tmp t=some (.slot i j)→bD bc (Env.get i j bg) (bf.tmps.getD t undef))→Q (.panic [{v:=v',recovered:=false}]) bf w')→wpList P ops Q os a w
 |[],i,[],F,vs,env,a,w,ι,h,av,he,s,ay,aQ,g,hf,eV,nH=>by
  cases av
  have he:bj.ok .e1 env h= .ok x env' ax:=he
  cases he
  exact eV rfl ι vs a w (dp.refl g) s ay aQ
 |[],i,_::_,F,vs,env,a,w,ι,h,av,he,s,ay,aQ,g,hf,eV,nH=>by cases av
 |o::os,i,l,F,vs,env,a,w,ι,h,av,he,s,ay,aQ,g,hf,eV,nH=>by
  have bm:=NX dQ dk os (i+1)
  have one:∀(op:Op) (aI:List eA) (rr:cv) (ru:V→Env),mM P F o.op op=true→pj P N h3 ops os (i+1) aI rr=some F'→(∀t,o.dst≠some t→rr.tmp t=F.tmp t)→Region.wanted o (yielded ops a.tmps)=true→
    (∀v v' bc,ι.le bc→bD bc v v'→hl bc rr (v::vs) (ru v) bg (a.put o.dst v').tmps)→
    sq op call (fun x=>x.ev vs env) env h (fun v h=>eH aI call (v::vs) (ru v) h)= .ok x env' ax→wpList P ops Q (o::os) a w:=by
   intro op aI rr ru hok k1 I8 hw eD rv
   refine I7 hw (NV dQ dk g s hok rv hf (fun v h1=>I2 dk _ _ _ _) (fun h1 v v' bc w' bl c mI hle aD=> ?_) (fun v v' bc w' ex _ c aD=>nH v ex v' bc a w' c aD aQ ay (fun t i j _ ht=>(s.tmps t _ ht).mono c.ext.1)))
   refine bm aI rr (v::vs) (ru v) (a.put o.dst v') w' bc h1 k1 bl (eD v v' bc c.ext.1 aD) (BM.trans ay) (put_defers.trans aQ) c.fJ mI
    (fun hx nA e3 a2 iw c2 s2 cu cB=>eV hx nA e3 a2 iw (c.trans c2 (hf.left hle)) s2 cu cB)
    (fun u hx ph nA a2 iw c2 hu k ks xd=>nH u hx ph nA a2 iw (c.trans c2 (hf.left hle)) hu k ks (fun t i j hn ht=>xd t i j (fun o bd=>hn o (List.mem_cons_of_mem _ bd)) (by rw [I8 t (hn o (List.mem_cons_self ..))];exact ht)))
  have NY:∀(aI:List eA) (rr:cv) (ru:Env),pj P N h3 ops os (i+1) aI rr=some F'→(∀t,o.dst≠some t→rr.tmp t=F.tmp t)→Region.wanted o (yielded ops a.tmps)=false→hl ι rr (un::vs) ru bg (a.put o.dst undef).tmps→
    eH aI call (un::vs) ru h= .ok x env' ax→wpList P ops Q (o::os) a w:=by
   intro aI rr ru k1 I8 hw eD rv
   exact Xn hw (bm aI rr (un::vs) ru _ w ι h k1 rv eD (BM.trans ay) (put_defers.trans aQ) g hf eV (fun u hx ph nA a2 iw c2 hu k ks xd=>nH u hx ph nA a2 iw c2 hu k ks (fun t i j hn ht=>xd t i j (fun o bd=>hn o (List.mem_cons_of_mem _ bd)) (by rw [I8 t (hn o (List.mem_cons_self ..))];exact ht))))
  unfold pj at av
  by_cases hb:h3.testBit i=true
  · rw [if_pos hb] at av
    cases l with
    |nil=>cases av
    |cons r aI=>
     cases r with
     |p op=>
      simp only at av
      split at av
      · rename_i hk
        simp only [Bool.and_eq_true] at hk
        exact one op aI _ (fun _=>env) hk.2.2 av ze (I5 hk.2.1 _) (fun v v' bc hle aD=>(s.mono hle).push aD (xc hk.1 ay)) he
      · cases av
     |s p q op=>
      simp only at av
      split at av
      · rename_i hk
        simp only [Bool.and_eq_true] at hk
        refine one op aI _ (fun v=>Env.set p q v env) hk.2.2 av ze (I5 hk.2.1 _) (fun v v' bc hle aD=>(s.mono hle).IX aD (xc hk.1 ay) p q) ?_
        have he:sq op call (fun x=>x.ev vs env) env h (fun v h=>Env.dg p q v (fun env=>eH aI call (v::vs) env h) env)= .ok x env' ax:=he
        simpa only [Env.h4] using he
      · cases av
     |g dq b op=>
      simp only at av
      split at av
      · rename_i hk
        simp only [Bool.and_eq_true] at hk
        have he:(Option.rec .bad (fun c=>Bool.rec (eH aI call (un::vs) env h) (tG op (eH aI) call vs env h) c) ((dq.ev vs env).dq b):bj)= .ok x env' ax:=he
        cases hg:(A.ev dq vs env).dq b with
        |none=>rw [hg] at he;cases he
        |some c=>
         rw [hg] at he
         have hw:=I6 s ay hk.2.1 hg
         have he:(Bool.rec (eH aI call (un::vs) env h) (tG op (eH aI) call vs env h) c:bj)= .ok x env' ax:=he
         cases ry:c with
         |false=>rw [ry] at he hw;exact NY aI _ env av ze hw (s.push w4 (xc hk.1 ay)) he
         |true=>rw [ry] at he hw;exact one op aI _ (fun _=>env) hk.2.2 av ze hw (fun v v' bc hle aD=>(s.mono hle).push aD (xc hk.1 ay)) he
      · cases av
     |gs dq b p q op=>
      simp only at av
      split at av
      · rename_i hk
        simp only [Bool.and_eq_true] at hk
        have he:(Option.rec .bad (fun c=>Bool.rec (Env.dg p q un (fun env=>eH aI call (un::vs) env h) env) (wL p q op (eH aI) call vs env h) c) ((dq.ev vs env).dq b):bj)= .ok x env' ax:=he
        cases hg:(A.ev dq vs env).dq b with
        |none=>rw [hg] at he;cases he
        |some c=>
         rw [hg] at he
         have hw:=I6 s ay hk.2.1 hg
         have he:(Bool.rec (Env.dg p q un (fun env=>eH aI call (un::vs) env h) env) (wL p q op (eH aI) call vs env h) c:bj)= .ok x env' ax:=he
         cases ry:c with
         |false=>
          rw [ry] at he hw
          have he:Env.dg p q un (fun env=>eH aI call (un::vs) env h) env= .ok x env' ax:=he
          rw [Env.h4] at he
          exact NY aI _ _ av ze hw (s.IX w4 (xc hk.1 ay) p q) he
         |true=>
          rw [ry] at he hw
          refine one op aI _ (fun v=>Env.set p q v env) hk.2.2 av ze hw (fun v v' bc hle aD=>(s.mono hle).IX aD (xc hk.1 ay) p q) ?_
          have he:sq op call (fun x=>x.ev vs env) env h (fun v h=>Env.dg p q v (fun env=>eH aI call (v::vs) env h) env)= .ok x env' ax:=he
          simpa only [Env.h4] using he
      · cases av
  · rw [if_neg hb] at av
    split at av
    · rename_i d y pk vv bq
      by_cases hlt:d<N
      · rw [if_pos hlt] at av
        refine I7 (by simp [Region.wanted,pk]) ?_
        unfold Oper.wp
        have:(execOp a.eval o).run P w= .ok (.value (a.eval y)) w:=by simp [execOp,bq]
        rw [this,Oper.upon_value,vv]
        exact bm l _ vs env _ w ι h av he (s.move (Nat.lt_of_lt_of_eq hlt ay.symm) y) (BM.trans ay) (put_defers.trans aQ) g hf eV (fun u hx ph nA a2 iw c2 hu k ks xd=>nH u hx ph nA a2 iw c2 hu k ks (fun t i j hn ht=>xd t i j (fun o bd=>hn o (List.mem_cons_of_mem _ bd)) (by rw [NW (fun e=>hn o (List.mem_cons_self ..) (by rw [vv,e]))];exact ht)))
      · rw [if_neg hlt] at av;cases av
    · rename_i d y pk vv bq
      by_cases hlt:d<N
      · rw [if_pos hlt] at av
        refine I7 (by simp [Region.wanted,pk]) ?_
        unfold Oper.wp
        have:(execOp a.eval o).run P w= .ok (.value (a.eval y)) w:=by simp [execOp,bq]
        rw [this,Oper.upon_value,vv]
        exact bm l _ vs env _ w ι h av he (s.move (Nat.lt_of_lt_of_eq hlt ay.symm) y) (BM.trans ay) (put_defers.trans aQ) g hf eV (fun u hx ph nA a2 iw c2 hu k ks xd=>nH u hx ph nA a2 iw c2 hu k ks (fun t i j hn ht=>xd t i j (fun o bd=>hn o (List.mem_cons_of_mem _ bd)) (by rw [NW (fun e=>hn o (List.mem_cons_self ..) (by rw [vv,e]))];exact ht)))
      · rw [if_neg hlt] at av;cases av
    · cases av
end
end
end Go.Eng
namespace Go.Eng
variable {D:List Deferred}
noncomputable section
structure mP (D:List Deferred) (ι:aY) (cL:List Nat) (N:Nat) (env:Env) (a:Act):Prop where
 size:a.tmps.size=N
 defers:a.defers=D
 tmps:∀k t,cL[k]? =some t→bD ι (Env.get (fz k).1 (fz k).2 env) (a.tmps.getD t undef)
def jn:List Nat→Nat→List (Nat×Option Src)
 |[],_=>[]
 |t::l,k=>(t,some (.slot (fz k).1 (fz k).2))::jn l (k+1)
def cv.start (cL:List Nat):cv:=⟨0,jn cL 0,[]⟩
def I9:Src→Src→Bool
 | .val p, .val q=>p==q
 | .slot i j, .slot cy gA=>decide (i=cy)&&decide (j=gA)
 |_,_=>false
def xe (F:cv):List Nat→Nat→Bool
 |[],_=>true
 |t::l,k=>(match F.tmp t with
  |none=>false
  |some s=>I9 s (match F.at_ (fz k).1 (fz k).2 with|some p=> .val p|none=> .slot (fz k).1 (fz k).2))&&xe F l (k+1)
theorem Ja {t:Nat} {s:Option Src}:∀(l:List Nat) (k:Nat),look t (jn l k)=some s→∃j,l[j]? =some t∧s=some (.slot (fz (k+j)).1 (fz (k+j)).2)
 |[],k,h=>by cases h
 |x::l,k,h=>by
  unfold jn at h
  rw [tY] at h
  by_cases e:t=x
  · rw [if_pos e] at h;cases h;subst e;exact ⟨0,rfl,rfl⟩
  · rw [if_neg e] at h
    obtain ⟨j,h1,h2⟩:=Ja l (k+1) h
    exact ⟨j+1,by simpa using h1,by rw [h2,show k+1+j=k+(j+1) by omega]⟩
theorem mP.start {ι:aY} {cL:List Nat} {N:Nat} {env:Env} {a:Act} (r:mP D ι cL N env a):hl ι (cv.start cL) [] env env a.tmps:=by
 refine ⟨rfl,fun i j=>rfl,fun i j p hp=>(by cases hp),fun t s ht=> ?_⟩
 have ht:(match look t (jn cL 0) with|some s=>s|none=>none)=some s:=ht
 cases ar:look t (jn cL 0) with
 |none=>rw [ar] at ht;cases ht
 |some dE=>
  rw [ar] at ht
  have ht:dE=some s:=ht
  subst ht
  obtain ⟨j,h1,h2⟩:=Ja cL 0 ar
  rw [Nat.zero_add] at h2
  cases h2
  exact r.tmps j t h1
theorem Xo {s u:Src} (h:I9 s u=true):s=u:=by
 cases s<;>cases u<;>simp [I9] at h
 · rw [h]
 · rw [h.1,h.2]
theorem NZ {F:cv}:∀(l:List Nat) (k:Nat),xe F l k=true→∀j t,l[j]? =some t→F.tmp t=some (match F.at_ (fz (k+j)).1 (fz (k+j)).2 with|some p=> .val p|none=> .slot (fz (k+j)).1 (fz (k+j)).2)
 |[],k,_,j,t,aR=>by simp at aR
 |x::l,k,h,j,t,aR=>by
  simp only [xe,Bool.and_eq_true] at h
  cases j with
  |zero=>
   simp at aR;subst aR
   cases ay:F.tmp x with
   |none=>simp [ay] at h
   |some s=>simp only [ay] at h;rw [Xo h.1];rfl
  |succ j=>
   have:=NZ l (k+1) h.2 j t (by simpa using aR)
   rw [show k+(j+1)=k+1+j by omega];exact this
theorem hl.end {ι:aY} {F:cv} {vs:List V} {env bg:Env} {a:Act} {cL:List Nat} {N:Nat} (s:hl ι F vs env bg a.tmps) (he:xe F cL 0=true) (ay:a.tmps.size=N) (aQ:a.defers=D):mP D ι cL N env a:=by
 refine ⟨ay,aQ,fun k t hk=> ?_⟩
 have h1:=NZ cL 0 he k t hk
 rw [Nat.zero_add] at h1
 have h2:=s.tmps t _ h1
 rw [s.jn]
 cases hp:F.at_ (fz k).1 (fz k).2 with
 |none=>rw [hp] at h2;exact h2
 |some p=>rw [hp] at h2;exact h2.2
end
end Go.Eng
namespace Go.Eng
noncomputable section
theorem Bool.dF {a b:Bool} (h:(a&&b)=true):a=true∧b=true:=by simpa using h
mutual
theorem V.qn:∀(a b:V),V.same a b=true→a=b
 | .bot, .bot,_=>rfl
 | .bool a, .bool b,h=>by simp [V.same] at h;rw [h]
 | .int j a, .int k b,h=>by simp [V.same] at h;rw [h.1,h.2]
 | .str n x, .str m y,h=>by
   simp only [V.same,l2] at h
   cases e:n.beq m with
   |false=>rw [e] at h;cases h
   |true=>rw [e] at h;rw [Nat.eq_of_beq_eq_true e,Nat.eq_of_beq_eq_true h]
 | .nr, .nr,_=>rfl
 | .ptr a o, .ptr b q,h=>by
   have h:=Bool.dF h;rw [Nat.eq_of_beq_eq_true h.1,Nat.eq_of_beq_eq_true h.2]
 | .U, .U,_=>rfl
 | .au a o n c, .au b q m d,h=>by
   have h1:=Bool.dF h;have h2:=Bool.dF h1.2;have a6:=Bool.dF h2.2
   rw [Nat.eq_of_beq_eq_true h1.1,Nat.eq_of_beq_eq_true h2.1,Nat.eq_of_beq_eq_true a6.1,show c=d by simpa using a6.2]
 | .kp, .kp,_=>rfl
 | .map a, .map b,h=>by rw [Nat.eq_of_beq_eq_true h]
 | .fn f a b, .fn g c d,h=>by
   have h1:=Bool.dF h;have h2:=Bool.dF h1.2
   rw [Nat.eq_of_beq_eq_true h1.1,V.xf a c h2.1,V.xf b d h2.2]
 | .nt, .nt,_=>rfl
 | .ez t v, .ez u w,h=>by
   have h1:=Bool.dF h;rw [Nat.eq_of_beq_eq_true h1.1,V.qn v w h1.2]
 | .jG, .jG,_=>rfl
 | .agg a, .agg b,h=>by rw [V.xf a b h]
 | .dh a, .dh b,h=>by rw [V.xf a b h]
theorem V.xf:∀(a b:List V),V.p6 a b=true→a=b
 |[],[],_=>rfl
 |a::l,b::m,h=>by have h1:=Bool.dF h;rw [V.qn a b h1.1,V.xf l m h1.2]
end
theorem Xp (a b:Option (List V)) (h:HR a b=true):a=b:=by
 cases a<;>cases b<;>simp [HR] at h
 · rfl
 · rw [V.xf _ _ h]
theorem aF.qn {α:Type} {p:α→α→Bool} (hp:∀a b,p a b=true→a=b) (s t:aF α) (h:aF.same p s t=true):s=t:=by
 have h1:=Bool.dF h;have h2:=Bool.dF h1.2;have a6:=Bool.dF h2.2;have cc:=Bool.dF a6.2
 have fA:=Bool.dF cc.2;have kt:=Bool.dF fA.2;have BN:=Bool.dF kt.2
 cases s;cases t
 simp only [aF.mk.injEq]
 exact ⟨hp _ _ h1.1,hp _ _ h2.1,hp _ _ a6.1,hp _ _ cc.1,hp _ _ fA.1,hp _ _ kt.1,hp _ _ BN.1,hp _ _ BN.2⟩
theorem B.empty_eq {α:Type} {s:B α} (h:s.empty=true):s= .mt:=by cases s<;>first|rfl|cases h
theorem T.qn (s t:T (List V)) (h:T.same s t=true):s=t:=by
 have h1:=Bool.dF h;have h2:=Bool.dF h1.2;have a6:=Bool.dF h2.2;have cc:=Bool.dF a6.2
 have aS:=aF.qn (aF.qn (aF.qn Xp)) _ _ h1.1
 have df:=B.empty_eq cc.1;have fZ:=B.empty_eq cc.2
 have gx:s.y=none:=by simpa using h2.1
 have jY:t.y=none:=by simpa using a6.1
 cases s;cases t
 simp only [T.mk.injEq]
 exact ⟨aS,gx.trans jY.symm,df.trans fZ.symm⟩
theorem Obj.qn (a b:Obj) (h:Obj.same a b=true):a=b:=by
 cases a<;>cases b<;>try (simp [Obj.same] at h;done)
 · rw [V.xf _ _ h]
 · have h1:=Bool.dF h;have h2:=Bool.dF h1.2;have a6:=Bool.dF h2.2;have cc:=Bool.dF a6.2
   rw [Nat.eq_of_beq_eq_true h1.1,Nat.eq_of_beq_eq_true h2.1,Nat.eq_of_beq_eq_true a6.1,Nat.eq_of_beq_eq_true cc.1,T.qn _ _ cc.2]
 · rename_i es c rh dw
   cases es<;>cases rh<;>simp [Obj.same] at h
   rw [h]
def xg (h ax:ae):Prop:=∀b o,T.get b h.t=some o→T.get b ax.t=some o
theorem xg.load {h ax:ae} (k:xg h ax) {b o n:Nat} {l:List V} (ar:h.load b o n=some l):ax.load b o n=some l:=by
 unfold ae.load at ar ⊢
 by_cases hn:n.beq 0=true
 · rw [hn] at ar ⊢;exact ar
 · rw [Bool.not_eq_true] at hn;rw [hn] at ar ⊢
   cases hb:T.get b h.t with
   |none=>rw [show h.obj b=none from hb] at ar;cases ar
   |some aG=>rw [show h.obj b=some aG from hb] at ar;rw [show ax.obj b=some aG from k b aG hb];exact ar
theorem Xq {h ax:ae} (k:xg h ax) {e:hh} {ev:dr} {v:V} (he:light e ev h= .val v):light e ev ax= .val v:=by
 cases e with
 |load x=>
  have he:(ev x).p3 (fun b o=> .of (h.eb b o))= .val v:=he
  show (ev x).p3 (fun b o=> .of (ax.eb b o))= .val v
  generalize ev x=u at he ⊢
  cases u<;>first|exact he|skip
  rename_i b o
  have he:bE.of (u1 o (T.get b h.t))= .val v:=he
  show bE.of (u1 o (T.get b ax.t))= .val v
  cases hb:T.get b h.t with
  |none=>rw [hb] at he;cases he
  |some aG=>rw [hb] at he;rw [k b aG hb];exact he
 |da n x=>
  have he:(ev x).p3 (fun b o=>Option.rec .bad (fun l=>gK l fun l=> .val (.agg l)) (h.load b o n))= .val v:=he
  show (ev x).p3 (fun b o=>Option.rec .bad (fun l=>gK l fun l=> .val (.agg l)) (ax.load b o n))= .val v
  generalize ev x=u at he ⊢
  cases u<;>first|exact he|skip
  rename_i b o
  have he:(Option.rec .bad (fun l=>gK l fun l=> .val (.agg l)) (h.load b o n):bE)= .val v:=he
  show (Option.rec .bad (fun l=>gK l fun l=> .val (.agg l)) (ax.load b o n):bE)= .val v
  cases ar:h.load b o n with
  |none=>rw [ar] at he;cases he
  |some l=>rw [k.load ar];rw [ar] at he;exact he
 |q5 x=>
  have he:DX x ev h= .val v:=he
  show DX x ev ax= .val v
  unfold DX at he ⊢
  generalize ev x=u at he ⊢
  cases u<;>first|exact he|skip
  rename_i b o n c
  cases ar:h.load b o n with
  |none=>simp only [ar] at he;cases he
  |some l=>simp only [k.load ar];simp only [ar] at he;exact he
 |lookup q zero ok m x=>
  have he:DZ q zero ok m x ev h= .val v:=he
  show DZ q zero ok m x ev ax= .val v
  unfold DZ at he ⊢
  generalize ev m=u at he ⊢
  cases u<;>first|exact he|skip
  rename_i b
  cases hb:T.get b h.t with
  |none=>simp only [show h.obj b=none from hb] at he;cases he
  |some aG=>simp only [show ax.obj b=some aG from k b aG hb];simp only [show h.obj b=some aG from hb] at he;exact he
 |wI x=>
  have he:D0 x ev h= .val v:=he
  show D0 x ev ax= .val v
  unfold D0 at he ⊢
  generalize ev x=u at he ⊢
  cases u<;>first|exact he|skip
  rename_i b
  cases hb:T.get b h.t with
  |none=>simp only [show h.obj b=none from hb] at he;cases he
  |some aG=>simp only [show ax.obj b=some aG from k b aG hb];simp only [show h.obj b=some aG from hb] at he;exact he
 |jU r x br ag mx=>
  have key:∀b o n cap i j m,ny r b o n cap i j m h= .val v→ny r b o n cap i j m ax= .val v:=by
   intro b o n cap i j m ay
   cases cap with
   |some c=>cases m with
    |none=>exact ay
    |some m=>cases m<;>exact ay
   |none=>
    cases m with
    |some m=>cases m<;>exact ay
    |none=>
     unfold ny at ay ⊢
     cases hb:T.get b h.t with
     |none=>simp only [show h.obj b=none from hb] at ay;cases ay
     |some aG=>simp only [show ax.obj b=some aG from k b aG hb];simp only [show h.obj b=some aG from hb] at ay;exact ay
  have he:DY r x br ag mx ev h= .val v:=he
  show DY r x br ag mx ev ax= .val v
  unfold DY at he ⊢
  generalize ev x=u at he ⊢
  cases u<;>first|exact he|skip
  rename_i b o n cap
  cases aS:dM ag ev n<;>cases bl:dM br ev 0<;>simp only [aS,bl] at he ⊢<;>first|(cases he;done)|exact key _ _ _ _ _ _ _ he
 |alloc cs=>have he:force h.next (fun b=>bE.new (.box cs) (.ptr b 0))= .val v:=he;rw [force_eq] at he;cases he
 |wH=>have he:force h.next (fun b=>bE.new (.map [] 0) (.map b))= .val v:=he;rw [force_eq] at he;cases he
 |box n x=>
  have he:force h.next (fun b=>(Option.rec .bad (fun l=>Bool.rec .bad (gK l fun l=> .new (.box l) (.ptr b 0)) ((cI l).beq n)) (ev x).dA:bE))= .val v:=he
  rw [force_eq] at he
  cases av:(ev x).dA with
  |none=>rw [av] at he;cases he
  |some l=>
   rw [av] at he
   have he:(Bool.rec .bad (gK l fun l=> .new (.box l) (.ptr h.next 0)) ((cI l).beq n):bE)= .val v:=he
   cases hb:(cI l).beq n with
   |false=>rw [hb] at he;cases he
   |true=>rw [hb,l4] at he;cases he
 |eS r n zero aO=>
  have he:force h.next (fun b=>(Option.rec .bad (fun l=>gl r n 0 l T.e fun t=> .new (.cells r b 0 (Nat.mul n r) t) (.au b 0 n (some n))) (fill aO ev (rep n zero)):bE))= .val v:=he
  rw [force_eq] at he
  cases av:fill aO ev (rep n zero) with
  |none=>rw [av] at he;cases he
  |some l=>simp only [av,h6] at he;cases he
 |uZ x=>
  have he:force h.next (fun b=>(Option.rec .bad (fun x=>gl 1 x.1 0 (mE (gy x.1 x.2)) T.e fun t=> .new (.cells 1 b 0 x.1 t) (.au b 0 x.1 none)) (ev x).q4:bE))= .val v:=he
  rw [force_eq] at he
  cases av:(ev x).q4 with
  |none=>rw [av] at he;cases he
  |some l=>simp only [av,h6] at he;cases he
 |n2 r zero bytes l c=>
  have he:HN r zero bytes l c ev h= .val v:=he
  unfold HN at he
  cases aS:(ev l).asNat<;>cases bl:(ev c).asNat<;>simp only [aS,bl] at he<;>first|(cases he;done)|skip
  rw [force_eq] at he
  revert he
  cases (_&&_:Bool)<;>intro he
  · cases he
  · simp only [cond_true,h6] at he;cases he
 |_=>exact he
end
end Go.Eng
namespace Go.Eng
noncomputable section
theorem xg.add {h:ae} (aQ:∀b,0≤b→T.get b h.t≠none→b<h.next) (aG:Obj):xg h (h.add aG):=by
 intro b o hb
 show T.get b (T.set h.next aG h.t)=some o
 rw [T.eU (Nat.zero_le _) (Nat.zero_le _),if_neg,hb]
 intro e;subst e
 have:=aQ h.next (Nat.zero_le _) (by simp [hb]);omega
theorem Xr {ι:aY} {h:ae} {w:World} (g:Good ι h w) (hf:ι h.next=none) (aG:Obj):Good ι (h.add aG) w:=by
 have mc:∀b,b≠h.next→T.get b (h.add aG).t=T.get b h.t:=fun b hb=>by
  show T.get b (T.set h.next aG h.t)=_
  rw [T.eU (Nat.zero_le _) (Nat.zero_le _),if_neg hb]
 have bG:∀b B,ι b=some B→b≠h.next:=fun b B hb e=>by subst e;rw [hf] at hb;cases hb
 have hlt:∀b B,ι b=some B→b<(h.add aG).next→b<h.next:=fun b B hb hn=>by
  have:=bG b B hb;have:b<h.next+1:=hn;omega
 refine ⟨fun b B o hb bd hn=> ?_,g.kr,fun b B bL aZ hb ec hn sB fB=>g.same b B bL aZ hb ec (hlt b B hb hn) (hlt bL aZ ec sB) fB,fun b B hb hn=>g.cO b B hb (hlt b B hb hn),fun b B F o hb hn b1 bd=> ?_,fun b B o hb bd hn=> ?_,fun f F b b1 hb=> ?_,Nat.le_succ_of_le g.lim,fun b hb vg=> ?_,g.small,fun f hf vg=> ?_,fun b B hb hn=> ?_⟩
 · rw [mc b (bG b B hb)] at bd;exact g.obj b B o hb bd (hlt b B hb hn)
 · rw [mc b (bG b B hb)] at bd;exact g.last b B F o hb (hlt b B hb hn) b1 bd
 · rw [mc b (bG b B hb)] at bd;exact g.hT b B o hb bd (hlt b B hb hn)
 · have:=g.mem f F b b1 hb;show b<h.next+1;omega
 · show b<h.next+1
   by_cases e:b=h.next
   · omega
   · rw [mc b e] at vg;have:=g.kY b hb vg;omega
 · have:=g.tJ f hf vg;show f<h.next+1;omega
 · have:=g.od b B hb (hlt b B hb hn);show B.cO<h.next+1;omega
theorem Xt {ι:aY} {h:ae} {w w':World} (g:Good ι h w) {id:Nat} {o:Obj} {B:fk} (n:rn ι id w w' B o) (hf:ι id=none) (ar:id<h.next)
  (dj:T.get id h.t=some o) (rz:T.get id h.bA=none):Good (ι.put id B) h w':=by
 have hle:=aY.y4 (B:=B) hf
 have av:=n.c
 have ay:=n.size
 have old:∀b aZ,ι.put id B b=some aZ→b≠id→ι b=some aZ:=fun b aZ hb bG=>by rwa [aY.qe bG] at hb
 refine ⟨?_, ?_, ?_, ?_, ?_, ?_,g.mem,g.lim,g.kY, ?_,g.tJ, ?_⟩
 · intro b aZ eP hb cJ de
   by_cases e:b=id
   · subst e
     rw [dj] at cJ;cases cJ
     rw [aY.gB] at hb;cases hb
     exact n.rel.mono hle
   · have du:=old b aZ hb e
     exact ((g.obj b aZ eP du cJ de).world (n.old _ (g.kr b aZ du))).mono hle
 · intro b aZ hb
   by_cases e:b=id
   · subst e;rw [aY.gB] at hb;cases hb;omega
   · have:=g.kr b aZ (old b aZ hb e);omega
 · intro b jZ bL lu hb ec de fg fB qd bG
   by_cases e:b=id
   · subst e
     rw [aY.gB] at hb;cases hb
     have:=g.kr bL lu (old bL lu ec (Ne.symm bG));omega
   · by_cases bF:bL=id
     · subst bF
       rw [aY.gB] at ec;cases ec
       have:=g.kr b jZ (old b jZ hb e);omega
     · exact g.same b jZ bL lu (old b jZ hb e) (old bL lu ec bF) de fg fB qd bG
 · intro b aZ hb de
   by_cases e:b=id
   · subst e;rw [aY.gB] at hb;cases hb
     rw [n.cO,rz]
   · exact g.cO b aZ (old b aZ hb e) de
 · intro b aZ F eP hb de b1 cJ jj
   by_cases e:b=id
   · subst e;rw [aY.gB] at hb;cases hb
     rw [n.cO,rz] at b1;cases b1
   · exact g.last b aZ F eP (old b aZ hb e) de b1 cJ jj
 · intro b aZ eP hb cJ de jk
   by_cases e:b=id
   · subst e;rw [aY.gB] at hb;cases hb
     rw [n.cO,rz]
   · exact g.hT b aZ eP (old b aZ hb e) cJ de jk
 · intro b bG
   exact Nat.zero_le _
 · intro b aZ hb de
   by_cases e:b=id
   · subst e;rw [aY.gB] at hb;cases hb;rw [n.cO];exact ar
   · exact g.od b aZ (old b aZ hb e) de
theorem dp.add {gO ι:aY} {h0 h:ae} {w0 w:World} (c:dp gO h0 w0 ι h w) (hf:ι h.next=none) (aG:Obj):dp gO h0 w0 ι (h.add aG) w:=
 ⟨Xr c.fJ hf aG,c.frame,⟨c.ext.1,Nat.le_succ_of_le c.ext.2.1,fun b a d=>by have:=c.ext.2.2 b a d;exact ⟨this.1,Nat.lt_succ_of_lt this.2⟩⟩,c.sep⟩
theorem dp.late {gO ι:aY} {h0 h:ae} {w0 w w':World} (c:dp gO h0 w0 ι h w) {id:Nat} {o:Obj} {B:fk} (n:rn ι id w w' B o) (hf:ι id=none) (Xu:h0.next≤id) (ar:id<h.next)
  (dj:T.get id h.t=some o) (rz:T.get id h.bA=none):dp gO h0 w0 (ι.put id B) h w':=by
 refine ⟨Xt c.fJ n hf ar dj rz,⟨fun k hk hn=> ?_, ?_,n.tape.trans c.frame.tape,n.os.trans c.frame.os,n.out.trans c.frame.out⟩,⟨c.ext.1.trans (aY.y4 hf),c.ext.2.1,fun b a d=> ?_⟩,fun b aZ a d=> ?_⟩
 · rw [n.old k (Nat.lt_of_lt_of_le hk c.frame.size)];exact c.frame.va k hk hn
 · have:=n.size;have:=c.frame.size;omega
 · by_cases e:b=id
   · subst e;exact ⟨Xu,ar⟩
   · rw [aY.qe e] at d;exact c.ext.2.2 b a d
 · by_cases e:b=id
   · subst e;rw [aY.gB] at d;cases d;left;rw [n.c];exact c.frame.size
   · rw [aY.qe e] at d;exact c.sep b aZ a d
def cv.only (F:cv) (l:List Nat):cv:=⟨F.n,F.f.filter (fun p=>l.contains p.1),F.s⟩
theorem Jb {β:Type} {t:Nat} {l:List Nat}:∀(f:List (Nat×β)),look t (f.filter (fun p=>l.contains p.1))=if l.contains t then look t f else none
 |[]=>by simp [look]
 |(x,y)::f=>by
  rw [List.filter_cons]
  by_cases hx:l.contains x=true
  · rw [if_pos hx,tY,tY,Jb f]
    by_cases e:t=x
    · subst e;rw [if_pos rfl,if_pos rfl,if_pos hx]
    · rw [if_neg e,if_neg e]
  · rw [if_neg hx,Jb f,tY]
    by_cases e:t=x
    · subst e;rw [if_neg hx,if_neg hx]
    · rw [if_neg e]
theorem cv.Xv {F:cv} {l:List Nat} {t:Nat} {s:Src} (h:(F.only l).tmp t=some s):l.contains t=true∧F.tmp t=some s:=by
 have h:(match look t (F.f.filter (fun p=>l.contains p.1)) with|some s=>s|none=>none)=some s:=h
 rw [Jb] at h
 by_cases e:l.contains t=true
 · rw [if_pos e] at h;exact ⟨e,h⟩
 · rw [if_neg e] at h;cases h
def Down (ops:Array Oper) (L:Nat→Prop):Prop:=∀k o,L k→ops[k]? =some o→∀e∈o.after,Region.binds .any e=true→L e.on
def xh (ops:Array Oper) (j i:Nat):Prop:=∀L:Nat→Prop,Down ops L→L j→L i
def qo (m:List Nat) (k:Nat):Nat:=(m[m.length - 1 - k]?).getD 0
def zf (m:List Nat):List Edge→Nat
 |[]=>0
 |e::l=>if Region.binds .any e&&decide (e.on<m.length) then (2 ^ e.on ||| qo m e.on) ||| zf m l else zf m l
def nI:List Oper→List Nat→List Nat
 |[],m=>m
 |o::l,m=>nI l (zf m o.after.toList::m)
def vw (ops:Array Oper) (m:List Nat):Prop:=∀j i,j<m.length→(qo m j).testBit i=true→xh ops j i
theorem Xw {m:List Nat} {x k:Nat} (h:k<m.length):qo (x::m) k=qo m k:=by
 unfold qo
 have:(x::m).length - 1 - k=(m.length - 1 - k)+1:=by simp;omega
 rw [this];simp
theorem Xx {m:List Nat} {x:Nat}:qo (x::m) m.length=x:=by
 unfold qo
 have:(x::m).length - 1 - m.length=0:=by simp
 rw [this];simp
theorem Jc {ops:Array Oper} {m:List Nat} (hm:vw ops m) {o:Oper} (bd:ops[m.length]? =some o):∀(l:List Edge),(∀e∈l,e∈o.after)→∀i,(zf m l).testBit i=true→xh ops m.length i
 |[],_,i,h=>by simp [zf] at h
 |e::l,ar,i,h=>by
  unfold zf at h
  by_cases av:(Region.binds .any e&&decide (e.on<m.length))=true
  · rw [if_pos av] at h
    have hb:=Bool.dF av
    have hlt:e.on<m.length:=by simpa using hb.2
    rw [Nat.testBit_or,Nat.testBit_or,Bool.or_eq_true,Bool.or_eq_true] at h
    rcases h with (h|h)|h
    · rw [Nat.testBit_two_pow] at h
      have:e.on=i:=by simpa using h
      subst this
      exact fun L hL aR=>hL _ o aR bd e (ar e (List.mem_cons_self ..)) hb.1
    · exact fun L hL aR=>hm e.on i hlt h L hL (hL _ o aR bd e (ar e (List.mem_cons_self ..)) hb.1)
    · exact Jc hm bd l (fun e he=>ar e (List.mem_cons_of_mem _ he)) i h
  · rw [if_neg av] at h
    exact Jc hm bd l (fun e he=>ar e (List.mem_cons_of_mem _ he)) i h
theorem N0 {ops:Array Oper}:∀(l:List Oper) (m:List Nat),(∀k,l[k]? =ops[m.length+k]?)→vw ops m→vw ops (nI l m)
 |[],m,_,h=>h
 |o::l,m,ar,h=>by
  unfold nI
  have bd:ops[m.length]? =some o:=by have:=ar 0;simpa using this.symm
  refine N0 l _ (fun k=> ?_) (fun j i aR hb=> ?_)
  · have:=ar (k+1);simp only [List.getElem?_cons_succ] at this;rw [this,List.length_cons];congr 1;omega
  · by_cases e:j=m.length
    · subst e;rw [Xx] at hb;exact Jc h bd _ (fun e he=>Array.mem_toList_iff.1 he) i hb
    · have hlt:j<m.length:=by have:j<m.length+1:=aR;omega
      rw [Xw hlt] at hb;exact h j i hlt hb
theorem Jd:∀(l:List Oper) (m:List Nat),(nI l m).length=m.length+l.length
 |[],m=>rfl
 |o::l,m=>by unfold nI;rw [Jd l];simp;omega
end
end Go.Eng
namespace Go.Eng
noncomputable section
def eA.op:eA→Op
 | .p o=>o| .s _ _ o=>o| .g _ _ o=>o| .gs _ _ _ _ o=>o
def eA.slot:eA→Option (bp×bp)
 | .p _=>none| .s i j _=>some (i,j)| .g _ _ _=>none| .gs _ _ i j _=>some (i,j)
def eA.dq:eA→Option (A×Bool)
 | .p _=>none| .s _ _ _=>none| .g a b _=>some (a,b)| .gs a b _ _ _=>some (a,b)
def tZ:Op→Bool
 | .H _=>true
 | .L _=>false
def ua:Op→Bool
 | .H _=>false
 | .L e=>match e with
   | .load _=>true| .da _ _=>true| .q5 _=>true| .lookup .. =>true| .wI _=>true| .jU .. =>true
   | .alloc _=>true| .box .. =>true| .eS .. =>true| .uZ _=>true| .wH=>true| .n2 .. =>true
   |_=>false
def zg (b:Nat) (cn:List Nat):List (Nat×Bool)→Nat→Bool
 |[],_=>true
 |(k,s)::D,d=>(!s||(b.testBit k||cn.contains d))&&zg b cn D (d+1)
def ub (ops:Array Oper) (i j:Nat):Bool:=match ops[i]?,ops[j]? with
 |some a,some b=>a.apart ops b
 |_,_=>true
def zh (P:Program) (N:Nat) (ops:Array Oper) (m:List Nat):List (Nat×ea)→List (Nat×Bool)→cv→Option cv
 |[],_,F=>some F
 |(i,q)::l,D,F=>match ops[i]? with
  |none=>none
  |some o=>
   if oq N o.dst&&(mN (F.only (o.looksAt ops)) N ops o q.o.dq&&(mM P (F.only (o.looksAt ops)) o.op q.o.op&&(!tZ q.o.op||zg (qo m i) q.cn D 0)))
   then zh P N ops m l ((i,ua q.o.op)::D) (F.push o.dst q.o.slot) else none
def Je (ops:Array Oper) (m:List Nat):List (Nat×ea)→Bool
 |[]=>true
 |(i,q)::l=>l.all (fun x=>(qo m x.1).testBit i|| !(tZ q.o.op|| !ub ops i x.1))&&Je ops m l
def Jf:List Oper→Nat→Bool
 |[],_=>true
 |o::l,i=>o.after.toList.all (fun e=> !Region.binds .any e||decide (e.on<i))&&Jf l (i+1)
def Jg:List Nat→Bool
 |[]=>true
 |a::l=> !l.contains a&&Jg l
def Jh (ops:Array Oper) (m:List Nat) (pm:List (Nat×ea)):Bool:=
 Jg (pm.map (·.1))&&((List.range ops.size).all (fun i=>(pm.map (·.1)).contains i)&&(pm.all (fun x=>decide (x.1<ops.size))&&(Jf ops.toList 0&&Je ops m pm)))
structure Stat (ops:Array Oper) (pm:List (Nat×ea)):Prop where
 dd:(pm.map (·.1)).Nodup
 all:∀i o,ops[i]? =some o→i∈pm.map (·.1)
 Xy:∀i o,ops[i]? =some o→∀e∈o.after,Region.binds .any e=true→e.on<i
 Ji:pm.Pairwise (fun a b=>tZ a.2.o.op=true∨ub ops a.1 b.1=false→xh ops b.1 a.1)
theorem N1:∀(l:List Nat),Jg l=true→l.Nodup
 |[],_=>List.nodup_nil
 |a::l,h=>by
  have h:=Bool.dF h
  refine List.nodup_cons.2 ⟨fun hm=> ?_,N1 l h.2⟩
  have:l.contains a=true:=by simpa using hm
  rw [this] at h;exact absurd h.1 (by simp)
theorem N2:∀(l:List Oper) (i:Nat),Jf l i=true→∀k o,l[k]? =some o→∀e∈o.after,Region.binds .any e=true→e.on<i+k
 |[],i,_,k,o,hk,_,_,_=>by simp at hk
 |a::l,i,h,k,o,hk,e,he,hb=>by
  have h:=Bool.dF h
  cases k with
  |zero=>
   simp at hk;subst hk
   have:=List.all_eq_true.1 h.1 e (Array.mem_toList_iff.2 he)
   rw [hb] at this;simpa using this
  |succ k=>
   have:=N2 l (i+1) h.2 k o (by simpa using hk) e he hb
   omega
theorem N3 {ops:Array Oper} {m:List Nat} (hm:vw ops m):∀(pm:List (Nat×ea)),(∀x∈pm,x.1<m.length)→Je ops m pm=true→
  pm.Pairwise (fun a b=>tZ a.2.o.op=true∨ub ops a.1 b.1=false→xh ops b.1 a.1)
 |[],_,_=>List.Pairwise.nil
 |(i,q)::l,ar,h=>by
  have h:=Bool.dF h
  refine List.Pairwise.cons (fun x hx av=> ?_) (N3 hm l (fun x hx=>ar x (List.mem_cons_of_mem _ hx)) h.2)
  have:=List.all_eq_true.1 h.1 x hx
  rw [Bool.or_eq_true] at this
  rcases this with h1|h1
  · exact hm x.1 i (ar x (List.mem_cons_of_mem _ hx)) h1
  · exfalso
    have av:tZ q.o.op=true∨ub ops i x.1=false:=av
    rcases av with av|av<;>rw [av] at h1<;>simp at h1
theorem Xz {ops:Array Oper} {pm:List (Nat×ea)} (h:Jh ops (nI ops.toList []) pm=true):Stat ops pm∧vw ops (nI ops.toList [])∧∀x∈pm,x.1<ops.size:=by
 have h1:=Bool.dF h;have h2:=Bool.dF h1.2;have a6:=Bool.dF h2.2;have cc:=Bool.dF a6.2
 have hb:vw ops (nI ops.toList []):=N0 ops.toList [] (fun k=>by simp) (fun j i aR=>by simp at aR)
 have ar:(nI ops.toList []).length=ops.size:=by rw [Jd];simp
 have hlt:∀x∈pm,x.1<ops.size:=fun x hx=>by have:=List.all_eq_true.1 a6.1 x hx;simpa using this
 refine ⟨⟨N1 _ h1.1,fun i o bd=> ?_,fun i o bd e he j1=> ?_,N3 hb pm (fun x hx=>by rw [ar];exact hlt x hx) cc.2⟩,hb,hlt⟩
 · have ag:i<ops.size:=(Array.getElem?_eq_some_iff.1 bd).1
   have:=List.all_eq_true.1 h2.1 i (List.mem_range.2 ag)
   simpa using this
 · have:=N2 ops.toList 0 cc.1 i o (by simpa using bd) e he j1
   omega
structure b5 where
 i:Nat
 o:Oper
 q:ea
 v:V
 log:Log
def hK (cD:cv):List b5→cv
 |[]=>cD
 |e::E=>(hK cD E).push e.o.dst e.q.o.slot
abbrev ho (E:List b5):List V:=E.map (·.v)
def fC (bg:Env):List b5→Env
 |[]=>bg
 |e::E=>match e.q.o.slot with
  |some (i,j)=>Env.set i j e.v (fC bg E)
  |none=>fC bg E
abbrev ix (bg:Env) (E:List b5):dr:=fun x=>A.ev x (ho E) (fC bg E)
def uc (bg:Env) (B:List b5) (r:eA):Option Bool:=match r.dq with
 |none=>some true
 |some (g,b)=>(ix bg B g).dq b
def b5.key (e:b5):Nat×ea:=(e.i,e.q)
def b5.id (e:b5):Option Nat:=match e.log with
 | .kW id _=>some id
 |_=>none
def vx (bg:Env) (B:List b5) (e:b5) (h:ae) (ι:aY):Prop:=
 (uc bg B e.q.o=some false∧e.v=un)∨
 (uc bg B e.q.o=some true∧∃l,e.q.o.op= .L l∧
   ((e.log= .rd (light l (ix bg B)) e.v∧light l (ix bg B) h= .val e.v)∨
    (∃id aG hk,e.log= .kW id aG∧hk.next=id∧light l (ix bg B) hk= .new aG e.v∧eT aG=true∧ι id=none∧T.get id h.t=some aG∧T.get id h.bA=none)))
theorem N4 (cD:cv):∀(E:List b5),(hK cD E).n=cD.n+E.length
 |[]=>rfl
 |e::E=>by show (hK cD E).n+1=_;rw [N4 cD E,List.length_cons];omega
theorem Jj {cD:cv} (h0:cD.n=0) {t:Nat} {s:Src}:∀(E:List b5),(hK cD E).tmp t=some s→
  (∃A e B,E=A++e::B∧e.o.dst=some t∧(∀x∈A,x.o.dst≠some t)∧s= .val B.length)∨((∀x∈E,x.o.dst≠some t)∧cD.tmp t=some s)
 |[],h=> .inr ⟨fun _ hx=>by simp at hx,h⟩
 |e::E,h=>by
  have hn:=N4 cD E
  have skip:e.o.dst≠some t→(hK cD E).tmp t=some s→(∃A bF B,e::E=A++bF::B∧bF.o.dst=some t∧(∀x∈A,x.o.dst≠some t)∧s= .val B.length)∨((∀x∈e::E,x.o.dst≠some t)∧cD.tmp t=some s):=by
   intro bG h
   rcases Jj h0 E h with ⟨A,bF,B,rfl,h1,h2,a6⟩|⟨h1,h2⟩
   · refine .inl ⟨e::A,bF,B,rfl,h1,fun x hx=> ?_,a6⟩
     rcases List.mem_cons.1 hx with rfl|hx
     · exact bG
     · exact h2 x hx
   · refine .inr ⟨fun x hx=> ?_,h2⟩
     rcases List.mem_cons.1 hx with rfl|hx
     · exact bG
     · exact h1 x hx
  unfold hK cv.push cv.tmp at h
  cases aQ:e.o.dst with
  |none=>rw [aQ] at h;exact skip (by rw [aQ];simp) h
  |some d=>
   rw [aQ] at h
   simp only [tY] at h
   by_cases c:t=d
   · rw [if_pos c] at h
     subst c
     refine .inl ⟨[],e,E,rfl,aQ,by simp, ?_⟩
     have h:(some (.val (hK cD E).n):Option Src)=some s:=h
     cases h;rw [hn,h0,Nat.zero_add]
   · rw [if_neg c] at h
     exact skip (by rw [aQ];intro h;cases h;exact c rfl) h
theorem N5 (A:List b5) (e:b5) (B:List b5):lZ (ho (A++e::B)) ((ho (A++e::B)).length - 1 - B.length)=e.v:=by
 have:(ho (A++e::B)).length - 1 - B.length=A.length:=by simp
 rw [this,UO]
 simp [ho]
structure mh (F:cv) (vs:List V) (env bg:Env):Prop where
 len:vs.length=F.n
 jn:∀i j,Env.get i j env=match F.at_ i j with|some p=>lZ vs (vs.length - 1 - p)|none=>Env.get i j bg
 lt:∀i j p,F.at_ i j=some p→p<vs.length
theorem mh.str {F:cv} {vs:List V} {env bg:Env} (r:mh F vs env bg) {ι:aY} {tmps:Array Value} (h:∀t s,F.tmp t=some s→Holds ι vs bg (tmps.getD t undef) s):hl ι F vs env bg tmps:=
 ⟨r.len,r.jn,r.lt,h⟩
theorem mh.only {F:cv} {vs:List V} {env bg:Env} (r:mh F vs env bg) (l:List Nat):mh (F.only l) vs env bg:=⟨r.len,r.jn,r.lt⟩
theorem mh.push {F:cv} {vs:List V} {env bg:Env} (r:mh F vs env bg) (v:V) (dst:Option Nat) (au:Option (bp×bp)):
  mh (F.push dst au) (v::vs) (match au with|some (i,j)=>Env.set i j v env|none=>env) bg:=by
 have s:hl (fun _=>none) ⟨F.n,[],F.s⟩ vs env bg #[]:=⟨r.len,r.jn,r.lt,fun t s h=>by cases h⟩
 have key:∀au,hl (fun _=>none) (cv.push ⟨F.n,[],F.s⟩ none au) (v::vs) (match au with|some (i,j)=>Env.set i j v env|none=>env) bg #[]→mh (F.push dst au) (v::vs) (match au with|some (i,j)=>Env.set i j v env|none=>env) bg:=
  fun au s=>⟨s.len,s.jn,s.lt⟩
 have hlen:=r.len
 cases au with
 |none=>
  refine ⟨by simp [cv.push,hlen],fun i j=> ?_,fun i j p hp=>by have:F.at_ i j=some p:=hp;have:=r.lt i j p this;simp;omega⟩
  have h1:(F.push dst none).at_ i j=F.at_ i j:=rfl
  show Env.get i j env=_
  rw [h1,r.jn i j]
  cases hp:F.at_ i j with
  |none=>rfl
  |some p=>
   have:=r.lt i j p hp
   show lZ vs _=lZ (v::vs) _
   rw [show (v::vs).length - 1 - p=(vs.length - 1 - p)+1 by simp;omega,EJ]
 |some IW=>
  obtain ⟨i,j⟩:=IW
  have eL:∀cy gA,(F.push dst (some (i,j))).at_ cy gA=if (cy,gA)=(i,j) then some F.n else F.at_ cy gA:=fun cy gA=>rfl
  refine ⟨by simp [cv.push,hlen],fun cy gA=> ?_,fun cy gA p hp=> ?_⟩
  · show Env.get cy gA (Env.set i j v env)=_
    rw [eL,Env.eU]
    by_cases e:cy=i∧gA=j
    · rw [if_pos e,if_pos (by rw [e.1,e.2])]
      show v=lZ (v::vs) ((v::vs).length - 1 - F.n)
      rw [show (v::vs).length - 1 - F.n=0 by simp;omega,IV]
    · rw [if_neg e,if_neg (by intro h;cases h;exact e ⟨rfl,rfl⟩),r.jn cy gA]
      cases hp:F.at_ cy gA with
      |none=>rfl
      |some p=>
       have:=r.lt cy gA p hp
       show lZ vs _=lZ (v::vs) _
       rw [show (v::vs).length - 1 - p=(vs.length - 1 - p)+1 by simp;omega,EJ]
  · rw [eL] at hp
    by_cases e:(cy,gA)=(i,j)
    · rw [if_pos e] at hp;cases hp;simp;omega
    · rw [if_neg e] at hp;have:=r.lt cy gA p hp;simp;omega
theorem mh.EO {cD:cv} {bg:Env} (r:mh cD [] bg bg):∀(E:List b5),mh (hK cD E) (ho E) (fC bg E) bg
 |[]=>r
 |e::E=>(mh.EO r E).push e.v e.o.dst e.q.o.slot
end
end Go.Eng
namespace Go.Eng
variable {D:List Deferred}
noncomputable section
theorem XA {e:hh} {ev:dr} {h ax:ae} (ay:ua (.L e)=false):light e ev ax=light e ev h:=by
 cases e<;>first|rfl|(cases ay;done)
structure DI0 (D:List Deferred) (P:Program) (ops:Array Oper) (pm:List (Nat×ea)) (N:Nat) (cD:cv) (bg:Env)
  (E:List b5) (rem:List (Nat×ea)) (listed:Array Bool) (a:Act) (ι:aY):Prop where
 split:(E.map b5.key).reverse++rem=pm
 size:a.tmps.size=N
 defers:a.defers=D
 sN:listed.size=ops.size
 down:Down ops (fun i=>listed.getD i false=true)
 only:∀i,listed.getD i false=true→∃e∈E,e.i=i
 ok:∀A e B,E=A++e::B→ops[e.i]? =some e.o∧oq N e.o.dst=true∧mN ((hK cD B).only (e.o.looksAt ops)) N ops e.o e.q.o.dq=true∧mM P ((hK cD B).only (e.o.looksAt ops)) e.o.op e.q.o.op=true
 ids:(E.filterMap b5.id).Nodup
 EP:∀t e,E.find? (fun e=>listed.getD e.i false&&decide (e.o.dst=some t))=some e→bD ι e.v (a.tmps.getD t undef)
 ER:∀t,E.find? (fun e=>listed.getD e.i false&&decide (e.o.dst=some t))=none→∀s,cD.tmp t=some s→Holds ι [] bg (a.tmps.getD t undef) s
structure kB (D:List Deferred) (P:Program) (ops:Array Oper) (pm:List (Nat×ea)) (N:Nat) (cD:cv) (bg:Env) (gO:aY) (h0:ae) (w0:World)
  (E:List b5) (rem:List (Nat×ea)) (listed:Array Bool) (a:Act) (w:World) (ι:aY) (h:ae):Prop extends DI0 D P ops pm N cD bg E rem listed a ι where
 vy:∀A e B,E=A++e::B→listed.getD e.i false=false→vx bg B e h ι
 qp:∀e∈E,∀id,e.id=some id→h0.next≤id∧id<h.next
 lz:dp gO h0 w0 ι h w
section
variable {P:Program} {ops:Array Oper} {pm:List (Nat×ea)} {N:Nat} {cD:cv} {bg:Env} {gO:aY} {h0:ae} {w0:World}
 {E:List b5} {rem:List (Nat×ea)} {listed:Array Bool} {a:Act} {w:World} {ι:aY} {h:ae}
theorem Jk {α:Type} {p:α→Bool} {A:List α} {e:α} {B:List α} (hA:∀x∈A,p x=false) (he:p e=true):(A++e::B).find? p=some e:=by
 rw [List.find?_append,List.find?_eq_none.2 (fun x hx=>by rw [hA x hx];simp),List.find?_cons_of_pos (by simpa using he)];rfl
theorem DI0.two (st:Stat ops pm) (d:DI0 D P ops pm N cD bg E rem listed a ι) {x e:b5} (ay:List.Sublist [x,e] E):
  (tZ e.q.o.op=true∨ub ops e.i x.i=false→xh ops x.i e.i)∧x.i≠e.i:=by
 have h1:List.Sublist [b5.key e,b5.key x] pm:=by
  rw [←d.split]
  have:=(ay.map b5.key).reverse
  exact this.trans (List.sublist_append_left _ _)
 refine ⟨List.pairwise_iff_forall_sublist.1 st.Ji h1,fun hx=> ?_⟩
 have:=h1.map (·.1)
 have h2:=List.pairwise_iff_forall_sublist.1 st.dd this
 exact h2 hx.symm
theorem Jl {A B:List b5} {x e:b5} (hx:x∈A):List.Sublist [x,e] (A++e::B):=(List.singleton_sublist.2 hx).append (List.Sublist.cons_cons _ (List.nil_sublist _))
theorem N6 {A B:List b5} {x e:b5} (hx:x∈B):List.Sublist [e,x] (A++e::B):=(List.Sublist.cons_cons _ (List.singleton_sublist.2 hx)).trans (List.sublist_append_right _ _)
theorem DI0.XB (st:Stat ops pm) {i:Nat} {q:ea} (d:DI0 D P ops pm N cD bg E ((i,q)::rem) listed a ι) {x:Nat×ea} (hx:x∈rem) (bQ:tZ q.o.op=true):xh ops x.1 i:=by
 have h1:List.Sublist [(i,q),x] pm:=by
  rw [←d.split]
  exact (List.Sublist.cons_cons _ (List.singleton_sublist.2 hx)).trans (List.sublist_append_right _ _)
 exact List.pairwise_iff_forall_sublist.1 st.Ji h1 (.inl bQ)
theorem Jm {i j:Nat} {x y:Oper} (hx:ops[i]? =some x) (hy:ops[j]? =some y) {t:Nat} (ht:x.dst=some t) (ar:t∈y.looksAt ops∨y.dst=some t):ub ops i j=false:=by
 unfold ub
 rw [hx,hy]
 cases av:x.apart ops y with
 |false=>exact av
 |true=>
  obtain ⟨h1,h2,a6⟩:=Oper.apart_spec av
  rcases ar with ar|ar
  · exact absurd ar (h1 t ht)
  · exact absurd ar (h2 t ht)
theorem XC {i j:Nat} {x y:Oper} (hx:ops[i]? =some x) (hy:ops[j]? =some y) {t:Nat} (ht:y.dst=some t) (ar:t∈x.looksAt ops∨x.dst=some t):ub ops i j=false:=by
 unfold ub
 rw [hx,hy]
 cases av:x.apart ops y with
 |false=>exact av
 |true=>
  obtain ⟨h1,h2,a6⟩:=Oper.apart_spec av
  rcases ar with ar|ar
  · exact absurd ar (a6 t ht)
  · exact absurd ht (h2 t ar)
theorem ES {i j:Nat} {ET:Oper} (aQ:Down ops (fun i=>listed.getD i false=true)) (xi:ops[j]? =some ET) (hr:∀e∈ET.after,Region.binds .any e=true→listed.getD e.on false=true) (hb:xh ops j i) (bG:i≠j):listed.getD i false=true:=by
 have:=hb (fun k=>listed.getD k false=true∨k=j) (fun k o hk bd e he j1=> ?_) (.inr rfl)
 · exact this.resolve_right bG
 · rcases hk with hk|rfl
   · exact .inl (aQ k o hk bd e he j1)
   · rw [xi] at bd;cases bd;exact .inl (hr e he j1)
theorem DI0.holds (st:Stat ops pm) (qq:cD.n=0) (jJ:∀t s,cD.tmp t=some s→∀p,s≠.val p) (d:DI0 D P ops pm N cD bg E rem listed a ι) {A B:List b5} {EU:Oper}
  (cp:E=A++B) (hA:∀x∈A,∀t,x.o.dst=some t→t∈EU.looksAt ops→listed.getD x.i false=false)
  (bN:∀x∈B,∀t,x.o.dst=some t→t∈EU.looksAt ops→listed.getD x.i false=true):
  ∀t s,((hK cD B).only (EU.looksAt ops)).tmp t=some s→Holds ι (ho B) bg (a.tmps.getD t undef) s:=by
 intro t s ay
 obtain ⟨av,ht⟩:=cv.Xv ay
 have av:t∈EU.looksAt ops:=by simpa using av
 rcases Jj qq B ht with ⟨hU,bF,aZ,rfl,h1,h2,rfl⟩|⟨h1,h2⟩
 · have hf:=Jk (p:=fun e:b5=>listed.getD e.i false&&decide (e.o.dst=some t)) (A:=A++hU) (e:=bF) (B:=aZ) (fun x hx=>by
    rcases List.mem_append.1 hx with hx|hx
    · by_cases aQ:x.o.dst=some t
      · rw [hA x hx t aQ av];rfl
      · simp [aQ]
    · simp [h2 x hx]) (by rw [bN bF (by simp) t h1 av];simpa using h1)
   have aD:=d.EP t bF (by rw [cp];simpa using hf)
   refine ⟨by simp;omega, ?_⟩
   rw [N5];exact aD
 · have hn:E.find? (fun e:b5=>listed.getD e.i false&&decide (e.o.dst=some t))=none:=by
    rw [List.find?_eq_none]
    intro x hx
    rw [cp] at hx
    rcases List.mem_append.1 hx with hx|hx
    · by_cases aQ:x.o.dst=some t
      · rw [hA x hx t aQ av];simp
      · simp [aQ]
    · simp [h1 x hx]
   have:=d.ER t hn s h2
   cases s with
   |val p=>exact absurd rfl (jJ t _ h2 p)
   |slot i j=>exact this
   |vu c=>exact this
end
end
end Go.Eng
namespace Go.Eng
variable {D:List Deferred}
noncomputable section
section
variable {P:Program} {ops:Array Oper} {pm:List (Nat×ea)} {N:Nat} {cD:cv} {bg:Env} {gO:aY} {h0:ae} {w0:World}
 {E:List b5} {rem:List (Nat×ea)} {listed:Array Bool} {a:Act} {w:World} {ι:aY} {h:ae} {Q:Exit→Act→World→Prop} {call:et}
theorem sO {listed:Array Bool} {i j:Nat} (ag:i<listed.size):(listed.setIfInBounds i true).getD j false=if j=i then true else listed.getD j false:=by
 by_cases e:j=i
 · subst e;rw [if_pos rfl];simp [Array.getD,ag]
 · rw [if_neg e,getD_set_ne false (Ne.symm e)]
theorem XD {E:List b5} {listed:Array Bool} {i t:Nat} (ag:i<listed.size) {A B:List b5} {e:b5} (cp:E=A++e::B) (XE:e.i=i)
  (hA:∀x∈A,x.i≠i) (bN:∀x∈B,x.i≠i) (me:∀x∈A,x.o.dst=e.o.dst→e.o.dst≠none→listed.getD x.i false=false):
  E.find? (fun e=>(listed.setIfInBounds i true).getD e.i false&&decide (e.o.dst=some t))=
    if e.o.dst=some t then some e else E.find? (fun e=>listed.getD e.i false&&decide (e.o.dst=some t)):=by
 subst cp
 by_cases ht:e.o.dst=some t
 · rw [if_pos ht]
   refine Jk (fun x hx=> ?_) ?_
   · show ((listed.setIfInBounds i true).getD x.i false&&decide (x.o.dst=some t))=false
     rw [sO ag,if_neg (hA x hx)]
     by_cases aQ:x.o.dst=some t
     · rw [me x hx (aQ.trans ht.symm) (by rw [ht];simp)];rfl
     · simp [aQ]
   · show ((listed.setIfInBounds i true).getD e.i false&&decide (e.o.dst=some t))=true
     rw [sO ag,if_pos XE];simpa using ht
 · rw [if_neg ht,List.find?_append,List.find?_append]
   have av:∀l:List b5,(∀x∈l,x.i≠i)→l.find? (fun e=>(listed.setIfInBounds i true).getD e.i false&&decide (e.o.dst=some t))=l.find? (fun e=>listed.getD e.i false&&decide (e.o.dst=some t)):=by
    intro l ar
    induction l with
    |nil=>rfl
    |cons x l bm=>
     rw [List.find?_cons,List.find?_cons,sO ag,if_neg (ar x (by simp)),bm (fun y hy=>ar y (by simp [hy]))]
   rw [av A hA,List.find?_cons,List.find?_cons,av B bN]
   simp [ht]
theorem DI0.done (st:Stat ops pm) (d:DI0 D P ops pm N cD bg E rem listed a ι) {A B:List b5} {e:b5} (cp:E=A++e::B) (hr:∀x∈e.o.after,Region.binds .any x=true→listed.getD x.on false=true)
  (hM:listed.getD e.i false=false) {v':Value} {bc:aY} (hle:ι.le bc) (aD:bD bc e.v v'):
  DI0 D P ops pm N cD bg E rem (listed.setIfInBounds e.i true) (a.put e.o.dst v') bc∧(∀j,(listed.setIfInBounds e.i true).getD j false=false→j≠e.i∧listed.getD j false=false):=by
 obtain ⟨bd,vv,_,_⟩:=d.ok A e B cp
 have ag:e.i<listed.size:=by rw [d.sN];exact (Array.getElem?_eq_some_iff.1 bd).1
 have hA:∀x∈A,x.i≠e.i:=fun x hx=>(d.two st (by rw [cp];exact Jl hx)).2
 have bN:∀x∈B,x.i≠e.i:=fun x hx=>fun h=>(d.two st (by rw [cp];exact N6 hx)).2 h.symm
 have N7:=fun t=>XD (t:=t) ag cp rfl hA bN (fun x hx XF bG=>by
  cases ar:listed.getD x.i false with
  |false=>rfl
  |true=>
   exfalso
   obtain ⟨t,ht⟩:=Option.ne_none_iff_exists'.1 bG
   obtain ⟨Jn,Jo,rfl⟩:=List.append_of_mem hx
   obtain ⟨BO,_⟩:=d.ok Jn x (Jo++e::B) (by rw [cp];simp)
   have hb:=(d.two st (x:=x) (e:=e) (by rw [cp];exact Jl (by simp))).1 (.inr (Jm bd BO ht (.inr (XF.trans ht))))
   have:=hb _ d.down ar
   rw [hM] at this;cases this)
 have Jp:=xc (a:=a) vv d.size
 refine ⟨⟨d.split,BM.trans d.size,put_defers.trans d.defers,by simpa using d.sN,fun k o hk hok x hx j1=> ?_,fun i ar=> ?_,d.ok,d.ids,fun t x hf=> ?_,fun t hf s ay=> ?_⟩,fun j ar=> ?_⟩
 · have hk:(listed.setIfInBounds e.i true).getD k false=true:=hk
   rw [sO ag] at hk
   show (listed.setIfInBounds e.i true).getD x.on false=true
   refine getD_set_true ?_
   by_cases aS:k=e.i
   · subst aS;rw [bd] at hok;cases hok;exact hr x hx j1
   · rw [if_neg aS] at hk;exact d.down k o hk hok x hx j1
 · rw [sO ag] at ar
   by_cases aS:i=e.i
   · subst aS;exact ⟨e,by rw [cp];simp,rfl⟩
   · rw [if_neg aS] at ar;exact d.only i ar
 · rw [N7] at hf
   by_cases ht:e.o.dst=some t
   · rw [if_pos ht] at hf;cases hf
     rw [ht]
     show bD bc e.v ((a.tmps.setIfInBounds t v').getD t undef)
     rw [BK (Jp t ht),if_pos rfl];exact aD
   · rw [if_neg ht] at hf
     have:=(d.EP t x hf).mono hle
     cases aQ:e.o.dst with
     |none=>exact this
     |some u=>
      show bD bc x.v ((a.tmps.setIfInBounds u v').getD t undef)
      rw [BK (Jp u aQ),if_neg (by intro h;subst h;exact ht aQ)];exact this
 · rw [N7] at hf
   by_cases ht:e.o.dst=some t
   · rw [if_pos ht] at hf;cases hf
   · rw [if_neg ht] at hf
     have:=(d.ER t hf s ay).mono hle
     cases aQ:e.o.dst with
     |none=>exact this
     |some u=>
      show Holds bc [] bg ((a.tmps.setIfInBounds u v').getD t undef) s
      rw [BK (Jp u aQ),if_neg (by intro h;subst h;exact ht aQ)];exact this
 · rw [sO ag] at ar
   by_cases aS:j=e.i
   · rw [if_pos aS] at ar;cases ar
   · rw [if_neg aS] at ar;exact ⟨aS,ar⟩
theorem kB.done (st:Stat ops pm) (d:kB D P ops pm N cD bg gO h0 w0 E rem listed a w ι h) {A B:List b5} {e:b5} (cp:E=A++e::B) (hr:∀x∈e.o.after,Region.binds .any x=true→listed.getD x.on false=true)
  (hM:listed.getD e.i false=false) {v':Value} {w':World} {bc:aY} (hle:ι.le bc) (aD:bD bc e.v v') (av:dp gO h0 w0 bc h w')
  (hp:∀hU bF aZ,E=hU++bF::aZ→bF.i≠e.i→listed.getD bF.i false=false→vx bg aZ bF h bc):
  kB D P ops pm N cD bg gO h0 w0 E rem (listed.setIfInBounds e.i true) (a.put e.o.dst v') w' bc h:=
 let ⟨cu,cB⟩:=d.toDI0.done st cp hr hM hle aD
 ⟨cu,fun hU bF aZ j2 ar=>hp hU bF aZ j2 (cB _ ar).1 (cB _ ar).2,d.qp,av⟩
theorem EV {B:List b5} {r:eA} {o:Oper} {F:cv} (s:hl ι F (ho B) (fC bg B) bg a.tmps) (ay:a.tmps.size=N) (hg:mN F N ops o r.dq=true) {b:Bool} (aD:uc bg B r=some b):
  Region.wanted o (yielded ops a.tmps)=b:=by
 unfold uc at aD
 cases hr:r.dq with
 |none=>rw [hr] at aD hg;cases aD;exact I5 hg _
 |some p=>
  obtain ⟨g,c⟩:=p
  rw [hr] at aD hg
  exact I6 s ay hg aD
theorem kB.exec (st:Stat ops pm) (qq:cD.n=0) (jJ:∀t s,cD.tmp t=some s→∀p,s≠.val p) (r0:mh cD [] bg bg) (d:kB D P ops pm N cD bg gO h0 w0 E rem listed a w ι h) {A B:List b5} {e:b5} (cp:E=A++e::B)
  (hr:∀x∈e.o.after,Region.binds .any x=true→listed.getD x.on false=true) (hM:listed.getD e.i false=false) {K:Act→World→Prop}
  (hk:∀bf w' bc,kB D P ops pm N cD bg gO h0 w0 E rem (listed.setIfInBounds e.i true) bf w' bc h→K bf w'):wpOp P ops Q e.i K a w:=by
 obtain ⟨bd,vv,hg,hok⟩:=d.ok A e B cp
 have hA:∀x∈A++[e],∀t,x.o.dst=some t→t∈e.o.looksAt ops→listed.getD x.i false=false:=by
  intro x hx t Jq zi
  rcases List.mem_append.1 hx with hx|hx
  · cases ar:listed.getD x.i false with
    |false=>rfl
    |true=>
     exfalso
     obtain ⟨Jn,Jo,rfl⟩:=List.append_of_mem hx
     obtain ⟨BO,_⟩:=d.ok Jn x (Jo++e::B) (by rw [cp];simp)
     have hb:=(d.two st (x:=x) (e:=e) (by rw [cp];exact Jl (by simp))).1 (.inr (XC bd BO Jq (.inl zi)))
     have:=hb _ d.down ar
     rw [hM] at this;cases this
  · simp at hx;subst hx;exact hM
 have bN:∀x∈B,∀t,x.o.dst=some t→t∈e.o.looksAt ops→listed.getD x.i false=true:=by
  intro x hx t Jq zi
  obtain ⟨jZ,lu,rfl⟩:=List.append_of_mem hx
  obtain ⟨BO,_⟩:=d.ok (A++e::jZ) x lu (by rw [cp];simp)
  have h2:=d.two st (x:=e) (e:=x) (by rw [cp];exact N6 (by simp))
  exact ES d.down bd hr (h2.1 (.inr (Jm BO bd Jq (.inl zi)))) (Ne.symm h2.2)
 have s:hl ι ((hK cD B).only (e.o.looksAt ops)) (ho B) (fC bg B) bg a.tmps:=
  ((r0.EO B).only _).str (d.holds st qq jJ (A:=A++[e]) (by rw [cp];simp) hA bN)
 unfold wpOp
 rw [bd]
 rcases d.vy A e B cp hM with ⟨pk,aD⟩|⟨pk,l,ar,hval|⟨id,aG,N8,N9,hid,hlt,dC,qs,dj,rz⟩⟩
 · have hw:=EV s d.size hg pk
   simp only [hw]
   refine hk _ w ι (d.done st cp hr hM (aY.le.refl _) (by rw [aD];exact w4) d.lz (fun hU bF aZ j2 _ sD=>d.vy hU bF aZ j2 sD))
 · have hw:=EV s d.size hg pk
   simp only [hw]
   refine .inl ?_
   obtain ⟨N9,hval⟩:=hval
   rw [ar] at hok
   obtain ⟨v',r1,fI⟩:=Nu (P:=P) (w:=w) d.lz.fJ (tX s) hok hval
   unfold Oper.wp;rw [r1]
   exact hk _ w ι (d.done st cp hr hM (aY.le.refl _) fI d.lz (fun hU bF aZ j2 _ sD=>d.vy hU bF aZ j2 sD))
 · have hw:=EV s d.size hg pk
   simp only [hw]
   refine .inl ?_
   rw [ar] at hok
   obtain ⟨v',w',nJ,r1,fI,kz⟩:=Nv (P:=P) (w:=w) (tX s) hok hlt dC
   unfold Oper.wp;rw [r1]
   rw [hid] at fI kz
   have Oa:e.id=some id:=by unfold b5.id;rw [N9]
   have sP:=d.qp e (by rw [cp];simp) id Oa
   refine hk _ w' _ (d.done st cp hr hM (aY.y4 qs) kz (d.lz.late fI qs sP.1 sP.2 dj rz) (fun hU bF aZ j2 bG sD=> ?_))
   rcases d.vy hU bF aZ j2 sD with ay|⟨cu,aI,cB,gg|⟨EW,kx,vd,m1,m2,m3,m4,m5,m6,m7⟩⟩
   · exact .inl ay
   · exact .inr ⟨cu,aI,cB, .inl gg⟩
   · refine .inr ⟨cu,aI,cB, .inr ⟨EW,kx,vd,m1,m2,m3,m4, ?_,m6,m7⟩⟩
     rw [aY.qe]
     · exact m5
     · intro XG
       subst XG
       have sA:bF.id=some EW:=by unfold b5.id;rw [m1]
       have hin:=d.ids
       have m:bF∈A∨bF∈B:=by
        have:bF∈E:=by rw [j2];simp
        rw [cp] at this
        rcases List.mem_append.1 this with hm|hm
        · exact .inl hm
        · rcases List.mem_cons.1 hm with rfl|hm
          · exact absurd rfl bG
          · exact .inr hm
       rw [cp,List.filterMap_append,List.filterMap_cons,Oa] at hin
       simp only [List.nodup_append,List.nodup_cons] at hin
       rcases m with m|m
       · exact hin.2.2 EW (List.mem_filterMap.2 ⟨bF,m,sA⟩) EW (by simp) rfl
       · exact hin.2.1.1 (List.mem_filterMap.2 ⟨bF,m,sA⟩)
end
end
end Go.Eng
namespace Go.Eng
variable {D:List Deferred}
noncomputable section
section
variable {P:Program} {ops:Array Oper} {pm:List (Nat×ea)} {N:Nat} {cD:cv} {bg:Env} {gO:aY} {h0:ae} {w0:World}
 {E:List b5} {rem:List (Nat×ea)} {listed:Array Bool} {a:Act} {w:World} {ι:aY} {h ax:ae} {Q:Exit→Act→World→Prop} {call:et} {x:X} {env':Env}
theorem XH {k:tF} {o:Obj} {v:V} (hk:∀h1,h.next≤h1.next→bj.next h (k v h1)):bj.next h (wK k h o v):=by
 show bj.next h (Bool.rec .bad (h.kq o fun h=>k v h) (eT o):bj)
 cases eT o with
 |false=>trivial
 |true=>rw [nD];exact hk _ (Nat.le_succ _)
theorem Ob (dk:lA call) {op:Op} {cn:List Nat} {ev:dr} {e9:List Log} {env:Env} {next:Log→V→ae→bj} (hk:∀l v h1,h.next≤h1.next→bj.next h (next l v h1)):bj.next h (jX op cn call ev e9 env h next):=by
 cases op with
 |L e=>
  show bj.next h ((light e ev h).kd (light e ev) h next)
  cases light e ev h with
  |val v=>show bj.next h (v.force fun v=>next (.rd (light e ev) v) v h);rw [V.force_eq];exact hk _ _ _ (Nat.le_refl _)
  |new o v=>show bj.next h (force h.next fun id=>wK (fun v h=>next (.kW id o) v h) h o v);rw [force_eq];exact XH fun h1 hn=>hk _ _ _ hn
  |bad=>trivial
 |H e=>
  refine I1 (op:= .H e) dk fun v h1 hn=> ?_
  cases jW cn h1 e9 with
  |false=>trivial
  |true=>exact hk _ _ _ hn
theorem EX (dk:lA call):∀(l:List ea) (vs:List V) (e9:List Log) (env:Env) (h:ae),bj.next h (eB l call vs e9 env h)
 |[],vs,e9,env,h=>Nat.le_refl _
 |q::l,vs,e9,env,h=>by
  have bm:=EX dk l
  have plain:∀op,bj.next h (jX op q.cn call (fun a=>a.ev vs env) e9 env h fun aI v h=>eB l call (v::vs) (aI::e9) env h):=fun op=>Ob dk fun _ _ _ hn=>bj.xb hn (bm _ _ _ _)
  have slot:∀i j op,bj.next h (jX op q.cn call (fun a=>a.ev vs env) e9 env h fun aI v h=>Env.dg i j v (fun env=>eB l call (v::vs) (aI::e9) env h) env):=fun i j op=>Ob dk fun _ _ _ hn=>by rw [Env.h4];exact bj.xb hn (bm _ _ _ _)
  obtain ⟨o,cn⟩:=q
  cases o with
  |p op=>exact plain op
  |s i j op=>exact slot i j op
  |g g b op=>
   show bj.next h (Option.rec .bad (fun c=>Bool.rec (eB l call (un::vs) (.no::e9) env h) (jX op cn call (fun a=>a.ev vs env) e9 env h fun aI v h=>eB l call (v::vs) (aI::e9) env h) c) ((g.ev vs env).dq b):bj)
   cases (g.ev vs env).dq b with
   |none=>trivial
   |some c=>
    show bj.next h (Bool.rec (eB l call (un::vs) (.no::e9) env h) (jX op cn call (fun a=>a.ev vs env) e9 env h fun aI v h=>eB l call (v::vs) (aI::e9) env h) c:bj)
    cases c with
    |false=>exact bm _ _ _ _
    |true=>exact plain op
  |gs g b i j op=>
   show bj.next h (Option.rec .bad (fun c=>Bool.rec (Env.dg i j un (fun env=>eB l call (un::vs) (.no::e9) env h) env) (jX op cn call (fun a=>a.ev vs env) e9 env h fun aI v h=>Env.dg i j v (fun env=>eB l call (v::vs) (aI::e9) env h) env) c) ((g.ev vs env).dq b):bj)
   cases (g.ev vs env).dq b with
   |none=>trivial
   |some c=>
    show bj.next h (Bool.rec (Env.dg i j un (fun env=>eB l call (un::vs) (.no::e9) env h) env) (jX op cn call (fun a=>a.ev vs env) e9 env h fun aI v h=>Env.dg i j v (fun env=>eB l call (v::vs) (aI::e9) env h) env) c:bj)
    cases c with
    |false=>rw [Env.h4];exact bm _ _ _ _
    |true=>exact slot i j op
def ud (r:eA) (l:List ea) (call:et) (E:List b5) (bg:Env) (b3:Log) (v:V) (h:ae):bj:=
 eB l call (v::ho E) (b3::E.map b5.log) (match r.slot with|some (i,j)=>Env.set i j v (fC bg E)|none=>fC bg E) h
theorem XI {q:ea} {l:List ea} (he:eB (q::l) call (ho E) (E.map b5.log) (fC bg E) h= .ok x env' ax):
  (uc bg E q.o=some false∧ud q.o l call E bg .no un h= .ok x env' ax)∨
  (uc bg E q.o=some true∧jX q.o.op q.cn call (ix bg E) (E.map b5.log) (fC bg E) h (ud q.o l call E bg)= .ok x env' ax):=by
 obtain ⟨o,cn⟩:=q
 have ay:∀i j b3,(fun (v:V) (h:ae)=>Env.dg i j v (fun env=>eB l call (v::ho E) (b3::E.map b5.log) env h) (fC bg E))=fun v h=>eB l call (v::ho E) (b3::E.map b5.log) (Env.set i j v (fC bg E)) h:=fun i j b3=>by
  funext v h;rw [Env.h4]
 cases o with
 |p op=>exact .inr ⟨rfl,he⟩
 |s i j op=>
  refine .inr ⟨rfl, ?_⟩
  have he:jX op cn call (ix bg E) (E.map b5.log) (fC bg E) h (fun b3 v h=>Env.dg i j v (fun env=>eB l call (v::ho E) (b3::E.map b5.log) env h) (fC bg E))= .ok x env' ax:=he
  simp only [Env.h4] at he;exact he
 |g g b op=>
  have he:(Option.rec .bad (fun c=>Bool.rec (eB l call (un::ho E) (.no::E.map b5.log) (fC bg E) h) (jX op cn call (ix bg E) (E.map b5.log) (fC bg E) h fun aI v h=>eB l call (v::ho E) (aI::E.map b5.log) (fC bg E) h) c) ((ix bg E g).dq b):bj)= .ok x env' ax:=he
  show ((ix bg E g).dq b=some false∧_)∨((ix bg E g).dq b=some true∧_)
  cases hb:(ix bg E g).dq b with
  |none=>rw [hb] at he;cases he
  |some c=>
   rw [hb] at he
   have he:(Bool.rec (eB l call (un::ho E) (.no::E.map b5.log) (fC bg E) h) (jX op cn call (ix bg E) (E.map b5.log) (fC bg E) h fun aI v h=>eB l call (v::ho E) (aI::E.map b5.log) (fC bg E) h) c:bj)= .ok x env' ax:=he
   cases ry:c with
   |false=>rw [ry] at he;exact .inl ⟨rfl,he⟩
   |true=>rw [ry] at he;exact .inr ⟨rfl,he⟩
 |gs g b i j op=>
  have he:(Option.rec .bad (fun c=>Bool.rec (Env.dg i j un (fun env=>eB l call (un::ho E) (.no::E.map b5.log) env h) (fC bg E)) (jX op cn call (ix bg E) (E.map b5.log) (fC bg E) h fun aI v h=>Env.dg i j v (fun env=>eB l call (v::ho E) (aI::E.map b5.log) env h) (fC bg E)) c) ((ix bg E g).dq b):bj)= .ok x env' ax:=he
  show ((ix bg E g).dq b=some false∧_)∨((ix bg E g).dq b=some true∧_)
  cases hb:(ix bg E g).dq b with
  |none=>rw [hb] at he;cases he
  |some c=>
   rw [hb] at he
   have he:(Bool.rec (Env.dg i j un (fun env=>eB l call (un::ho E) (.no::E.map b5.log) env h) (fC bg E)) (jX op cn call (ix bg E) (E.map b5.log) (fC bg E) h fun aI v h=>Env.dg i j v (fun env=>eB l call (v::ho E) (aI::E.map b5.log) env h) (fC bg E)) c:bj)= .ok x env' ax:=he
   cases ry:c with
   |false=>
    rw [ry] at he
    have he:Env.dg i j un (fun env=>eB l call (un::ho E) (.no::E.map b5.log) env h) (fC bg E)= .ok x env' ax:=he
    rw [Env.h4] at he
    exact .inl ⟨rfl,he⟩
   |true=>rw [ry] at he;simp only [Env.h4] at he;exact .inr ⟨rfl,he⟩
end
end
end Go.Eng
namespace Go.Eng
variable {D:List Deferred}
noncomputable section
section
variable {P:Program} {ops:Array Oper} {pm:List (Nat×ea)} {N:Nat} {cD:cv} {bg:Env} {gO:aY} {h0:ae} {w0:World}
 {E:List b5} {rem:List (Nat×ea)} {listed:Array Bool} {a:Act} {w:World} {ι:aY} {h ax:ae} {Q:Exit→Act→World→Prop} {call:et} {x:X} {env':Env}
theorem BP {e bF:b5} {A B:List b5} (h:e::E=A++bF::B):(A=[]∧bF=e∧B=E)∨∃hU,A=e::hU∧E=hU++bF::B:=by
 cases A with
 |nil=>simp at h;exact .inl ⟨rfl,h.1.symm,h.2.symm⟩
 |cons y hU=>simp at h;exact .inr ⟨hU,by rw [h.1],h.2⟩
theorem DI0.cons (st:Stat ops pm) {i:Nat} {q:ea} (d:DI0 D P ops pm N cD bg E ((i,q)::rem) listed a ι) {e:b5} (hk:e.key=(i,q))
  (hok:ops[e.i]? =some e.o∧oq N e.o.dst=true∧mN ((hK cD E).only (e.o.looksAt ops)) N ops e.o e.q.o.dq=true∧mM P ((hK cD E).only (e.o.looksAt ops)) e.o.op e.q.o.op=true)
  (Jr:((e::E).filterMap b5.id).Nodup):DI0 D P ops pm N cD bg (e::E) rem listed a ι∧listed.getD e.i false=false:=by
 have hM:listed.getD e.i false=false:=by
  cases ar:listed.getD e.i false with
  |false=>rfl
  |true=>
   exfalso
   obtain ⟨bF,sA,ag⟩:=d.only _ ar
   have hn:=st.dd
   rw [←d.split] at hn
   simp only [List.map_append,List.nodup_append] at hn
   have h1:bF.i∈((E.map b5.key).reverse).map (·.1):=by simp;exact ⟨bF,sA,rfl⟩
   have h2:i∈(((i,q)::rem).map (·.1)):=by simp
   have a6:e.i=i:=congrArg (·.1) hk
   exact hn.2.2 _ h1 _ h2 (ag.trans a6)
 have hf:∀t,(e::E).find? (fun e=>listed.getD e.i false&&decide (e.o.dst=some t))=E.find? (fun e=>listed.getD e.i false&&decide (e.o.dst=some t)):=fun t=>by
  rw [List.find?_cons,hM];rfl
 refine ⟨⟨?_,d.size,d.defers,d.sN,d.down,fun j aR=> ?_,fun A bF B cp=> ?_,Jr,fun t bF h1=> ?_,fun t h1=> ?_⟩,hM⟩
 · rw [←d.split];simp [hk]
 · obtain ⟨bF,h1,h2⟩:=d.only j aR;exact ⟨bF,by simp [h1],h2⟩
 · rcases BP cp with ⟨rfl,rfl,rfl⟩|⟨hU,rfl,j2⟩
   · exact hok
   · exact d.ok hU bF B j2
 · rw [hf] at h1;exact d.EP t bF h1
 · rw [hf] at h1;exact d.ER t h1
theorem BQ {e:b5} {n:Nat} (hn:(E.filterMap b5.id).Nodup) (hlt:∀e∈E,∀id,e.id=some id→id<n) (he:e.id=none∨e.id=some n):((e::E).filterMap b5.id).Nodup:=by
 rw [List.filterMap_cons]
 rcases he with he|he
 · rw [he];exact hn
 · rw [he]
   refine List.nodup_cons.2 ⟨fun hm=> ?_,hn⟩
   obtain ⟨bF,h1,h2⟩:=List.mem_filterMap.1 hm
   have:=hlt bF h1 n h2;omega
theorem vx.va {B:List b5} {e:b5} {h1:ae} (k:xg h h1) (hf:h1.bA=h.bA) (p:vx bg B e h ι):vx bg B e h1 ι:=by
 rcases p with p|⟨cu,l,cB,⟨m1,m2⟩|⟨id,aG,hk,m1,m2,m3,m4,m5,m6,m7⟩⟩
 · exact .inl p
 · exact .inr ⟨cu,l,cB, .inl ⟨m1,Xq k m2⟩⟩
 · exact .inr ⟨cu,l,cB, .inr ⟨id,aG,hk,m1,m2,m3,m4,m5,k _ _ m6,by rw [hf];exact m7⟩⟩
theorem kB.XJ (st:Stat ops pm) {i:Nat} {q:ea} (d:kB D P ops pm N cD bg gO h0 w0 E ((i,q)::rem) listed a w ι h) {o:Oper} (bd:ops[i]? =some o)
  (hok:oq N o.dst=true∧mN ((hK cD E).only (o.looksAt ops)) N ops o q.o.dq=true∧mM P ((hK cD E).only (o.looksAt ops)) o.op q.o.op=true)
  (fR:jm ι h ax) {l:hh} (ar:q.o.op= .L l) (hg:uc bg E q.o=some true) {os:List ea} (he:jX q.o.op q.cn call (ix bg E) (E.map b5.log) (fC bg E) h (ud q.o os call E bg)= .ok x env' ax) (dk:lA call):
  ∃e h1,e.key=(i,q)∧e.o=o∧kB D P ops pm N cD bg gO h0 w0 (e::E) rem listed a w ι h1∧eB os call (ho (e::E)) ((e::E).map b5.log) (fC bg (e::E)) h1= .ok x env' ax:=by
 rw [ar] at he
 have he:(light l (ix bg E) h).kd (light l (ix bg E)) h (ud q.o os call E bg)= .ok x env' ax:=he
 cases BR:light l (ix bg E) h with
 |val v=>
  rw [BR] at he
  have he:v.force (fun v=>ud q.o os call E bg (.rd (light l (ix bg E)) v) v h)= .ok x env' ax:=he
  rw [V.force_eq] at he
  refine ⟨⟨i,o,q,v, .rd (light l (ix bg E)) v⟩,h,rfl,rfl, ?_,he⟩
  obtain ⟨cu,cB⟩:=d.toDI0.cons st (e:=⟨i,o,q,v, .rd (light l (ix bg E)) v⟩) rfl ⟨bd,hok⟩ (BQ d.ids (fun e he id hid=>(d.qp e he id hid).2) (.inl rfl))
  refine ⟨cu,fun A e B cp BS=> ?_,fun e hm id hid=> ?_,d.lz⟩
  · rcases BP cp with ⟨rfl,rfl,rfl⟩|⟨hU,rfl,j2⟩
    · exact .inr ⟨hg,l,ar, .inl ⟨rfl,BR⟩⟩
    · exact d.vy hU e B j2 BS
  · rcases List.mem_cons.1 hm with rfl|hm
    · cases hid
    · exact d.qp e hm id hid
 |new aG v=>
  rw [BR] at he
  have he:force h.next (fun id=>wK (fun v h=>ud q.o os call E bg (.kW id aG) v h) h aG v)= .ok x env' ax:=he
  rw [force_eq] at he
  have he:(Bool.rec .bad (h.kq aG fun h1=>ud q.o os call E bg (.kW h.next aG) v h1) (eT aG):bj)= .ok x env' ax:=he
  cases ay:eT aG with
  |false=>rw [ay] at he;cases he
  |true=>
   rw [ay,nD] at he
   have hlen:(h.add aG).next≤ax.next:=by
    have:=EX dk os (v::ho E) (.kW h.next aG::E.map b5.log) (match q.o.slot with|some (i,j)=>Env.set i j v (fC bg E)|none=>fC bg E) (h.add aG)
    have rv:eB os call (v::ho E) (.kW h.next aG::E.map b5.log) (match q.o.slot with|some (i,j)=>Env.set i j v (fC bg E)|none=>fC bg E) (h.add aG)= .ok x env' ax:=he
    rw [rv] at this;exact this
   have qs:ι h.next=none:=fR _ (Nat.le_refl _) (Nat.lt_of_lt_of_le (Nat.lt_succ_self _) hlen)
   refine ⟨⟨i,o,q,v, .kW h.next aG⟩,h.add aG,rfl,rfl, ?_,he⟩
   obtain ⟨cu,cB⟩:=d.toDI0.cons st (e:=⟨i,o,q,v, .kW h.next aG⟩) rfl ⟨bd,hok⟩ (BQ d.ids (fun e he id hid=>(d.qp e he id hid).2) (.inr rfl))
   have g:=d.lz.fJ
   refine ⟨cu,fun A e B cp BS=> ?_,fun e hm id hid=> ?_,d.lz.add qs aG⟩
   · rcases BP cp with ⟨rfl,rfl,rfl⟩|⟨hU,rfl,j2⟩
     · refine .inr ⟨hg,l,ar, .inr ⟨h.next,aG,h,rfl,rfl,BR,ay,qs,T.yT .., ?_⟩⟩
       cases hf:T.get h.next (h.add aG).bA with
       |none=>rfl
       |some F=>have:=g.tJ h.next (Nat.zero_le _) (by rw [show T.get h.next h.bA=some F from hf];simp);omega
     · exact (d.vy hU e B j2 BS).va (xg.add g.kY aG) rfl
   · show h0.next≤id∧id<h.next+1
     rcases List.mem_cons.1 hm with rfl|hm
     · cases hid;exact ⟨d.lz.ext.2.1,Nat.lt_succ_self _⟩
     · have:=d.qp e hm id hid;omega
 |bad=>rw [BR] at he;cases he
theorem kB.XK (st:Stat ops pm) {i:Nat} {q:ea} (d:kB D P ops pm N cD bg gO h0 w0 E ((i,q)::rem) listed a w ι h) {o:Oper} (bd:ops[i]? =some o)
  (hok:oq N o.dst=true∧mN ((hK cD E).only (o.looksAt ops)) N ops o q.o.dq=true∧mM P ((hK cD E).only (o.looksAt ops)) o.op q.o.op=true) (hg:uc bg E q.o=some false):
  kB D P ops pm N cD bg gO h0 w0 (⟨i,o,q,un, .no⟩::E) rem listed a w ι h:=by
 obtain ⟨cu,cB⟩:=d.toDI0.cons st (e:=⟨i,o,q,un, .no⟩) rfl ⟨bd,hok⟩ (BQ d.ids (fun e he id hid=>(d.qp e he id hid).2) (.inl rfl))
 refine ⟨cu,fun A e B cp BS=> ?_,fun e hm id hid=> ?_,d.lz⟩
 · rcases BP cp with ⟨rfl,rfl,rfl⟩|⟨hU,rfl,j2⟩
   · exact .inl ⟨hg,rfl⟩
   · exact d.vy hU e B j2 BS
 · rcases List.mem_cons.1 hm with rfl|hm
   · cases hid
   · exact d.qp e hm id hid
theorem Oc:∀{cn:List Nat} {h:ae} {e9:List Log},jW cn h e9=true→∀k∈cn,still h (logAt e9 k)=true
 |[],_,_,_,k,hk=>by simp at hk
 |u::cn,h,e9,ay,k,hk=>by
  have ay:(Bool.rec false (jW cn h e9) (still h (logAt e9 u)):Bool)=true:=ay
  cases hu:still h (logAt e9 u) with
  |false=>rw [hu] at ay;cases ay
  |true=>
   rw [hu] at ay
   rcases List.mem_cons.1 hk with rfl|hk
   · exact hu
   · exact Oc ay k hk
theorem XL (A:List b5) (e:b5) (B:List b5):logAt ((A++e::B).map b5.log) A.length=e.log:=by
 induction A with
 |nil=>rfl
 |cons x A bm=>exact bm
theorem XM {f:ae→bE} {v:V} {h:ae} (hf:A6 f v h=true):f h= .val v:=by
 unfold A6 at hf
 cases aD:f h with
 |val w=>rw [aD] at hf;rw [V.qn v w hf]
 |new o w=>rw [aD] at hf;cases hf
 |bad=>rw [aD] at hf;cases hf
theorem vx.gM {B:List b5} {e:b5} {h1:ae} {l5:aY} (p:vx bg B e h ι) (qs:∀id,e.id=some id→ι id=none→l5 id=none) (ay:ua e.q.o.op=false∨still h1 e.log=true):vx bg B e h1 l5:=by
 rcases p with p|⟨cu,l,cB,⟨m1,m2⟩|⟨id,aG,hk,m1,m2,m3,m4,m5,m6,m7⟩⟩
 · exact .inl p
 · refine .inr ⟨cu,l,cB, .inl ⟨m1, ?_⟩⟩
   rcases ay with ay|ay
   · rw [cB] at ay;rw [XA ay];exact m2
   · rw [m1] at ay;exact XM ay
 · refine .inr ⟨cu,l,cB, .inr ⟨id,aG,hk,m1,m2,m3,m4,qs id (by unfold b5.id;rw [m1]) m5, ?_⟩⟩
   rcases ay with ay|ay
   · rw [cB] at ay
     exfalso
     have hn:=Nt m3
     cases l<;>first|(cases ay;done)|(simp [IH] at hn;done)
   · rw [m1] at ay
     have ay:(match T.get id h1.t,T.get id h1.bA with|some o,none=>Obj.same aG o|_,_=>false)=true:=ay
     cases Js:T.get id h1.t with
     |none=>rw [Js] at ay;cases ay
     |some o=>
      cases Od:T.get id h1.bA with
      |some F=>rw [Js,Od] at ay;cases ay
      |none=>rw [Js,Od] at ay;rw [Obj.qn aG o ay];exact ⟨rfl,rfl⟩
theorem Oe {b:Nat} {cn:List Nat}:∀(A:List b5) (e:b5) (B:List b5) (k:Nat),zg b cn ((A++e::B).map (fun e=>(e.i,ua e.q.o.op))) k=true→ua e.q.o.op=false∨b.testBit e.i=true∨k+A.length∈cn
 |[],e,B,k,h=>by
  have h:=(Bool.dF h).1
  rw [Bool.or_eq_true,Bool.or_eq_true] at h
  rcases h with h|h|h
  · exact .inl (by simpa using h)
  · exact .inr (.inl h)
  · exact .inr (.inr (by simpa using h))
 |y::A,e,B,k,h=>by
  have h:=(Bool.dF h).2
  rcases Oe A e B (k+1) h with h|h|h
  · exact .inl h
  · exact .inr (.inl h)
  · exact .inr (.inr (by rw [List.length_cons,show k+(A.length+1)=k+1+A.length by omega];exact h))
end
end
end Go.Eng
namespace Go.Eng
variable {D:List Deferred}
noncomputable section
section
variable {P:Program} {ops:Array Oper} {pm:List (Nat×ea)} {N:Nat} {cD:cv} {bg:Env} {gO:aY} {h0:ae} {w0:World}
 {E:List b5} {rem:List (Nat×ea)} {listed:Array Bool} {a:Act} {w:World} {ι:aY} {h ax:ae} {Q:Exit→Act→World→Prop} {call:et} {x:X} {env':Env} {m:List Nat} {F':cv}
def sQ (listed:Array Bool) (E:List b5):Nat:=E.countP (fun e=> !listed.getD e.i false)
theorem Jt {A B:List b5} {e:b5} (ag:e.i<listed.size) (hM:listed.getD e.i false=false):sQ (listed.setIfInBounds e.i true) (A++e::B)<sQ listed (A++e::B):=by
 have hm:∀l:List b5,l.countP (fun x=> !(listed.setIfInBounds e.i true).getD x.i false)≤l.countP (fun x=> !listed.getD x.i false):=fun l=>
  List.countP_mono_left fun x _ hx=>by
   rw [sO ag] at hx
   by_cases c:x.i=e.i
   · rw [if_pos c] at hx;cases hx
   · rw [if_neg c] at hx;exact hx
 unfold sQ
 rw [List.countP_append,List.countP_append,List.countP_cons,List.countP_cons,sO ag,if_pos rfl,hM]
 exact Nat.add_lt_add_of_le_of_lt (hm A) (Nat.lt_succ_of_le (hm B))
theorem least {p:Nat→Prop}:∀(n:Nat),p n→∃k,p k∧∀j,j<k→¬p j:=by
 intro n
 induction n using Nat.strongRecOn with
 |_ n bm=>
  intro hn
  by_cases h:∃j,j<n∧p j
  · obtain ⟨j,aR,hp⟩:=h;exact bm j aR hp
  · exact ⟨n,hn,fun j aR hp=>h ⟨j,aR,hp⟩⟩
theorem Of (st:Stat ops pm) (ay:listed.size=ops.size) {j:Nat} (aR:j<ops.size) (hM:listed.getD j false=false):Region.ready .any ops listed≠[]:=by
 obtain ⟨k,⟨hk,Og⟩,XN⟩:=least (p:=fun j=>j<ops.size∧listed.getD j false=false) j ⟨aR,hM⟩
 have:k∈Region.ready .any ops listed:=by
  rw [mem_ready]
  refine ⟨?_,ops[k],Array.getElem?_eq_getElem hk,fun e he hb=> ?_⟩
  · simp [Array.getD,ay,hk] at Og ⊢;exact Og
  · have hlt:=st.Xy k _ (Array.getElem?_eq_getElem hk) e he hb
    cases ar:listed.getD e.on false with
    |true=>rfl
    |false=>exact absurd ⟨by omega,ar⟩ (XN e.on hlt)
 intro h;rw [h] at this;cases this
theorem DI0.ready (st:Stat ops pm) (d:DI0 D P ops pm N cD bg E rem listed a ι) {j:Nat} (aR:j∈Region.ready .any ops listed):
  listed.getD j false=false∧∃o,ops[j]? =some o∧(∀e∈o.after,Region.binds .any e=true→listed.getD e.on false=true)∧((∃A e B,E=A++e::B∧e.i=j)∨∃x∈rem,x.1=j):=by
 obtain ⟨h1,o,bd,h2⟩:=mem_ready.1 aR
 have hlt:j<ops.size:=(Array.getElem?_eq_some_iff.1 bd).1
 refine ⟨by simp [Array.getD,d.sN,hlt] at h1 ⊢;exact h1,o,bd,h2, ?_⟩
 have:=st.all j o bd
 rw [←d.split] at this
 simp only [List.map_append,List.mem_append,List.map_reverse,List.mem_reverse,List.map_map,List.mem_map,Function.comp] at this
 rcases this with ⟨e,he,ag⟩|⟨x,hx,ag⟩
 · obtain ⟨A,B,cp⟩:=List.append_of_mem he
   exact .inl ⟨A,e,B,cp,ag⟩
 · exact .inr ⟨x,hx,ag⟩
theorem DI0.str (qq:cD.n=0) (jJ:∀t s,cD.tmp t=some s→∀p,s≠.val p) (r0:mh cD [] bg bg) (d:DI0 D P ops pm N cD bg E rem listed a ι) (nE:∀e∈E,listed.getD e.i false=true):
  hl ι (hK cD E) (ho E) (fC bg E) bg a.tmps:=by
 refine (r0.EO E).str fun t s ht=> ?_
 rcases Jj qq E ht with ⟨hU,bF,aZ,rfl,h1,h2,rfl⟩|⟨h1,h2⟩
 · have hf:=Jk (p:=fun e:b5=>listed.getD e.i false&&decide (e.o.dst=some t)) (A:=hU) (e:=bF) (B:=aZ) (fun x hx=>by simp [h2 x hx]) (by rw [nE bF (by simp)];simpa using h1)
   have aD:=d.EP t bF hf
   refine ⟨by simp;omega, ?_⟩
   rw [N5];exact aD
 · have hn:E.find? (fun e:b5=>listed.getD e.i false&&decide (e.o.dst=some t))=none:=by
    rw [List.find?_eq_none]
    intro x hx;simp [h1 x hx]
   have:=d.ER t hn s h2
   cases s with
   |val p=>exact absurd rfl (jJ t _ h2 p)
   |slot i j=>exact this
   |vu c=>exact this
theorem kB.act (st:Stat ops pm) (hm:vw ops m) (rj:m.length=ops.size) (dQ:ql P call) (dk:lA call) (qq:cD.n=0) (jJ:∀t s,cD.tmp t=some s→∀p,s≠.val p) (r0:mh cD [] bg bg)
  {i:Nat} {q:ea} (d:kB D P ops pm N cD bg gO h0 w0 E ((i,q)::rem) listed a w ι h) {o:Oper} (bd:ops[i]? =some o)
  (hok:oq N o.dst=true∧mN ((hK cD E).only (o.looksAt ops)) N ops o q.o.dq=true∧mM P ((hK cD E).only (o.looksAt ops)) o.op q.o.op=true)
  (Ju:zg (qo m i) q.cn (E.map (fun e=>(e.i,ua e.q.o.op))) 0=true) (Jv:jm gO h0 ax) {l:nu} (ar:q.o.op= .H l) (hg:uc bg E q.o=some true) {os:List ea}
  (he:jX q.o.op q.cn call (ix bg E) (E.map b5.log) (fC bg E) h (ud q.o os call E bg)= .ok x env' ax)
  (hr:∀e∈o.after,Region.binds .any e=true→listed.getD e.on false=true) (hM:listed.getD i false=false) {K:Act→World→Prop}
  (rA:∀e bf w' bc h1,e.key=(i,q)→e.o=o→kB D P ops pm N cD bg gO h0 w0 (e::E) rem (listed.setIfInBounds i true) bf w' bc h1→
    eB os call (ho (e::E)) ((e::E).map b5.log) (fC bg (e::E)) h1= .ok x env' ax→K bf w')
  (nH:∀v,x= .c8 v→∀v' bc bf w',dp gO h0 w0 bc ax w'→bD bc v v'→bf.defers=D→Q (.panic [{v:=v',recovered:=false}]) bf w'):wpOp P ops Q i K a w:=by
 have hA:∀y∈([]:List b5),∀t,y.o.dst=some t→t∈o.looksAt ops→listed.getD y.i false=false:=fun y hy=>by simp at hy
 have bN:∀y∈E,∀t,y.o.dst=some t→t∈o.looksAt ops→listed.getD y.i false=true:=by
  intro y hy t XO zi
  obtain ⟨jZ,lu,cp⟩:=List.append_of_mem hy
  obtain ⟨XP,_⟩:=d.ok jZ y lu cp
  have h1:List.Sublist [b5.key y,(i,q)] pm:=by
   rw [←d.split]
   exact (List.singleton_sublist.2 (by simp;exact ⟨y,hy,rfl⟩)).append (List.Sublist.cons_cons _ (List.nil_sublist _))
  have hp:=List.pairwise_iff_forall_sublist.1 st.Ji h1 (.inr (Jm XP bd XO (.inl zi)))
  have h2:List.Sublist [y.i,i] (pm.map (·.1)):=h1.map (fun x:Nat×ea=>x.1)
  have bG:y.i≠i:=List.pairwise_iff_forall_sublist.1 st.dd h2
  exact ES d.down bd hr hp bG
 have s:hl ι ((hK cD E).only (o.looksAt ops)) (ho E) (fC bg E) bg a.tmps:=((r0.EO E).only _).str (d.toDI0.holds st qq jJ (A:=[]) rfl hA bN)
 have hw:=EV s d.size hok.2.1 hg
 unfold wpOp
 rw [bd]
 simp only [hw]
 refine .inl ?_
 have fR:jm ι h ax:=Jv.right d.lz.ext
 have he:sq q.o.op call (ix bg E) (fC bg E) h (fun v h1=>Bool.rec .bad (ud q.o os call E bg .no v h1) (jW q.cn h1 (E.map b5.log)))= .ok x env' ax:=by rw [ar] at he ⊢;exact he
 refine NV dQ dk d.lz.fJ s hok.2.2 he fR (fun v h1=> ?_) (fun h1 v v' bc w' bl c mI hle aD=> ?_) (fun v v' bc w' ex _ c aD=>nH v ex v' bc a w' (d.lz.trans c ?_) aD d.defers)
 · cases jW q.cn h1 (E.map b5.log) with
   |false=>trivial
   |true=>exact EX dk os _ _ _ _
 · cases eD:jW q.cn h1 (E.map b5.log) with
   |false=>rw [eD] at bl;cases bl
   |true=>
    rw [eD] at bl
    have Jr:=BQ (e:=⟨i,o,q,v, .no⟩) d.ids (fun e he id hid=>(d.qp e he id hid).2) (.inl rfl)
    obtain ⟨cu,cB⟩:=d.toDI0.cons st (e:=⟨i,o,q,v, .no⟩) rfl ⟨bd,hok⟩ Jr
    obtain ⟨gg,mf⟩:=cu.done st (A:=[]) (B:=E) rfl hr cB c.ext.1 aD
    refine rA ⟨i,o,q,v, .no⟩ _ w' bc h1 rfl rfl ⟨gg,fun A e B cp sD=> ?_,fun e o2 id hid=> ?_,d.lz.trans c ?_⟩ bl
    · obtain ⟨bG,fL⟩:=mf _ sD
      rcases BP cp with ⟨rfl,rfl,rfl⟩|⟨hU,rfl,j2⟩
      · exact absurd rfl bG
      · refine (d.vy hU e B j2 fL).gM (fun id hid qs=> ?_) ?_
        · have agH:=d.qp e (by rw [j2];simp) id hid
          cases hx:bc id with
          |none=>rfl
          |some jZ=>have:=c.ext.2.2 id qs (by rw [hx];simp);omega
        · have Oh:=Ju
          rw [j2] at Oh
          rcases Oe hU e B 0 Oh with ay|hb|hu
          · exact .inl ay
          · exfalso
            have ag:i<m.length:=by rw [rj];exact (Array.getElem?_eq_some_iff.1 bd).1
            have:=ES d.down bd hr (hm i e.i ag hb) bG
            rw [fL] at this;cases this
          · have:=Oc eD _ hu
            rw [j2,Nat.zero_add,XL] at this
            exact .inr this
    · have agI:=c.ext.2.1
      rcases List.mem_cons.1 o2 with rfl|o2
      · cases hid
      · have:=d.qp e o2 id hid;omega
    · exact fun b gN du=>Jv b gN (Nat.lt_of_lt_of_le du (Nat.le_trans c.ext.2.1 hle))
 · exact fun b gN du=>Jv b gN (Nat.lt_of_lt_of_le du c.ext.2.1)
end
end
end Go.Eng
namespace Go.Eng
variable {D:List Deferred}
noncomputable section
section
variable {P:Program} {ops:Array Oper} {pm:List (Nat×ea)} {N:Nat} {cD:cv} {bg:Env} {gO:aY} {h0:ae} {w0:World}
 {ax:ae} {Q:Exit→Act→World→Prop} {call:et} {x:X} {env':Env} {m:List Nat} {F':cv}
theorem XQ (st:Stat ops pm) (hm:vw ops m) (rj:m.length=ops.size) (dQ:ql P call) (dk:lA call) (qq:cD.n=0) (jJ:∀t s,cD.tmp t=some s→∀p,s≠.val p) (r0:mh cD [] bg bg) (fR:jm gO h0 ax)
  (eV:x= .e1→∀bc mO bf w',dp gO h0 w0 bc ax w'→hl bc F' mO env' bg bf.tmps→bf.tmps.size=N→bf.defers=D→Q .normal bf w')
  (nH:∀v,x= .c8 v→∀v' bc bf w',dp gO h0 w0 bc ax w'→bD bc v v'→bf.defers=D→Q (.panic [{v:=v',recovered:=false}]) bf w'):
  ∀(rem:List (Nat×ea)) (E:List b5) (h:ae),zh P N ops m rem (E.map (fun e=>(e.i,ua e.q.o.op))) (hK cD E)=some F'→eB (rem.map (·.2)) call (ho E) (E.map b5.log) (fC bg E) h= .ok x env' ax→
   ∀(fuel:Nat) (listed:Array Bool) (a:Act) (w:World) (ι:aY),kB D P ops pm N cD bg gO h0 w0 E rem listed a w ι h→sQ listed E+rem.length≤fuel→wpAny P .any ops Q fuel listed a w:=by
 intro rem
 induction rem with
 |nil=>
  intro E h av he
  have av:some (hK cD E)=some F':=av
  cases av
  have he:bj.ok .e1 (fC bg E) h= .ok x env' ax:=he
  cases he
  have fin:∀(listed:Array Bool) (a:Act) (w:World) (ι:aY),kB D P ops pm N cD bg gO h0 w0 E [] listed a w ι ax→(∀e∈E,listed.getD e.i false=true)→Q .normal a w:=fun listed a w ι d nE=>
   eV rfl ι (ho E) a w d.lz (d.toDI0.str qq jJ r0 nE) d.size d.defers
  have XR:∀(listed:Array Bool) (a:Act) (w:World) (ι:aY),kB D P ops pm N cD bg gO h0 w0 E [] listed a w ι ax→Region.ready .any ops listed=[]→∀e∈E,listed.getD e.i false=true:=by
   intro listed a w ι d hr e he
   cases ar:listed.getD e.i false with
   |true=>rfl
   |false=>
    obtain ⟨A,B,cp⟩:=List.append_of_mem he
    have bd:=(d.ok A e B cp).1
    exact absurd hr (Of st d.sN (Array.getElem?_eq_some_iff.1 bd).1 ar)
  intro fuel
  induction fuel with
  |zero=>
   intro listed a w ι d hle
   have nE:∀e∈E,listed.getD e.i false=true:=by
    intro e he
    cases ar:listed.getD e.i false with
    |true=>rfl
    |false=>
     obtain ⟨A,B,rfl⟩:=List.append_of_mem he
     have bd:=(d.ok A e B rfl).1
     have:=Jt (A:=A) (B:=B) (e:=e) (listed:=listed) (by rw [d.sN];exact (Array.getElem?_eq_some_iff.1 bd).1) ar
     simp at hle;omega
   refine ⟨?_,fin listed a w ι d nE⟩
   cases hr:Region.ready .any ops listed with
   |nil=>rfl
   |cons j lB=>
    exfalso
    obtain ⟨cu,o,bd,cB,gg⟩:=d.toDI0.ready st (j:=j) (by rw [hr];simp)
    rcases gg with ⟨A,e,B,cp,rfl⟩|⟨y,hy,_⟩
    · rw [nE e (by rw [cp];simp)] at cu;cases cu
    · simp at hy
  |succ fuel bm=>
   intro listed a w ι d hle
   refine ⟨fun hr=>fin listed a w ι d (XR listed a w ι d hr),fun j aR=> ?_⟩
   obtain ⟨cu,o,bd,cB,gg⟩:=d.toDI0.ready st aR
   rcases gg with ⟨A,e,B,cp,rfl⟩|⟨y,hy,_⟩
   · have BT:=(d.ok A e B cp).1
     have:o=e.o:=by rw [bd] at BT;exact Option.some.inj BT
     subst this
     refine d.exec st qq jJ r0 cp cB cu (fun bf w' bc d'=>bm _ bf w' bc d' ?_)
     have:=Jt (A:=A) (B:=B) (e:=e) (listed:=listed) (by rw [d.sN];exact (Array.getElem?_eq_some_iff.1 bd).1) cu
     rw [←cp] at this
     omega
   · simp at hy
 |cons mj rem Jw=>
  intro E h av he
  obtain ⟨i,q⟩:=mj
  unfold zh at av
  cases bd:ops[i]? with
  |none=>rw [bd] at av;cases av
  |some o=>
   rw [bd] at av
   simp only at av
   by_cases pe:(oq N o.dst&&(mN ((hK cD E).only (o.looksAt ops)) N ops o q.o.dq&&(mM P ((hK cD E).only (o.looksAt ops)) o.op q.o.op&&(!tZ q.o.op||zg (qo m i) q.cn (E.map (fun e=>(e.i,ua e.q.o.op))) 0))))=true
   · rw [if_pos pe] at av
     have ff:=Bool.dF pe;have eQ:=Bool.dF ff.2;have tO:=Bool.dF eQ.2
     have hok:oq N o.dst=true∧mN ((hK cD E).only (o.looksAt ops)) N ops o q.o.dq=true∧mM P ((hK cD E).only (o.looksAt ops)) o.op q.o.op=true:=⟨ff.1,eQ.1,tO.1⟩
     have wait:∀(e:b5) (h1:ae) (listed:Array Bool),e.key=(i,q)→e.o=o→listed.getD i false=false→sQ listed (e::E)=sQ listed E+1:=by
      intro e h1 listed hk _ ar
      have:e.i=i:=congrArg (·.1) hk
      unfold sQ
      rw [List.countP_cons,this,ar];rfl
     have Jx:∀(listed:Array Bool) (a:Act) (w:World) (ι:aY),kB D P ops pm N cD bg gO h0 w0 E ((i,q)::rem) listed a w ι h→listed.getD i false=false:=by
      intro listed a w ι d
      exact (d.toDI0.cons st (e:=⟨i,o,q,un, .no⟩) rfl ⟨bd,hok⟩ (BQ d.ids (fun e he id hid=>(d.qp e he id hid).2) (.inl rfl))).2
     rcases XI he with ⟨hg,bl⟩|⟨hg,bl⟩
     · intro fuel listed a w ι d hle
       have d2:=d.XK st bd hok hg
       refine Jw (⟨i,o,q,un, .no⟩::E) h av bl fuel listed a w ι d2 ?_
       rw [wait ⟨i,o,q,un, .no⟩ h listed rfl rfl (Jx listed a w ι d)]
       simp at hle;omega
     · cases bq:q.o.op with
       |L l=>
        intro fuel listed a w ι d hle
        obtain ⟨e,h1,hk,EY,d2,df⟩:=d.XJ st bd hok (fR.right d.lz.ext) bq hg bl dk
        have BU:e.q=q:=congrArg (·.2) hk
        have zj:e.i=i:=congrArg (·.1) hk
        refine Jw (e::E) h1 ?_ df fuel listed a w ι d2 ?_
        · rw [List.map_cons,zj,BU];unfold hK;rw [EY,BU];exact av
        · rw [wait e h1 listed hk EY (Jx listed a w ι d)]
          simp at hle;omega
       |H l=>
        have Ju:zg (qo m i) q.cn (E.map (fun e=>(e.i,ua e.q.o.op))) 0=true:=by
         have:=tO.2
         rw [bq] at this
         simpa [tZ] using this
        intro fuel
        induction fuel with
        |zero=>intro listed a w ι d hle;simp at hle
        |succ fuel bm=>
         intro listed a w ι d hle
         have hM:=Jx listed a w ι d
         have ag:i<ops.size:=(Array.getElem?_eq_some_iff.1 bd).1
         refine ⟨fun hr=>absurd hr (Of st d.sN ag hM),fun j aR=> ?_⟩
         obtain ⟨cu,ET,xi,cB,gg⟩:=d.toDI0.ready st aR
         rcases gg with ⟨A,e,B,cp,rfl⟩|⟨y,hy,Oi⟩
         · have BT:=(d.ok A e B cp).1
           have:ET=e.o:=by rw [xi] at BT;exact Option.some.inj BT
           subst this
           refine d.exec st qq jJ r0 cp cB cu (fun bf w' bc d'=>bm _ bf w' bc d' ?_)
           have:=Jt (A:=A) (B:=B) (e:=e) (listed:=listed) (by rw [d.sN];exact (Array.getElem?_eq_some_iff.1 xi).1) cu
           rw [←cp] at this
           omega
         · by_cases Bs:j=i
           · subst Bs
             rw [bd] at xi;cases xi
             refine d.act st hm rj dQ dk qq jJ r0 bd hok Ju fR bq hg bl cB hM (fun e bf w' bc h1 hk EY d2 df=> ?_) nH
             have BU:e.q=q:=congrArg (·.2) hk
             have zj:e.i=j:=congrArg (·.1) hk
             refine Jw (e::E) h1 ?_ df fuel _ bf w' bc d2 ?_
             · rw [List.map_cons,zj,BU];unfold hK;rw [EY,BU];exact av
             · have Oj:j<listed.size:=by rw [d.sN];exact ag
               have h1:sQ (listed.setIfInBounds j true) (e::E)≤sQ listed E:=by
                unfold sQ
                rw [List.countP_cons,zj,sO Oj,if_pos rfl]
                refine List.countP_mono_left fun x _ hx=> ?_
                rw [sO Oj] at hx
                by_cases c:x.i=j
                · rw [if_pos c] at hx;cases hx
                · rw [if_neg c] at hx;exact hx
               simp at hle;omega
           · exfalso
             rcases List.mem_cons.1 hy with rfl|hy
             · exact Bs Oi.symm
             · have hb:=d.toDI0.XB st hy (by rw [bq];rfl)
               rw [Oi] at hb
               have:=ES d.down xi cB hb (Ne.symm Bs)
               rw [hM] at this;cases this
   · rw [if_neg pe] at av;cases av
end
end
end Go.Eng
namespace Go.Eng
variable {D:List Deferred}
noncomputable section
def EZ (cL:List Nat):Option cv→Bool
 |some F=>xe F cL 0
 |none=>false
def rB (P:Program) (cL:List Nat) (N:Nat):Code→C→Bool
 | .scope c,e=>rB P cL N c e
 |_, .stuck=>true
 | .skip, .skip=>true
 | .label _, .skip=>true
 | .ret, .ret=>true
 | .exit i, .exit j=>i==j
 | .seq a b, .seq bf bL=>rB P cL N a bf&&rB P cL N b bL
 | .cond x a b, .cond fe bf bL=>oj (cv.start cL) x fe&&(rB P cL N a bf&&rB P cL N b bL)
 | .block i c, .block j dw=>i==j&&rB P cL N c dw
 | .loop c, .loop dw=>rB P cL N c dw
 | .region _ ops false, .ad h3 l=>EZ cL (pj P N h3 ops ops.toList 0 l (cv.start cL))
 | .region _ ops true, .draw pm l=>(pm.length==l.length&&decide (pm.length≤ops.size))&&(Jh ops (nI ops.toList []) (pm.zip l)&&EZ cL (zh P N ops (nI ops.toList []) (pm.zip l) [] (cv.start cL)))
 |_,_=>false
def zk (D:List Deferred) (ι:aY) (h:ae) (w:World) (cL:List Nat) (N:Nat) (x:X) (env':Env) (ax:ae) (Q:Exit→Act→World→Prop):Prop:=
 ∀bc bf w',dp ι h w bc ax w'→match x with
  | .e1=>mP D bc cL N env' bf→Q .normal bf w'
  | .ret=>mP D bc cL N env' bf→Q .ret bf w'
  | .exit i=>mP D bc cL N env' bf→Q (.exit i) bf w'
  | .c8 v=>∀v',bD bc v v'→bf.defers=D→Q (.panic [{v:=v',recovered:=false}]) bf w'
section
variable {P:Program} {call:et} {cL:List Nat} {N:Nat}
theorem sR (dk:lA call):∀(e:C) (n:Nat) (env:Env) (h:ae),bj.next h (code e call n env h)
 | .skip,_,_,h=>Nat.le_refl _
 | .ret,_,_,h=>Nat.le_refl _
 | .exit _,_,_,h=>Nat.le_refl _
 | .seq a b,n,env,h=>by
   show bj.next h (bj.rec (fun x env h=>X.rec (code b call n env h) (.ok .ret env h) (fun i=> .ok (.exit i) env h) (fun v=> .ok (.c8 v) env h) x) .bad (code a call n env h):bj)
   have h1:=sR dk a n env h
   cases hr:code a call n env h with
   |bad=>trivial
   |ok x j3 ji=>
    rw [hr] at h1
    cases x with
    |e1=>exact bj.xb h1 (sR dk b n j3 ji)
    |ret=>exact h1
    |exit i=>exact h1
    |c8 v=>exact h1
 | .cond x a b,n,env,h=>by
   show bj.next h (Option.rec .bad (fun t=>Bool.rec (code b call n env h) (code a call n env h) t) (x.ev [] env).asBool:bj)
   cases (x.ev [] env).asBool with
   |none=>trivial
   |some t=>cases t with
    |false=>exact sR dk b n env h
    |true=>exact sR dk a n env h
 | .block id a,n,env,h=>by
   show bj.next h (bj.rec (fun x env h=>X.rec (.ok .e1 env h) (.ok .ret env h) (fun i=> .ok (Bool.rec (.exit i) .e1 (i.beq id)) env h) (fun v=> .ok (.c8 v) env h) x) .bad (code a call n env h):bj)
   have h1:=sR dk a n env h
   cases hr:code a call n env h with
   |bad=>trivial
   |ok x j3 ji=>rw [hr] at h1;cases x<;>exact h1
 | .loop a,n,env,h=>by
   show bj.next h (rounds (fun env h=>code a call n env h) n env h)
   have key:∀k env h,bj.next h (rounds (fun env h=>code a call n env h) k env h):=by
    intro k
    induction k with
    |zero=>intro env h;trivial
    |succ k bm=>
     intro env h
     show bj.next h (bj.rec (fun x env h=>X.rec (rounds (fun env h=>code a call n env h) k env h) (.ok .ret env h) (fun i=> .ok (.exit i) env h) (fun v=> .ok (.c8 v) env h) x) .bad (code a call n env h):bj)
     have h1:=sR dk a n env h
     cases hr:code a call n env h with
     |bad=>trivial
     |ok x j3 ji=>
      rw [hr] at h1
      cases x with
      |e1=>exact bj.xb h1 (bm j3 ji)
      |ret=>exact h1
      |exit i=>exact h1
      |c8 v=>exact h1
   exact key n env h
 | .ad _ l,_,env,h=>I2 dk l [] env h
 | .draw _ l,_,env,h=>EX dk l [] [] env h
 | .stuck,_,_,_=>trivial
theorem zk.from_ {ι l5:aY} {h h1 ax:ae} {w w1:World} {x:X} {env':Env} {Q:Exit→Act→World→Prop} (p:zk D ι h w cL N x env' ax Q) (c:dp ι h w l5 h1 w1) (hf:jm ι h h1):zk D l5 h1 w1 cL N x env' ax Q:=
 fun bc bf w' dw=>p bc bf w' (c.trans dw hf)
theorem XS {cL:List Nat}:∀t s,(cv.start cL).tmp t=some s→∀p,s≠.val p:=by
 intro t s ht p e
 subst e
 have ht:(match look t (jn cL 0) with|some s=>s|none=>none)=some (.val p):=ht
 cases ar:look t (jn cL 0) with
 |none=>rw [ar] at ht;cases ht
 |some dE=>
  rw [ar] at ht
  obtain ⟨j,h1,h2⟩:=Ja cL 0 ar
  subst h2;cases ht
theorem XT (ga:P.follows .mixedOrders=true) (dQ:ql P call) (dk:lA call) {id:Nat} {ops:Array Oper} {pm:List Nat} {l:List ea} (hlen:pm.length=l.length) (hle:pm.length≤ops.size)
  (hp:Jh ops (nI ops.toList []) (pm.zip l)=true) (av:EZ cL (zh P N ops (nI ops.toList []) (pm.zip l) [] (cv.start cL))=true)
  {ι:aY} {h ax:ae} {w:World} {env env':Env} {a:Act} {x:X} {Q:Exit→Act→World→Prop} (he:eB l call [] [] env h= .ok x env' ax) (r:mP D ι cL N env a) (g:Good ι h w) (hf:jm ι h ax)
  (p:zk D ι h w cL N x env' ax Q):(Code.region id ops true).wp P Q a w:=by
 obtain ⟨st,hb,hlt⟩:=Xz hp
 refine wp_region_any ga ?_
 cases b1:zh P N ops (nI ops.toList []) (pm.zip l) [] (cv.start cL) with
 |none=>rw [b1] at av;cases av
 |some F'=>
  rw [b1] at av
  have av:xe F' cL 0=true:=av
  have g1:Good ι h {w with drawn:=w.drawn+1}:=g.world (fun _ _=>rfl) (Nat.le_refl _)
  have c1:dp ι h w ι h {w with drawn:=w.drawn+1}:=⟨g1,⟨fun _ _ _=>rfl,Nat.le_refl _,rfl,rfl,rfl⟩,Ext.refl _ _,Sep.refl _ _ _⟩
  have jR:=r.start
  have XU:(nI ops.toList []).length=ops.size:=by rw [Jd];simp
  have d:kB D P ops (pm.zip l) N (cv.start cL) env ι h w [] (pm.zip l) (Array.replicate ops.size false) a {w with drawn:=w.drawn+1} ι h:=by
   have e2:∀i,(Array.replicate ops.size false).getD i false=false:=fun i=>by
    simp only [Array.getD_eq_getD_getElem?,Array.getElem?_replicate]
    split<;>rfl
   refine ⟨⟨by simp,r.size,r.defers,by simp,fun k o hk=> ?_,fun i ag=> ?_,fun A e B cp=>by simp at cp,List.nodup_nil,fun t e he=>by simp at he,fun t _ s ay=> ?_⟩,fun A e B cp=>by simp at cp,fun e he=>by simp at he,c1⟩
   · have hk:(Array.replicate ops.size false).getD k false=true:=hk
     rw [e2] at hk;cases hk
   · rw [e2] at ag;cases ag
   · exact jR.tmps t s ay
  refine XQ st hb XU dQ dk rfl XS ⟨rfl,jR.jn,jR.lt⟩ hf (F':=F') (x:=x) (env':=env') (fun hx bc mO bf w' c s ay aQ=> ?_) (fun v hx v' bc bf w' c aD aQ=> ?_) (pm.zip l) [] h b1 ?_ _ _ a _ ι d ?_
  · subst hx;exact p bc bf w' c (s.end av ay aQ)
  · subst hx;exact p bc bf w' c v' aD aQ
  · rw [show (pm.zip l).map (·.2)=l from List.map_snd_zip (by omega)];exact he
  · have:(pm.zip l).length≤ops.size:=by rw [List.length_zip];omega
    show 0+_≤_
    omega
end
end
end Go.Eng
namespace Go.Eng
variable {D:List Deferred}
noncomputable section
section
variable {P:Program} {call:et} {cL:List Nat} {N:Nat}
theorem kC (ga:P.follows .mixedOrders=true) (dQ:ql P call) (dk:lA call):∀(c:Code) (e:C),rB P cL N c e=true→
  ∀(n:Nat) {ι:aY} {h ax:ae} {w:World} {env env':Env} {a:Act} {x:X} {Q:Exit→Act→World→Prop},code e call n env h= .ok x env' ax→mP D ι cL N env a→Good ι h w→jm ι h ax→
   zk D ι h w cL N x env' ax Q→c.wp P Q a w
 | .scope c,e,av=>fun n ι h ax w env env' a x Q he r g hf p=>by
   refine wp_scope_straight (kC ga dQ dk c e (by cases e<;>exact av) n he r g hf fun bc bf w' c=> ?_)
   have:=p bc bf w' c
   cases x<;>exact this
 |c, .stuck,_=>fun n ι h ax w env env' a x Q he r g hf p=>by cases he
 | .skip, .skip,_=>fun n ι h ax w env env' a x Q he r g hf p=>by cases he;exact wp_skip (p ι a w (dp.refl g) r)
 | .label _, .skip,_=>fun n ι h ax w env env' a x Q he r g hf p=>by cases he;exact wp_label (p ι a w (dp.refl g) r)
 | .ret, .ret,_=>fun n ι h ax w env env' a x Q he r g hf p=>by cases he;exact wp_ret (p ι a w (dp.refl g) r)
 | .exit i, .exit j,av=>fun n ι h ax w env env' a x Q he r g hf p=>by
   have:i=j:=by simpa [rB] using av
   subst this;cases he;exact wp_exit (p ι a w (dp.refl g) r)
 | .seq a1 ff, .seq a2 eQ,av=>fun n ι h ax w env env' a x Q he r g hf p=>by
   have av:=Bool.dF av
   have he:(bj.rec (fun x env h=>X.rec (code eQ call n env h) (.ok .ret env h) (fun i=> .ok (.exit i) env h) (fun v=> .ok (.c8 v) env h) x) .bad (code a2 call n env h):bj)= .ok x env' ax:=he
   cases hr:code a2 call n env h with
   |bad=>rw [hr] at he;cases he
   |ok x1 j3 h1=>
    rw [hr] at he
    have mL:=sR dk a2 n env h
    rw [hr] at mL
    have mL:h.next≤h1.next:=mL
    refine wp_seq ?_
    cases x1 with
    |e1=>
     have he:code eQ call n j3 h1= .ok x env' ax:=he
     have uf:=sR dk eQ n j3 h1
     rw [he] at uf
     have BV:=hf.left (h1:=h1) uf
     refine kC ga dQ dk a1 a2 av.1 n hr r g BV fun bc bf w' dw dt=> ?_
     exact kC ga dQ dk ff eQ av.2 n he dt dw.fJ (hf.right dw.ext) (p.from_ dw BV)
    |ret=>cases he;exact kC ga dQ dk a1 a2 av.1 n hr r g hf fun bc bf w' dw=>p bc bf w' dw
    |exit i=>cases he;exact kC ga dQ dk a1 a2 av.1 n hr r g hf fun bc bf w' dw=>p bc bf w' dw
    |c8 v=>cases he;exact kC ga dQ dk a1 a2 av.1 n hr r g hf fun bc bf w' dw=>p bc bf w' dw
 | .cond y a1 ff, .cond pb a2 eQ,av=>fun n ι h ax w env env' a x Q he r g hf p=>by
   have av:=Bool.dF av
   have k1:=Bool.dF av.2
   have he:(Option.rec .bad (fun t=>Bool.rec (code eQ call n env h) (code a2 call n env h) t) (pb.ev [] env).asBool:bj)= .ok x env' ax:=he
   have aD:=tX r.start _ _ av.1
   cases hb:(A.ev pb [] env).asBool with
   |none=>rw [hb] at he;cases he
   |some t=>
    rw [hb] at he
    have heq:a.eval y= .bool t:=by
     generalize A.ev pb [] env=u at hb aD
     cases u<;>first|(cases hb;done)|skip
     cases hb;exact aD
    refine wp_cond heq ?_
    cases t with
    |false=>exact kC ga dQ dk ff eQ k1.2 n he r g hf p
    |true=>exact kC ga dQ dk a1 a2 k1.1 n he r g hf p
 | .block i c, .block j e,av=>fun n ι h ax w env env' a x Q he r g hf p=>by
   have av:=Bool.dF av
   have:i=j:=by simpa using av.1
   subst this
   have he:(bj.rec (fun x env h=>X.rec (.ok .e1 env h) (.ok .ret env h) (fun k=> .ok (Bool.rec (.exit k) .e1 (k.beq i)) env h) (fun v=> .ok (.c8 v) env h) x) .bad (code e call n env h):bj)= .ok x env' ax:=he
   cases hr:code e call n env h with
   |bad=>rw [hr] at he;cases he
   |ok x1 j3 h1=>
    rw [hr] at he
    refine wp_block ?_
    cases x1 with
    |e1=>cases he;exact kC ga dQ dk c e av.2 n hr r g hf fun bc bf w' dw=>p bc bf w' dw
    |ret=>cases he;exact kC ga dQ dk c e av.2 n hr r g hf fun bc bf w' dw=>p bc bf w' dw
    |c8 v=>cases he;exact kC ga dQ dk c e av.2 n hr r g hf fun bc bf w' dw=>p bc bf w' dw
    |exit k=>
     have he:bj.ok (Bool.rec (.exit k) .e1 (k.beq i)) j3 h1= .ok x env' ax:=he
     cases hk:k.beq i with
     |true=>
      rw [hk] at he;cases he
      have:k=i:=Nat.eq_of_beq_eq_true hk
      subst this
      refine kC ga dQ dk c e av.2 n hr r g hf fun bc bf w' dw dt=> ?_
      show if k=k then Q .normal bf w' else Q (.exit k) bf w'
      rw [if_pos rfl];exact p bc bf w' dw dt
     |false=>
      rw [hk] at he;cases he
      have:k≠i:=fun h=>by subst h;simp [h5] at hk
      refine kC ga dQ dk c e av.2 n hr r g hf fun bc bf w' dw dt=> ?_
      show if k=i then Q .normal bf w' else Q (.exit k) bf w'
      rw [if_neg this];exact p bc bf w' dw dt
 | .loop c, .loop e,av=>fun n ι h ax w env env' a x Q he r g hf p=>by
   have av:rB P cL N c e=true:=av
   have he:rounds (fun env h=>code e call n env h) n env h= .ok x env' ax:=he
   have o5:∀k env h,bj.next h (rounds (fun env h=>code e call n env h) k env h):=fun k env h=>by
    have key:∀k env h,bj.next h (rounds (fun env h=>code e call n env h) k env h):=by
     intro k
     induction k with
     |zero=>intro env h;trivial
     |succ k bm=>
      intro env h
      show bj.next h (bj.rec (fun x env h=>X.rec (rounds (fun env h=>code e call n env h) k env h) (.ok .ret env h) (fun i=> .ok (.exit i) env h) (fun v=> .ok (.c8 v) env h) x) .bad (code e call n env h):bj)
      have h1:=sR dk e n env h
      cases hr:code e call n env h with
      |bad=>trivial
      |ok x j3 ji=>
       rw [hr] at h1
       cases x with
       |e1=>exact bj.xb h1 (bm j3 ji)
       |ret=>exact h1
       |exit i=>exact h1
       |c8 v=>exact h1
    exact key k env h
   refine wp_loop_rounds n ?_
   have key:∀k {ι:aY} {h:ae} {w:World} {env:Env} {a:Act},rounds (fun env h=>code e call n env h) k env h= .ok x env' ax→mP D ι cL N env a→Good ι h w→jm ι h ax→zk D ι h w cL N x env' ax Q→Code.rounds P c Q k a w:=by
    intro k
    induction k with
    |zero=>intro ι h w env a he;cases he
    |succ k bm=>
     intro ι h w env a he r g hf p
     have he:(bj.rec (fun x env h=>X.rec (rounds (fun env h=>code e call n env h) k env h) (.ok .ret env h) (fun i=> .ok (.exit i) env h) (fun v=> .ok (.c8 v) env h) x) .bad (code e call n env h):bj)= .ok x env' ax:=he
     rw [rounds_succ]
     cases hr:code e call n env h with
     |bad=>rw [hr] at he;cases he
     |ok x1 j3 h1=>
      rw [hr] at he
      cases x1 with
      |e1=>
       have he:rounds (fun env h=>code e call n env h) k j3 h1= .ok x env' ax:=he
       have uf:=o5 k j3 h1
       rw [he] at uf
       have BV:=hf.left (h1:=h1) uf
       exact kC ga dQ dk c e av n hr r g BV fun bc bf w' dw dt=>bm he dt dw.fJ (hf.right dw.ext) (p.from_ dw BV)
      |ret=>cases he;exact kC ga dQ dk c e av n hr r g hf fun bc bf w' dw=>p bc bf w' dw
      |exit i=>cases he;exact kC ga dQ dk c e av n hr r g hf fun bc bf w' dw=>p bc bf w' dw
      |c8 v=>cases he;exact kC ga dQ dk c e av n hr r g hf fun bc bf w' dw=>p bc bf w' dw
   exact key n he r g hf p
 | .region id ops false, .ad h3 l,av=>fun n ι h ax w env env' a x Q he r g hf p=>by
   have av:EZ cL (pj P N h3 ops ops.toList 0 l (cv.start cL))=true:=av
   have he:eH l call [] env h= .ok x env' ax:=he
   refine wp_region ?_
   cases b1:pj P N h3 ops ops.toList 0 l (cv.start cL) with
   |none=>rw [b1] at av;cases av
   |some F'=>
    rw [b1] at av
    have av:xe F' cL 0=true:=av
    have hw:wpList P ops Q ops.toList a w:=by
     refine NX dQ dk ops.toList 0 l (cv.start cL) [] env a w ι h b1 he r.start r.size r.defers g hf (fun hx bc mO bf w' c s ay aQ=> ?_) (fun v hx v' bc bf w' c aD aQ _ _=> ?_)
     · subst hx;exact p bc bf w' c (s.end av ay aQ)
     · subst hx;exact p bc bf w' c v' aD aQ
    have ar:=wpOps_eq_wpList (P:=P) (ops:=ops) (Q:=Q) ops.toList 0 (fun j=>by simp)
    rw [List.range_eq_range',show ops.size=ops.toList.length by simp,ar];exact hw
 | .region id ops true, .draw pm l,av=>fun n ι h ax w env env' a x Q he r g hf p=>by
   have av:=Bool.dF av
   have pd:=Bool.dF av.1
   have k1:=Bool.dF av.2
   exact XT ga dQ dk (by simpa using pd.1) (by simpa using pd.2) k1.1 k1.2 he r g hf p
end
end
end Go.Eng
namespace Go.Eng
noncomputable section
def Jy:List Nat→Nat→Nat→Bool
 |_,_,0=>true
 |t::l,k,n+1=>t==k&&Jy l (k+1) n
 |[],_,_+1=>false
def Ol (P:Program) (cL:List Nat):ResultVar→aB→Bool
 | .tmp t, .tmp i j=>oj (cv.start cL) (.tmp t) (.t i j)
 | .cell a t, .cell i j none=>oe P t false&&oj (cv.start cL) (.tmp a) (.t i j)
 | .cell a t, .cell i j (some n)=>oe P t true&&(l9 P t n&&oj (cv.start cL) (.tmp a) (.t i j))
 |_,_=>false
def Jz (P:Program) (cL:List Nat):List ResultVar→List aB→Bool
 |[],[]=>true
 |a::l,b::m=>Ol P cL a b&&Jz P cL l m
 |_,_=>false
def ug (P:Program) (f:Nat) (F:cd):Bool:=match P.funcs[f]? with
 |some fn=>fn.name != "runtime.NumGoroutine" &&(match fn.body with
  |some c=>(decide (F.cL.length≤64)&&(decide (F.jh≤F.cL.length)&&Jy F.cL 0 F.jh))&&(decide (F.jh≤fn.ntmps)&&(rB P F.cL fn.ntmps c F.body&&Jz P F.cL fn.results.toList F.results))
  |none=>false)
 |none=>false
def c6:List V→Nat→Env→Env
 |[],_,env=>env
 |v::l,i,env=>c6 l (i+1) (Env.set (fz i).1 (fz i).2 v env)
theorem E0:∀(l:List V) (i:Nat) (env:Env) (k:Env→bj),args l i env k=k (c6 l i env)
 |[],_,_,_=>rfl
 |v::l,i,env,k=>by
  show v.force (fun v=>Env.dg (fz i).1 (fz i).2 v (fun env=>args l (i+1) env k) env)=_
  rw [V.force_eq,Env.h4,E0 l];rfl
theorem XV {j k:Nat} (aR:j<64) (hk:k<64) (h:fz j=fz k):j=k:=by
 have h1:bp.of (j / 8)=bp.of (k / 8):=congrArg (·.1) h
 have h2:bp.of (j % 8)=bp.of (k % 8):=congrArg (·.2) h
 have aS:=bp.D3 (by omega) (by omega) h1
 have bl:=bp.D3 (Nat.mod_lt _ (by decide)) (Nat.mod_lt _ (by decide)) h2
 omega
theorem Om:∀(l:List V) (i:Nat) (env:Env) (k:Nat),k<64→i+l.length≤64→
  Env.get (fz k).1 (fz k).2 (c6 l i env)=if i≤k∧k<i+l.length then (l[k - i]?).getD .bot else Env.get (fz k).1 (fz k).2 env
 |[],i,env,k,hk,ar=>by rw [if_neg (by simp)];rfl
 |v::l,i,env,k,hk,ar=>by
  have ar:i+(l.length+1)≤64:=ar
  show Env.get (fz k).1 (fz k).2 (c6 l (i+1) (Env.set (fz i).1 (fz i).2 v env))=_
  rw [Om l (i+1) _ k hk (by omega),Env.eU]
  by_cases h:i=k
  · subst h
    rw [if_neg (by omega),if_pos ⟨rfl,rfl⟩,if_pos ⟨Nat.le_refl _,by simp⟩];simp
  · have bG:¬((fz k).1=(fz i).1∧(fz k).2=(fz i).2):=fun e=>h (XV (by omega) hk (Prod.ext e.1.symm e.2.symm))
    rw [if_neg bG]
    by_cases h1:i+1≤k∧k<i+1+l.length
    · rw [if_pos h1,if_pos ⟨by omega,by simp;omega⟩,show k - i=(k - (i+1))+1 by omega];rfl
    · rw [if_neg h1,if_neg (by simp;omega)]
theorem On:∀(l:List Nat) (k n:Nat),Jy l k n=true→∀j,j<n→l[j]? =some (k+j)
 |_,_,0,_,j,aR=>by omega
 |[],_,_+1,h,_,_=>by cases h
 |t::l,k,n+1,h,j,aR=>by
  have h:=Bool.dF h
  have ht:t=k:=by simpa using h.1
  subst ht
  cases j with
  |zero=>rfl
  |succ j=>
   have:=On l (t+1) n h.2 j (by omega)
   rw [List.getElem?_cons_succ,this];congr 1;omega
section
variable {P:Program} {call:et} {cL:List Nat} {N:Nat}
theorem XW {ι:aY} {h:ae} {w:World} {env:Env} {a:Act} (g:Good ι h w) (r:mP [] ι cL N env a) {x:ResultVar} {y:aB} (av:Ol P cL x y=true) {v:V} (aD:sr h env y=some v):
  ∃v',((match x with| .tmp t=>pure (a.tmps.getD t undef)| .cell c t=>do loadVar t (←asAddr (a.tmps.getD c undef)):Sem Value)).run P w= .ok v' w∧bD ι v v':=by
 have cell:∀{c:Nat} {t:TypeId} {i j:bp} {b o:Nat},oj (cv.start cL) (.tmp c) (.t i j)=true→(Env.get i j env).lo=some (b,o)→∃B,ι b=some B∧a.tmps.getD c undef= .pointer (some ⟨B.c,B.off+o,none⟩):=by
  intro c t i j b o av hp
  have h1:bD ι (Env.get i j env) (a.tmps.getD c undef):=tX r.start _ _ av
  generalize Env.get i j env=u at hp h1
  cases u<;>first|(cases hp;done)|skip
  cases hp
  obtain ⟨B,bN,h1⟩:=h1
  exact ⟨B,bN,h1⟩
 cases x with
 |tmp t=>
  cases y with
  |tmp i j=>
   have aD:some (Env.get i j env)=some v:=aD
   cases aD
   exact ⟨_,rfl,tX r.start (.tmp t) (.t i j) av⟩
  |cell i j n=>cases av
 |cell c t=>
  cases y with
  |tmp i j=>cases av
  |cell i j n=>
   cases n with
   |none=>
    have av:=Bool.dF av
    simp only [sr] at aD
    cases hp:(Env.get i j env).lo with
    |none=>rw [hp] at aD;cases aD
    |some JA=>
     obtain ⟨b,o⟩:=JA
     rw [hp] at aD
     have aD:h.eb b o=some v:=aD
     obtain ⟨B,bN,hx⟩:=cell (t:=t) av.2 hp
     obtain ⟨y,hy,_,hcell⟩:=MC g bN aD
     exact ⟨y,by simp [hx,asAddr,Result.andThen,Sem.run_bind,MU w av.1 hcell],hy⟩
   |some n=>
    have av:=Bool.dF av
    have k1:=Bool.dF av.2
    simp only [sr] at aD
    cases hp:(Env.get i j env).lo with
    |none=>rw [hp] at aD;cases aD
    |some JA=>
     obtain ⟨b,o⟩:=JA
     rw [hp] at aD
     simp only at aD
     cases ar:h.load b o n with
     |none=>rw [ar] at aD;cases aD
     |some l=>
      rw [ar] at aD;cases aD
      obtain ⟨B,bN,hx⟩:=cell (t:=t) k1.2 hp
      obtain ⟨xs,hlen,Bv,vk,hcell⟩:=yZ g bN ar
      refine ⟨.agg xs.toArray,by simp [hx,asAddr,Result.andThen,Sem.run_bind,MV w av.1 k1.1 hlen hcell], ?_⟩
      exact ⟨xs.toArray,rfl,by simpa using Bv,by simpa using vk⟩
theorem Oo {ι:aY} {h:ae} {w:World} {env:Env} {a:Act} (g:Good ι h w) (r:mP [] ι cL N env a):∀(l:List ResultVar) (rs:List aB),Jz P cL l rs=true→∀vs,results env h rs=some vs→
  ∃mO,(l.mapM fun x=>(match x with| .tmp t=>pure (a.tmps.getD t undef)| .cell c t=>do loadVar t (←asAddr (a.tmps.getD c undef)):Sem Value)).run P w= .ok mO w∧ch ι vs mO
 |[],[],_,vs,aD=>by
  have aD:some []=some vs:=aD
  cases aD;exact ⟨[],rfl,rfl⟩
 |x::l,y::rs,av,vs,aD=>by
  have av:=Bool.dF av
  have aD:(Option.rec none (fun v=>Option.rec none (fun vs=>some (v::vs)) (results env h rs)) (sr h env y):Option (List V))=some vs:=aD
  cases h1:sr h env y with
  |none=>rw [h1] at aD;cases aD
  |some v=>
   rw [h1] at aD
   have aD:(Option.rec none (fun vs=>some (v::vs)) (results env h rs):Option (List V))=some vs:=aD
   cases h2:results env h rs with
   |none=>rw [h2] at aD;cases aD
   |some vs1=>
    rw [h2] at aD
    cases aD
    obtain ⟨v',aS,r1⟩:=XW g r av.1 h1
    obtain ⟨mO,bl,fI⟩:=Oo g r l rs av.2 vs1 h2
    refine ⟨v'::mO, ?_,⟨v',mO,rfl,r1,fI⟩⟩
    rw [List.mapM_cons,Sem.run_bind,aS]
    simp only [Result.andThen]
    rw [Sem.run_bind,bl]
    rfl
 |[],_::_,av,_,_=>by cases av
 |_::_,[],av,_,_=>by cases av
theorem ch.XX {ι:aY}:∀{vs:List V} {xs:Array Value},ch ι vs xs.toList→bD ι (one vs) (if h:xs.size=1 then xs[0] else .tuple xs)
 |[v],xs,h=>by
  have ar:=h.length
  have ar:xs.size=1:=by simpa using ar
  rw [dif_pos ar]
  obtain ⟨x,hx,aD⟩:=h.get (j:=0) (v:=v) rfl
  have:xs[0]=x:=by
   have h0:xs[0]? =some x:=by simpa using hx
   rw [Array.getElem?_eq_getElem (by omega)] at h0
   exact Option.some.inj h0
  rw [this];exact aD
 |[],xs,h=>by
  have ar:=h.length
  have ar:¬xs.size=1:=by simp at ar;simp [ar]
  rw [dif_neg ar];exact ⟨xs,rfl,h⟩
 |a::b::l,xs,h=>by
  have ar:=h.length
  have ar:¬xs.size=1:=by simp at ar;omega
  rw [dif_neg ar];exact ⟨xs,rfl,h⟩
theorem XY (ga:P.follows .mixedOrders=true) (dQ:ql P call) (dk:lA call) {f R:Nat} {F:cd} (av:ug P f F=true) {as_:List V} {h:ae} (bG:p7 F R call as_ h≠.bad):
  om P f∧∀ι w (args:Array Value),Good ι h w→a7.free ι h (p7 F R call as_ h)→ch ι as_ args.toList→Calls P f args w (rp ι h w (p7 F R call as_ h)):=by
 unfold ug at av
 cases hf:P.funcs[f]? with
 |none=>rw [hf] at av;cases av
 |some fn=>
  rw [hf] at av
  have av:=Bool.dF av
  cases hb:fn.body with
  |none=>rw [hb] at av;exact absurd av.2 (by simp)
  |some c=>
   rw [hb] at av
   have k1:=Bool.dF av.2
   have sE:=Bool.dF k1.1
   have Bt:=Bool.dF sE.2
   have vn:=Bool.dF k1.2
   have zl:=Bool.dF vn.2
   have XZ:fn.name≠ "runtime.NumGoroutine" :=by simpa using av.1
   have agJ:F.cL.length≤64:=by simpa using sE.1
   have agK:F.jh≤F.cL.length:=by simpa using Bt.1
   have Oq:F.jh≤fn.ntmps:=by simpa using vn.1
   refine ⟨⟨fn,hf,by simpa using XZ,by rw [hb];rfl⟩,fun ι w args g fR hr=> ?_⟩
   have iI:∃r,r=p7 F R call as_ h:=⟨_,rfl⟩
   obtain ⟨r,iI⟩:=iI
   rw [←iI] at bG fR ⊢
   have qt:r=(Bool.rec .bad (A7 F.results (Go.Eng.args as_ 0 Env.nil fun env=>code F.body call R env h)) ((cI as_).beq F.jh):a7):=iI
   cases hlen:(cI as_).beq F.jh with
   |false=>rw [hlen] at qt;exact absurd qt bG
   |true=>
    have ar:as_.length=F.jh:=by rw [kX] at hlen;exact Nat.eq_of_beq_eq_true hlen
    rw [hlen] at qt
    have qt:r=A7 F.results (code F.body call R (c6 as_ 0 Env.nil) h):=by rw [qt,E0]
    have zm:args.size=as_.length:=by have:=hr.length;simpa using this
    have JB:mP [] ι F.cL fn.ntmps (c6 as_ 0 Env.nil) {tmps:=args++Array.replicate (fn.ntmps - args.size) undef,defers:=[]}:=by
     refine ⟨by simp;omega,rfl,fun k t hk=> ?_⟩
     have X0:k<64:=by have:=(List.getElem?_eq_some_iff.1 hk).1;omega
     rw [Om as_ 0 Env.nil k X0 (by omega)]
     by_cases hlt:k<as_.length
     · rw [if_pos ⟨Nat.zero_le _,by omega⟩]
       have:=On _ _ _ Bt.2 k (by omega)
       rw [hk] at this
       have ht:t=0+k:=Option.some.inj this
       rw [Nat.zero_add] at ht
       subst ht
       obtain ⟨v,aD⟩:∃v,as_[t]? =some v:=⟨as_[t],List.getElem?_eq_getElem hlt⟩
       obtain ⟨y,hy,Ot⟩:=hr.get aD
       have mc:(args++Array.replicate (fn.ntmps - args.size) undef).getD t undef=y:=by
        have:(args++Array.replicate (fn.ntmps - args.size) undef)[t]? =some y:=by
         rw [Array.getElem?_append_left (by omega)];simpa using hy
        simp [Array.getD_eq_getD_getElem?,this]
       rw [show t - 0=t from rfl,aD]
       show bD ι v ((args++Array.replicate (fn.ntmps - args.size) undef).getD t undef)
       rw [mc];exact Ot
     · rw [if_neg (by omega),Env.get_nil];trivial
    refine calls_of_wp hf hb ?_
    cases BW:code F.body call R (c6 as_ 0 Env.nil) h with
    |bad=>rw [BW] at qt;exact absurd qt bG
    |ok x env' ax=>
     rw [BW] at qt
     have fin:∀r,r=finish F.results env' ax→r≠.bad→∃vs,results env' ax F.results=some vs∧r= .ok (one vs) ax:=by
      intro r hr bG
      have hr:r=(Option.rec .bad (fun vs=> .ok (one vs) ax) (results env' ax F.results):a7):=hr
      cases Ou:results env' ax F.results with
      |none=>rw [Ou] at hr;exact absurd hr bG
      |some vs=>rw [Ou] at hr;exact ⟨vs,rfl,hr⟩
     have Ov:∀vs,results env' ax F.results=some vs→∀bc bf w',dp ι h w bc ax w'→mP [] bc F.cL fn.ntmps env' bf→bf.defers=[]∧∃v,(Go.results fn bf.tmps).run P w'= .ok v w'∧rp ι h w (.ok (one vs) ax) (.returned v) w':=by
      intro vs BX bc bf w' dw dt
      obtain ⟨mO,aS,bl⟩:=Oo (P:=P) dw.fJ dt fn.results.toList F.results zl.2 vs BX
      refine ⟨dt.defers,(if h:mO.toArray.size=1 then mO.toArray[0] else .tuple mO.toArray), ?_,bc,dw, ?_⟩
      · unfold Go.results
        rw [Array.mapM_eq_mapM_toList]
        simp only [Sem.run_bind,Sem.run_map]
        erw [aS]
        rfl
      · have:=ch.XX (ι:=bc) (vs:=vs) (xs:=mO.toArray) (by simpa using bl)
        exact this
     cases x with
     |e1=>
      have uh:r=finish F.results env' ax:=qt
      obtain ⟨vs,BX,zn⟩:=fin r uh bG
      subst zn
      exact kC ga dQ dk c F.body zl.1 R BW JB g fR fun bc bf w' dw dt=>Ov vs BX bc bf w' dw dt
     |ret=>
      have uh:r=finish F.results env' ax:=qt
      obtain ⟨vs,BX,zn⟩:=fin r uh bG
      subst zn
      exact kC ga dQ dk c F.body zl.1 R BW JB g fR fun bc bf w' dw dt=>Ov vs BX bc bf w' dw dt
     |exit i=>exact absurd qt bG
     |c8 v=>
      have uh:r= .c8 v ax:=qt
      subst uh
      exact kC ga dQ dk c F.body zl.1 R BW JB g fR fun bc bf w' dw v' aD aQ=>⟨aQ,v',bc,rfl,dw,aD⟩
end
end
end Go.Eng
namespace Go.Eng
noncomputable section
def X1 {α:Type} (p:α→Bool):Option α→Bool
 |none=>true
 |some x=>p x
def E1 {α:Type} (p:bp→α→Bool) (r:aF α):Bool:=p .d0 r.a&&(p .d1 r.b&&(p .d2 r.c&&(p .d3 r.d&&(p .d4 r.e&&(p .d5 r.f&&(p .d6 r.g&&p .d7 r.h))))))
theorem JC {α:Type} {p:bp→α→Bool} {r:aF α} (h:E1 p r=true) (i:bp):p i (aF.get i r)=true:=by
 have h1:=Bool.dF h;have h2:=Bool.dF h1.2;have a6:=Bool.dF h2.2;have cc:=Bool.dF a6.2
 have fA:=Bool.dF cc.2;have kt:=Bool.dF fA.2;have BN:=Bool.dF kt.2
 cases i
 · exact h1.1
 · exact h2.1
 · exact a6.1
 · exact cc.1
 · exact fA.1
 · exact kt.1
 · exact BN.1
 · exact BN.2
def bp.num:bp→Nat
 | .d0=>0| .d1=>1| .d2=>2| .d3=>3| .d4=>4| .d5=>5| .d6=>6| .d7=>7
theorem bp.JD {n:Nat} (h:n<8):(bp.of n).num=n:=by
 have:n=0∨n=1∨n=2∨n=3∨n=4∨n=5∨n=6∨n=7:=by omega
 rcases this with rfl|rfl|rfl|rfl|rfl|rfl|rfl|rfl<;>rfl
def rC {α:Type} (p:Nat→α→Bool) (t:T α):Bool:=
 E1 (fun k=>E1 fun j=>E1 fun i=>X1 (p (64 * k.num+8 * j.num+i.num))) t.x&&(t.y.isNone&&t.z.empty)
theorem Ow {α:Type} {p:Nat→α→Bool} {F:α} {k:Nat} {t:T α} (h:rC p t=true) (hg:T.get k t=some F):p k F=true:=by
 have h1:=Bool.dF h;have h2:=Bool.dF h1.2
 rw [T.get_eq] at hg
 by_cases c:k<512
 · rw [if_pos c] at hg
   have:=JC (JC (JC h1.1 (bp.of (k.div 64))) (bp.of ((k.div 8).mod 8))) (bp.of (k.mod 8))
   have hg:aF.get (bp.of (k.mod 8)) (aF.get (bp.of ((k.div 8).mod 8)) (aF.get (bp.of (k.div 64)) t.x))=some F:=hg
   rw [hg] at this
   have bl:(bp.of (k.div 64)).num=k / 64:=bp.JD (by show k / 64<8;omega)
   have aS:(bp.of ((k.div 8).mod 8)).num=k / 8 % 8:=bp.JD (Nat.mod_lt _ (by decide))
   have iv:(bp.of (k.mod 8)).num=k % 8:=bp.JD (Nat.mod_lt _ (by decide))
   have e:64 * (bp.of (k.div 64)).num+8 * (bp.of ((k.div 8).mod 8)).num+(bp.of (k.mod 8)).num=k:=by rw [bl,aS,iv];omega
   rw [e] at this;exact this
 · rw [if_neg c] at hg
   by_cases c2:k<32768
   · rw [if_pos c2] at hg
     have:t.y=none:=by have:=h2.1;simpa using this
     simp [T.ty,this,T.tD,T.gx,aF.HW] at hg
   · rw [if_neg c2] at hg
     have:t.z= .mt:=B.empty_eq h2.2
     rw [this] at hg;cases hg
def BZ (P:Program) (c:Ctx):Prop:=∀call,ql P call→lA call→∀f as_ h,T.get f c.cE=none→
 a7.next h (c.wM call f as_ h)∧(c.wM call f as_ h≠.bad→om P f∧∀ι w (args:Array Value),Good ι h w→a7.free ι h (c.wM call f as_ h)→ch ι as_ args.toList→Calls P f args w (rp ι h w (c.wM call f as_ h)))
section
variable {P:Program} {call:et}
theorem X2 (dk:lA call) (F:cd) (R:Nat) (as_:List V) (h:ae):a7.next h (p7 F R call as_ h):=by
 unfold p7
 cases (cI as_).beq F.jh with
 |false=>trivial
 |true=>
  show a7.next h (A7 F.results (args as_ 0 Env.nil fun env=>code F.body call R env h))
  rw [E0]
  have:=sR dk F.body R (c6 as_ 0 Env.nil) h
  cases hr:code F.body call R (c6 as_ 0 Env.nil) h with
  |bad=>trivial
  |ok x env' ax=>
   rw [hr] at this
   have fin:a7.next h (finish F.results env' ax):=by
    show a7.next h (Option.rec .bad (fun vs=> .ok (one vs) ax) (results env' ax F.results):a7)
    cases results env' ax F.results with
    |none=>trivial
    |some vs=>exact this
   cases x with
   |e1=>exact fin
   |ret=>exact fin
   |exit i=>trivial
   |c8 v=>exact this
theorem Ox (ga:P.follows .mixedOrders=true) (c:Ctx) (hf:rC (ug P) c.cE=true) (ay:BZ P c) (R:Nat):∀n,ql P (cW c R n)∧lA (cW c R n)
 |0=>⟨fun f as_ h bG=>absurd rfl bG,fun f as_ bO h=>trivial⟩
 |n+1=>by
  obtain ⟨B0,zo⟩:=Ox ga c hf ay R n
  have step:∀f as_ bO h,(cW c R (n+1) f as_ bO h).1=(Option.rec (c.wM (cW c R n) f as_ h) (fun fn=>p7 fn R (cW c R n) as_ h) (T.get f c.cE):a7):=fun _ _ _ _=>rfl
  refine ⟨fun f as_ h bG=> ?_,fun f as_ bO h=> ?_⟩
  · rw [step] at bG ⊢
    cases hg:T.get f c.cE with
    |none=>
     rw [hg] at bG
     exact (ay _ B0 zo f as_ h hg).2 bG
    |some F=>
     rw [hg] at bG
     have av:=Ow hf hg
     exact XY ga B0 zo av bG
  · rw [step]
    cases hg:T.get f c.cE with
    |none=>exact (ay _ B0 zo f as_ h hg).1
    |some F=>exact X2 zo F R as_ h
def aY.none:aY:=fun _=>Option.none
theorem Good.empty (w:World):Good aY.none ae.empty w:=
 ⟨fun b B o h=>(by cases h),fun b B h=>(by cases h),fun b B bL aZ h=>(by cases h),fun b B h=>(by cases h),fun b B F o h=>(by cases h),fun b B o h=>(by cases h),
   fun f F b h=>(by rw [show T.get f ae.empty.bA=none from T.u5 f] at h;cases h),Nat.le_refl _,fun b _ h=>absurd (T.u5 b) h,fun b h=>absurd rfl h,fun f _ h=>absurd (T.u5 f) h,fun b B h=>(by cases h)⟩
structure Kept (w w':World):Prop where
 old:∀c,c<w.heap.size→w'.heap[c]? =w.heap[c]?
 size:w.heap.size≤w'.heap.size
 tape:w'.tape=w.tape
 os:w'.os=w.os
 out:w'.output=w.output
theorem a7.X3 {ι:aY} {h:ae} {r:a7} (qs:∀b,h.next≤b→ι b=Option.none) (bG:r≠.bad):a7.free ι h r:=by
 cases r with
 |ok v ax=>exact fun b hb _=>qs b hb
 |c8 v ax=>exact fun b hb _=>qs b hb
 |bad=>exact absurd rfl bG
theorem Oy (ga:P.follows .mixedOrders=true) {c:Ctx} (hf:rC (ug P) c.cE=true) (ay:BZ P c) {R n f:Nat} {as_:List V} {b:Bool} {ax:ae} (he:(cW c R n f as_ .none ae.empty).1= .ok (.bool b) ax)
  {args:Array Value} (hr:ch aY.none as_ args.toList) (w:World):Calls P f args w fun e w'=>e= .returned (.bool b)∧Kept w w':=by
 have h1:=((Ox ga c hf ay R n).1 f as_ ae.empty (by rw [he];simp)).2 aY.none w args (Good.empty w) (a7.X3 (fun b _=>rfl) (by rw [he];simp)) hr
 rw [he] at h1
 refine h1.mono fun e w' bd=> ?_
 cases e with
 |returned v'=>
  obtain ⟨bc,j4,aD⟩:=bd
  have aD:v'= .bool b:=aD
  subst aD
  exact ⟨rfl,fun k hk=>j4.frame.va k hk fun b B hb=>(by cases hb),j4.frame.size,j4.frame.tape,j4.frame.os,j4.frame.out⟩
 |panicked EM=>exact bd.elim
 |outgrown=>exact bd.elim
theorem X4 (ga:P.follows .mixedOrders=true) {c:Ctx} (hf:rC (ug P) c.cE=true) (ay:BZ P c) {n f:Nat} {as_:List V} {b:Bool} {ax:ae} (he:(HT c n f as_ .none ae.empty).1= .ok (.bool b) ax)
  {args:Array Value} (hr:ch aY.none as_ args.toList) (w:World):Calls P f args w fun e w'=>e= .returned (.bool b)∧Kept w w':=Oy ga hf ay (R:=D2) he hr w
end
end
end Go.Eng
namespace Go.Eng
noncomputable section
structure pn where
 jh:Nat
 cL:List Nat
 pre:C
 agL:Nat
 Oz:List A
 h3:Nat
 ops:List eA
 ws:List Nat
 results:List aB
 agM:List Nat
 OA:Nat
 X5:C
def OB:List Nat→Env→Env
 |[],env=>env
 |k::l,env=>OB l (Env.set (fz k).1 (fz k).2 .bot env)
def pn.fin (F:pn) (call:et) (X6:List V) (OC:Env) (h:ae) (v:V):a7:=
 bj.rec (fun x _ a6=>X.rec (finish F.results OC a6) (finish F.results OC a6) (fun _=> .bad) (fun _=> .bad) x) .bad
   (args X6 0 Env.nil fun env=>Env.dg (fz F.OA).1 (fz F.OA).2 v (fun env=>code F.X5 call D2 env h) env)
def pn.go (F:pn) (call:et) (j3:Env) (h1:ae):a7:=
 bj.rec (fun x ru h2=>X.rec (F.fin call (hi F.Oz fun a=>a.ev [] j3) ru h2 .jG) .bad (fun _=> .bad) (fun v=>F.fin call (hi F.Oz fun a=>a.ev [] j3) (OB F.ws j3) h2 v) x) .bad (eH F.ops call [] j3 h1)
def zp (F:pn) (call:et) (as_:List V) (h:ae):a7:=
 Bool.rec .bad (bj.rec (fun x j3 h1=>X.rec (F.go call j3 h1) .bad (fun _=> .bad) (fun _=> .bad) x) .bad (args as_ 0 Env.nil fun env=>code F.pre call D2 env h)) ((cI as_).beq F.jh)
def JE (P:Program) (f:Nat) (F:pn):Bool:=false
theorem mP.mono {ι bc:aY} {cL:List Nat} {N:Nat} {env:Env} {a:Act} (h:ι.le bc) (r:mP [] ι cL N env a):mP [] bc cL N env a:=
 ⟨r.size,r.defers,fun k t hk=>(r.tmps k t hk).mono h⟩
end
end Go.Eng
namespace Go.Eng
noncomputable section
section
variable {P:Program} {call:et} {F:pn}
end
end
end Go.Eng
namespace Go.Eng
noncomputable section
section
variable {P:Program} {call:et} {F:pn}
end
end
end Go.Eng
namespace Go.Eng
noncomputable section
def Ctx.of (cE:T cd) (j5:T pn) (more:Nat→List V→ae→a7):Ctx:=
 ⟨cE,fun call f as_ h=>Option.rec (more f as_ h) (fun F=>zp F call as_ h) (T.get f j5)⟩
def lC (P:Program) (more:Nat→List V→ae→a7):Prop:=∀f as_ h,
 a7.next h (more f as_ h)∧(more f as_ h≠.bad→om P f∧∀ι w (args:Array Value),Good ι h w→a7.free ι h (more f as_ h)→ch ι as_ args.toList→Calls P f args w (rp ι h w (more f as_ h)))
theorem OD {P:Program} (ga:P.follows .mixedOrders=true) {cE:T cd} {j5:T pn} {more:Nat→List V→ae→a7} (aQ:rC (JE P) j5=true) (hm:lC P more):BZ P (Ctx.of cE j5 more):=by
 intro call dQ dk f as_ h hn
 show a7.next h (Option.rec (more f as_ h) (fun F=>zp F call as_ h) (T.get f j5):a7)∧((Option.rec (more f as_ h) (fun F=>zp F call as_ h) (T.get f j5):a7)≠.bad→om P f∧∀ι w (args:Array Value),Good ι h w→a7.free ι h (Option.rec (more f as_ h) (fun F=>zp F call as_ h) (T.get f j5):a7)→ch ι as_ args.toList→Calls P f args w (rp ι h w (Option.rec (more f as_ h) (fun F=>zp F call as_ h) (T.get f j5):a7)))
 cases hg:T.get f j5 with
 |none=>exact ⟨(hm f as_ h).1,fun bG=>⟨((hm f as_ h).2 bG).1,fun ι w args g Bz hr=>((hm f as_ h).2 bG).2 ι w args g Bz hr⟩⟩
 |some F=>
  have av:=Ow aQ hg
  exact (Bool.false_ne_true av).elim
def isTrue (r:a7):Bool:=a7.rec (fun v _=>V.same v (.bool true)) (fun _ _=>false) false r
theorem X7 {r:a7} (h:isTrue r=true):∃ax,r= .ok (.bool true) ax:=by
 cases r with
 |ok v ax=>have:=V.qn v (.bool true) h;subst this;exact ⟨ax,rfl⟩
 |c8 v ax=>cases h
 |bad=>cases h
end
end Go.Eng
namespace Go.Eng
noncomputable section
end
end Go.Eng
namespace Go.Eng
noncomputable section
def Row.same (s t:Row):Bool:=V.same s.a t.a&&(V.same s.b t.b&&(V.same s.c t.c&&(V.same s.d t.d&&(V.same s.e t.e&&(V.same s.f t.f&&(V.same s.g t.g&&V.same s.h t.h))))))
def Env.same (s t:Env):Bool:=Row.same s.a t.a&&(Row.same s.b t.b&&(Row.same s.c t.c&&(Row.same s.d t.d&&(Row.same s.e t.e&&(Row.same s.f t.f&&(Row.same s.g t.g&&Row.same s.h t.h))))))
def X8 {α:Type} (p:α→α→Bool):Option α→Option α→Bool
 |none,none=>true
 |some a,some b=>p a b
 |_,_=>false
def T.OE {α:Type} (p:α→α→Bool) (s t:T α):Bool:=
 aF.same (aF.same (aF.same (X8 p))) s.x t.x&&(s.y.isNone&&(t.y.isNone&&(s.z.empty&&t.z.empty)))
def OG:List Nat→List Nat→Bool
 |[],[]=>true
 |a::l,b::m=>a.beq b&&OG l m
 |_,_=>false
def gV.same (a b:gV):Bool:=a.last.beq b.last&&OG a.mem b.mem
def ae.same (a b:ae):Bool:=T.OE Obj.same a.t b.t&&(a.next.beq b.next&&(T.OE gV.same a.bA b.bA&&(a.ds.isEmpty&&(b.ds.isEmpty&&((match a.bO with| .none=>true|_=>false)&&(match b.bO with| .none=>true|_=>false))))))
end
end Go.Eng
